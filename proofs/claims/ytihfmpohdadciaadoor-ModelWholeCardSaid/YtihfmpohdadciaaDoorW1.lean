/-
  The walks of functions, each with what it computes: printed by wip/gx.py.
-/
import Derived.Test.YtihfmpohdadciaaDoorW0
set_option linter.unusedVariables false
namespace Go.Proofs.Gx
open Go.Sl
/-! ### isochron/model.rules: function 20 -/
noncomputable def model_rules.f  : Option (Unit) := some ()
set_option maxRecDepth 100000 in
set_option maxHeartbeats 4000000 in
theorem model_rules.ok {B : Base} {w : World} {l : List HProp} {hf : Hp} (r : Unit) (h : model_rules.f = some r) (hS : St B w (l) hf) :
    Calls Tryd.prog 20 #[] w (Ret fun v w => v = .agg #[.func (.func 34) #[] #[], .func (.func 35) #[] #[], .func (.func 36) #[] #[], .func (.func 37) #[] #[]] ∧ St B w (l) hf) := by
  have h := Holds.of h
  refine enter (args := []) Tryd.func20 rfl Tryd.ntmps20 (Nat.le_of_ble_eq_true rfl) ?_
  refine RC.seq ?_
  refine RC.region ?_
  refine RL.e (OW.alloc (cs := [.nilFunc, .nilFunc, .nilFunc, .nilFunc]) hS Tryd.zeroValue61 rfl) rfl rfl ?_
  rintro _ w ⟨b28, rfl, hS⟩
  have hS : St B w (Cl b28 [.nilFunc, .nilFunc, .nilFunc, .nilFunc] 61 :: l) hf := hS
  refine RL.nil ?_
  refine RQ.then_n ?_
  refine RC.seq ?_
  refine RC.region ?_
  refine RL.s (Vl.build (v := .agg #[.func (.func 34) #[] #[]]) (parts := [(0, .func 34)]) rfl (by kernel_rfl)) rfl ?_
  refine RL.s (Vl.build (v := .agg #[.func (.func 35) #[] #[]]) (parts := [(0, .func 35)]) rfl (by kernel_rfl)) rfl ?_
  refine RL.s (Vl.build (v := .agg #[.func (.func 36) #[] #[]]) (parts := [(0, .func 36)]) rfl (by kernel_rfl)) rfl ?_
  refine RL.s (Vl.build (v := .agg #[.func (.func 37) #[] #[]]) (parts := [(0, .func 37)]) rfl (by kernel_rfl)) rfl ?_
  refine RL.s (Vl.build (v := .agg #[.func (.func 34) #[] #[], .func (.func 35) #[] #[], .func (.func 36) #[] #[], .func (.func 37) #[] #[]]) (parts := [(0, .tmp 1), (1, .tmp 2), (2, .tmp 3), (3, .tmp 4)]) rfl (by kernel_rfl)) rfl ?_
  refine RL.e0 (OW.store (cs := [.nilFunc, .nilFunc, .nilFunc, .nilFunc]) (vs := [.func (.func 34) #[] #[], .func (.func 35) #[] #[], .func (.func 36) #[] #[], .func (.func 37) #[] #[]]) (l' := Cl b28 [.func (.func 34) #[] #[], .func (.func 35) #[] #[], .func (.func 36) #[] #[], .func (.func 37) #[] #[]] 61 :: l) 0 hS rfl rfl rfl rfl Tryd.sizeOf61 rfl rfl rfl rfl) rfl ?_
  rintro _ w ⟨rfl, hS⟩
  have hS : St B w (Cl b28 [.func (.func 34) #[] #[], .func (.func 35) #[] #[], .func (.func 36) #[] #[], .func (.func 37) #[] #[]] 61 :: l) hf := hS
  refine RL.nil ?_
  refine RQ.then_n ?_
  refine RC.ret ?_
  have e := h.some
  skip
  refine RQ.ret0 (vs := [.agg #[.func (.func 34) #[] #[], .func (.func 35) #[] #[], .func (.func 36) #[] #[], .func (.func 37) #[] #[]]]) Tryd.results20 ⟨⟨_, rfl, run_loadVarA (vs := [.func (.func 34) #[] #[], .func (.func 35) #[] #[], .func (.func 36) #[] #[], .func (.func 37) #[] #[]]) Tryd.isAgg61 Tryd.sizeOf61 rfl (hS.cellsAt 0 rfl rfl)⟩, trivial⟩ ?_
  exact ⟨rfl, (hS.dropAt 0 rfl)⟩

/-! ### isochron/vtime.Valid: function 33 -/
noncomputable def vtime_Valid.f (a49 : Int) : Option (Bool) := (if 0 ≤ a49 then some (decide (a49 ≤ 4611686018427387903)) else some false)
set_option maxRecDepth 100000 in
set_option maxHeartbeats 4000000 in
theorem vtime_Valid.ok {B : Base} {w : World} {l : List HProp} {hf : Hp} (a49 : Int) (r : Bool) (h : vtime_Valid.f a49 = some r) (hS : St B w (l) hf) :
    Calls Tryd.prog 33 #[.int .i64 a49] w (Ret fun v w => v = .bool r ∧ St B w (l) hf) := by
  have h := Holds.of h
  refine enter (args := [.int .i64 a49]) Tryd.func33 rfl Tryd.ntmps33 (Nat.le_of_ble_eq_true rfl) ?_
  refine RC.seq ?_
  refine RC.region ?_
  refine RL.s (Vl.assign rfl) rfl ?_
  refine RL.nil ?_
  refine RQ.then_n ?_
  refine RC.seq ?_
  refine RC.region ?_
  refine RL.s (Vl.move rfl) rfl ?_
  refine RL.s (Vl.int rfl rfl rfl) rfl ?_
  refine RL.s (Vl.move rfl) rfl ?_
  by_cases hc51 : 0 ≤ a49
  case pos =>
    have h := h.pos hc51
    refine RL.re 5 rfl (congrArg Value.bool (decide_eq_true hc51)) ?_
    refine RL.sg (Vl.move rfl) rfl rfl ?_
    refine RL.sg (Vl.int rfl rfl rfl) rfl rfl ?_
    refine RL.s (Vl.pickT rfl rfl) rfl ?_
    refine RL.s (Vl.assign rfl) rfl ?_
    refine RL.nil ?_
    refine RQ.then_n ?_
    refine RC.ret ?_
    have e := h.some
    subst e
    refine RQ.ret0 (vs := [.bool (decide (a49 ≤ 4611686018427387903))]) Tryd.results33 ⟨rfl, trivial⟩ ?_
    exact ⟨rfl, hS⟩
  case neg =>
    have h := h.neg hc51
    refine RL.re 5 rfl (congrArg Value.bool (decide_eq_false hc51)) ?_
    refine RL.nn rfl rfl ?_
    refine RL.nn rfl rfl ?_
    refine RL.s (Vl.pickF rfl rfl) rfl ?_
    refine RL.s (Vl.assign rfl) rfl ?_
    refine RL.nil ?_
    refine RQ.then_n ?_
    refine RC.ret ?_
    have e := h.some
    subst e
    refine RQ.ret0 (vs := [.bool false]) Tryd.results33 ⟨rfl, trivial⟩ ?_
    exact ⟨rfl, hS⟩

/-! ### isochron/model.sizes: function 34 -/
noncomputable def model_sizes.f (a35 : api_Model) : Option ((Int) ⊕ (Unit)) := (if (a35.Progs.length : Int) < 1 then some (.inl 1) else (if 16 < (a35.Progs.length : Int) then some (.inl 1) else ((vtime_Valid.f a35.End).bind fun t61 => (if t61 = true then (if a35.Budget < 0 then some (.inl 1) else (if 4096 < a35.Budget then some (.inl 1) else some (.inr (())))) else some (.inl 1)))))
set_option maxRecDepth 100000 in
set_option maxHeartbeats 4000000 in
theorem model_sizes.ok {B : Base} {w : World} {l : List HProp} {hf : Hp} (a35 : api_Model) (A36 : Option Addr) (c37 : Nat) (A39 : Option Addr) (c40 : Nat) (A42 : Option Addr) (c43 : Nat) (hr38 : SlR (Rep.sl E_api_Instr.rep) hf A36 c37 a35.Progs) (hr41 : SlR E_api_Link.rep hf A39 c40 a35.Links) (hr44 : SlR E_api_Start.rep hf A42 c43 a35.Starts) (r : (Int) ⊕ (Unit)) (h : model_sizes.f a35 = some r) (hS : St B w (l) hf) :
    Calls Tryd.prog 34 #[.agg #[.slice A36 a35.Progs.length c37, .slice A39 a35.Links.length c40, .slice A42 a35.Starts.length c43, .int .u64 a35.Seed, .int .i64 a35.End, .int .i64 a35.Budget]] w (Ret fun v w => match r with | .inl r_ => v = .iface 28 (.int .i64 r_) ∧ St B w (l) hf | .inr (r_) => v = .nilIface ∧ St B w (l) hf) := by
  have h := Holds.of h
  refine enter (args := [.agg #[.slice A36 a35.Progs.length c37, .slice A39 a35.Links.length c40, .slice A42 a35.Starts.length c43, .int .u64 a35.Seed, .int .i64 a35.End, .int .i64 a35.Budget]]) Tryd.func34 rfl Tryd.ntmps34 (Nat.le_of_ble_eq_true rfl) ?_
  refine RC.seq ?_
  refine RC.region ?_
  refine RL.e (OW.box (cs := [.slice A36 a35.Progs.length c37, .slice A39 a35.Links.length c40, .slice A42 a35.Starts.length c43, .int .u64 a35.Seed, .int .i64 a35.End, .int .i64 a35.Budget]) hS rfl rfl) rfl rfl ?_
  rintro _ w ⟨b58, rfl, hS⟩
  have hS : St B w (Cl b58 [.slice A36 a35.Progs.length c37, .slice A39 a35.Links.length c40, .slice A42 a35.Starts.length c43, .int .u64 a35.Seed, .int .i64 a35.End, .int .i64 a35.Budget] 27 :: l) hf := hS
  refine RL.s (Vl.assign rfl) rfl ?_
  refine RL.nil ?_
  refine RQ.then_n ?_
  refine RC.seq ?_
  refine RC.seq ?_
  refine RC.region ?_
  refine RL.s (Vl.fieldAddr (a'' := ⟨b58, 0, none⟩) Tryd.underlying27 rfl Tryd.sizeOf22 rfl rfl) rfl ?_
  refine RL.s (Vl.load Tryd.isAgg22 rfl (hS.cell 0 rfl rfl)) rfl ?_
  refine RL.s (Vl.lenSl Tryd.underlying22 rfl) rfl ?_
  refine RL.s (Vl.int rfl rfl rfl) rfl ?_
  refine RL.s (Vl.move rfl) rfl ?_
  by_cases hc59 : (a35.Progs.length : Int) < 1
  case pos =>
    have h := h.pos hc59
    refine RL.re 7 rfl (congrArg Value.bool (decide_eq_true hc59)) ?_
    refine RL.nn rfl rfl ?_
    refine RL.nn rfl rfl ?_
    refine RL.nn rfl rfl ?_
    refine RL.nn rfl rfl ?_
    refine RL.s (Vl.pickT rfl rfl) rfl ?_
    refine RL.s (Vl.move rfl) rfl ?_
    refine RL.nn rfl rfl ?_
    refine RL.nn rfl rfl ?_
    refine RL.nn rfl rfl ?_
    refine RL.nn rfl rfl ?_
    refine RL.s (Vl.pickT rfl rfl) rfl ?_
    refine RL.s (Vl.move rfl) rfl ?_
    refine RL.nn rfl rfl ?_
    refine RL.nn rfl rfl ?_
    refine RL.nn rfl rfl ?_
    refine RL.s (Vl.pickT rfl rfl) rfl ?_
    refine RL.s (Vl.move rfl) rfl ?_
    refine RL.nn rfl rfl ?_
    refine RL.nn rfl rfl ?_
    refine RL.nn rfl rfl ?_
    refine RL.s (Vl.pickT rfl rfl) rfl ?_
    refine RL.nil ?_
    refine RQ.then_n ?_
    refine RC.condT rfl ?_
    refine RC.seq ?_
    refine RC.region ?_
    refine RL.s (Vl.makeIface Tryd.underlying28 rfl rfl) rfl ?_
    refine RL.s (Vl.assign rfl) rfl ?_
    refine RL.nil ?_
    refine RQ.then_n ?_
    refine RC.ret ?_
    refine RQ.ret ?_
    have e := h.some
    subst e
    refine RQ.ret0 (vs := [.iface 28 (.int .i64 1)]) Tryd.results34 ⟨rfl, trivial⟩ ?_
    exact ⟨rfl, (hS.dropAt 0 rfl)⟩
  case neg =>
    have h := h.neg hc59
    refine RL.re 7 rfl (congrArg Value.bool (decide_eq_false hc59)) ?_
    refine RL.sg (Vl.fieldAddr (a'' := ⟨b58, 0, none⟩) Tryd.underlying27 rfl Tryd.sizeOf22 rfl rfl) rfl rfl ?_
    refine RL.sg (Vl.load Tryd.isAgg22 rfl (hS.cell 0 rfl rfl)) rfl rfl ?_
    refine RL.sg (Vl.lenSl Tryd.underlying22 rfl) rfl rfl ?_
    refine RL.sg (Vl.int rfl rfl rfl) rfl rfl ?_
    refine RL.s (Vl.pickF rfl rfl) rfl ?_
    refine RL.s (Vl.move rfl) rfl ?_
    by_cases hc60 : 16 < (a35.Progs.length : Int)
    case pos =>
      have h := h.pos hc60
      refine RL.re 13 rfl (congrArg Value.bool (decide_eq_true hc60)) ?_
      refine RL.nn rfl rfl ?_
      refine RL.nn rfl rfl ?_
      refine RL.nn rfl rfl ?_
      refine RL.nn rfl rfl ?_
      refine RL.s (Vl.pickT rfl rfl) rfl ?_
      refine RL.s (Vl.move rfl) rfl ?_
      refine RL.nn rfl rfl ?_
      refine RL.nn rfl rfl ?_
      refine RL.nn rfl rfl ?_
      refine RL.s (Vl.pickT rfl rfl) rfl ?_
      refine RL.s (Vl.move rfl) rfl ?_
      refine RL.nn rfl rfl ?_
      refine RL.nn rfl rfl ?_
      refine RL.nn rfl rfl ?_
      refine RL.s (Vl.pickT rfl rfl) rfl ?_
      refine RL.nil ?_
      refine RQ.then_n ?_
      refine RC.condT rfl ?_
      refine RC.seq ?_
      refine RC.region ?_
      refine RL.s (Vl.makeIface Tryd.underlying28 rfl rfl) rfl ?_
      refine RL.s (Vl.assign rfl) rfl ?_
      refine RL.nil ?_
      refine RQ.then_n ?_
      refine RC.ret ?_
      refine RQ.ret ?_
      have e := h.some
      subst e
      refine RQ.ret0 (vs := [.iface 28 (.int .i64 1)]) Tryd.results34 ⟨rfl, trivial⟩ ?_
      exact ⟨rfl, (hS.dropAt 0 rfl)⟩
    case neg =>
      have h := h.neg hc60
      refine RL.re 13 rfl (congrArg Value.bool (decide_eq_false hc60)) ?_
      refine RL.sg (Vl.fieldAddr (a'' := ⟨b58, 4, none⟩) Tryd.underlying27 rfl Tryd.sizeOf2 rfl rfl) rfl rfl ?_
      refine RL.sg (Vl.load Tryd.isAgg2 rfl (hS.cell 0 rfl rfl)) rfl rfl ?_
      obtain ⟨t61, hg62, h⟩ := h.bind
      refine RL.e (OW.callF (ls := [.tmp 15]) rfl Tryd.call33 (vtime_Valid.ok a35.End _ hg62 hS)) rfl rfl ?_
      rintro _ w ⟨rfl, hS⟩
      have hS : St B w (Cl b58 [.slice A36 a35.Progs.length c37, .slice A39 a35.Links.length c40, .slice A42 a35.Starts.length c43, .int .u64 a35.Seed, .int .i64 a35.End, .int .i64 a35.Budget] 27 :: l) hf := hS
      refine RL.sg (Vl.not rfl) rfl rfl ?_
      refine RL.s (Vl.pickF rfl rfl) rfl ?_
      refine RL.s (Vl.move rfl) rfl ?_
      by_cases hc63 : t61 = true
      case pos =>
        have h := h.pos hc63
        refine RL.re 19 rfl (congrArg Value.bool (notb_pos hc63)) ?_
        refine RL.sg (Vl.fieldAddr (a'' := ⟨b58, 5, none⟩) Tryd.underlying27 rfl Tryd.sizeOf3 rfl rfl) rfl rfl ?_
        refine RL.sg (Vl.load Tryd.isAgg3 rfl (hS.cell 0 rfl rfl)) rfl rfl ?_
        refine RL.sg (Vl.int rfl rfl rfl) rfl rfl ?_
        refine RL.s (Vl.pickF rfl rfl) rfl ?_
        refine RL.s (Vl.move rfl) rfl ?_
        by_cases hc64 : a35.Budget < 0
        case pos =>
          have h := h.pos hc64
          refine RL.re 24 rfl (congrArg Value.bool (decide_eq_true hc64)) ?_
          refine RL.nn rfl rfl ?_
          refine RL.nn rfl rfl ?_
          refine RL.nn rfl rfl ?_
          refine RL.s (Vl.pickT rfl rfl) rfl ?_
          refine RL.nil ?_
          refine RQ.then_n ?_
          refine RC.condT rfl ?_
          refine RC.seq ?_
          refine RC.region ?_
          refine RL.s (Vl.makeIface Tryd.underlying28 rfl rfl) rfl ?_
          refine RL.s (Vl.assign rfl) rfl ?_
          refine RL.nil ?_
          refine RQ.then_n ?_
          refine RC.ret ?_
          refine RQ.ret ?_
          have e := h.some
          subst e
          refine RQ.ret0 (vs := [.iface 28 (.int .i64 1)]) Tryd.results34 ⟨rfl, trivial⟩ ?_
          exact ⟨rfl, (hS.dropAt 0 rfl)⟩
        case neg =>
          have h := h.neg hc64
          refine RL.re 24 rfl (congrArg Value.bool (decide_eq_false hc64)) ?_
          refine RL.sg (Vl.fieldAddr (a'' := ⟨b58, 5, none⟩) Tryd.underlying27 rfl Tryd.sizeOf3 rfl rfl) rfl rfl ?_
          refine RL.sg (Vl.load Tryd.isAgg3 rfl (hS.cell 0 rfl rfl)) rfl rfl ?_
          refine RL.sg (Vl.int rfl rfl rfl) rfl rfl ?_
          refine RL.s (Vl.pickF rfl rfl) rfl ?_
          refine RL.nil ?_
          refine RQ.then_n ?_
          by_cases hc65 : 4096 < a35.Budget
          case pos =>
            have h := h.pos hc65
            refine RC.re 28 rfl (congrArg Value.bool (decide_eq_true hc65)) ?_
            refine RC.condT rfl ?_
            refine RC.seq ?_
            refine RC.region ?_
            refine RL.s (Vl.makeIface Tryd.underlying28 rfl rfl) rfl ?_
            refine RL.s (Vl.assign rfl) rfl ?_
            refine RL.nil ?_
            refine RQ.then_n ?_
            refine RC.ret ?_
            refine RQ.ret ?_
            have e := h.some
            subst e
            refine RQ.ret0 (vs := [.iface 28 (.int .i64 1)]) Tryd.results34 ⟨rfl, trivial⟩ ?_
            exact ⟨rfl, (hS.dropAt 0 rfl)⟩
          case neg =>
            have h := h.neg hc65
            refine RC.re 28 rfl (congrArg Value.bool (decide_eq_false hc65)) ?_
            refine RC.condF rfl ?_
            refine RC.skip ?_
            refine RQ.then_n ?_
            refine RC.seq ?_
            refine RC.region ?_
            refine RL.s (Vl.assign rfl) rfl ?_
            refine RL.nil ?_
            refine RQ.then_n ?_
            refine RC.ret ?_
            have e := h.some
            subst e
            refine RQ.ret0 (vs := [.nilIface]) Tryd.results34 ⟨rfl, trivial⟩ ?_
            exact ⟨rfl, (hS.dropAt 0 rfl)⟩
      case neg =>
        have h := h.neg hc63
        refine RL.re 19 rfl (congrArg Value.bool (notb_neg hc63)) ?_
        refine RL.nn rfl rfl ?_
        refine RL.nn rfl rfl ?_
        refine RL.nn rfl rfl ?_
        refine RL.s (Vl.pickT rfl rfl) rfl ?_
        refine RL.s (Vl.move rfl) rfl ?_
        refine RL.nn rfl rfl ?_
        refine RL.nn rfl rfl ?_
        refine RL.nn rfl rfl ?_
        refine RL.s (Vl.pickT rfl rfl) rfl ?_
        refine RL.nil ?_
        refine RQ.then_n ?_
        refine RC.condT rfl ?_
        refine RC.seq ?_
        refine RC.region ?_
        refine RL.s (Vl.makeIface Tryd.underlying28 rfl rfl) rfl ?_
        refine RL.s (Vl.assign rfl) rfl ?_
        refine RL.nil ?_
        refine RQ.then_n ?_
        refine RC.ret ?_
        refine RQ.ret ?_
        have e := h.some
        subst e
        refine RQ.ret0 (vs := [.iface 28 (.int .i64 1)]) Tryd.results34 ⟨rfl, trivial⟩ ?_
        exact ⟨rfl, (hS.dropAt 0 rfl)⟩

/-! ### errors.as: function 41 -/
noncomputable def errors_as.f (a77 : Int) (a80 : model_flaw) : Option (Bool) := some false
set_option maxRecDepth 100000 in
set_option maxHeartbeats 4000000 in
theorem errors_as.ok {B : Base} {w : World} {l : List HProp} {hf : Hp} (a77 : Int) (a80 : model_flaw) (b79 : Nat) (b82 : Nat) (r : Bool) (h : errors_as.f a77 a80 = some r) (hS : St B w (Cl b79 [.int .i64 a80.at_, .int .i64 a80.why] 64 :: Cl b82 [.pointer (some ⟨b79, 0, none⟩)] 68 :: l) hf) :
    Calls Tryd.prog 41 #[.iface 28 (.int .i64 a77), .iface 68 (.pointer (some ⟨b79, 0, none⟩)), .agg #[.pointer (some ⟨1, 68, none⟩), .pointer (some ⟨b82, 0, none⟩), .int .u64 150], .iface 96 (.agg #[.pointer (some ⟨1, 64, none⟩)])] w (Ret fun v w => v = .bool r ∧ St B w (Cl b79 [.int .i64 a80.at_, .int .i64 a80.why] 64 :: Cl b82 [.pointer (some ⟨b79, 0, none⟩)] 68 :: l) hf) := by
  have h := Holds.of h
  refine enter (args := [.iface 28 (.int .i64 a77), .iface 68 (.pointer (some ⟨b79, 0, none⟩)), .agg #[.pointer (some ⟨1, 68, none⟩), .pointer (some ⟨b82, 0, none⟩), .int .u64 150], .iface 96 (.agg #[.pointer (some ⟨1, 64, none⟩)])]) Tryd.func41 rfl Tryd.ntmps41 (Nat.le_of_ble_eq_true rfl) ?_
  refine RC.seq ?_
  refine RC.region ?_
  refine RL.e (OW.box (cs := [.pointer (some ⟨1, 68, none⟩), .pointer (some ⟨b82, 0, none⟩), .int .u64 150]) hS rfl rfl) rfl rfl ?_
  rintro _ w ⟨b86, rfl, hS⟩
  have hS : St B w (Cl b86 [.pointer (some ⟨1, 68, none⟩), .pointer (some ⟨b82, 0, none⟩), .int .u64 150] 79 :: Cl b79 [.int .i64 a80.at_, .int .i64 a80.why] 64 :: Cl b82 [.pointer (some ⟨b79, 0, none⟩)] 68 :: l) hf := hS
  refine RL.s (Vl.assign rfl) rfl ?_
  refine RL.nil ?_
  refine RQ.then_n ?_
  refine RC.block ?_
  refine RC.unroll ?_
  refine RQ.round ?_
  refine RC.block ?_
  refine RC.seq ?_
  refine RC.seq ?_
  refine RC.region ?_
  refine RL.s (Vl.move rfl) rfl ?_
  refine RL.s (Vl.extern (ls := [.tmp 16]) (v := .iface 96 (.agg #[.pointer (some ⟨1, 28, none⟩)])) rfl Tryd.func42 (by kernel_rfl) (by kernel_rfl) (by kernel_rfl) (e := Extern.ReflectliteType.typeOf) (by kernel_rfl) (fun w => by kernel_rfl)) rfl ?_
  refine RL.s (Vl.move rfl) rfl ?_
  refine RL.s (Vl.invokeX (F := 77) (ls := [.tmp 18]) (v := .bool false) (u' := .agg #[.pointer (some ⟨1, 28, none⟩)]) rfl rfl (fun w => by kernel_rfl) Tryd.func77 (by kernel_rfl) (by kernel_rfl) (by kernel_rfl) (e := (Extern.ReflectliteType.relation "AssignableTo" Extern.ReflectliteType.assignableTo)) (by kernel_rfl) (fun w => by kernel_rfl)) rfl ?_
  refine RL.nil ?_
  refine RQ.then_n ?_
  refine RC.condF rfl ?_
  refine RC.skip ?_
  refine RQ.then_n ?_
  refine RC.seq ?_
  refine RC.seq ?_
  refine RC.region ?_
  refine RL.s (Vl.move rfl) rfl ?_
  refine RL.s (Vl.tassert (r := .tuple #[.nilIface, .bool false]) rfl (fun w => run_typeAssert_lacksB Tryd.underlying100 (by kernel_rfl) (by kernel_rfl) _ _ w)) rfl ?_
  refine RL.s (Vl.move rfl) rfl ?_
  refine RL.s (Vl.extract rfl rfl) rfl ?_
  refine RL.s (Vl.extract rfl rfl) rfl ?_
  refine RL.s (Vl.assign rfl) rfl ?_
  refine RL.s (Vl.assign rfl) rfl ?_
  refine RL.nil ?_
  refine RQ.then_n ?_
  refine RC.seq ?_
  refine RC.region ?_
  refine RL.s (Vl.move rfl) rfl ?_
  refine RL.s (Vl.move rfl) rfl ?_
  refine RL.nn rfl rfl ?_
  refine RL.nn rfl rfl ?_
  refine RL.nn rfl rfl ?_
  refine RL.s (Vl.pickF rfl rfl) rfl ?_
  refine RL.nil ?_
  refine RQ.then_n ?_
  refine RC.condF rfl ?_
  refine RC.skip ?_
  refine RQ.then_n ?_
  refine RC.seq ?_
  refine RC.region ?_
  refine RL.s (Vl.move rfl) rfl ?_
  refine RL.nil ?_
  refine RQ.then_n ?_
  refine RC.block ?_
  refine RC.seq ?_
  refine RC.region ?_
  refine RL.s (Vl.tassert (r := .tuple #[.nilIface, .bool false]) rfl (fun w => run_typeAssert_lacksB Tryd.underlying103 (by kernel_rfl) (by kernel_rfl) _ _ w)) rfl ?_
  refine RL.s (Vl.extract rfl rfl) rfl ?_
  refine RL.s (Vl.extract rfl rfl) rfl ?_
  refine RL.nil ?_
  refine RQ.then_n ?_
  refine RC.condF rfl ?_
  refine RC.seq ?_
  refine RC.region ?_
  refine RL.s (Vl.tassert (r := .tuple #[.nilIface, .bool false]) rfl (fun w => run_typeAssert_lacksB Tryd.underlying105 (by kernel_rfl) (by kernel_rfl) _ _ w)) rfl ?_
  refine RL.s (Vl.extract rfl rfl) rfl ?_
  refine RL.s (Vl.extract rfl rfl) rfl ?_
  refine RL.nil ?_
  refine RQ.then_n ?_
  refine RC.condF rfl ?_
  refine RC.seq ?_
  refine RC.region ?_
  refine RL.s (Vl.assign rfl) rfl ?_
  refine RL.nil ?_
  refine RQ.then_n ?_
  refine RC.seq ?_
  refine RC.region ?_
  refine RL.s (Vl.assign rfl) rfl ?_
  refine RL.nil ?_
  refine RQ.then_n ?_
  refine RC.ret ?_
  refine RQ.inB_ret ?_
  refine RQ.inB_ret ?_
  refine RQ.ret ?_
  refine RQ.inB_ret ?_
  have e := h.some
  subst e
  refine RQ.ret0 (vs := [.bool false]) Tryd.results41 ⟨rfl, trivial⟩ ?_
  exact ⟨rfl, (hS.dropAt 0 rfl)⟩

/-! ### errors.As: function 21 -/
noncomputable def errors_As.f (a69 : Int) (a72 : model_flaw) : Option (Bool) := ((errors_as.f a69 a72).bind fun t93 => some t93)
set_option maxRecDepth 100000 in
set_option maxHeartbeats 4000000 in
theorem errors_As.ok {B : Base} {w : World} {l : List HProp} {hf : Hp} (a69 : Int) (a72 : model_flaw) (b71 : Nat) (hG0 : GlobAt hf 0 (.iface 96 (.agg #[.pointer (some ⟨1, 66, none⟩)]))) (r : Bool) (h : errors_As.f a69 a72 = some r) (hS : St B w (Cl b71 [.int .i64 a72.at_, .int .i64 a72.why] 64 :: l) hf) :
    Calls Tryd.prog 21 #[.iface 28 (.int .i64 a69), .iface 68 (.pointer (some ⟨b71, 0, none⟩))] w (Ret fun v w => v = .bool r ∧ St B w (Cl b71 [.int .i64 a72.at_, .int .i64 a72.why] 64 :: l) hf) := by
  have h := Holds.of h
  refine enter (args := [.iface 28 (.int .i64 a69), .iface 68 (.pointer (some ⟨b71, 0, none⟩))]) Tryd.func21 rfl Tryd.ntmps21 (Nat.le_of_ble_eq_true rfl) ?_
  refine RC.seq ?_
  refine RC.region ?_
  refine RL.s (Vl.assign rfl) rfl ?_
  refine RL.nil ?_
  refine RQ.then_n ?_
  refine RC.seq ?_
  refine RC.seq ?_
  refine RC.region ?_
  refine RL.s (Vl.move rfl) rfl ?_
  refine RL.s (Vl.bin (v := .bool false) rfl rfl (by kernel_rfl)) rfl ?_
  refine RL.nil ?_
  refine RQ.then_n ?_
  refine RC.condF rfl ?_
  refine RC.skip ?_
  refine RQ.then_n ?_
  refine RC.seq ?_
  refine RC.seq ?_
  refine RC.region ?_
  refine RL.s (Vl.move rfl) rfl ?_
  refine RL.s (Vl.bin (v := .bool false) rfl rfl (by kernel_rfl)) rfl ?_
  refine RL.nil ?_
  refine RQ.then_n ?_
  refine RC.condF rfl ?_
  refine RC.skip ?_
  refine RQ.then_n ?_
  refine RC.seq ?_
  refine RC.region ?_
  refine RL.s (Vl.move rfl) rfl ?_
  refine RL.e (OW.externNew (ls := [.tmp 13]) (cs := [.pointer (some ⟨b71, 0, none⟩)]) (T := 68) (v := fun b => .agg #[.pointer (some ⟨1, 68, none⟩), .pointer (some ⟨b, 0, none⟩), .int .u64 150]) hS rfl Tryd.func38 (by kernel_rfl) (by kernel_rfl) (by kernel_rfl) (e := fun args => Extern.ReflectliteValue.unpack (args.getD 0 (.tuple #[]))) (by kernel_rfl) (fun w => by kernel_rfl)) rfl rfl ?_
  rintro _ w ⟨b90, rfl, hS⟩
  have hS : St B w (Cl b90 [.pointer (some ⟨b71, 0, none⟩)] 68 :: Cl b71 [.int .i64 a72.at_, .int .i64 a72.why] 64 :: l) hf := hS
  refine RL.e (OW.alloc (cs := [.pointer none, .pointer none, .int .u64 0]) hS Tryd.zeroValue79 rfl) rfl rfl ?_
  rintro _ w ⟨b92, rfl, hS⟩
  have hS : St B w (Cl b92 [.pointer none, .pointer none, .int .u64 0] 79 :: Cl b90 [.pointer (some ⟨b71, 0, none⟩)] 68 :: Cl b71 [.int .i64 a72.at_, .int .i64 a72.why] 64 :: l) hf := hS
  refine RL.e0 (OW.store (cs := [.pointer none, .pointer none, .int .u64 0]) (vs := [.pointer (some ⟨1, 68, none⟩), .pointer (some ⟨b90, 0, none⟩), .int .u64 150]) (l' := Cl b92 [.pointer (some ⟨1, 68, none⟩), .pointer (some ⟨b90, 0, none⟩), .int .u64 150] 79 :: Cl b90 [.pointer (some ⟨b71, 0, none⟩)] 68 :: Cl b71 [.int .i64 a72.at_, .int .i64 a72.why] 64 :: l) 0 hS rfl rfl rfl rfl Tryd.sizeOf79 rfl rfl rfl rfl) rfl ?_
  rintro _ w ⟨rfl, hS⟩
  have hS : St B w (Cl b92 [.pointer (some ⟨1, 68, none⟩), .pointer (some ⟨b90, 0, none⟩), .int .u64 150] 79 :: Cl b90 [.pointer (some ⟨b71, 0, none⟩)] 68 :: Cl b71 [.int .i64 a72.at_, .int .i64 a72.why] 64 :: l) hf := hS
  refine RL.nil ?_
  refine RQ.then_n ?_
  refine RC.seq ?_
  refine RC.region ?_
  refine RL.s (Vl.loadA (vs := [.pointer (some ⟨1, 68, none⟩), .pointer (some ⟨b90, 0, none⟩), .int .u64 150]) Tryd.isAgg79 Tryd.sizeOf79 rfl rfl (hS.cellsAt 0 rfl rfl)) rfl ?_
  refine RL.s (Vl.extern (ls := [.tmp 15]) (v := .iface 96 (.agg #[.pointer (some ⟨1, 68, none⟩)])) rfl Tryd.func39 (by kernel_rfl) (by kernel_rfl) (by kernel_rfl) (e := Extern.ReflectliteValue.methodAny (Extern.ReflectliteValue.valueError "reflectlite.Value.Type" 0) fun t _ _ _ => Extern.ReflectliteType.toType t) (by kernel_rfl) (fun w => by kernel_rfl)) rfl ?_
  refine RL.s (Vl.assign rfl) rfl ?_
  refine RL.nil ?_
  refine RQ.then_n ?_
  refine RC.seq ?_
  refine RC.seq ?_
  refine RC.region ?_
  refine RL.s (Vl.move rfl) rfl ?_
  refine RL.s (Vl.invokeX (F := 67) (ls := []) (v := .int .u8 22) (u' := .pointer (some ⟨1, 68, none⟩)) rfl rfl (fun w => by kernel_rfl) Tryd.func67 (by kernel_rfl) (by kernel_rfl) (by kernel_rfl) (e := (Extern.ReflectliteType.abiMethod fun t => do pure (.int .u8 (← Extern.Rtype.kind t)))) (by kernel_rfl) (fun w => by kernel_rfl)) rfl ?_
  refine RL.s (Vl.int rfl rfl rfl) rfl ?_
  refine RL.s (Vl.move rfl) rfl ?_
  refine RL.sg (Vl.loadA (vs := [.pointer (some ⟨1, 68, none⟩), .pointer (some ⟨b90, 0, none⟩), .int .u64 150]) Tryd.isAgg79 Tryd.sizeOf79 rfl rfl (hS.cellsAt 0 rfl rfl)) rfl rfl ?_
  refine RL.sg (Vl.externAt (ls := [.tmp 21]) (v := .bool false) rfl Tryd.func40 (by kernel_rfl) (by kernel_rfl) (by kernel_rfl) (e := Extern.ReflectliteValue.method (Extern.ReflectliteValue.valueError "reflectlite.Value.IsNil" 0) Extern.ReflectliteValue.isNil) (by kernel_rfl) (run_isNil (n := 150) (a := ⟨b90, 0, none⟩) (fun w => by kernel_rfl) Tryd.underlying68 rfl (hS.cell 1 rfl rfl))) rfl rfl ?_
  refine RL.s (Vl.pickF rfl rfl) rfl ?_
  refine RL.nil ?_
  refine RQ.then_n ?_
  refine RC.condF rfl ?_
  refine RC.skip ?_
  refine RQ.then_n ?_
  refine RC.seq ?_
  refine RC.region ?_
  refine RL.s (Vl.move rfl) rfl ?_
  refine RL.s (Vl.invokeX (F := 79) (ls := []) (v := .iface 96 (.agg #[.pointer (some ⟨1, 64, none⟩)])) (u' := .agg #[.pointer (some ⟨1, 68, none⟩)]) rfl rfl (fun w => by kernel_rfl) Tryd.func79 (by kernel_rfl) (by kernel_rfl) (by kernel_rfl) (e := (Extern.ReflectliteType.method Extern.ReflectliteType.elem)) (by kernel_rfl) (fun w => by kernel_rfl)) rfl ?_
  refine RL.s (Vl.assign rfl) rfl ?_
  refine RL.nil ?_
  refine RQ.then_n ?_
  refine RC.seq ?_
  refine RC.seq ?_
  refine RC.region ?_
  refine RL.s (Vl.move rfl) rfl ?_
  refine RL.s (Vl.invokeX (F := 67) (ls := []) (v := .int .u8 25) (u' := .pointer (some ⟨1, 64, none⟩)) rfl rfl (fun w => by kernel_rfl) Tryd.func67 (by kernel_rfl) (by kernel_rfl) (by kernel_rfl) (e := (Extern.ReflectliteType.abiMethod fun t => do pure (.int .u8 (← Extern.Rtype.kind t)))) (by kernel_rfl) (fun w => by kernel_rfl)) rfl ?_
  refine RL.s (Vl.int rfl rfl rfl) rfl ?_
  refine RL.s (Vl.move rfl) rfl ?_
  refine RL.sg (Vl.move rfl) rfl rfl ?_
  refine RL.sg (Vl.load Tryd.isAgg82 rfl (cellH_world hS.sub hG0)) rfl rfl ?_
  refine RL.sg (Vl.invokeX (F := 80) (ls := [.tmp 32]) (v := .bool true) (u' := .agg #[.pointer (some ⟨1, 64, none⟩)]) rfl rfl (fun w => by kernel_rfl) Tryd.func80 (by kernel_rfl) (by kernel_rfl) (by kernel_rfl) (e := (Extern.ReflectliteType.relation "Implements" Extern.ReflectliteType.implements_)) (by kernel_rfl) (fun w => by kernel_rfl)) rfl rfl ?_
  refine RL.sg (Vl.not rfl) rfl rfl ?_
  refine RL.s (Vl.pickT rfl rfl) rfl ?_
  refine RL.nil ?_
  refine RQ.then_n ?_
  refine RC.condF rfl ?_
  refine RC.skip ?_
  refine RQ.then_n ?_
  refine RC.seq ?_
  refine RC.region ?_
  refine RL.s (Vl.move rfl) rfl ?_
  refine RL.s (Vl.move rfl) rfl ?_
  refine RL.s (Vl.loadA (vs := [.pointer (some ⟨1, 68, none⟩), .pointer (some ⟨b90, 0, none⟩), .int .u64 150]) Tryd.isAgg79 Tryd.sizeOf79 rfl rfl (hS.cellsAt 0 rfl rfl)) rfl ?_
  refine RL.s (Vl.move rfl) rfl ?_
  obtain ⟨t93, hg94, h⟩ := h.bind
  refine RL.e (OW.callF (ls := [.tmp 37, .tmp 38, .tmp 39, .tmp 40]) rfl Tryd.call41 (errors_as.ok a69 a72 b71 b90 _ hg94 (((hS.pull 0 rfl rfl).pull 1 rfl rfl).pull 2 rfl rfl))) rfl rfl ?_
  rintro _ w ⟨rfl, hS⟩
  have hS : St B w (Cl b71 [.int .i64 a72.at_, .int .i64 a72.why] 64 :: Cl b90 [.pointer (some ⟨b71, 0, none⟩)] 68 :: Cl b92 [.pointer (some ⟨1, 68, none⟩), .pointer (some ⟨b90, 0, none⟩), .int .u64 150] 79 :: l) hf := hS
  refine RL.s (Vl.assign rfl) rfl ?_
  refine RL.nil ?_
  refine RQ.then_n ?_
  refine RC.ret ?_
  have e := h.some
  subst e
  refine RQ.ret0 (vs := [.bool t93]) Tryd.results21 ⟨rfl, trivial⟩ ?_
  exact ⟨rfl, ((hS.dropAt 1 rfl).dropAt 1 rfl)⟩

/-! ### errors.is: function 43 -/
noncomputable def errors_is.f (a100 : Int) (a101 : Int) (a102 : Bool) : Option (Bool) := (if a102 = true then (if a100 = a101 then some true else some false) else some false)
set_option maxRecDepth 100000 in
set_option maxHeartbeats 4000000 in
theorem errors_is.ok {B : Base} {w : World} {l : List HProp} {hf : Hp} (a100 : Int) (a101 : Int) (a102 : Bool) (r : Bool) (h : errors_is.f a100 a101 a102 = some r) (hS : St B w (l) hf) :
    Calls Tryd.prog 43 #[.iface 28 (.int .i64 a100), .iface 28 (.int .i64 a101), .bool a102] w (Ret fun v w => v = .bool r ∧ St B w (l) hf) := by
  have h := Holds.of h
  refine enter (args := [.iface 28 (.int .i64 a100), .iface 28 (.int .i64 a101), .bool a102]) Tryd.func43 rfl Tryd.ntmps43 (Nat.le_of_ble_eq_true rfl) ?_
  refine RC.seq ?_
  refine RC.region ?_
  refine RL.s (Vl.assign rfl) rfl ?_
  refine RL.nil ?_
  refine RQ.then_n ?_
  refine RC.block ?_
  refine RC.unroll ?_
  refine RQ.round ?_
  refine RC.block ?_
  refine RC.seq ?_
  refine RC.seq ?_
  refine RC.region ?_
  refine RL.s (Vl.move rfl) rfl ?_
  refine RL.s (Vl.move rfl) rfl ?_
  by_cases hc109 : a102 = true
  case pos =>
    have h := h.pos hc109
    refine RL.re 15 rfl (congrArg Value.bool (id hc109)) ?_
    refine RL.sg (Vl.move rfl) rfl rfl ?_
    refine RL.sg (Vl.move rfl) rfl rfl ?_
    refine RL.sg (Vl.ifaceInt rfl rfl Tryd.underlying66 Tryd.underlying28 Tryd.type28 rfl) rfl rfl ?_
    refine RL.s (Vl.pickT rfl rfl) rfl ?_
    refine RL.nil ?_
    refine RQ.then_n ?_
    by_cases hc110 : a100 = a101
    case pos =>
      have h := h.pos hc110
      refine RC.re 19 rfl (congrArg Value.bool (decide_eq_true hc110)) ?_
      refine RC.condT rfl ?_
      refine RC.seq ?_
      refine RC.region ?_
      refine RL.s (Vl.assign rfl) rfl ?_
      refine RL.nil ?_
      refine RQ.then_n ?_
      refine RC.ret ?_
      refine RQ.ret ?_
      refine RQ.inB_ret ?_
      refine RQ.ret ?_
      refine RQ.inB_ret ?_
      have e := h.some
      subst e
      refine RQ.ret0 (vs := [.bool true]) Tryd.results43 ⟨rfl, trivial⟩ ?_
      exact ⟨rfl, hS⟩
    case neg =>
      have h := h.neg hc110
      refine RC.re 19 rfl (congrArg Value.bool (decide_eq_false hc110)) ?_
      refine RC.condF rfl ?_
      refine RC.skip ?_
      refine RQ.then_n ?_
      refine RC.seq ?_
      refine RC.seq ?_
      refine RC.region ?_
      refine RL.s (Vl.move rfl) rfl ?_
      refine RL.s (Vl.tassert (r := .tuple #[.nilIface, .bool false]) rfl (fun w => run_typeAssert_lacksB Tryd.underlying108 (by kernel_rfl) (by kernel_rfl) _ _ w)) rfl ?_
      refine RL.s (Vl.move rfl) rfl ?_
      refine RL.s (Vl.extract rfl rfl) rfl ?_
      refine RL.s (Vl.extract rfl rfl) rfl ?_
      refine RL.s (Vl.assign rfl) rfl ?_
      refine RL.s (Vl.assign rfl) rfl ?_
      refine RL.nil ?_
      refine RQ.then_n ?_
      refine RC.seq ?_
      refine RC.region ?_
      refine RL.s (Vl.move rfl) rfl ?_
      refine RL.s (Vl.move rfl) rfl ?_
      refine RL.nn rfl rfl ?_
      refine RL.nn rfl rfl ?_
      refine RL.nn rfl rfl ?_
      refine RL.s (Vl.pickF rfl rfl) rfl ?_
      refine RL.nil ?_
      refine RQ.then_n ?_
      refine RC.condF rfl ?_
      refine RC.skip ?_
      refine RQ.then_n ?_
      refine RC.seq ?_
      refine RC.region ?_
      refine RL.s (Vl.move rfl) rfl ?_
      refine RL.nil ?_
      refine RQ.then_n ?_
      refine RC.block ?_
      refine RC.seq ?_
      refine RC.region ?_
      refine RL.s (Vl.tassert (r := .tuple #[.nilIface, .bool false]) rfl (fun w => run_typeAssert_lacksB Tryd.underlying103 (by kernel_rfl) (by kernel_rfl) _ _ w)) rfl ?_
      refine RL.s (Vl.extract rfl rfl) rfl ?_
      refine RL.s (Vl.extract rfl rfl) rfl ?_
      refine RL.nil ?_
      refine RQ.then_n ?_
      refine RC.condF rfl ?_
      refine RC.seq ?_
      refine RC.region ?_
      refine RL.s (Vl.tassert (r := .tuple #[.nilIface, .bool false]) rfl (fun w => run_typeAssert_lacksB Tryd.underlying105 (by kernel_rfl) (by kernel_rfl) _ _ w)) rfl ?_
      refine RL.s (Vl.extract rfl rfl) rfl ?_
      refine RL.s (Vl.extract rfl rfl) rfl ?_
      refine RL.nil ?_
      refine RQ.then_n ?_
      refine RC.condF rfl ?_
      refine RC.seq ?_
      refine RC.region ?_
      refine RL.s (Vl.assign rfl) rfl ?_
      refine RL.nil ?_
      refine RQ.then_n ?_
      refine RC.seq ?_
      refine RC.region ?_
      refine RL.s (Vl.assign rfl) rfl ?_
      refine RL.nil ?_
      refine RQ.then_n ?_
      refine RC.ret ?_
      refine RQ.inB_ret ?_
      refine RQ.inB_ret ?_
      refine RQ.ret ?_
      refine RQ.inB_ret ?_
      have e := h.some
      subst e
      refine RQ.ret0 (vs := [.bool false]) Tryd.results43 ⟨rfl, trivial⟩ ?_
      exact ⟨rfl, hS⟩
  case neg =>
    have h := h.neg hc109
    refine RL.re 15 rfl (congrArg Value.bool (eq_false_of hc109)) ?_
    refine RL.nn rfl rfl ?_
    refine RL.nn rfl rfl ?_
    refine RL.nn rfl rfl ?_
    refine RL.s (Vl.pickF rfl rfl) rfl ?_
    refine RL.nil ?_
    refine RQ.then_n ?_
    refine RC.condF rfl ?_
    refine RC.skip ?_
    refine RQ.then_n ?_
    refine RC.seq ?_
    refine RC.seq ?_
    refine RC.region ?_
    refine RL.s (Vl.move rfl) rfl ?_
    refine RL.s (Vl.tassert (r := .tuple #[.nilIface, .bool false]) rfl (fun w => run_typeAssert_lacksB Tryd.underlying108 (by kernel_rfl) (by kernel_rfl) _ _ w)) rfl ?_
    refine RL.s (Vl.move rfl) rfl ?_
    refine RL.s (Vl.extract rfl rfl) rfl ?_
    refine RL.s (Vl.extract rfl rfl) rfl ?_
    refine RL.s (Vl.assign rfl) rfl ?_
    refine RL.s (Vl.assign rfl) rfl ?_
    refine RL.nil ?_
    refine RQ.then_n ?_
    refine RC.seq ?_
    refine RC.region ?_
    refine RL.s (Vl.move rfl) rfl ?_
    refine RL.s (Vl.move rfl) rfl ?_
    refine RL.nn rfl rfl ?_
    refine RL.nn rfl rfl ?_
    refine RL.nn rfl rfl ?_
    refine RL.s (Vl.pickF rfl rfl) rfl ?_
    refine RL.nil ?_
    refine RQ.then_n ?_
    refine RC.condF rfl ?_
    refine RC.skip ?_
    refine RQ.then_n ?_
    refine RC.seq ?_
    refine RC.region ?_
    refine RL.s (Vl.move rfl) rfl ?_
    refine RL.nil ?_
    refine RQ.then_n ?_
    refine RC.block ?_
    refine RC.seq ?_
    refine RC.region ?_
    refine RL.s (Vl.tassert (r := .tuple #[.nilIface, .bool false]) rfl (fun w => run_typeAssert_lacksB Tryd.underlying103 (by kernel_rfl) (by kernel_rfl) _ _ w)) rfl ?_
    refine RL.s (Vl.extract rfl rfl) rfl ?_
    refine RL.s (Vl.extract rfl rfl) rfl ?_
    refine RL.nil ?_
    refine RQ.then_n ?_
    refine RC.condF rfl ?_
    refine RC.seq ?_
    refine RC.region ?_
    refine RL.s (Vl.tassert (r := .tuple #[.nilIface, .bool false]) rfl (fun w => run_typeAssert_lacksB Tryd.underlying105 (by kernel_rfl) (by kernel_rfl) _ _ w)) rfl ?_
    refine RL.s (Vl.extract rfl rfl) rfl ?_
    refine RL.s (Vl.extract rfl rfl) rfl ?_
    refine RL.nil ?_
    refine RQ.then_n ?_
    refine RC.condF rfl ?_
    refine RC.seq ?_
    refine RC.region ?_
    refine RL.s (Vl.assign rfl) rfl ?_
    refine RL.nil ?_
    refine RQ.then_n ?_
    refine RC.seq ?_
    refine RC.region ?_
    refine RL.s (Vl.assign rfl) rfl ?_
    refine RL.nil ?_
    refine RQ.then_n ?_
    refine RC.ret ?_
    refine RQ.inB_ret ?_
    refine RQ.inB_ret ?_
    refine RQ.ret ?_
    refine RQ.inB_ret ?_
    have e := h.some
    subst e
    refine RQ.ret0 (vs := [.bool false]) Tryd.results43 ⟨rfl, trivial⟩ ?_
    exact ⟨rfl, hS⟩

/-! ### errors.Is: function 22 -/
noncomputable def errors_Is.f (a98 : Int) (a99 : Int) : Option (Bool) := ((errors_is.f a98 a99 true).bind fun t113 => some t113)
set_option maxRecDepth 100000 in
set_option maxHeartbeats 4000000 in
theorem errors_Is.ok {B : Base} {w : World} {l : List HProp} {hf : Hp} (a98 : Int) (a99 : Int) (r : Bool) (h : errors_Is.f a98 a99 = some r) (hS : St B w (l) hf) :
    Calls Tryd.prog 22 #[.iface 28 (.int .i64 a98), .iface 28 (.int .i64 a99)] w (Ret fun v w => v = .bool r ∧ St B w (l) hf) := by
  have h := Holds.of h
  refine enter (args := [.iface 28 (.int .i64 a98), .iface 28 (.int .i64 a99)]) Tryd.func22 rfl Tryd.ntmps22 (Nat.le_of_ble_eq_true rfl) ?_
  refine RC.seq ?_
  refine RC.region ?_
  refine RL.s (Vl.assign rfl) rfl ?_
  refine RL.nil ?_
  refine RQ.then_n ?_
  refine RC.seq ?_
  refine RC.seq ?_
  refine RC.region ?_
  refine RL.s (Vl.move rfl) rfl ?_
  refine RL.s (Vl.bin (v := .bool false) rfl rfl (by kernel_rfl)) rfl ?_
  refine RL.s (Vl.move rfl) rfl ?_
  refine RL.sg (Vl.move rfl) rfl rfl ?_
  refine RL.sg (Vl.bin (v := .bool false) rfl rfl (by kernel_rfl)) rfl rfl ?_
  refine RL.s (Vl.pickF rfl rfl) rfl ?_
  refine RL.nil ?_
  refine RQ.then_n ?_
  refine RC.condF rfl ?_
  refine RC.skip ?_
  refine RQ.then_n ?_
  refine RC.seq ?_
  refine RC.region ?_
  refine RL.s (Vl.move rfl) rfl ?_
  refine RL.s (Vl.extern (ls := [.tmp 15]) (v := .iface 96 (.agg #[.pointer (some ⟨1, 28, none⟩)])) rfl Tryd.func42 (by kernel_rfl) (by kernel_rfl) (by kernel_rfl) (e := Extern.ReflectliteType.typeOf) (by kernel_rfl) (fun w => by kernel_rfl)) rfl ?_
  refine RL.s (Vl.invokeX (F := 78) (ls := []) (v := .bool true) (u' := .agg #[.pointer (some ⟨1, 28, none⟩)]) rfl rfl (fun w => by kernel_rfl) Tryd.func78 (by kernel_rfl) (by kernel_rfl) (by kernel_rfl) (e := (Extern.ReflectliteType.method fun t => do Extern.Rtype.noPackHeld "Comparable" t; pure (.bool (← typeInfo t).comparable))) (by kernel_rfl) (fun w => by kernel_rfl)) rfl ?_
  refine RL.s (Vl.assign rfl) rfl ?_
  refine RL.nil ?_
  refine RQ.then_n ?_
  refine RC.seq ?_
  refine RC.region ?_
  refine RL.s (Vl.move rfl) rfl ?_
  refine RL.s (Vl.move rfl) rfl ?_
  refine RL.s (Vl.move rfl) rfl ?_
  obtain ⟨t113, hg114, h⟩ := h.bind
  refine RL.e (OW.callF (ls := [.tmp 18, .tmp 19, .tmp 20]) rfl Tryd.call43 (errors_is.ok a98 a99 true _ hg114 hS)) rfl rfl ?_
  rintro _ w ⟨rfl, hS⟩
  have hS : St B w (l) hf := hS
  refine RL.s (Vl.assign rfl) rfl ?_
  refine RL.nil ?_
  refine RQ.then_n ?_
  refine RC.ret ?_
  have e := h.some
  subst e
  refine RQ.ret0 (vs := [.bool t113]) Tryd.results22 ⟨rfl, trivial⟩ ?_
  exact ⟨rfl, hS⟩

/-! ### isochron/code.shapes: function 51 -/
noncomputable def code_shapes.f  : Option (Unit) := some ()
set_option maxRecDepth 100000 in
set_option maxHeartbeats 4000000 in
theorem code_shapes.ok {B : Base} {w : World} {l : List HProp} {hf : Hp} (r : Unit) (h : code_shapes.f = some r) (hS : St B w (l) hf) :
    Calls Tryd.prog 51 #[] w (Ret fun v w => v = .agg #[.string lit_2d2d2d, .string lit_726e2d, .string lit_72722d, .string lit_rrr, .string lit_rrr, .string lit_rrr, .string lit_rrr, .string lit_rrr, .string lit_rrr, .string lit_rrr, .string lit_702d2d, .string lit_72702d, .string lit_rrr, .string lit_72722d, .string lit_722d2d, .string lit_722d2d, .string lit_722d2d] ∧ St B w (l) hf) := by
  have h := Holds.of h
  refine enter (args := []) Tryd.func51 rfl Tryd.ntmps51 (Nat.le_of_ble_eq_true rfl) ?_
  refine RC.seq ?_
  refine RC.region ?_
  refine RL.e (OW.alloc (cs := [.string lit_, .string lit_, .string lit_, .string lit_, .string lit_, .string lit_, .string lit_, .string lit_, .string lit_, .string lit_, .string lit_, .string lit_, .string lit_, .string lit_, .string lit_, .string lit_, .string lit_]) hS Tryd.zeroValue117 rfl) rfl rfl ?_
  rintro _ w ⟨b184, rfl, hS⟩
  have hS : St B w (Cl b184 [.string lit_, .string lit_, .string lit_, .string lit_, .string lit_, .string lit_, .string lit_, .string lit_, .string lit_, .string lit_, .string lit_, .string lit_, .string lit_, .string lit_, .string lit_, .string lit_, .string lit_] 117 :: l) hf := hS
  refine RL.nil ?_
  refine RQ.then_n ?_
  refine RC.seq ?_
  refine RC.region ?_
  refine RL.s (Vl.build (v := .agg #[.string lit_2d2d2d, .string lit_726e2d, .string lit_72722d, .string lit_rrr, .string lit_rrr, .string lit_rrr, .string lit_rrr, .string lit_rrr, .string lit_rrr, .string lit_rrr, .string lit_702d2d, .string lit_72702d, .string lit_rrr, .string lit_72722d, .string lit_722d2d, .string lit_722d2d, .string lit_722d2d]) (parts := [(0, .const (.string lit_2d2d2d)), (1, .const (.string lit_726e2d)), (2, .const (.string lit_72722d)), (3, .const (.string lit_rrr)), (4, .const (.string lit_rrr)), (5, .const (.string lit_rrr)), (6, .const (.string lit_rrr)), (7, .const (.string lit_rrr)), (8, .const (.string lit_rrr)), (9, .const (.string lit_rrr)), (10, .const (.string lit_702d2d)), (11, .const (.string lit_72702d)), (12, .const (.string lit_rrr)), (13, .const (.string lit_72722d)), (14, .const (.string lit_722d2d)), (15, .const (.string lit_722d2d)), (16, .const (.string lit_722d2d))]) rfl (by kernel_rfl)) rfl ?_
  refine RL.e0 (OW.store (cs := [.string lit_, .string lit_, .string lit_, .string lit_, .string lit_, .string lit_, .string lit_, .string lit_, .string lit_, .string lit_, .string lit_, .string lit_, .string lit_, .string lit_, .string lit_, .string lit_, .string lit_]) (vs := [.string lit_2d2d2d, .string lit_726e2d, .string lit_72722d, .string lit_rrr, .string lit_rrr, .string lit_rrr, .string lit_rrr, .string lit_rrr, .string lit_rrr, .string lit_rrr, .string lit_702d2d, .string lit_72702d, .string lit_rrr, .string lit_72722d, .string lit_722d2d, .string lit_722d2d, .string lit_722d2d]) (l' := Cl b184 [.string lit_2d2d2d, .string lit_726e2d, .string lit_72722d, .string lit_rrr, .string lit_rrr, .string lit_rrr, .string lit_rrr, .string lit_rrr, .string lit_rrr, .string lit_rrr, .string lit_702d2d, .string lit_72702d, .string lit_rrr, .string lit_72722d, .string lit_722d2d, .string lit_722d2d, .string lit_722d2d] 117 :: l) 0 hS rfl rfl rfl rfl Tryd.sizeOf117 rfl rfl rfl rfl) rfl ?_
  rintro _ w ⟨rfl, hS⟩
  have hS : St B w (Cl b184 [.string lit_2d2d2d, .string lit_726e2d, .string lit_72722d, .string lit_rrr, .string lit_rrr, .string lit_rrr, .string lit_rrr, .string lit_rrr, .string lit_rrr, .string lit_rrr, .string lit_702d2d, .string lit_72702d, .string lit_rrr, .string lit_72722d, .string lit_722d2d, .string lit_722d2d, .string lit_722d2d] 117 :: l) hf := hS
  refine RL.nil ?_
  refine RQ.then_n ?_
  refine RC.ret ?_
  have e := h.some
  skip
  refine RQ.ret0 (vs := [.agg #[.string lit_2d2d2d, .string lit_726e2d, .string lit_72722d, .string lit_rrr, .string lit_rrr, .string lit_rrr, .string lit_rrr, .string lit_rrr, .string lit_rrr, .string lit_rrr, .string lit_702d2d, .string lit_72702d, .string lit_rrr, .string lit_72722d, .string lit_722d2d, .string lit_722d2d, .string lit_722d2d]]) Tryd.results51 ⟨⟨_, rfl, run_loadVarA (vs := [.string lit_2d2d2d, .string lit_726e2d, .string lit_72722d, .string lit_rrr, .string lit_rrr, .string lit_rrr, .string lit_rrr, .string lit_rrr, .string lit_rrr, .string lit_rrr, .string lit_702d2d, .string lit_72702d, .string lit_rrr, .string lit_72722d, .string lit_722d2d, .string lit_722d2d, .string lit_722d2d]) Tryd.isAgg117 Tryd.sizeOf117 rfl (hS.cellsAt 0 rfl rfl)⟩, trivial⟩ ?_
  exact ⟨rfl, (hS.dropAt 0 rfl)⟩

/-! ### isochron/code.right: function 52 -/
noncomputable def code_right.j2 (a190 : Int) (x211 : Int) (x212 : Int) : Option (Bool) := (if x211 ≤ a190 then some (decide (a190 ≤ x212)) else some false)
noncomputable def code_right.f (a190 : Int) (a191 : Int) (a192 : Int) : Option (Bool) := (if a191 = 110 then code_right.j2 a190 (-2147483648) 2147483647 else (if a191 = 112 then code_right.j2 a190 0 a192 else (if a191 = 114 then code_right.j2 a190 0 15 else code_right.j2 a190 0 0)))
set_option maxRecDepth 100000 in
set_option maxHeartbeats 4000000 in
theorem code_right.ok {B : Base} {w : World} {l : List HProp} {hf : Hp} (a190 : Int) (a191 : Int) (a192 : Int) (r : Bool) (h : code_right.f a190 a191 a192 = some r) (hS : St B w (l) hf) :
    Calls Tryd.prog 52 #[.int .i64 a190, .int .u8 a191, .int .i64 a192] w (Ret fun v w => v = .bool r ∧ St B w (l) hf) := by
  have h := Holds.of h
  refine enter (args := [.int .i64 a190, .int .u8 a191, .int .i64 a192]) Tryd.func52 rfl Tryd.ntmps52 (Nat.le_of_ble_eq_true rfl) ?_
  refine RC.seq ?_
  refine RC.region ?_
  refine RL.s (Vl.assign rfl) rfl ?_
  refine RL.nil ?_
  refine RQ.then_n ?_
  refine RC.seq ?_
  refine RC.region ?_
  refine RL.s (Vl.assign rfl) rfl ?_
  refine RL.s (Vl.assign rfl) rfl ?_
  refine RL.nil ?_
  refine RQ.then_n ?_
  refine RC.join (fun (s : Int × Int) a w => ∃ (x211 : Int) (x212 : Int), s = (x211, x212) ∧ Has 25 [(0, .int .i64 a190), (7, .int .i64 x211), (8, .int .i64 x212)] a ∧ St B w (l) hf ∧ Holds (· = r) (code_right.j2 a190 x211 x212)) ?_ ?_
  · rintro _ a w ⟨x211, x212, rfl, ha, hS, h⟩
    revert a
    show RC _ _ _ _ _ _
    refine RC.seq ?_
    refine RC.region ?_
    refine RL.s (Vl.move rfl) rfl ?_
    refine RL.s (Vl.move rfl) rfl ?_
    refine RL.s (Vl.int rfl rfl rfl) rfl ?_
    refine RL.s (Vl.move rfl) rfl ?_
    by_cases hc213 : x211 ≤ a190
    case pos =>
      have h := h.pos hc213
      refine RL.re 20 rfl (congrArg Value.bool (decide_eq_true hc213)) ?_
      refine RL.sg (Vl.move rfl) rfl rfl ?_
      refine RL.sg (Vl.move rfl) rfl rfl ?_
      refine RL.sg (Vl.int rfl rfl rfl) rfl rfl ?_
      refine RL.s (Vl.pickT rfl rfl) rfl ?_
      refine RL.s (Vl.assign rfl) rfl ?_
      refine RL.nil ?_
      refine RQ.then_n ?_
      refine RC.ret ?_
      have e := h.some
      subst e
      refine RQ.ret0 (vs := [.bool (decide (a190 ≤ x212))]) Tryd.results52 ⟨rfl, trivial⟩ ?_
      exact ⟨rfl, hS⟩
    case neg =>
      have h := h.neg hc213
      refine RL.re 20 rfl (congrArg Value.bool (decide_eq_false hc213)) ?_
      refine RL.nn rfl rfl ?_
      refine RL.nn rfl rfl ?_
      refine RL.nn rfl rfl ?_
      refine RL.s (Vl.pickF rfl rfl) rfl ?_
      refine RL.s (Vl.assign rfl) rfl ?_
      refine RL.nil ?_
      refine RQ.then_n ?_
      refine RC.ret ?_
      have e := h.some
      subst e
      refine RQ.ret0 (vs := [.bool false]) Tryd.results52 ⟨rfl, trivial⟩ ?_
      exact ⟨rfl, hS⟩
  · refine RC.seq ?_
    refine RC.region ?_
    refine RL.s (Vl.move rfl) rfl ?_
    refine RL.nil ?_
    refine RQ.then_n ?_
    refine RC.block ?_
    refine RC.seq ?_
    refine RC.block ?_
    refine RC.seq ?_
    refine RC.block ?_
    refine RC.seq ?_
    refine RC.block ?_
    refine RC.seq ?_
    refine RC.block ?_
    refine RC.seq ?_
    refine RC.seq ?_
    refine RC.seq ?_
    refine RC.region ?_
    refine RL.s (Vl.int rfl rfl rfl) rfl ?_
    refine RL.s (Vl.assign rfl) rfl ?_
    refine RL.nil ?_
    refine RQ.then_n ?_
    by_cases hc215 : a191 = 110
    case pos =>
      have h := h.pos hc215
      refine RC.re 10 rfl (congrArg Value.bool (decide_eq_true hc215)) ?_
      refine RC.condT rfl ?_
      refine RC.exit ?_
      refine RQ.exitT ?_
      refine RQ.exitT ?_
      refine RQ.inB_hit ?_
      refine RQ.then_n ?_
      refine RC.seq ?_
      refine RC.region ?_
      refine RL.s (Vl.assign rfl) rfl ?_
      refine RL.s (Vl.assign rfl) rfl ?_
      refine RL.nil ?_
      refine RQ.then_n ?_
      refine RC.exit ?_
      refine RQ.inB_miss rfl ?_
      refine RQ.exitT ?_
      refine RQ.inB_miss rfl ?_
      refine RQ.exitT ?_
      refine RQ.inB_miss rfl ?_
      refine RQ.exitT ?_
      refine RQ.inB_hit ?_
      exact fun a ha => ⟨((-2147483648), 2147483647), (-2147483648), 2147483647, rfl, ha.to ⟨rfl, rfl, rfl, trivial⟩, hS, h⟩
    case neg =>
      have h := h.neg hc215
      refine RC.re 10 rfl (congrArg Value.bool (decide_eq_false hc215)) ?_
      refine RC.condF rfl ?_
      refine RC.skip ?_
      refine RQ.then_n ?_
      refine RC.seq ?_
      refine RC.seq ?_
      refine RC.region ?_
      refine RL.s (Vl.int rfl rfl rfl) rfl ?_
      refine RL.s (Vl.assign rfl) rfl ?_
      refine RL.nil ?_
      refine RQ.then_n ?_
      by_cases hc217 : a191 = 112
      case pos =>
        have h := h.pos hc217
        refine RC.re 12 rfl (congrArg Value.bool (decide_eq_true hc217)) ?_
        refine RC.condT rfl ?_
        refine RC.exit ?_
        refine RQ.exitT ?_
        refine RQ.exitT ?_
        refine RQ.inB_miss rfl ?_
        refine RQ.exitT ?_
        refine RQ.inB_hit ?_
        refine RQ.then_n ?_
        refine RC.seq ?_
        refine RC.region ?_
        refine RL.s (Vl.move rfl) rfl ?_
        refine RL.s (Vl.assign rfl) rfl ?_
        refine RL.nil ?_
        refine RQ.then_n ?_
        refine RC.exit ?_
        refine RQ.inB_miss rfl ?_
        refine RQ.exitT ?_
        refine RQ.inB_miss rfl ?_
        refine RQ.exitT ?_
        refine RQ.inB_hit ?_
        exact fun a ha => ⟨(0, a192), 0, a192, rfl, ha.to ⟨rfl, rfl, rfl, trivial⟩, hS, h⟩
      case neg =>
        have h := h.neg hc217
        refine RC.re 12 rfl (congrArg Value.bool (decide_eq_false hc217)) ?_
        refine RC.condF rfl ?_
        refine RC.skip ?_
        refine RQ.then_n ?_
        refine RC.seq ?_
        refine RC.region ?_
        refine RL.s (Vl.int rfl rfl rfl) rfl ?_
        refine RL.s (Vl.assign rfl) rfl ?_
        refine RL.nil ?_
        refine RQ.then_n ?_
        by_cases hc218 : a191 = 114
        case pos =>
          have h := h.pos hc218
          refine RC.re 14 rfl (congrArg Value.bool (decide_eq_true hc218)) ?_
          refine RC.condT rfl ?_
          refine RC.exit ?_
          refine RQ.exitT ?_
          refine RQ.inB_miss rfl ?_
          refine RQ.exitT ?_
          refine RQ.inB_miss rfl ?_
          refine RQ.exitT ?_
          refine RQ.inB_hit ?_
          refine RQ.then_n ?_
          refine RC.region ?_
          refine RL.s (Vl.assign rfl) rfl ?_
          refine RL.nil ?_
          refine RQ.inB_n ?_
          refine RQ.then_n ?_
          refine RC.seq ?_
          refine RC.region ?_
          refine RL.s (Vl.assign rfl) rfl ?_
          refine RL.nil ?_
          refine RQ.then_n ?_
          refine RC.exit ?_
          refine RQ.inB_hit ?_
          exact fun a ha => ⟨(0, 15), 0, 15, rfl, ha.to ⟨rfl, rfl, rfl, trivial⟩, hS, h⟩
        case neg =>
          have h := h.neg hc218
          refine RC.re 14 rfl (congrArg Value.bool (decide_eq_false hc218)) ?_
          refine RC.condF rfl ?_
          refine RC.skip ?_
          refine RQ.then_n ?_
          refine RC.exit ?_
          refine RQ.inB_miss rfl ?_
          refine RQ.exitT ?_
          refine RQ.inB_miss rfl ?_
          refine RQ.exitT ?_
          refine RQ.inB_miss rfl ?_
          refine RQ.exitT ?_
          refine RQ.inB_hit ?_
          refine RQ.then_n ?_
          refine RC.seq ?_
          refine RC.region ?_
          refine RL.s (Vl.assign rfl) rfl ?_
          refine RL.nil ?_
          refine RQ.then_n ?_
          refine RC.exit ?_
          refine RQ.inB_hit ?_
          exact fun a ha => ⟨(0, 0), 0, 0, rfl, ha.to ⟨rfl, rfl, rfl, trivial⟩, hS, h⟩

/-! ### isochron/code.may: function 50 -/
noncomputable def code_may.f (a173 : api_Instr) (a174 : Int) : Option (Bool) := (if a173.Op < 0 then some false else (if 17 ≤ a173.Op then some false else ((code_shapes.f).bind fun _ => (if 0 ≤ a173.Op ∧ a173.Op < 17 then (if 0 < ((nth ([lit_2d2d2d, lit_726e2d, lit_72722d, lit_rrr, lit_rrr, lit_rrr, lit_rrr, lit_rrr, lit_rrr, lit_rrr, lit_702d2d, lit_72702d, lit_rrr, lit_72722d, lit_722d2d, lit_722d2d, lit_722d2d] : List ByteArray) a173.Op).size : Int) then ((code_right.f a173.A (bt (nth ([lit_2d2d2d, lit_726e2d, lit_72722d, lit_rrr, lit_rrr, lit_rrr, lit_rrr, lit_rrr, lit_rrr, lit_rrr, lit_702d2d, lit_72702d, lit_rrr, lit_72722d, lit_722d2d, lit_722d2d, lit_722d2d] : List ByteArray) a173.Op) 0) a174).bind fun t240 => (if t240 = true then (if 1 < ((nth ([lit_2d2d2d, lit_726e2d, lit_72722d, lit_rrr, lit_rrr, lit_rrr, lit_rrr, lit_rrr, lit_rrr, lit_rrr, lit_702d2d, lit_72702d, lit_rrr, lit_72722d, lit_722d2d, lit_722d2d, lit_722d2d] : List ByteArray) a173.Op).size : Int) then ((code_right.f a173.B (bt (nth ([lit_2d2d2d, lit_726e2d, lit_72722d, lit_rrr, lit_rrr, lit_rrr, lit_rrr, lit_rrr, lit_rrr, lit_rrr, lit_702d2d, lit_72702d, lit_rrr, lit_72722d, lit_722d2d, lit_722d2d, lit_722d2d] : List ByteArray) a173.Op) 1) a174).bind fun t244 => (if t244 = true then (if 2 < ((nth ([lit_2d2d2d, lit_726e2d, lit_72722d, lit_rrr, lit_rrr, lit_rrr, lit_rrr, lit_rrr, lit_rrr, lit_rrr, lit_702d2d, lit_72702d, lit_rrr, lit_72722d, lit_722d2d, lit_722d2d, lit_722d2d] : List ByteArray) a173.Op).size : Int) then ((code_right.f a173.C (bt (nth ([lit_2d2d2d, lit_726e2d, lit_72722d, lit_rrr, lit_rrr, lit_rrr, lit_rrr, lit_rrr, lit_rrr, lit_rrr, lit_702d2d, lit_72702d, lit_rrr, lit_72722d, lit_722d2d, lit_722d2d, lit_722d2d] : List ByteArray) a173.Op) 2) a174).bind fun t248 => some t248) else none) else some false)) else none) else some false)) else none) else none))))
set_option maxRecDepth 100000 in
set_option maxHeartbeats 4000000 in
theorem code_may.ok {B : Base} {w : World} {l : List HProp} {hf : Hp} (a173 : api_Instr) (a174 : Int) (r : Bool) (h : code_may.f a173 a174 = some r) (hS : St B w (l) hf) :
    Calls Tryd.prog 50 #[.agg #[.int .i64 a173.Op, .int .i64 a173.A, .int .i64 a173.B, .int .i64 a173.C], .int .i64 a174] w (Ret fun v w => v = .bool r ∧ St B w (l) hf) := by
  have h := Holds.of h
  refine enter (args := [.agg #[.int .i64 a173.Op, .int .i64 a173.A, .int .i64 a173.B, .int .i64 a173.C], .int .i64 a174]) Tryd.func50 rfl Tryd.ntmps50 (Nat.le_of_ble_eq_true rfl) ?_
  refine RC.seq ?_
  refine RC.region ?_
  refine RL.e (OW.box (cs := [.int .i64 a173.Op, .int .i64 a173.A, .int .i64 a173.B, .int .i64 a173.C]) hS rfl rfl) rfl rfl ?_
  rintro _ w ⟨b230, rfl, hS⟩
  have hS : St B w (Cl b230 [.int .i64 a173.Op, .int .i64 a173.A, .int .i64 a173.B, .int .i64 a173.C] 34 :: l) hf := hS
  refine RL.s (Vl.assign rfl) rfl ?_
  refine RL.nil ?_
  refine RQ.then_n ?_
  refine RC.seq ?_
  refine RC.seq ?_
  refine RC.region ?_
  refine RL.s (Vl.fieldAddr (a'' := ⟨b230, 0, none⟩) Tryd.underlying34 rfl Tryd.sizeOf3 rfl rfl) rfl ?_
  refine RL.s (Vl.load Tryd.isAgg3 rfl (hS.cell 0 rfl rfl)) rfl ?_
  refine RL.s (Vl.int rfl rfl rfl) rfl ?_
  refine RL.s (Vl.move rfl) rfl ?_
  by_cases hc233 : a173.Op < 0
  case pos =>
    have h := h.pos hc233
    refine RL.re 9 rfl (congrArg Value.bool (decide_eq_true hc233)) ?_
    refine RL.nn rfl rfl ?_
    refine RL.nn rfl rfl ?_
    refine RL.nn rfl rfl ?_
    refine RL.s (Vl.pickT rfl rfl) rfl ?_
    refine RL.nil ?_
    refine RQ.then_n ?_
    refine RC.condT rfl ?_
    refine RC.seq ?_
    refine RC.region ?_
    refine RL.s (Vl.assign rfl) rfl ?_
    refine RL.nil ?_
    refine RQ.then_n ?_
    refine RC.ret ?_
    refine RQ.ret ?_
    have e := h.some
    subst e
    refine RQ.ret0 (vs := [.bool false]) Tryd.results50 ⟨rfl, trivial⟩ ?_
    exact ⟨rfl, (hS.dropAt 0 rfl)⟩
  case neg =>
    have h := h.neg hc233
    refine RL.re 9 rfl (congrArg Value.bool (decide_eq_false hc233)) ?_
    refine RL.sg (Vl.fieldAddr (a'' := ⟨b230, 0, none⟩) Tryd.underlying34 rfl Tryd.sizeOf3 rfl rfl) rfl rfl ?_
    refine RL.sg (Vl.load Tryd.isAgg3 rfl (hS.cell 0 rfl rfl)) rfl rfl ?_
    refine RL.sg (Vl.int rfl rfl rfl) rfl rfl ?_
    refine RL.s (Vl.pickF rfl rfl) rfl ?_
    refine RL.nil ?_
    refine RQ.then_n ?_
    by_cases hc234 : 17 ≤ a173.Op
    case pos =>
      have h := h.pos hc234
      refine RC.re 13 rfl (congrArg Value.bool (decide_eq_true hc234)) ?_
      refine RC.condT rfl ?_
      refine RC.seq ?_
      refine RC.region ?_
      refine RL.s (Vl.assign rfl) rfl ?_
      refine RL.nil ?_
      refine RQ.then_n ?_
      refine RC.ret ?_
      refine RQ.ret ?_
      have e := h.some
      subst e
      refine RQ.ret0 (vs := [.bool false]) Tryd.results50 ⟨rfl, trivial⟩ ?_
      exact ⟨rfl, (hS.dropAt 0 rfl)⟩
    case neg =>
      have h := h.neg hc234
      refine RC.re 13 rfl (congrArg Value.bool (decide_eq_false hc234)) ?_
      refine RC.condF rfl ?_
      refine RC.skip ?_
      refine RQ.then_n ?_
      refine RC.seq ?_
      refine RC.plan (.cons 1 true (.cons 2 true (.cons 0 false (.cons 3 false (.cons 4 false .nil))))) [4] (fun w => St B w (Cl b230 [.int .i64 a173.Op, .int .i64 a173.A, .int .i64 a173.B, .int .i64 a173.C] 34 :: l) hf) follows rfl (by kernel_rfl) (NoTmp.then NoTmp.body) ?_
      have hS := hS.same (w' := { w with drawn := w.drawn + 1 }) rfl rfl
      revert hS
      generalize { w with drawn := w.drawn + 1 } = w
      intro hS
      refine RP.s 1 rfl rfl hS (fun w hS => Vl.fieldAddr (a'' := ⟨b230, 0, none⟩) Tryd.underlying34 rfl Tryd.sizeOf3 rfl rfl) rfl ?_
      refine RP.s 2 rfl rfl hS (fun w hS => Vl.load Tryd.isAgg3 rfl (hS.cell 0 rfl rfl)) rfl ?_
      obtain ⟨t235, hg236, h⟩ := h.bind
      refine RP.e 0 rfl (OW.callF (ls := []) rfl Tryd.call51 (code_shapes.ok _ hg236 hS)) rfl rfl ?_
      rintro _ w ⟨rfl, hS⟩
      have hS : St B w (Cl b230 [.int .i64 a173.Op, .int .i64 a173.A, .int .i64 a173.B, .int .i64 a173.C] 34 :: l) hf := hS
      refine ⟨fun _ => hS, ?_⟩
      obtain ⟨⟨hq237, hq238⟩, h⟩ := h.req
      refine RP.v1 3 rfl (fun _ => hS) (Vl.indexMap (f := Value.string) (l := ([lit_2d2d2d, lit_726e2d, lit_72722d, lit_rrr, lit_rrr, lit_rrr, lit_rrr, lit_rrr, lit_rrr, lit_rrr, lit_702d2d, lit_72702d, lit_rrr, lit_72722d, lit_722d2d, lit_722d2d, lit_722d2d] : List ByteArray)) Tryd.underlying117 Tryd.sizeOf9 Tryd.isAgg9 rfl rfl rfl hq237 hq238) rfl rfl ?_
      refine RP.v1 4 rfl (by intro hx; cases hx) (Vl.assign rfl) rfl rfl ?_
      refine RP.nil ?_
      refine RQ.then_n ?_
      refine RC.seq ?_
      refine RC.plan (.cons 0 true (.cons 1 true (.cons 2 true (.cons 3 true (.cons 4 true (.cons 5 false (.cons 6 true (.cons 7 true (.cons 8 true (.cons 9 true (.cons 10 true (.cons 11 true (.cons 12 false (.cons 13 true (.cons 14 true (.cons 15 true (.cons 16 true (.cons 17 true (.cons 18 true (.cons 19 false (.cons 20 false (.cons 21 false (.cons 22 false .nil))))))))))))))))))))))) [22] (fun w => St B w (Cl b230 [.int .i64 a173.Op, .int .i64 a173.A, .int .i64 a173.B, .int .i64 a173.C] 34 :: l) hf) follows rfl (by kernel_rfl) (NoTmp.then NoTmp.body) ?_
      have hS := hS.same (w' := { w with drawn := w.drawn + 1 }) rfl rfl
      revert hS
      generalize { w with drawn := w.drawn + 1 } = w
      intro hS
      refine RP.s 0 rfl rfl hS (fun w hS => Vl.fieldAddr (a'' := ⟨b230, 1, none⟩) Tryd.underlying34 rfl Tryd.sizeOf3 rfl rfl) rfl ?_
      refine RP.s 1 rfl rfl hS (fun w hS => Vl.load Tryd.isAgg3 rfl (hS.cell 0 rfl rfl)) rfl ?_
      refine RP.s 2 rfl rfl hS (fun w hS => Vl.move rfl) rfl ?_
      obtain ⟨hq239, h⟩ := h.req
      refine RP.s 3 rfl rfl hS (fun w hS => Vl.indexS Tryd.underlying9 rfl rfl (by decide) hq239) rfl ?_
      refine RP.s 4 rfl rfl hS (fun w hS => Vl.move rfl) rfl ?_
      obtain ⟨t240, hg241, h⟩ := h.bind
      refine RP.e 5 rfl (OW.callF (ls := [.tmp 19, .tmp 21, .tmp 22]) rfl Tryd.call52 (code_right.ok a173.A (bt (nth ([lit_2d2d2d, lit_726e2d, lit_72722d, lit_rrr, lit_rrr, lit_rrr, lit_rrr, lit_rrr, lit_rrr, lit_rrr, lit_702d2d, lit_72702d, lit_rrr, lit_72722d, lit_722d2d, lit_722d2d, lit_722d2d] : List ByteArray) a173.Op) 0) a174 _ hg241 hS)) rfl rfl ?_
      rintro _ w ⟨rfl, hS⟩
      have hS : St B w (Cl b230 [.int .i64 a173.Op, .int .i64 a173.A, .int .i64 a173.B, .int .i64 a173.C] 34 :: l) hf := hS
      refine ⟨fun _ => hS, ?_⟩
      refine RP.s 6 rfl rfl hS (fun w hS => Vl.move rfl) rfl ?_
      by_cases hc242 : t240 = true
      case pos =>
        have h := h.pos hc242
        refine RP.re 24 rfl (congrArg Value.bool (id hc242)) ?_
        refine RP.sg 7 rfl rfl hS (fun w hS => Vl.fieldAddr (a'' := ⟨b230, 2, none⟩) Tryd.underlying34 rfl Tryd.sizeOf3 rfl rfl) rfl rfl ?_
        refine RP.sg 8 rfl rfl hS (fun w hS => Vl.load Tryd.isAgg3 rfl (hS.cell 0 rfl rfl)) rfl rfl ?_
        refine RP.sg 9 rfl rfl hS (fun w hS => Vl.move rfl) rfl rfl ?_
        obtain ⟨hq243, h⟩ := h.req
        refine RP.sg 10 rfl rfl hS (fun w hS => Vl.indexS Tryd.underlying9 rfl rfl (by decide) hq243) rfl rfl ?_
        refine RP.sg 11 rfl rfl hS (fun w hS => Vl.move rfl) rfl rfl ?_
        obtain ⟨t244, hg245, h⟩ := h.bind
        refine RP.e 12 rfl (OW.callF (ls := [.tmp 26, .tmp 28, .tmp 29]) rfl Tryd.call52 (code_right.ok a173.B (bt (nth ([lit_2d2d2d, lit_726e2d, lit_72722d, lit_rrr, lit_rrr, lit_rrr, lit_rrr, lit_rrr, lit_rrr, lit_rrr, lit_702d2d, lit_72702d, lit_rrr, lit_72722d, lit_722d2d, lit_722d2d, lit_722d2d] : List ByteArray) a173.Op) 1) a174 _ hg245 hS)) rfl rfl ?_
        rintro _ w ⟨rfl, hS⟩
        have hS : St B w (Cl b230 [.int .i64 a173.Op, .int .i64 a173.A, .int .i64 a173.B, .int .i64 a173.C] 34 :: l) hf := hS
        refine ⟨fun _ => hS, ?_⟩
        refine RP.s 13 rfl rfl hS (fun w hS => Vl.pickT rfl rfl) rfl ?_
        refine RP.s 14 rfl rfl hS (fun w hS => Vl.move rfl) rfl ?_
        by_cases hc246 : t244 = true
        case pos =>
          have h := h.pos hc246
          refine RP.re 32 rfl (congrArg Value.bool (id hc246)) ?_
          refine RP.sg 15 rfl rfl hS (fun w hS => Vl.fieldAddr (a'' := ⟨b230, 3, none⟩) Tryd.underlying34 rfl Tryd.sizeOf3 rfl rfl) rfl rfl ?_
          refine RP.sg 16 rfl rfl hS (fun w hS => Vl.load Tryd.isAgg3 rfl (hS.cell 0 rfl rfl)) rfl rfl ?_
          refine RP.sg 17 rfl rfl hS (fun w hS => Vl.move rfl) rfl rfl ?_
          obtain ⟨hq247, h⟩ := h.req
          refine RP.sg 18 rfl rfl hS (fun w hS => Vl.indexS Tryd.underlying9 rfl rfl (by decide) hq247) rfl rfl ?_
          refine RP.v1 19 rfl (fun _ => hS) (Vl.move rfl) rfl rfl ?_
          obtain ⟨t248, hg249, h⟩ := h.bind
          refine RP.e 20 rfl (OW.callF (ls := [.tmp 34, .tmp 36, .tmp 37]) rfl Tryd.call52 (code_right.ok a173.C (bt (nth ([lit_2d2d2d, lit_726e2d, lit_72722d, lit_rrr, lit_rrr, lit_rrr, lit_rrr, lit_rrr, lit_rrr, lit_rrr, lit_702d2d, lit_72702d, lit_rrr, lit_72722d, lit_722d2d, lit_722d2d, lit_722d2d] : List ByteArray) a173.Op) 2) a174 _ hg249 hS)) rfl rfl ?_
          rintro _ w ⟨rfl, hS⟩
          have hS : St B w (Cl b230 [.int .i64 a173.Op, .int .i64 a173.A, .int .i64 a173.B, .int .i64 a173.C] 34 :: l) hf := hS
          refine ⟨fun _ => hS, ?_⟩
          refine RP.v1 21 rfl (fun _ => hS) (Vl.pickT rfl rfl) rfl rfl ?_
          refine RP.v1 22 rfl (by intro hx; cases hx) (Vl.assign rfl) rfl rfl ?_
          refine RP.nil ?_
          refine RQ.then_n ?_
          refine RC.ret ?_
          have e := h.some
          subst e
          refine RQ.ret0 (vs := [.bool t248]) Tryd.results50 ⟨rfl, trivial⟩ ?_
          exact ⟨rfl, (hS.dropAt 0 rfl)⟩
        case neg =>
          have h := h.neg hc246
          refine RP.re 32 rfl (congrArg Value.bool (eq_false_of hc246)) ?_
          refine RP.nn 15 rfl rfl hS rfl rfl ?_
          refine RP.nn 16 rfl rfl hS rfl rfl ?_
          refine RP.nn 17 rfl rfl hS rfl rfl ?_
          refine RP.nn 18 rfl rfl hS rfl rfl ?_
          refine RP.n1 19 rfl (fun _ => hS) rfl rfl ?_
          refine RP.n1 20 rfl (fun _ => hS) rfl rfl ?_
          refine RP.v1 21 rfl (fun _ => hS) (Vl.pickF rfl rfl) rfl rfl ?_
          refine RP.v1 22 rfl (by intro hx; cases hx) (Vl.assign rfl) rfl rfl ?_
          refine RP.nil ?_
          refine RQ.then_n ?_
          refine RC.ret ?_
          have e := h.some
          subst e
          refine RQ.ret0 (vs := [.bool false]) Tryd.results50 ⟨rfl, trivial⟩ ?_
          exact ⟨rfl, (hS.dropAt 0 rfl)⟩
      case neg =>
        have h := h.neg hc242
        refine RP.re 24 rfl (congrArg Value.bool (eq_false_of hc242)) ?_
        refine RP.nn 7 rfl rfl hS rfl rfl ?_
        refine RP.nn 8 rfl rfl hS rfl rfl ?_
        refine RP.nn 9 rfl rfl hS rfl rfl ?_
        refine RP.nn 10 rfl rfl hS rfl rfl ?_
        refine RP.nn 11 rfl rfl hS rfl rfl ?_
        refine RP.n1 12 rfl (fun _ => hS) rfl rfl ?_
        refine RP.s 13 rfl rfl hS (fun w hS => Vl.pickF rfl rfl) rfl ?_
        refine RP.s 14 rfl rfl hS (fun w hS => Vl.move rfl) rfl ?_
        refine RP.nn 15 rfl rfl hS rfl rfl ?_
        refine RP.nn 16 rfl rfl hS rfl rfl ?_
        refine RP.nn 17 rfl rfl hS rfl rfl ?_
        refine RP.nn 18 rfl rfl hS rfl rfl ?_
        refine RP.n1 19 rfl (fun _ => hS) rfl rfl ?_
        refine RP.n1 20 rfl (fun _ => hS) rfl rfl ?_
        refine RP.v1 21 rfl (fun _ => hS) (Vl.pickF rfl rfl) rfl rfl ?_
        refine RP.v1 22 rfl (by intro hx; cases hx) (Vl.assign rfl) rfl rfl ?_
        refine RP.nil ?_
        refine RQ.then_n ?_
        refine RC.ret ?_
        have e := h.some
        subst e
        refine RQ.ret0 (vs := [.bool false]) Tryd.results50 ⟨rfl, trivial⟩ ?_
        exact ⟨rfl, (hS.dropAt 0 rfl)⟩

/-! ### isochron/code.check: function 45 -/
noncomputable def code_check.l2b (a163 : List api_Instr) : Int → Option ((Int) ⊕ ((Int) ⊕ (Int × Int) ⊕ (Unit)))
  | (x321) => (if x321 < (a163.length : Int) then (if 0 ≤ x321 then ((code_may.f (nth a163 x321) (a163.length : Int)).bind fun t355 => (if t355 = true then some (.inl (IntKind.i64.wrap (x321 + 1))) else some (.inr (.inr (.inl (x321, 130)))))) else none) else some (.inr (.inr (.inr (())))))
noncomputable def code_check.l2 (a163 : List api_Instr) (s : Int) : Option ((Int) ⊕ (Int × Int) ⊕ (Unit)) := loopR (code_check.l2b a163) s
noncomputable def code_check.f (a163 : List api_Instr) : Option ((Int) ⊕ (Int × Int) ⊕ (Unit)) := (if 256 < (a163.length : Int) then some (.inl 2) else code_check.l2 a163 (0))
set_option maxRecDepth 100000 in
set_option maxHeartbeats 4000000 in
theorem code_check.ok {B : Base} {w : World} {l : List HProp} {hf : Hp} (a163 : List api_Instr) (A164 : Option Addr) (c165 : Nat) (hr166 : SlR E_api_Instr.rep hf A164 c165 a163) (r : (Int) ⊕ (Int × Int) ⊕ (Unit)) (h : code_check.f a163 = some r) (hS : St B w (l) hf) :
    Calls Tryd.prog 45 #[.slice A164 a163.length c165] w (Ret fun v w => match r with | .inl r_ => v = .iface 28 (.int .i64 r_) ∧ St B w (l) hf | .inr (.inl r_) => ∃ (b_1 : Nat), v = .iface 111 (.pointer (some ⟨b_1, 0, none⟩)) ∧ St B w (Cl b_1 [.int .i64 r_.1, .iface 28 (.int .i64 r_.2)] 113 :: l) hf | .inr (.inr (r_)) => v = .nilIface ∧ St B w (l) hf) := by
  have h := Holds.of h
  refine enter (args := [.slice A164 a163.length c165]) Tryd.func45 rfl Tryd.ntmps45 (Nat.le_of_ble_eq_true rfl) ?_
  refine RC.seq ?_
  refine RC.region ?_
  refine RL.s (Vl.assign rfl) rfl ?_
  refine RL.nil ?_
  refine RQ.then_n ?_
  refine RC.seq ?_
  refine RC.seq ?_
  refine RC.region ?_
  refine RL.s (Vl.move rfl) rfl ?_
  refine RL.s (Vl.lenSl Tryd.underlying35 rfl) rfl ?_
  refine RL.s (Vl.int rfl rfl rfl) rfl ?_
  refine RL.nil ?_
  refine RQ.then_n ?_
  by_cases hc303 : 256 < (a163.length : Int)
  case pos =>
    have h := h.pos hc303
    refine RC.re 7 rfl (congrArg Value.bool (decide_eq_true hc303)) ?_
    refine RC.condT rfl ?_
    refine RC.seq ?_
    refine RC.region ?_
    refine RL.s (Vl.makeIface Tryd.underlying28 rfl rfl) rfl ?_
    refine RL.s (Vl.assign rfl) rfl ?_
    refine RL.nil ?_
    refine RQ.then_n ?_
    refine RC.ret ?_
    refine RQ.ret ?_
    have e := h.some
    subst e
    refine RQ.ret0 (vs := [.iface 28 (.int .i64 2)]) Tryd.results45 ⟨rfl, trivial⟩ ?_
    exact ⟨rfl, hS⟩
  case neg =>
    have h := h.neg hc303
    refine RC.re 7 rfl (congrArg Value.bool (decide_eq_false hc303)) ?_
    refine RC.condF rfl ?_
    refine RC.skip ?_
    refine RQ.then_n ?_
    refine RC.seq ?_
    refine RC.seq ?_
    refine RC.region ?_
    refine RL.s (Vl.move rfl) rfl ?_
    refine RL.s (Vl.lenSl Tryd.underlying35 rfl) rfl ?_
    refine RL.s (Vl.move rfl) rfl ?_
    refine RL.nil ?_
    refine RQ.then_n ?_
    refine RC.block ?_
    refine fun a ha => RC.loop (N := 27) (body := (code_check.l2b a163)) (φ := (· = r)) (fun (s : Int) a w => ∃ (x321 : Int), s = (x321) ∧ Has 27 [(0, .slice A164 a163.length c165), (9, .slice A164 a163.length c165), (10, .int .i64 (a163.length : Int)), (11, .int .i64 x321)] a ∧ St B w (l) hf) ?_ (s0 := (0)) h ⟨0, rfl, ha.to ⟨rfl, rfl, rfl, rfl, trivial⟩, hS⟩
    rintro G341 x321 a w ⟨_, rfl, ha, hS⟩ h
    revert a
    show RC _ _ _ _ _ _
    refine RC.seq ?_
    refine RC.region ?_
    refine RL.s (Vl.int rfl rfl rfl) rfl ?_
    refine RL.nil ?_
    refine RQ.then_n ?_
    refine RC.seq ?_
    by_cases hc343 : x321 < (a163.length : Int)
    case pos =>
      have h := h.pos hc343
      refine RC.re 12 rfl (congrArg Value.bool (decide_eq_true hc343)) ?_
      refine RC.condT rfl ?_
      refine RC.skip ?_
      refine RQ.then_n ?_
      refine RC.seq ?_
      refine RC.block ?_
      refine RC.seq ?_
      refine RC.region ?_
      refine RL.s (Vl.move rfl) rfl ?_
      obtain ⟨hq352, h⟩ := h.req
      refine RL.s (Vl.indexAddr Tryd.underlying35 Tryd.sizeOf34 rfl rfl ((hr166.2.world hS.sub).adr hq352 hc343) hq352 hc343 rfl) rfl ?_
      refine RL.s (Vl.loadA Tryd.isAgg34 Tryd.sizeOf34 rfl rfl ((hr166.2.world hS.sub).cells hq352 hc343)) rfl ?_
      refine RL.e (OW.alloc (cs := [.int .i64 0, .int .i64 0, .int .i64 0, .int .i64 0]) hS Tryd.zeroValue34 rfl) rfl rfl ?_
      rintro _ w ⟨b354, rfl, hS⟩
      have hS : St B w (Cl b354 [.int .i64 0, .int .i64 0, .int .i64 0, .int .i64 0] 34 :: l) hf := hS
      refine RL.s (Vl.assign rfl) rfl ?_
      refine RL.e0 (OW.store (cs := [.int .i64 0, .int .i64 0, .int .i64 0, .int .i64 0]) (vs := [.int .i64 ((nth a163 x321).Op), .int .i64 ((nth a163 x321).A), .int .i64 ((nth a163 x321).B), .int .i64 ((nth a163 x321).C)]) (l' := Cl b354 [.int .i64 ((nth a163 x321).Op), .int .i64 ((nth a163 x321).A), .int .i64 ((nth a163 x321).B), .int .i64 ((nth a163 x321).C)] 34 :: l) 0 hS rfl rfl rfl rfl Tryd.sizeOf34 rfl rfl rfl rfl) rfl ?_
      rintro _ w ⟨rfl, hS⟩
      have hS : St B w (Cl b354 [.int .i64 ((nth a163 x321).Op), .int .i64 ((nth a163 x321).A), .int .i64 ((nth a163 x321).B), .int .i64 ((nth a163 x321).C)] 34 :: l) hf := hS
      refine RL.nil ?_
      refine RQ.then_n ?_
      refine RC.seq ?_
      refine RC.region ?_
      refine RL.s (Vl.loadA (vs := [.int .i64 ((nth a163 x321).Op), .int .i64 ((nth a163 x321).A), .int .i64 ((nth a163 x321).B), .int .i64 ((nth a163 x321).C)]) Tryd.isAgg34 Tryd.sizeOf34 rfl rfl (hS.cellsAt 0 rfl rfl)) rfl ?_
      refine RL.s (Vl.move rfl) rfl ?_
      refine RL.s (Vl.lenSl Tryd.underlying35 rfl) rfl ?_
      obtain ⟨t355, hg356, h⟩ := h.bind
      refine RL.e (OW.callF (ls := [.tmp 16, .tmp 18]) rfl Tryd.call50 (code_may.ok (nth a163 x321) (a163.length : Int) _ hg356 hS)) rfl rfl ?_
      rintro _ w ⟨rfl, hS⟩
      have hS : St B w (Cl b354 [.int .i64 ((nth a163 x321).Op), .int .i64 ((nth a163 x321).A), .int .i64 ((nth a163 x321).B), .int .i64 ((nth a163 x321).C)] 34 :: l) hf := hS
      refine RL.s (Vl.not rfl) rfl ?_
      refine RL.nil ?_
      refine RQ.then_n ?_
      by_cases hc357 : t355 = true
      case pos =>
        have h := h.pos hc357
        refine RC.re 20 rfl (congrArg Value.bool (notb_pos hc357)) ?_
        refine RC.condF rfl ?_
        refine RC.skip ?_
        refine RQ.inB_n ?_
        refine RQ.then_n ?_
        refine RC.region ?_
        refine RL.s (Vl.int rfl rfl rfl) rfl ?_
        refine RL.s (Vl.move rfl) rfl ?_
        refine RL.nil ?_
        exact fun a ha => ⟨(IntKind.i64.wrap (x321 + 1)), ⟨(IntKind.i64.wrap (x321 + 1)), rfl, ha.to ⟨rfl, rfl, rfl, rfl, trivial⟩, (hS.dropAt 0 rfl)⟩, h.some⟩
      case neg =>
        have h := h.neg hc357
        refine RC.re 20 rfl (congrArg Value.bool (notb_neg hc357)) ?_
        refine RC.condT rfl ?_
        refine RC.seq ?_
        refine RC.region ?_
        refine RL.s (Vl.move rfl) rfl ?_
        refine RL.s (Vl.makeIface Tryd.underlying28 rfl rfl) rfl ?_
        refine RL.s (Vl.build (v := .agg #[.int .i64 x321, .iface 28 (.int .i64 130)]) (parts := [(0, .tmp 21), (1, .tmp 22)]) rfl (by kernel_rfl)) rfl ?_
        refine RL.e (OW.box (cs := [.int .i64 x321, .iface 28 (.int .i64 130)]) hS rfl rfl) rfl rfl ?_
        rintro _ w ⟨b359, rfl, hS⟩
        have hS : St B w (Cl b359 [.int .i64 x321, .iface 28 (.int .i64 130)] 113 :: Cl b354 [.int .i64 ((nth a163 x321).Op), .int .i64 ((nth a163 x321).A), .int .i64 ((nth a163 x321).B), .int .i64 ((nth a163 x321).C)] 34 :: l) hf := hS
        refine RL.s (Vl.makeIface Tryd.underlying111 rfl rfl) rfl ?_
        refine RL.s (Vl.assign rfl) rfl ?_
        refine RL.nil ?_
        refine RQ.then_n ?_
        refine RC.ret ?_
        refine RQ.inB_ret ?_
        refine RQ.ret ?_
        have h := h.inrS
        refine RQ.ret ?_
        refine RQ.inB_ret ?_
        refine RQ.ret ?_
        have e := h.some
        subst e
        refine RQ.ret0 (vs := [.iface 111 (.pointer (some ⟨b359, 0, none⟩))]) Tryd.results45 ⟨rfl, trivial⟩ ?_
        exact ⟨b359, rfl, (hS.dropAt 1 rfl)⟩
    case neg =>
      have h := h.neg hc343
      refine RC.re 12 rfl (congrArg Value.bool (decide_eq_false hc343)) ?_
      refine RC.condF rfl ?_
      refine RC.exit ?_
      refine RQ.exitT ?_
      have h := h.inrS
      refine RQ.exitT ?_
      refine RQ.inB_hit ?_
      refine RQ.then_n ?_
      refine RC.seq ?_
      refine RC.region ?_
      refine RL.s (Vl.assign rfl) rfl ?_
      refine RL.nil ?_
      refine RQ.then_n ?_
      refine RC.ret ?_
      have e := h.some
      subst e
      refine RQ.ret0 (vs := [.nilIface]) Tryd.results45 ⟨rfl, trivial⟩ ?_
      exact ⟨rfl, hS⟩

/-! ### (*isochron/code.wrong).Unwrap: function 88 -/
noncomputable def code_wrong_Unwrap.f (a386 : Int) (a387 : Int) : Option (Int) := some a387
set_option maxRecDepth 100000 in
set_option maxHeartbeats 4000000 in
theorem code_wrong_Unwrap.ok {B : Base} {w : World} {l : List HProp} {hf : Hp} (a386 : Int) (a387 : Int) (b385 : Nat) (r : Int) (h : code_wrong_Unwrap.f a386 a387 = some r) (hS : St B w (Cl b385 [.int .i64 a386, .iface 28 (.int .i64 a387)] 113 :: l) hf) :
    Calls Tryd.prog 88 #[.pointer (some ⟨b385, 0, none⟩)] w (Ret fun v w => v = .iface 28 (.int .i64 r) ∧ St B w (Cl b385 [.int .i64 a386, .iface 28 (.int .i64 a387)] 113 :: l) hf) := by
  have h := Holds.of h
  refine enter (args := [.pointer (some ⟨b385, 0, none⟩)]) Tryd.func88 rfl Tryd.ntmps88 (Nat.le_of_ble_eq_true rfl) ?_
  refine RC.seq ?_
  refine RC.region ?_
  refine RL.s (Vl.assign rfl) rfl ?_
  refine RL.nil ?_
  refine RQ.then_n ?_
  refine RC.seq ?_
  refine RC.region ?_
  refine RL.s (Vl.move rfl) rfl ?_
  refine RL.s (Vl.nilCheck rfl) rfl ?_
  refine RL.s (Vl.fieldAddr (a'' := ⟨b385, 1, none⟩) Tryd.underlying113 rfl Tryd.sizeOf66 rfl rfl) rfl ?_
  refine RL.s (Vl.load Tryd.isAgg66 rfl (hS.cell 0 rfl rfl)) rfl ?_
  refine RL.s (Vl.assign rfl) rfl ?_
  refine RL.nil ?_
  refine RQ.then_n ?_
  refine RC.ret ?_
  have e := h.some
  subst e
  refine RQ.ret0 (vs := [.iface 28 (.int .i64 a387)]) Tryd.results88 ⟨rfl, trivial⟩ ?_
  exact ⟨rfl, hS⟩

/-! ### errors.is: function 43 -/
noncomputable def errors_is_2.f (a378 : Int) (a379 : Int) (a380 : Int) (a381 : Bool) : Option (Bool) := (if a381 = true then ((code_wrong_Unwrap.f a378 a379).bind fun t396 => (if t396 = a380 then some true else some false)) else ((code_wrong_Unwrap.f a378 a379).bind fun t400 => some false))
set_option maxRecDepth 100000 in
set_option maxHeartbeats 4000000 in
theorem errors_is_2.ok {B : Base} {w : World} {l : List HProp} {hf : Hp} (a378 : Int) (a379 : Int) (a380 : Int) (a381 : Bool) (b377 : Nat) (r : Bool) (h : errors_is_2.f a378 a379 a380 a381 = some r) (hS : St B w (Cl b377 [.int .i64 a378, .iface 28 (.int .i64 a379)] 113 :: l) hf) :
    Calls Tryd.prog 43 #[.iface 111 (.pointer (some ⟨b377, 0, none⟩)), .iface 28 (.int .i64 a380), .bool a381] w (Ret fun v w => v = .bool r ∧ St B w (Cl b377 [.int .i64 a378, .iface 28 (.int .i64 a379)] 113 :: l) hf) := by
  have h := Holds.of h
  refine enter (args := [.iface 111 (.pointer (some ⟨b377, 0, none⟩)), .iface 28 (.int .i64 a380), .bool a381]) Tryd.func43 rfl Tryd.ntmps43 (Nat.le_of_ble_eq_true rfl) ?_
  refine RC.seq ?_
  refine RC.region ?_
  refine RL.s (Vl.assign rfl) rfl ?_
  refine RL.nil ?_
  refine RQ.then_n ?_
  refine RC.block ?_
  refine RC.unroll ?_
  refine RQ.round ?_
  refine RC.block ?_
  refine RC.seq ?_
  refine RC.seq ?_
  refine RC.region ?_
  refine RL.s (Vl.move rfl) rfl ?_
  refine RL.s (Vl.move rfl) rfl ?_
  by_cases hc395 : a381 = true
  case pos =>
    have h := h.pos hc395
    refine RL.re 15 rfl (congrArg Value.bool (id hc395)) ?_
    refine RL.sg (Vl.move rfl) rfl rfl ?_
    refine RL.sg (Vl.move rfl) rfl rfl ?_
    refine RL.sg (Vl.ifaceNeq rfl rfl Tryd.underlying66 rfl) rfl rfl ?_
    refine RL.s (Vl.pickT rfl rfl) rfl ?_
    refine RL.nil ?_
    refine RQ.then_n ?_
    refine RC.condF rfl ?_
    refine RC.skip ?_
    refine RQ.then_n ?_
    refine RC.seq ?_
    refine RC.seq ?_
    refine RC.region ?_
    refine RL.s (Vl.move rfl) rfl ?_
    refine RL.s (Vl.tassert (r := .tuple #[.nilIface, .bool false]) rfl (fun w => run_typeAssert_lacksB Tryd.underlying108 (by kernel_rfl) (by kernel_rfl) _ _ w)) rfl ?_
    refine RL.s (Vl.move rfl) rfl ?_
    refine RL.s (Vl.extract rfl rfl) rfl ?_
    refine RL.s (Vl.extract rfl rfl) rfl ?_
    refine RL.s (Vl.assign rfl) rfl ?_
    refine RL.s (Vl.assign rfl) rfl ?_
    refine RL.nil ?_
    refine RQ.then_n ?_
    refine RC.seq ?_
    refine RC.region ?_
    refine RL.s (Vl.move rfl) rfl ?_
    refine RL.s (Vl.move rfl) rfl ?_
    refine RL.nn rfl rfl ?_
    refine RL.nn rfl rfl ?_
    refine RL.nn rfl rfl ?_
    refine RL.s (Vl.pickF rfl rfl) rfl ?_
    refine RL.nil ?_
    refine RQ.then_n ?_
    refine RC.condF rfl ?_
    refine RC.skip ?_
    refine RQ.then_n ?_
    refine RC.seq ?_
    refine RC.region ?_
    refine RL.s (Vl.move rfl) rfl ?_
    refine RL.nil ?_
    refine RQ.then_n ?_
    refine RC.block ?_
    refine RC.seq ?_
    refine RC.region ?_
    refine RL.s (Vl.tassert (r := .tuple #[.iface 111 (.pointer (some ⟨b377, 0, none⟩)), .bool true]) rfl (fun w => run_typeAssert_hasB Tryd.underlying103 (by kernel_rfl) _ _ w)) rfl ?_
    refine RL.s (Vl.extract rfl rfl) rfl ?_
    refine RL.s (Vl.extract rfl rfl) rfl ?_
    refine RL.nil ?_
    refine RQ.then_n ?_
    refine RC.condT rfl ?_
    refine RC.seq ?_
    refine RC.region ?_
    refine RL.s (Vl.assign rfl) rfl ?_
    refine RL.nil ?_
    refine RQ.then_n ?_
    refine RC.seq ?_
    refine RC.region ?_
    refine RL.s (Vl.move rfl) rfl ?_
    obtain ⟨t396, hg397, h⟩ := h.bind
    refine RL.e (OW.invoke (F := 88) (u' := .pointer (some ⟨b377, 0, none⟩)) (ls := []) rfl rfl (fun w => by kernel_rfl) Tryd.call88 rfl (code_wrong_Unwrap.ok a378 a379 b377 _ hg397 hS)) rfl rfl ?_
    rintro _ w ⟨rfl, hS⟩
    have hS : St B w (Cl b377 [.int .i64 a378, .iface 28 (.int .i64 a379)] 113 :: l) hf := hS
    refine RL.s (Vl.assign rfl) rfl ?_
    refine RL.nil ?_
    refine RQ.then_n ?_
    refine RC.seq ?_
    refine RC.region ?_
    refine RL.s (Vl.move rfl) rfl ?_
    refine RL.s (Vl.bin (v := .bool false) rfl rfl (by kernel_rfl)) rfl ?_
    refine RL.nil ?_
    refine RQ.then_n ?_
    refine RC.condF rfl ?_
    refine RC.skip ?_
    refine RQ.inB_n ?_
    refine RQ.inB_n ?_
    refine RQ.then_n ?_
    refine RQ.round ?_
    refine RC.block ?_
    refine RC.seq ?_
    refine RC.seq ?_
    refine RC.region ?_
    refine RL.s (Vl.move rfl) rfl ?_
    refine RL.s (Vl.move rfl) rfl ?_
    refine RL.re 15 rfl (congrArg Value.bool (id hc395)) ?_
    refine RL.sg (Vl.move rfl) rfl rfl ?_
    refine RL.sg (Vl.move rfl) rfl rfl ?_
    refine RL.sg (Vl.ifaceInt rfl rfl Tryd.underlying66 Tryd.underlying28 Tryd.type28 rfl) rfl rfl ?_
    refine RL.s (Vl.pickT rfl rfl) rfl ?_
    refine RL.nil ?_
    refine RQ.then_n ?_
    by_cases hc399 : t396 = a380
    case pos =>
      have h := h.pos hc399
      refine RC.re 19 rfl (congrArg Value.bool (decide_eq_true hc399)) ?_
      refine RC.condT rfl ?_
      refine RC.seq ?_
      refine RC.region ?_
      refine RL.s (Vl.assign rfl) rfl ?_
      refine RL.nil ?_
      refine RQ.then_n ?_
      refine RC.ret ?_
      refine RQ.ret ?_
      refine RQ.inB_ret ?_
      refine RQ.ret ?_
      refine RQ.inB_ret ?_
      have e := h.some
      subst e
      refine RQ.ret0 (vs := [.bool true]) Tryd.results43 ⟨rfl, trivial⟩ ?_
      exact ⟨rfl, hS⟩
    case neg =>
      have h := h.neg hc399
      refine RC.re 19 rfl (congrArg Value.bool (decide_eq_false hc399)) ?_
      refine RC.condF rfl ?_
      refine RC.skip ?_
      refine RQ.then_n ?_
      refine RC.seq ?_
      refine RC.seq ?_
      refine RC.region ?_
      refine RL.s (Vl.move rfl) rfl ?_
      refine RL.s (Vl.tassert (r := .tuple #[.nilIface, .bool false]) rfl (fun w => run_typeAssert_lacksB Tryd.underlying108 (by kernel_rfl) (by kernel_rfl) _ _ w)) rfl ?_
      refine RL.s (Vl.move rfl) rfl ?_
      refine RL.s (Vl.extract rfl rfl) rfl ?_
      refine RL.s (Vl.extract rfl rfl) rfl ?_
      refine RL.s (Vl.assign rfl) rfl ?_
      refine RL.s (Vl.assign rfl) rfl ?_
      refine RL.nil ?_
      refine RQ.then_n ?_
      refine RC.seq ?_
      refine RC.region ?_
      refine RL.s (Vl.move rfl) rfl ?_
      refine RL.s (Vl.move rfl) rfl ?_
      refine RL.nn rfl rfl ?_
      refine RL.nn rfl rfl ?_
      refine RL.nn rfl rfl ?_
      refine RL.s (Vl.pickF rfl rfl) rfl ?_
      refine RL.nil ?_
      refine RQ.then_n ?_
      refine RC.condF rfl ?_
      refine RC.skip ?_
      refine RQ.then_n ?_
      refine RC.seq ?_
      refine RC.region ?_
      refine RL.s (Vl.move rfl) rfl ?_
      refine RL.nil ?_
      refine RQ.then_n ?_
      refine RC.block ?_
      refine RC.seq ?_
      refine RC.region ?_
      refine RL.s (Vl.tassert (r := .tuple #[.nilIface, .bool false]) rfl (fun w => run_typeAssert_lacksB Tryd.underlying103 (by kernel_rfl) (by kernel_rfl) _ _ w)) rfl ?_
      refine RL.s (Vl.extract rfl rfl) rfl ?_
      refine RL.s (Vl.extract rfl rfl) rfl ?_
      refine RL.nil ?_
      refine RQ.then_n ?_
      refine RC.condF rfl ?_
      refine RC.seq ?_
      refine RC.region ?_
      refine RL.s (Vl.tassert (r := .tuple #[.nilIface, .bool false]) rfl (fun w => run_typeAssert_lacksB Tryd.underlying105 (by kernel_rfl) (by kernel_rfl) _ _ w)) rfl ?_
      refine RL.s (Vl.extract rfl rfl) rfl ?_
      refine RL.s (Vl.extract rfl rfl) rfl ?_
      refine RL.nil ?_
      refine RQ.then_n ?_
      refine RC.condF rfl ?_
      refine RC.seq ?_
      refine RC.region ?_
      refine RL.s (Vl.assign rfl) rfl ?_
      refine RL.nil ?_
      refine RQ.then_n ?_
      refine RC.seq ?_
      refine RC.region ?_
      refine RL.s (Vl.assign rfl) rfl ?_
      refine RL.nil ?_
      refine RQ.then_n ?_
      refine RC.ret ?_
      refine RQ.inB_ret ?_
      refine RQ.inB_ret ?_
      refine RQ.ret ?_
      refine RQ.inB_ret ?_
      have e := h.some
      subst e
      refine RQ.ret0 (vs := [.bool false]) Tryd.results43 ⟨rfl, trivial⟩ ?_
      exact ⟨rfl, hS⟩
  case neg =>
    have h := h.neg hc395
    refine RL.re 15 rfl (congrArg Value.bool (eq_false_of hc395)) ?_
    refine RL.nn rfl rfl ?_
    refine RL.nn rfl rfl ?_
    refine RL.nn rfl rfl ?_
    refine RL.s (Vl.pickF rfl rfl) rfl ?_
    refine RL.nil ?_
    refine RQ.then_n ?_
    refine RC.condF rfl ?_
    refine RC.skip ?_
    refine RQ.then_n ?_
    refine RC.seq ?_
    refine RC.seq ?_
    refine RC.region ?_
    refine RL.s (Vl.move rfl) rfl ?_
    refine RL.s (Vl.tassert (r := .tuple #[.nilIface, .bool false]) rfl (fun w => run_typeAssert_lacksB Tryd.underlying108 (by kernel_rfl) (by kernel_rfl) _ _ w)) rfl ?_
    refine RL.s (Vl.move rfl) rfl ?_
    refine RL.s (Vl.extract rfl rfl) rfl ?_
    refine RL.s (Vl.extract rfl rfl) rfl ?_
    refine RL.s (Vl.assign rfl) rfl ?_
    refine RL.s (Vl.assign rfl) rfl ?_
    refine RL.nil ?_
    refine RQ.then_n ?_
    refine RC.seq ?_
    refine RC.region ?_
    refine RL.s (Vl.move rfl) rfl ?_
    refine RL.s (Vl.move rfl) rfl ?_
    refine RL.nn rfl rfl ?_
    refine RL.nn rfl rfl ?_
    refine RL.nn rfl rfl ?_
    refine RL.s (Vl.pickF rfl rfl) rfl ?_
    refine RL.nil ?_
    refine RQ.then_n ?_
    refine RC.condF rfl ?_
    refine RC.skip ?_
    refine RQ.then_n ?_
    refine RC.seq ?_
    refine RC.region ?_
    refine RL.s (Vl.move rfl) rfl ?_
    refine RL.nil ?_
    refine RQ.then_n ?_
    refine RC.block ?_
    refine RC.seq ?_
    refine RC.region ?_
    refine RL.s (Vl.tassert (r := .tuple #[.iface 111 (.pointer (some ⟨b377, 0, none⟩)), .bool true]) rfl (fun w => run_typeAssert_hasB Tryd.underlying103 (by kernel_rfl) _ _ w)) rfl ?_
    refine RL.s (Vl.extract rfl rfl) rfl ?_
    refine RL.s (Vl.extract rfl rfl) rfl ?_
    refine RL.nil ?_
    refine RQ.then_n ?_
    refine RC.condT rfl ?_
    refine RC.seq ?_
    refine RC.region ?_
    refine RL.s (Vl.assign rfl) rfl ?_
    refine RL.nil ?_
    refine RQ.then_n ?_
    refine RC.seq ?_
    refine RC.region ?_
    refine RL.s (Vl.move rfl) rfl ?_
    obtain ⟨t400, hg401, h⟩ := h.bind
    refine RL.e (OW.invoke (F := 88) (u' := .pointer (some ⟨b377, 0, none⟩)) (ls := []) rfl rfl (fun w => by kernel_rfl) Tryd.call88 rfl (code_wrong_Unwrap.ok a378 a379 b377 _ hg401 hS)) rfl rfl ?_
    rintro _ w ⟨rfl, hS⟩
    have hS : St B w (Cl b377 [.int .i64 a378, .iface 28 (.int .i64 a379)] 113 :: l) hf := hS
    refine RL.s (Vl.assign rfl) rfl ?_
    refine RL.nil ?_
    refine RQ.then_n ?_
    refine RC.seq ?_
    refine RC.region ?_
    refine RL.s (Vl.move rfl) rfl ?_
    refine RL.s (Vl.bin (v := .bool false) rfl rfl (by kernel_rfl)) rfl ?_
    refine RL.nil ?_
    refine RQ.then_n ?_
    refine RC.condF rfl ?_
    refine RC.skip ?_
    refine RQ.inB_n ?_
    refine RQ.inB_n ?_
    refine RQ.then_n ?_
    refine RQ.round ?_
    refine RC.block ?_
    refine RC.seq ?_
    refine RC.seq ?_
    refine RC.region ?_
    refine RL.s (Vl.move rfl) rfl ?_
    refine RL.s (Vl.move rfl) rfl ?_
    refine RL.re 15 rfl (congrArg Value.bool (eq_false_of hc395)) ?_
    refine RL.nn rfl rfl ?_
    refine RL.nn rfl rfl ?_
    refine RL.nn rfl rfl ?_
    refine RL.s (Vl.pickF rfl rfl) rfl ?_
    refine RL.nil ?_
    refine RQ.then_n ?_
    refine RC.condF rfl ?_
    refine RC.skip ?_
    refine RQ.then_n ?_
    refine RC.seq ?_
    refine RC.seq ?_
    refine RC.region ?_
    refine RL.s (Vl.move rfl) rfl ?_
    refine RL.s (Vl.tassert (r := .tuple #[.nilIface, .bool false]) rfl (fun w => run_typeAssert_lacksB Tryd.underlying108 (by kernel_rfl) (by kernel_rfl) _ _ w)) rfl ?_
    refine RL.s (Vl.move rfl) rfl ?_
    refine RL.s (Vl.extract rfl rfl) rfl ?_
    refine RL.s (Vl.extract rfl rfl) rfl ?_
    refine RL.s (Vl.assign rfl) rfl ?_
    refine RL.s (Vl.assign rfl) rfl ?_
    refine RL.nil ?_
    refine RQ.then_n ?_
    refine RC.seq ?_
    refine RC.region ?_
    refine RL.s (Vl.move rfl) rfl ?_
    refine RL.s (Vl.move rfl) rfl ?_
    refine RL.nn rfl rfl ?_
    refine RL.nn rfl rfl ?_
    refine RL.nn rfl rfl ?_
    refine RL.s (Vl.pickF rfl rfl) rfl ?_
    refine RL.nil ?_
    refine RQ.then_n ?_
    refine RC.condF rfl ?_
    refine RC.skip ?_
    refine RQ.then_n ?_
    refine RC.seq ?_
    refine RC.region ?_
    refine RL.s (Vl.move rfl) rfl ?_
    refine RL.nil ?_
    refine RQ.then_n ?_
    refine RC.block ?_
    refine RC.seq ?_
    refine RC.region ?_
    refine RL.s (Vl.tassert (r := .tuple #[.nilIface, .bool false]) rfl (fun w => run_typeAssert_lacksB Tryd.underlying103 (by kernel_rfl) (by kernel_rfl) _ _ w)) rfl ?_
    refine RL.s (Vl.extract rfl rfl) rfl ?_
    refine RL.s (Vl.extract rfl rfl) rfl ?_
    refine RL.nil ?_
    refine RQ.then_n ?_
    refine RC.condF rfl ?_
    refine RC.seq ?_
    refine RC.region ?_
    refine RL.s (Vl.tassert (r := .tuple #[.nilIface, .bool false]) rfl (fun w => run_typeAssert_lacksB Tryd.underlying105 (by kernel_rfl) (by kernel_rfl) _ _ w)) rfl ?_
    refine RL.s (Vl.extract rfl rfl) rfl ?_
    refine RL.s (Vl.extract rfl rfl) rfl ?_
    refine RL.nil ?_
    refine RQ.then_n ?_
    refine RC.condF rfl ?_
    refine RC.seq ?_
    refine RC.region ?_
    refine RL.s (Vl.assign rfl) rfl ?_
    refine RL.nil ?_
    refine RQ.then_n ?_
    refine RC.seq ?_
    refine RC.region ?_
    refine RL.s (Vl.assign rfl) rfl ?_
    refine RL.nil ?_
    refine RQ.then_n ?_
    refine RC.ret ?_
    refine RQ.inB_ret ?_
    refine RQ.inB_ret ?_
    refine RQ.ret ?_
    refine RQ.inB_ret ?_
    have e := h.some
    subst e
    refine RQ.ret0 (vs := [.bool false]) Tryd.results43 ⟨rfl, trivial⟩ ?_
    exact ⟨rfl, hS⟩

/-! ### errors.Is: function 22 -/
noncomputable def errors_Is_2.f (a373 : Int) (a374 : Int) (a375 : Int) : Option (Bool) := ((errors_is_2.f a373 a374 a375 true).bind fun t404 => some t404)
set_option maxRecDepth 100000 in
set_option maxHeartbeats 4000000 in
theorem errors_Is_2.ok {B : Base} {w : World} {l : List HProp} {hf : Hp} (a373 : Int) (a374 : Int) (a375 : Int) (b372 : Nat) (r : Bool) (h : errors_Is_2.f a373 a374 a375 = some r) (hS : St B w (Cl b372 [.int .i64 a373, .iface 28 (.int .i64 a374)] 113 :: l) hf) :
    Calls Tryd.prog 22 #[.iface 111 (.pointer (some ⟨b372, 0, none⟩)), .iface 28 (.int .i64 a375)] w (Ret fun v w => v = .bool r ∧ St B w (Cl b372 [.int .i64 a373, .iface 28 (.int .i64 a374)] 113 :: l) hf) := by
  have h := Holds.of h
  refine enter (args := [.iface 111 (.pointer (some ⟨b372, 0, none⟩)), .iface 28 (.int .i64 a375)]) Tryd.func22 rfl Tryd.ntmps22 (Nat.le_of_ble_eq_true rfl) ?_
  refine RC.seq ?_
  refine RC.region ?_
  refine RL.s (Vl.assign rfl) rfl ?_
  refine RL.nil ?_
  refine RQ.then_n ?_
  refine RC.seq ?_
  refine RC.seq ?_
  refine RC.region ?_
  refine RL.s (Vl.move rfl) rfl ?_
  refine RL.s (Vl.bin (v := .bool false) rfl rfl (by kernel_rfl)) rfl ?_
  refine RL.s (Vl.move rfl) rfl ?_
  refine RL.sg (Vl.move rfl) rfl rfl ?_
  refine RL.sg (Vl.bin (v := .bool false) rfl rfl (by kernel_rfl)) rfl rfl ?_
  refine RL.s (Vl.pickF rfl rfl) rfl ?_
  refine RL.nil ?_
  refine RQ.then_n ?_
  refine RC.condF rfl ?_
  refine RC.skip ?_
  refine RQ.then_n ?_
  refine RC.seq ?_
  refine RC.region ?_
  refine RL.s (Vl.move rfl) rfl ?_
  refine RL.s (Vl.extern (ls := [.tmp 15]) (v := .iface 96 (.agg #[.pointer (some ⟨1, 28, none⟩)])) rfl Tryd.func42 (by kernel_rfl) (by kernel_rfl) (by kernel_rfl) (e := Extern.ReflectliteType.typeOf) (by kernel_rfl) (fun w => by kernel_rfl)) rfl ?_
  refine RL.s (Vl.invokeX (F := 78) (ls := []) (v := .bool true) (u' := .agg #[.pointer (some ⟨1, 28, none⟩)]) rfl rfl (fun w => by kernel_rfl) Tryd.func78 (by kernel_rfl) (by kernel_rfl) (by kernel_rfl) (e := (Extern.ReflectliteType.method fun t => do Extern.Rtype.noPackHeld "Comparable" t; pure (.bool (← typeInfo t).comparable))) (by kernel_rfl) (fun w => by kernel_rfl)) rfl ?_
  refine RL.s (Vl.assign rfl) rfl ?_
  refine RL.nil ?_
  refine RQ.then_n ?_
  refine RC.seq ?_
  refine RC.region ?_
  refine RL.s (Vl.move rfl) rfl ?_
  refine RL.s (Vl.move rfl) rfl ?_
  refine RL.s (Vl.move rfl) rfl ?_
  obtain ⟨t404, hg405, h⟩ := h.bind
  refine RL.e (OW.callF (ls := [.tmp 18, .tmp 19, .tmp 20]) rfl Tryd.call43 (errors_is_2.ok a373 a374 a375 true b372 _ hg405 hS)) rfl rfl ?_
  rintro _ w ⟨rfl, hS⟩
  have hS : St B w (Cl b372 [.int .i64 a373, .iface 28 (.int .i64 a374)] 113 :: l) hf := hS
  refine RL.s (Vl.assign rfl) rfl ?_
  refine RL.nil ?_
  refine RQ.then_n ?_
  refine RC.ret ?_
  have e := h.some
  subst e
  refine RQ.ret0 (vs := [.bool t404]) Tryd.results22 ⟨rfl, trivial⟩ ?_
  exact ⟨rfl, hS⟩

/-! ### errors.Is: function 22 -/
noncomputable def errors_Is_3.f (a409 : Int) : Option (Bool) := some false
set_option maxRecDepth 100000 in
set_option maxHeartbeats 4000000 in
theorem errors_Is_3.ok {B : Base} {w : World} {l : List HProp} {hf : Hp} (a409 : Int) (r : Bool) (h : errors_Is_3.f a409 = some r) (hS : St B w (l) hf) :
    Calls Tryd.prog 22 #[.nilIface, .iface 28 (.int .i64 a409)] w (Ret fun v w => v = .bool r ∧ St B w (l) hf) := by
  have h := Holds.of h
  refine enter (args := [.nilIface, .iface 28 (.int .i64 a409)]) Tryd.func22 rfl Tryd.ntmps22 (Nat.le_of_ble_eq_true rfl) ?_
  refine RC.seq ?_
  refine RC.region ?_
  refine RL.s (Vl.assign rfl) rfl ?_
  refine RL.nil ?_
  refine RQ.then_n ?_
  refine RC.seq ?_
  refine RC.seq ?_
  refine RC.region ?_
  refine RL.s (Vl.move rfl) rfl ?_
  refine RL.s (Vl.bin (v := .bool true) rfl rfl (by kernel_rfl)) rfl ?_
  refine RL.s (Vl.move rfl) rfl ?_
  refine RL.nn rfl rfl ?_
  refine RL.nn rfl rfl ?_
  refine RL.s (Vl.pickT rfl rfl) rfl ?_
  refine RL.nil ?_
  refine RQ.then_n ?_
  refine RC.condT rfl ?_
  refine RC.seq ?_
  refine RC.region ?_
  refine RL.s (Vl.move rfl) rfl ?_
  refine RL.s (Vl.move rfl) rfl ?_
  refine RL.s (Vl.bin (v := .bool false) rfl rfl (by kernel_rfl)) rfl ?_
  refine RL.s (Vl.assign rfl) rfl ?_
  refine RL.nil ?_
  refine RQ.then_n ?_
  refine RC.ret ?_
  refine RQ.ret ?_
  have e := h.some
  subst e
  refine RQ.ret0 (vs := [.bool false]) Tryd.results22 ⟨rfl, trivial⟩ ?_
  exact ⟨rfl, hS⟩

/-! ### isochron/code.Check: function 31 -/
noncomputable def code_Check.f (a159 : List api_Instr) : Option (Int) := ((code_check.f a159).bind fun t413 => match t413 with | .inl y415 => ((errors_Is.f y415 2).bind fun t416 => (if t416 = true then some 2 else some 130)) | .inr (.inl (y419, y420)) => ((errors_Is_2.f y419 y420 2).bind fun t423 => (if t423 = true then some 2 else some 130)) | .inr (.inr (_)) => ((errors_Is_3.f 2).bind fun t426 => (if t426 = true then some 2 else some 0)))
set_option maxRecDepth 100000 in
set_option maxHeartbeats 4000000 in
theorem code_Check.ok {B : Base} {w : World} {l : List HProp} {hf : Hp} (a159 : List api_Instr) (A160 : Option Addr) (c161 : Nat) (hr162 : SlR E_api_Instr.rep hf A160 c161 a159) (r : Int) (h : code_Check.f a159 = some r) (hS : St B w (l) hf) :
    Calls Tryd.prog 31 #[.slice A160 a159.length c161] w (Ret fun v w => v = .int .i64 r ∧ St B w (l) hf) := by
  have h := Holds.of h
  refine enter (args := [.slice A160 a159.length c161]) Tryd.func31 rfl Tryd.ntmps31 (Nat.le_of_ble_eq_true rfl) ?_
  refine RC.seq ?_
  refine RC.region ?_
  refine RL.s (Vl.assign rfl) rfl ?_
  refine RL.nil ?_
  refine RQ.then_n ?_
  refine RC.seq ?_
  refine RC.seq ?_
  refine RC.region ?_
  refine RL.s (Vl.move rfl) rfl ?_
  obtain ⟨t413, hg414, h⟩ := h.bind
  rcases t413 with y415 | ⟨y419, y420⟩ | _
  · refine RL.e (OW.callF (ls := [.tmp 4]) rfl Tryd.call45 (code_check.ok a159 A160 c161 hr162 _ hg414 hS)) rfl rfl ?_
    rintro _ w ⟨rfl, hS⟩
    have hS : St B w (l) hf := hS
    refine RL.s (Vl.assign rfl) rfl ?_
    refine RL.nil ?_
    refine RQ.then_n ?_
    refine RC.block ?_
    refine RC.seq ?_
    refine RC.region ?_
    refine RL.s (Vl.move rfl) rfl ?_
    refine RL.s (Vl.makeIface Tryd.underlying28 rfl rfl) rfl ?_
    obtain ⟨t416, hg417, h⟩ := h.bind
    refine RL.e (OW.callF (ls := [.tmp 7, .tmp 8]) rfl Tryd.call22 (errors_Is.ok y415 2 _ hg417 hS)) rfl rfl ?_
    rintro _ w ⟨rfl, hS⟩
    have hS : St B w (l) hf := hS
    refine RL.s (Vl.assign rfl) rfl ?_
    refine RL.nil ?_
    refine RQ.then_n ?_
    by_cases hc418 : t416 = true
    case pos =>
      have h := h.pos hc418
      refine RC.re 6 rfl (congrArg Value.bool (id hc418)) ?_
      refine RC.condT rfl ?_
      refine RC.seq ?_
      refine RC.region ?_
      refine RL.s (Vl.assign rfl) rfl ?_
      refine RL.nil ?_
      refine RQ.then_n ?_
      refine RC.ret ?_
      refine RQ.inB_ret ?_
      refine RQ.ret ?_
      have e := h.some
      subst e
      refine RQ.ret0 (vs := [.int .i64 2]) Tryd.results31 ⟨rfl, trivial⟩ ?_
      exact ⟨rfl, hS⟩
    case neg =>
      have h := h.neg hc418
      refine RC.re 6 rfl (congrArg Value.bool (eq_false_of hc418)) ?_
      refine RC.condF rfl ?_
      refine RC.seq ?_
      refine RC.region ?_
      refine RL.s (Vl.move rfl) rfl ?_
      refine RL.s (Vl.bin (v := .bool true) rfl rfl (by kernel_rfl)) rfl ?_
      refine RL.s (Vl.assign rfl) rfl ?_
      refine RL.nil ?_
      refine RQ.then_n ?_
      refine RC.condT rfl ?_
      refine RC.seq ?_
      refine RC.region ?_
      refine RL.s (Vl.assign rfl) rfl ?_
      refine RL.nil ?_
      refine RQ.then_n ?_
      refine RC.ret ?_
      refine RQ.inB_ret ?_
      refine RQ.ret ?_
      have e := h.some
      subst e
      refine RQ.ret0 (vs := [.int .i64 130]) Tryd.results31 ⟨rfl, trivial⟩ ?_
      exact ⟨rfl, hS⟩
  · refine RL.e (OW.callF (ls := [.tmp 4]) rfl Tryd.call45 (code_check.ok a159 A160 c161 hr162 _ hg414 hS)) rfl rfl ?_
    rintro _ w ⟨b421, rfl, hS⟩
    have hS : St B w (Cl b421 [.int .i64 y419, .iface 28 (.int .i64 y420)] 113 :: l) hf := hS
    refine RL.s (Vl.assign rfl) rfl ?_
    refine RL.nil ?_
    refine RQ.then_n ?_
    refine RC.block ?_
    refine RC.seq ?_
    refine RC.region ?_
    refine RL.s (Vl.move rfl) rfl ?_
    refine RL.s (Vl.makeIface Tryd.underlying28 rfl rfl) rfl ?_
    obtain ⟨t423, hg424, h⟩ := h.bind
    refine RL.e (OW.callF (ls := [.tmp 7, .tmp 8]) rfl Tryd.call22 (errors_Is_2.ok y419 y420 2 b421 _ hg424 hS)) rfl rfl ?_
    rintro _ w ⟨rfl, hS⟩
    have hS : St B w (Cl b421 [.int .i64 y419, .iface 28 (.int .i64 y420)] 113 :: l) hf := hS
    refine RL.s (Vl.assign rfl) rfl ?_
    refine RL.nil ?_
    refine RQ.then_n ?_
    by_cases hc425 : t423 = true
    case pos =>
      have h := h.pos hc425
      refine RC.re 6 rfl (congrArg Value.bool (id hc425)) ?_
      refine RC.condT rfl ?_
      refine RC.seq ?_
      refine RC.region ?_
      refine RL.s (Vl.assign rfl) rfl ?_
      refine RL.nil ?_
      refine RQ.then_n ?_
      refine RC.ret ?_
      refine RQ.inB_ret ?_
      refine RQ.ret ?_
      have e := h.some
      subst e
      refine RQ.ret0 (vs := [.int .i64 2]) Tryd.results31 ⟨rfl, trivial⟩ ?_
      exact ⟨rfl, (hS.dropAt 0 rfl)⟩
    case neg =>
      have h := h.neg hc425
      refine RC.re 6 rfl (congrArg Value.bool (eq_false_of hc425)) ?_
      refine RC.condF rfl ?_
      refine RC.seq ?_
      refine RC.region ?_
      refine RL.s (Vl.move rfl) rfl ?_
      refine RL.s (Vl.bin (v := .bool true) rfl rfl (by kernel_rfl)) rfl ?_
      refine RL.s (Vl.assign rfl) rfl ?_
      refine RL.nil ?_
      refine RQ.then_n ?_
      refine RC.condT rfl ?_
      refine RC.seq ?_
      refine RC.region ?_
      refine RL.s (Vl.assign rfl) rfl ?_
      refine RL.nil ?_
      refine RQ.then_n ?_
      refine RC.ret ?_
      refine RQ.inB_ret ?_
      refine RQ.ret ?_
      have e := h.some
      subst e
      refine RQ.ret0 (vs := [.int .i64 130]) Tryd.results31 ⟨rfl, trivial⟩ ?_
      exact ⟨rfl, (hS.dropAt 0 rfl)⟩
  · refine RL.e (OW.callF (ls := [.tmp 4]) rfl Tryd.call45 (code_check.ok a159 A160 c161 hr162 _ hg414 hS)) rfl rfl ?_
    rintro _ w ⟨rfl, hS⟩
    have hS : St B w (l) hf := hS
    refine RL.s (Vl.assign rfl) rfl ?_
    refine RL.nil ?_
    refine RQ.then_n ?_
    refine RC.block ?_
    refine RC.seq ?_
    refine RC.region ?_
    refine RL.s (Vl.move rfl) rfl ?_
    refine RL.s (Vl.makeIface Tryd.underlying28 rfl rfl) rfl ?_
    obtain ⟨t426, hg427, h⟩ := h.bind
    refine RL.e (OW.callF (ls := [.tmp 7, .tmp 8]) rfl Tryd.call22 (errors_Is_3.ok 2 _ hg427 hS)) rfl rfl ?_
    rintro _ w ⟨rfl, hS⟩
    have hS : St B w (l) hf := hS
    refine RL.s (Vl.assign rfl) rfl ?_
    refine RL.nil ?_
    refine RQ.then_n ?_
    by_cases hc428 : t426 = true
    case pos =>
      have h := h.pos hc428
      refine RC.re 6 rfl (congrArg Value.bool (id hc428)) ?_
      refine RC.condT rfl ?_
      refine RC.seq ?_
      refine RC.region ?_
      refine RL.s (Vl.assign rfl) rfl ?_
      refine RL.nil ?_
      refine RQ.then_n ?_
      refine RC.ret ?_
      refine RQ.inB_ret ?_
      refine RQ.ret ?_
      have e := h.some
      subst e
      refine RQ.ret0 (vs := [.int .i64 2]) Tryd.results31 ⟨rfl, trivial⟩ ?_
      exact ⟨rfl, hS⟩
    case neg =>
      have h := h.neg hc428
      refine RC.re 6 rfl (congrArg Value.bool (eq_false_of hc428)) ?_
      refine RC.condF rfl ?_
      refine RC.seq ?_
      refine RC.region ?_
      refine RL.s (Vl.move rfl) rfl ?_
      refine RL.s (Vl.bin (v := .bool false) rfl rfl (by kernel_rfl)) rfl ?_
      refine RL.s (Vl.assign rfl) rfl ?_
      refine RL.nil ?_
      refine RQ.then_n ?_
      refine RC.condF rfl ?_
      refine RC.skip ?_
      refine RQ.inB_n ?_
      refine RQ.then_n ?_
      refine RC.seq ?_
      refine RC.region ?_
      refine RL.s (Vl.assign rfl) rfl ?_
      refine RL.nil ?_
      refine RQ.then_n ?_
      refine RC.ret ?_
      have e := h.some
      subst e
      refine RQ.ret0 (vs := [.int .i64 0]) Tryd.results31 ⟨rfl, trivial⟩ ?_
      exact ⟨rfl, hS⟩

/-! ### errors.Join: function 46 -/
noncomputable def errors_Join.f (a437 : model_flaw) (a438 : Int) : Option (model_flaw × Int) := some (a437, a438)
set_option maxRecDepth 100000 in
set_option maxHeartbeats 4000000 in
theorem errors_Join.ok {B : Base} {w : World} {l : List HProp} {hf : Hp} (a437 : model_flaw) (a438 : Int) (A435 : Option Addr) (c436 : Nat) (r : model_flaw × Int) (h : errors_Join.f a437 a438 = some r) (hS : St B w (OSl 66 1 (.slice A435 2 c436) 2 [.iface 64 (.agg #[.int .i64 a437.at_, .int .i64 a437.why]), .iface 28 (.int .i64 a438)] :: l) hf) :
    Calls Tryd.prog 46 #[.slice A435 2 c436] w (Ret fun v w => ∃ (b_1 : Nat) (A_2 : Option Addr) (c_3 : Nat), v = .iface 114 (.pointer (some ⟨b_1, 0, none⟩)) ∧ St B w (Cl b_1 [.slice A_2 2 c_3] 116 :: OSl 66 1 (.slice A_2 2 c_3) 2 [.iface 64 (.agg #[.int .i64 r.1.at_, .int .i64 r.1.why]), .iface 28 (.int .i64 r.2)] :: OSl 66 1 (.slice A435 2 c436) 2 [.iface 64 (.agg #[.int .i64 a437.at_, .int .i64 a437.why]), .iface 28 (.int .i64 a438)] :: l) hf) := by
  have h := Holds.of h
  refine enter (args := [.slice A435 2 c436]) Tryd.func46 rfl Tryd.ntmps46 (Nat.le_of_ble_eq_true rfl) ?_
  refine RC.seq ?_
  refine RC.region ?_
  refine RL.s (Vl.assign rfl) rfl ?_
  refine RL.nil ?_
  refine RQ.then_n ?_
  refine RC.seq ?_
  refine RC.region ?_
  refine RL.s (Vl.assign rfl) rfl ?_
  refine RL.nil ?_
  refine RQ.then_n ?_
  refine RC.seq ?_
  refine RC.seq ?_
  refine RC.region ?_
  refine RL.s (Vl.move rfl) rfl ?_
  refine RL.s (Vl.lenSl Tryd.underlying106 rfl) rfl ?_
  refine RL.s (Vl.move rfl) rfl ?_
  refine RL.nil ?_
  refine RQ.then_n ?_
  refine RC.block ?_
  refine RC.unroll ?_
  refine RQ.round ?_
  refine RC.seq ?_
  refine RC.region ?_
  refine RL.s (Vl.int rfl rfl rfl) rfl ?_
  refine RL.nil ?_
  refine RQ.then_n ?_
  refine RC.seq ?_
  refine RC.condT rfl ?_
  refine RC.skip ?_
  refine RQ.then_n ?_
  refine RC.seq ?_
  refine RC.block ?_
  refine RC.seq ?_
  refine RC.region ?_
  refine RL.s (Vl.indexAddr (a'' := (ad A435).add 0) Tryd.underlying106 Tryd.sizeOf66 rfl rfl (hS.litAdr 0 rfl (by decide)) (by decide) (by decide) rfl) rfl ?_
  refine RL.s (Vl.load Tryd.isAgg66 rfl (hS.litCell 0 rfl rfl)) rfl ?_
  refine RL.s (Vl.assign rfl) rfl ?_
  refine RL.nil ?_
  refine RQ.then_n ?_
  refine RC.seq ?_
  refine RC.region ?_
  refine RL.s (Vl.move rfl) rfl ?_
  refine RL.s (Vl.bin (v := .bool true) rfl rfl (by kernel_rfl)) rfl ?_
  refine RL.nil ?_
  refine RQ.then_n ?_
  refine RC.condT rfl ?_
  refine RC.region ?_
  refine RL.s (Vl.move rfl) rfl ?_
  refine RL.s (Vl.int rfl rfl rfl) rfl ?_
  refine RL.s (Vl.assign rfl) rfl ?_
  refine RL.nil ?_
  refine RQ.inB_n ?_
  refine RQ.then_n ?_
  refine RC.region ?_
  refine RL.s (Vl.int rfl rfl rfl) rfl ?_
  refine RL.s (Vl.move rfl) rfl ?_
  refine RL.nil ?_
  refine RQ.then_n ?_
  refine RQ.round ?_
  refine RC.seq ?_
  refine RC.region ?_
  refine RL.s (Vl.int rfl rfl rfl) rfl ?_
  refine RL.nil ?_
  refine RQ.then_n ?_
  refine RC.seq ?_
  refine RC.condT rfl ?_
  refine RC.skip ?_
  refine RQ.then_n ?_
  refine RC.seq ?_
  refine RC.block ?_
  refine RC.seq ?_
  refine RC.region ?_
  refine RL.s (Vl.indexAddr (a'' := (ad A435).add 1) Tryd.underlying106 Tryd.sizeOf66 rfl rfl (hS.litAdr 0 rfl (by decide)) (by decide) (by decide) rfl) rfl ?_
  refine RL.s (Vl.load Tryd.isAgg66 rfl (hS.litCell 0 rfl rfl)) rfl ?_
  refine RL.s (Vl.assign rfl) rfl ?_
  refine RL.nil ?_
  refine RQ.then_n ?_
  refine RC.seq ?_
  refine RC.region ?_
  refine RL.s (Vl.move rfl) rfl ?_
  refine RL.s (Vl.bin (v := .bool true) rfl rfl (by kernel_rfl)) rfl ?_
  refine RL.nil ?_
  refine RQ.then_n ?_
  refine RC.condT rfl ?_
  refine RC.region ?_
  refine RL.s (Vl.move rfl) rfl ?_
  refine RL.s (Vl.int rfl rfl rfl) rfl ?_
  refine RL.s (Vl.assign rfl) rfl ?_
  refine RL.nil ?_
  refine RQ.inB_n ?_
  refine RQ.then_n ?_
  refine RC.region ?_
  refine RL.s (Vl.int rfl rfl rfl) rfl ?_
  refine RL.s (Vl.move rfl) rfl ?_
  refine RL.nil ?_
  refine RQ.then_n ?_
  refine RQ.round ?_
  refine RC.seq ?_
  refine RC.region ?_
  refine RL.s (Vl.int rfl rfl rfl) rfl ?_
  refine RL.nil ?_
  refine RQ.then_n ?_
  refine RC.seq ?_
  refine RC.condF rfl ?_
  refine RC.exit ?_
  refine RQ.exitT ?_
  refine RQ.exitT ?_
  refine RQ.inB_hit ?_
  refine RQ.then_n ?_
  refine RC.seq ?_
  refine RC.seq ?_
  refine RC.region ?_
  refine RL.s (Vl.move rfl) rfl ?_
  refine RL.s (Vl.int rfl rfl rfl) rfl ?_
  refine RL.nil ?_
  refine RQ.then_n ?_
  refine RC.condF rfl ?_
  refine RC.skip ?_
  refine RQ.then_n ?_
  refine RC.seq ?_
  refine RC.region ?_
  refine RL.s (Vl.move rfl) rfl ?_
  refine RL.e (OW.make0L (c := 2) (sz := 1) hS Tryd.underlying106 Tryd.type66 rfl rfl rfl rfl (by decide) (by decide)) rfl rfl ?_
  rintro _ w ⟨b484, rfl, hS⟩
  have hS : St B w (OSl 66 1 (.slice (some ⟨b484, 0, none⟩) 0 2) 0 [] :: OSl 66 1 (.slice A435 2 c436) 2 [.iface 64 (.agg #[.int .i64 a437.at_, .int .i64 a437.why]), .iface 28 (.int .i64 a438)] :: l) hf := hS
  refine RL.s (Vl.build (v := .agg #[.slice (some ⟨b484, 0, none⟩) 0 2]) (parts := [(0, .tmp 23)]) rfl (by kernel_rfl)) rfl ?_
  refine RL.e (OW.box (cs := [.slice (some ⟨b484, 0, none⟩) 0 2]) hS rfl rfl) rfl rfl ?_
  rintro _ w ⟨b486, rfl, hS⟩
  have hS : St B w (Cl b486 [.slice (some ⟨b484, 0, none⟩) 0 2] 116 :: OSl 66 1 (.slice (some ⟨b484, 0, none⟩) 0 2) 0 [] :: OSl 66 1 (.slice A435 2 c436) 2 [.iface 64 (.agg #[.int .i64 a437.at_, .int .i64 a437.why]), .iface 28 (.int .i64 a438)] :: l) hf := hS
  refine RL.s (Vl.assign rfl) rfl ?_
  refine RL.nil ?_
  refine RQ.then_n ?_
  refine RC.seq ?_
  refine RC.seq ?_
  refine RC.region ?_
  refine RL.s (Vl.move rfl) rfl ?_
  refine RL.s (Vl.lenSl Tryd.underlying106 rfl) rfl ?_
  refine RL.s (Vl.move rfl) rfl ?_
  refine RL.nil ?_
  refine RQ.then_n ?_
  refine RC.block ?_
  refine RC.unroll ?_
  refine RQ.round ?_
  refine RC.seq ?_
  refine RC.region ?_
  refine RL.s (Vl.int rfl rfl rfl) rfl ?_
  refine RL.nil ?_
  refine RQ.then_n ?_
  refine RC.seq ?_
  refine RC.condT rfl ?_
  refine RC.skip ?_
  refine RQ.then_n ?_
  refine RC.seq ?_
  refine RC.block ?_
  refine RC.seq ?_
  refine RC.region ?_
  refine RL.s (Vl.indexAddr (a'' := (ad A435).add 0) Tryd.underlying106 Tryd.sizeOf66 rfl rfl (hS.litAdr 2 rfl (by decide)) (by decide) (by decide) rfl) rfl ?_
  refine RL.s (Vl.load Tryd.isAgg66 rfl (hS.litCell 2 rfl rfl)) rfl ?_
  refine RL.s (Vl.assign rfl) rfl ?_
  refine RL.nil ?_
  refine RQ.then_n ?_
  refine RC.seq ?_
  refine RC.region ?_
  refine RL.s (Vl.move rfl) rfl ?_
  refine RL.s (Vl.bin (v := .bool true) rfl rfl (by kernel_rfl)) rfl ?_
  refine RL.nil ?_
  refine RQ.then_n ?_
  refine RC.condT rfl ?_
  refine RC.region ?_
  refine RL.s (Vl.move rfl) rfl ?_
  refine RL.s (Vl.move rfl) rfl ?_
  refine RL.s (Vl.nilCheck rfl) rfl ?_
  refine RL.s (Vl.fieldAddr (a'' := ⟨b486, 0, none⟩) Tryd.underlying116 rfl Tryd.sizeOf106 rfl rfl) rfl ?_
  refine RL.s (Vl.load Tryd.isAgg106 rfl (hS.cell 0 rfl rfl)) rfl ?_
  refine RL.s (Vl.move rfl) rfl ?_
  refine RL.e (OW.buildSliceR (sz := 1) (cs := [.iface 64 (.agg #[.int .i64 a437.at_, .int .i64 a437.why])]) hS Tryd.underlying106 Tryd.zeroValue66 Tryd.sizeOf66 (parts := [(0, .tmp 39)]) rfl rfl (by decide) (by decide) (by kernel_rfl)) rfl rfl ?_
  rintro _ w ⟨b513, rfl, hS⟩
  have hS : St B w (OSl 66 1 (.slice (some ⟨b513, 0, none⟩) 1 1) 1 [.iface 64 (.agg #[.int .i64 a437.at_, .int .i64 a437.why])] :: Cl b486 [.slice (some ⟨b484, 0, none⟩) 0 2] 116 :: OSl 66 1 (.slice (some ⟨b484, 0, none⟩) 0 2) 0 [] :: OSl 66 1 (.slice A435 2 c436) 2 [.iface 64 (.agg #[.int .i64 a437.at_, .int .i64 a437.why]), .iface 28 (.int .i64 a438)] :: l) hf := hS
  refine RL.e (OW.appendL (k := 1) (es := [.iface 64 (.agg #[.int .i64 a437.at_, .int .i64 a437.why])]) 2 0 hS rfl rfl Tryd.underlying106 Tryd.type66 rfl rfl rfl rfl (by decide) (by decide) rfl rfl rfl (by decide) rfl rfl rfl) rfl rfl ?_
  rintro _ w ⟨A515, c516, rfl, hS⟩
  have hS : St B w (OSl 66 1 (.slice A515 1 c516) 1 [.iface 64 (.agg #[.int .i64 a437.at_, .int .i64 a437.why])] :: OSl 66 1 (.slice (some ⟨b513, 0, none⟩) 1 1) 1 [.iface 64 (.agg #[.int .i64 a437.at_, .int .i64 a437.why])] :: Cl b486 [.slice (some ⟨b484, 0, none⟩) 0 2] 116 :: OSl 66 1 (.slice A435 2 c436) 2 [.iface 64 (.agg #[.int .i64 a437.at_, .int .i64 a437.why]), .iface 28 (.int .i64 a438)] :: l) hf := hS
  refine RL.s (Vl.nilCheck rfl) rfl ?_
  refine RL.s (Vl.fieldAddr (a'' := ⟨b486, 0, none⟩) Tryd.underlying116 rfl Tryd.sizeOf106 rfl rfl) rfl ?_
  refine RL.e0 (OW.store (cs := [.slice (some ⟨b484, 0, none⟩) 0 2]) (vs := [.slice A515 1 c516]) (l' := OSl 66 1 (.slice A515 1 c516) 1 [.iface 64 (.agg #[.int .i64 a437.at_, .int .i64 a437.why])] :: OSl 66 1 (.slice (some ⟨b513, 0, none⟩) 1 1) 1 [.iface 64 (.agg #[.int .i64 a437.at_, .int .i64 a437.why])] :: Cl b486 [.slice A515 1 c516] 116 :: OSl 66 1 (.slice A435 2 c436) 2 [.iface 64 (.agg #[.int .i64 a437.at_, .int .i64 a437.why]), .iface 28 (.int .i64 a438)] :: l) 2 hS rfl rfl rfl rfl Tryd.sizeOf106 rfl rfl rfl rfl) rfl ?_
  rintro _ w ⟨rfl, hS⟩
  have hS : St B w (OSl 66 1 (.slice A515 1 c516) 1 [.iface 64 (.agg #[.int .i64 a437.at_, .int .i64 a437.why])] :: OSl 66 1 (.slice (some ⟨b513, 0, none⟩) 1 1) 1 [.iface 64 (.agg #[.int .i64 a437.at_, .int .i64 a437.why])] :: Cl b486 [.slice A515 1 c516] 116 :: OSl 66 1 (.slice A435 2 c436) 2 [.iface 64 (.agg #[.int .i64 a437.at_, .int .i64 a437.why]), .iface 28 (.int .i64 a438)] :: l) hf := hS
  refine RL.nil ?_
  refine RQ.inB_n ?_
  refine RQ.then_n ?_
  refine RC.region ?_
  refine RL.s (Vl.int rfl rfl rfl) rfl ?_
  refine RL.s (Vl.move rfl) rfl ?_
  refine RL.nil ?_
  refine RQ.then_n ?_
  refine RQ.round ?_
  refine RC.seq ?_
  refine RC.region ?_
  refine RL.s (Vl.int rfl rfl rfl) rfl ?_
  refine RL.nil ?_
  refine RQ.then_n ?_
  refine RC.seq ?_
  refine RC.condT rfl ?_
  refine RC.skip ?_
  refine RQ.then_n ?_
  refine RC.seq ?_
  refine RC.block ?_
  refine RC.seq ?_
  refine RC.region ?_
  refine RL.s (Vl.indexAddr (a'' := (ad A435).add 1) Tryd.underlying106 Tryd.sizeOf66 rfl rfl (hS.litAdr 3 rfl (by decide)) (by decide) (by decide) rfl) rfl ?_
  refine RL.s (Vl.load Tryd.isAgg66 rfl (hS.litCell 3 rfl rfl)) rfl ?_
  refine RL.s (Vl.assign rfl) rfl ?_
  refine RL.nil ?_
  refine RQ.then_n ?_
  refine RC.seq ?_
  refine RC.region ?_
  refine RL.s (Vl.move rfl) rfl ?_
  refine RL.s (Vl.bin (v := .bool true) rfl rfl (by kernel_rfl)) rfl ?_
  refine RL.nil ?_
  refine RQ.then_n ?_
  refine RC.condT rfl ?_
  refine RC.region ?_
  refine RL.s (Vl.move rfl) rfl ?_
  refine RL.s (Vl.move rfl) rfl ?_
  refine RL.s (Vl.nilCheck rfl) rfl ?_
  refine RL.s (Vl.fieldAddr (a'' := ⟨b486, 0, none⟩) Tryd.underlying116 rfl Tryd.sizeOf106 rfl rfl) rfl ?_
  refine RL.s (Vl.load Tryd.isAgg106 rfl (hS.cell 2 rfl rfl)) rfl ?_
  refine RL.s (Vl.move rfl) rfl ?_
  refine RL.e (OW.buildSliceR (sz := 1) (cs := [.iface 28 (.int .i64 a438)]) hS Tryd.underlying106 Tryd.zeroValue66 Tryd.sizeOf66 (parts := [(0, .tmp 39)]) rfl rfl (by decide) (by decide) (by kernel_rfl)) rfl rfl ?_
  rintro _ w ⟨b523, rfl, hS⟩
  have hS : St B w (OSl 66 1 (.slice (some ⟨b523, 0, none⟩) 1 1) 1 [.iface 28 (.int .i64 a438)] :: OSl 66 1 (.slice A515 1 c516) 1 [.iface 64 (.agg #[.int .i64 a437.at_, .int .i64 a437.why])] :: OSl 66 1 (.slice (some ⟨b513, 0, none⟩) 1 1) 1 [.iface 64 (.agg #[.int .i64 a437.at_, .int .i64 a437.why])] :: Cl b486 [.slice A515 1 c516] 116 :: OSl 66 1 (.slice A435 2 c436) 2 [.iface 64 (.agg #[.int .i64 a437.at_, .int .i64 a437.why]), .iface 28 (.int .i64 a438)] :: l) hf := hS
  refine RL.e (OW.appendL (k := 2) (es := [.iface 64 (.agg #[.int .i64 a437.at_, .int .i64 a437.why]), .iface 28 (.int .i64 a438)]) 1 0 hS rfl rfl Tryd.underlying106 Tryd.type66 rfl rfl rfl rfl (by decide) (by decide) rfl rfl rfl (by decide) rfl rfl rfl) rfl rfl ?_
  rintro _ w ⟨A525, c526, rfl, hS⟩
  have hS : St B w (OSl 66 1 (.slice A525 2 c526) 2 [.iface 64 (.agg #[.int .i64 a437.at_, .int .i64 a437.why]), .iface 28 (.int .i64 a438)] :: OSl 66 1 (.slice (some ⟨b523, 0, none⟩) 1 1) 1 [.iface 28 (.int .i64 a438)] :: OSl 66 1 (.slice (some ⟨b513, 0, none⟩) 1 1) 1 [.iface 64 (.agg #[.int .i64 a437.at_, .int .i64 a437.why])] :: Cl b486 [.slice A515 1 c516] 116 :: OSl 66 1 (.slice A435 2 c436) 2 [.iface 64 (.agg #[.int .i64 a437.at_, .int .i64 a437.why]), .iface 28 (.int .i64 a438)] :: l) hf := hS
  refine RL.s (Vl.nilCheck rfl) rfl ?_
  refine RL.s (Vl.fieldAddr (a'' := ⟨b486, 0, none⟩) Tryd.underlying116 rfl Tryd.sizeOf106 rfl rfl) rfl ?_
  refine RL.e0 (OW.store (cs := [.slice A515 1 c516]) (vs := [.slice A525 2 c526]) (l' := OSl 66 1 (.slice A525 2 c526) 2 [.iface 64 (.agg #[.int .i64 a437.at_, .int .i64 a437.why]), .iface 28 (.int .i64 a438)] :: OSl 66 1 (.slice (some ⟨b523, 0, none⟩) 1 1) 1 [.iface 28 (.int .i64 a438)] :: OSl 66 1 (.slice (some ⟨b513, 0, none⟩) 1 1) 1 [.iface 64 (.agg #[.int .i64 a437.at_, .int .i64 a437.why])] :: Cl b486 [.slice A525 2 c526] 116 :: OSl 66 1 (.slice A435 2 c436) 2 [.iface 64 (.agg #[.int .i64 a437.at_, .int .i64 a437.why]), .iface 28 (.int .i64 a438)] :: l) 3 hS rfl rfl rfl rfl Tryd.sizeOf106 rfl rfl rfl rfl) rfl ?_
  rintro _ w ⟨rfl, hS⟩
  have hS : St B w (OSl 66 1 (.slice A525 2 c526) 2 [.iface 64 (.agg #[.int .i64 a437.at_, .int .i64 a437.why]), .iface 28 (.int .i64 a438)] :: OSl 66 1 (.slice (some ⟨b523, 0, none⟩) 1 1) 1 [.iface 28 (.int .i64 a438)] :: OSl 66 1 (.slice (some ⟨b513, 0, none⟩) 1 1) 1 [.iface 64 (.agg #[.int .i64 a437.at_, .int .i64 a437.why])] :: Cl b486 [.slice A525 2 c526] 116 :: OSl 66 1 (.slice A435 2 c436) 2 [.iface 64 (.agg #[.int .i64 a437.at_, .int .i64 a437.why]), .iface 28 (.int .i64 a438)] :: l) hf := hS
  refine RL.nil ?_
  refine RQ.inB_n ?_
  refine RQ.then_n ?_
  refine RC.region ?_
  refine RL.s (Vl.int rfl rfl rfl) rfl ?_
  refine RL.s (Vl.move rfl) rfl ?_
  refine RL.nil ?_
  refine RQ.then_n ?_
  refine RQ.round ?_
  refine RC.seq ?_
  refine RC.region ?_
  refine RL.s (Vl.int rfl rfl rfl) rfl ?_
  refine RL.nil ?_
  refine RQ.then_n ?_
  refine RC.seq ?_
  refine RC.condF rfl ?_
  refine RC.exit ?_
  refine RQ.exitT ?_
  refine RQ.exitT ?_
  refine RQ.inB_hit ?_
  refine RQ.then_n ?_
  refine RC.seq ?_
  refine RC.region ?_
  refine RL.s (Vl.move rfl) rfl ?_
  refine RL.s (Vl.makeIface Tryd.underlying114 rfl rfl) rfl ?_
  refine RL.s (Vl.assign rfl) rfl ?_
  refine RL.nil ?_
  refine RQ.then_n ?_
  refine RC.ret ?_
  have e := h.some
  subst e
  refine RQ.ret0 (vs := [.iface 114 (.pointer (some ⟨b486, 0, none⟩))]) Tryd.results46 ⟨rfl, trivial⟩ ?_
  exact ⟨b486, A525, c526, rfl, (((((hS.dropAt 1 rfl).dropAt 1 rfl).pull 2 rfl rfl).pull 1 rfl rfl).pull 2 rfl rfl)⟩

/-! ### isochron/model.programs: function 35 -/
noncomputable def model_programs.l2b (a141 : api_Model) : Int → Option ((Int) ⊕ ((model_flaw × Int) ⊕ (Unit)))
  | (x681) => (if x681 < (a141.Progs.length : Int) then (if 0 ≤ x681 then ((code_Check.f (nth a141.Progs x681)).bind fun t750 => (if t750 = 0 then some (.inl (IntKind.i64.wrap (x681 + 1))) else ((errors_Join.f (⟨x681, 130⟩ : model_flaw) t750).bind fun (y757, y758) => some (.inr (.inl (y757, y758)))))) else none) else some (.inr (.inr (()))))
noncomputable def model_programs.l2 (a141 : api_Model) (s : Int) : Option ((model_flaw × Int) ⊕ (Unit)) := loopR (model_programs.l2b a141) s
noncomputable def model_programs.f (a141 : api_Model) : Option ((model_flaw × Int) ⊕ (Unit)) := model_programs.l2 a141 (0)
set_option maxRecDepth 100000 in
set_option maxHeartbeats 4000000 in
theorem model_programs.ok {B : Base} {w : World} {l : List HProp} {hf : Hp} (a141 : api_Model) (A142 : Option Addr) (c143 : Nat) (A145 : Option Addr) (c146 : Nat) (A148 : Option Addr) (c149 : Nat) (hr144 : SlR (Rep.sl E_api_Instr.rep) hf A142 c143 a141.Progs) (hr147 : SlR E_api_Link.rep hf A145 c146 a141.Links) (hr150 : SlR E_api_Start.rep hf A148 c149 a141.Starts) (r : (model_flaw × Int) ⊕ (Unit)) (h : model_programs.f a141 = some r) (hS : St B w (l) hf) :
    Calls Tryd.prog 35 #[.agg #[.slice A142 a141.Progs.length c143, .slice A145 a141.Links.length c146, .slice A148 a141.Starts.length c149, .int .u64 a141.Seed, .int .i64 a141.End, .int .i64 a141.Budget]] w (Ret fun v w => match r with | .inl r_ => ∃ (b_1 : Nat) (A_2 : Option Addr) (c_3 : Nat), v = .iface 114 (.pointer (some ⟨b_1, 0, none⟩)) ∧ St B w (Cl b_1 [.slice A_2 2 c_3] 116 :: OSl 66 1 (.slice A_2 2 c_3) 2 [.iface 64 (.agg #[.int .i64 r_.1.at_, .int .i64 r_.1.why]), .iface 28 (.int .i64 r_.2)] :: l) hf | .inr (r_) => v = .nilIface ∧ St B w (l) hf) := by
  have h := Holds.of h
  refine enter (args := [.agg #[.slice A142 a141.Progs.length c143, .slice A145 a141.Links.length c146, .slice A148 a141.Starts.length c149, .int .u64 a141.Seed, .int .i64 a141.End, .int .i64 a141.Budget]]) Tryd.func35 rfl Tryd.ntmps35 (Nat.le_of_ble_eq_true rfl) ?_
  refine RC.seq ?_
  refine RC.region ?_
  refine RL.e (OW.box (cs := [.slice A142 a141.Progs.length c143, .slice A145 a141.Links.length c146, .slice A148 a141.Starts.length c149, .int .u64 a141.Seed, .int .i64 a141.End, .int .i64 a141.Budget]) hS rfl rfl) rfl rfl ?_
  rintro _ w ⟨b641, rfl, hS⟩
  have hS : St B w (Cl b641 [.slice A142 a141.Progs.length c143, .slice A145 a141.Links.length c146, .slice A148 a141.Starts.length c149, .int .u64 a141.Seed, .int .i64 a141.End, .int .i64 a141.Budget] 27 :: l) hf := hS
  refine RL.s (Vl.assign rfl) rfl ?_
  refine RL.nil ?_
  refine RQ.then_n ?_
  refine RC.seq ?_
  refine RC.seq ?_
  refine RC.region ?_
  refine RL.s (Vl.fieldAddr (a'' := ⟨b641, 0, none⟩) Tryd.underlying27 rfl Tryd.sizeOf22 rfl rfl) rfl ?_
  refine RL.s (Vl.load Tryd.isAgg22 rfl (hS.cell 0 rfl rfl)) rfl ?_
  refine RL.s (Vl.lenSl Tryd.underlying22 rfl) rfl ?_
  refine RL.s (Vl.move rfl) rfl ?_
  refine RL.nil ?_
  refine RQ.then_n ?_
  refine RC.block ?_
  refine fun a ha => RC.loop (N := 26) (body := (model_programs.l2b a141)) (φ := (· = r)) (fun (s : Int) a w => ∃ (x681 : Int), s = (x681) ∧ Has 26 [(7, .slice A142 a141.Progs.length c143), (8, .int .i64 (a141.Progs.length : Int)), (9, .int .i64 x681)] a ∧ St B w (l) hf) ?_ (s0 := (0)) h ⟨0, rfl, ha.to ⟨rfl, rfl, rfl, trivial⟩, (hS.dropAt 0 rfl)⟩
  rintro G723 x681 a w ⟨_, rfl, ha, hS⟩ h
  revert a
  show RC _ _ _ _ _ _
  refine RC.seq ?_
  refine RC.region ?_
  refine RL.s (Vl.int rfl rfl rfl) rfl ?_
  refine RL.nil ?_
  refine RQ.then_n ?_
  refine RC.seq ?_
  by_cases hc725 : x681 < (a141.Progs.length : Int)
  case pos =>
    have h := h.pos hc725
    refine RC.re 10 rfl (congrArg Value.bool (decide_eq_true hc725)) ?_
    refine RC.condT rfl ?_
    refine RC.skip ?_
    refine RQ.then_n ?_
    refine RC.seq ?_
    refine RC.block ?_
    refine RC.seq ?_
    refine RC.region ?_
    refine RL.s (Vl.move rfl) rfl ?_
    obtain ⟨hq745, h⟩ := h.req
    refine RL.s (Vl.indexAddr Tryd.underlying22 Tryd.sizeOf35 rfl rfl (hr144.2.adr hq745 hc725) hq745 hc725 rfl) rfl ?_
    obtain ⟨_, _, ⟨A746, c747, rfl, hr748⟩, hl749⟩ := hr144.2.elem hq745 hc725
    refine RL.s (Vl.load Tryd.isAgg35 rfl (cellH_world hS.sub (hl749 0 _ rfl))) rfl ?_
    refine RL.s (Vl.assign rfl) rfl ?_
    refine RL.s (Vl.assign rfl) rfl ?_
    refine RL.nil ?_
    refine RQ.then_n ?_
    refine RC.seq ?_
    refine RC.region ?_
    refine RL.s (Vl.move rfl) rfl ?_
    obtain ⟨t750, hg751, h⟩ := h.bind
    refine RL.e (OW.callF (ls := [.tmp 14]) rfl Tryd.call31 (code_Check.ok (nth a141.Progs x681) A746 c747 hr748 _ hg751 hS)) rfl rfl ?_
    rintro _ w ⟨rfl, hS⟩
    have hS : St B w (l) hf := hS
    refine RL.s (Vl.assign rfl) rfl ?_
    refine RL.nil ?_
    refine RQ.then_n ?_
    refine RC.seq ?_
    refine RC.region ?_
    refine RL.s (Vl.move rfl) rfl ?_
    refine RL.s (Vl.int rfl rfl rfl) rfl ?_
    refine RL.nil ?_
    refine RQ.then_n ?_
    by_cases hc752 : t750 = 0
    case pos =>
      have h := h.pos hc752
      refine RC.re 17 rfl (congrArg Value.bool (notdec_pos hc752)) ?_
      refine RC.condF rfl ?_
      refine RC.skip ?_
      refine RQ.inB_n ?_
      refine RQ.then_n ?_
      refine RC.region ?_
      refine RL.s (Vl.int rfl rfl rfl) rfl ?_
      refine RL.s (Vl.move rfl) rfl ?_
      refine RL.nil ?_
      exact fun a ha => ⟨(IntKind.i64.wrap (x681 + 1)), ⟨(IntKind.i64.wrap (x681 + 1)), rfl, ha.to ⟨rfl, rfl, rfl, trivial⟩, hS⟩, h.some⟩
    case neg =>
      have h := h.neg hc752
      refine RC.re 17 rfl (congrArg Value.bool (notdec_neg hc752)) ?_
      refine RC.condT rfl ?_
      refine RC.seq ?_
      refine RC.region ?_
      refine RL.s (Vl.move rfl) rfl ?_
      refine RL.s (Vl.build (v := .agg #[.int .i64 x681, .int .i64 130]) (parts := [(0, .tmp 18), (1, .const (.int .i64 130))]) rfl (by kernel_rfl)) rfl ?_
      refine RL.s (Vl.makeIface Tryd.underlying64 rfl rfl) rfl ?_
      refine RL.s (Vl.move rfl) rfl ?_
      refine RL.s (Vl.makeIface Tryd.underlying28 rfl rfl) rfl ?_
      refine RL.e (OW.buildSliceR (sz := 1) (cs := [.iface 64 (.agg #[.int .i64 x681, .int .i64 130]), .iface 28 (.int .i64 t750)]) hS Tryd.underlying106 Tryd.zeroValue66 Tryd.sizeOf66 (parts := [(0, .tmp 20), (1, .tmp 22)]) rfl rfl (by decide) (by decide) (by kernel_rfl)) rfl rfl ?_
      rintro _ w ⟨b754, rfl, hS⟩
      have hS : St B w (OSl 66 1 (.slice (some ⟨b754, 0, none⟩) 2 2) 2 [.iface 64 (.agg #[.int .i64 x681, .int .i64 130]), .iface 28 (.int .i64 t750)] :: l) hf := hS
      obtain ⟨t755, hg756, h⟩ := h.bind
      obtain ⟨y757, y758⟩ := t755
      refine RL.e (OW.callF (ls := [.tmp 23]) rfl Tryd.call46 (errors_Join.ok (⟨x681, 130⟩ : model_flaw) t750 (some ⟨b754, 0, none⟩) 2 _ hg756 hS)) rfl rfl ?_
      rintro _ w ⟨b759, A761, c762, rfl, hS⟩
      have hS : St B w (Cl b759 [.slice A761 2 c762] 116 :: OSl 66 1 (.slice A761 2 c762) 2 [.iface 64 (.agg #[.int .i64 y757.at_, .int .i64 y757.why]), .iface 28 (.int .i64 y758)] :: OSl 66 1 (.slice (some ⟨b754, 0, none⟩) 2 2) 2 [.iface 64 (.agg #[.int .i64 x681, .int .i64 130]), .iface 28 (.int .i64 t750)] :: l) hf := hS
      refine RL.s (Vl.assign rfl) rfl ?_
      refine RL.nil ?_
      refine RQ.then_n ?_
      refine RC.ret ?_
      refine RQ.inB_ret ?_
      refine RQ.ret ?_
      have h := h.inrS
      refine RQ.ret ?_
      refine RQ.inB_ret ?_
      refine RQ.ret ?_
      have e := h.some
      subst e
      refine RQ.ret0 (vs := [.iface 114 (.pointer (some ⟨b759, 0, none⟩))]) Tryd.results35 ⟨rfl, trivial⟩ ?_
      exact ⟨b759, A761, c762, rfl, (hS.dropAt 2 rfl)⟩
  case neg =>
    have h := h.neg hc725
    refine RC.re 10 rfl (congrArg Value.bool (decide_eq_false hc725)) ?_
    refine RC.condF rfl ?_
    refine RC.exit ?_
    refine RQ.exitT ?_
    have h := h.inrS
    refine RQ.exitT ?_
    refine RQ.inB_hit ?_
    refine RQ.then_n ?_
    refine RC.seq ?_
    refine RC.region ?_
    refine RL.s (Vl.assign rfl) rfl ?_
    refine RL.nil ?_
    refine RQ.then_n ?_
    refine RC.ret ?_
    have e := h.some
    subst e
    refine RQ.ret0 (vs := [.nilIface]) Tryd.results35 ⟨rfl, trivial⟩ ?_
    exact ⟨rfl, hS⟩

/-! ### (*errors.joinError).Unwrap: function 90 -/
noncomputable def errors_joinError_Unwrap.f (a808 : model_flaw) (a809 : Int) : Option (Unit) := some ()
set_option maxRecDepth 100000 in
set_option maxHeartbeats 4000000 in
theorem errors_joinError_Unwrap.ok {B : Base} {w : World} {l : List HProp} {hf : Hp} (a808 : model_flaw) (a809 : Int) (b804 : Nat) (A806 : Option Addr) (c807 : Nat) (r : Unit) (h : errors_joinError_Unwrap.f a808 a809 = some r) (hS : St B w (OSl 66 1 (.slice A806 2 c807) 2 [.iface 64 (.agg #[.int .i64 a808.at_, .int .i64 a808.why]), .iface 28 (.int .i64 a809)] :: Cl b804 [.slice A806 2 c807] 116 :: l) hf) :
    Calls Tryd.prog 90 #[.pointer (some ⟨b804, 0, none⟩)] w (Ret fun v w => v = .slice A806 2 c807 ∧ St B w (OSl 66 1 (.slice A806 2 c807) 2 [.iface 64 (.agg #[.int .i64 a808.at_, .int .i64 a808.why]), .iface 28 (.int .i64 a809)] :: Cl b804 [.slice A806 2 c807] 116 :: l) hf) := by
  have h := Holds.of h
  refine enter (args := [.pointer (some ⟨b804, 0, none⟩)]) Tryd.func90 rfl Tryd.ntmps90 (Nat.le_of_ble_eq_true rfl) ?_
  refine RC.seq ?_
  refine RC.region ?_
  refine RL.s (Vl.assign rfl) rfl ?_
  refine RL.nil ?_
  refine RQ.then_n ?_
  refine RC.seq ?_
  refine RC.region ?_
  refine RL.s (Vl.move rfl) rfl ?_
  refine RL.s (Vl.nilCheck rfl) rfl ?_
  refine RL.s (Vl.fieldAddr (a'' := ⟨b804, 0, none⟩) Tryd.underlying116 rfl Tryd.sizeOf106 rfl rfl) rfl ?_
  refine RL.s (Vl.load Tryd.isAgg106 rfl (hS.cell 1 rfl rfl)) rfl ?_
  refine RL.s (Vl.assign rfl) rfl ?_
  refine RL.nil ?_
  refine RQ.then_n ?_
  refine RC.ret ?_
  have e := h.some
  skip
  refine RQ.ret0 (vs := [.slice A806 2 c807]) Tryd.results90 ⟨rfl, trivial⟩ ?_
  exact ⟨rfl, hS⟩

/-! ### errors.as: function 41 -/
noncomputable def errors_as_3.f (a812 : model_flaw) (a815 : model_flaw) : Option (Bool × model_flaw) := some (true, a812)
set_option maxRecDepth 100000 in
set_option maxHeartbeats 4000000 in
theorem errors_as_3.ok {B : Base} {w : World} {l : List HProp} {hf : Hp} (a812 : model_flaw) (a815 : model_flaw) (b814 : Nat) (b817 : Nat) (r : Bool × model_flaw) (h : errors_as_3.f a812 a815 = some r) (hS : St B w (Cl b814 [.int .i64 a815.at_, .int .i64 a815.why] 64 :: Cl b817 [.pointer (some ⟨b814, 0, none⟩)] 68 :: l) hf) :
    Calls Tryd.prog 41 #[.iface 64 (.agg #[.int .i64 a812.at_, .int .i64 a812.why]), .iface 68 (.pointer (some ⟨b814, 0, none⟩)), .agg #[.pointer (some ⟨1, 68, none⟩), .pointer (some ⟨b817, 0, none⟩), .int .u64 150], .iface 96 (.agg #[.pointer (some ⟨1, 64, none⟩)])] w (Ret fun v w => v = .bool r.1 ∧ St B w (Cl b814 [.int .i64 r.2.at_, .int .i64 r.2.why] 64 :: Cl b817 [.pointer (some ⟨b814, 0, none⟩)] 68 :: l) hf) := by
  have h := Holds.of h
  refine enter (args := [.iface 64 (.agg #[.int .i64 a812.at_, .int .i64 a812.why]), .iface 68 (.pointer (some ⟨b814, 0, none⟩)), .agg #[.pointer (some ⟨1, 68, none⟩), .pointer (some ⟨b817, 0, none⟩), .int .u64 150], .iface 96 (.agg #[.pointer (some ⟨1, 64, none⟩)])]) Tryd.func41 rfl Tryd.ntmps41 (Nat.le_of_ble_eq_true rfl) ?_
  refine RC.seq ?_
  refine RC.region ?_
  refine RL.e (OW.box (cs := [.pointer (some ⟨1, 68, none⟩), .pointer (some ⟨b817, 0, none⟩), .int .u64 150]) hS rfl rfl) rfl rfl ?_
  rintro _ w ⟨b825, rfl, hS⟩
  have hS : St B w (Cl b825 [.pointer (some ⟨1, 68, none⟩), .pointer (some ⟨b817, 0, none⟩), .int .u64 150] 79 :: Cl b814 [.int .i64 a815.at_, .int .i64 a815.why] 64 :: Cl b817 [.pointer (some ⟨b814, 0, none⟩)] 68 :: l) hf := hS
  refine RL.s (Vl.assign rfl) rfl ?_
  refine RL.nil ?_
  refine RQ.then_n ?_
  refine RC.block ?_
  refine RC.unroll ?_
  refine RQ.round ?_
  refine RC.block ?_
  refine RC.seq ?_
  refine RC.seq ?_
  refine RC.region ?_
  refine RL.s (Vl.move rfl) rfl ?_
  refine RL.s (Vl.extern (ls := [.tmp 16]) (v := .iface 96 (.agg #[.pointer (some ⟨1, 64, none⟩)])) rfl Tryd.func42 (by kernel_rfl) (by kernel_rfl) (by kernel_rfl) (e := Extern.ReflectliteType.typeOf) (by kernel_rfl) (fun w => by kernel_rfl)) rfl ?_
  refine RL.s (Vl.move rfl) rfl ?_
  refine RL.s (Vl.invokeX (F := 77) (ls := [.tmp 18]) (v := .bool true) (u' := .agg #[.pointer (some ⟨1, 64, none⟩)]) rfl rfl (fun w => by kernel_rfl) Tryd.func77 (by kernel_rfl) (by kernel_rfl) (by kernel_rfl) (e := (Extern.ReflectliteType.relation "AssignableTo" Extern.ReflectliteType.assignableTo)) (by kernel_rfl) (fun w => by kernel_rfl)) rfl ?_
  refine RL.nil ?_
  refine RQ.then_n ?_
  refine RC.condT rfl ?_
  refine RC.seq ?_
  refine RC.region ?_
  refine RL.s (Vl.loadA (vs := [.pointer (some ⟨1, 68, none⟩), .pointer (some ⟨b817, 0, none⟩), .int .u64 150]) Tryd.isAgg79 Tryd.sizeOf79 rfl rfl (hS.cellsAt 0 rfl rfl)) rfl ?_
  refine RL.s (Vl.externAt (ls := [.tmp 20]) (v := .agg #[.pointer (some ⟨1, 64, none⟩), .pointer (some ⟨b814, 0, none⟩), .int .u64 409]) rfl Tryd.func47 (by kernel_rfl) (by kernel_rfl) (by kernel_rfl) (e := Extern.ReflectliteValue.method (Extern.ReflectliteValue.valueError "reflectlite.Value.Elem" 0) Extern.ReflectliteValue.elem) (by kernel_rfl) (run_elemV (n := 150) (a := ⟨b817, 0, none⟩) (fun w => by kernel_rfl) Tryd.underlying68 rfl (hS.cell 2 rfl rfl) (fun w => by kernel_rfl) (fun w => by kernel_rfl))) rfl ?_
  refine RL.s (Vl.move rfl) rfl ?_
  refine RL.e (OW.externNew (ls := [.tmp 22]) (cs := [.int .i64 a812.at_, .int .i64 a812.why]) (T := 64) (v := fun b => .agg #[.pointer (some ⟨1, 64, none⟩), .pointer (some ⟨b, 0, none⟩), .int .u64 153]) hS rfl Tryd.func38 (by kernel_rfl) (by kernel_rfl) (by kernel_rfl) (e := fun args => Extern.ReflectliteValue.unpack (args.getD 0 (.tuple #[]))) (by kernel_rfl) (fun w => by kernel_rfl)) rfl rfl ?_
  rintro _ w ⟨b829, rfl, hS⟩
  have hS : St B w (Cl b829 [.int .i64 a812.at_, .int .i64 a812.why] 64 :: Cl b825 [.pointer (some ⟨1, 68, none⟩), .pointer (some ⟨b817, 0, none⟩), .int .u64 150] 79 :: Cl b814 [.int .i64 a815.at_, .int .i64 a815.why] 64 :: Cl b817 [.pointer (some ⟨b814, 0, none⟩)] 68 :: l) hf := hS
  refine RL.e (OW.setV (ls := [.tmp 21, .tmp 23]) (val := .agg #[.int .i64 a812.at_, .int .i64 a812.why]) (vs := [.int .i64 a812.at_, .int .i64 a812.why]) (n := 409) (m := 153) (a2 := ⟨b829, 0, none⟩) 2 hS rfl rfl Tryd.func48 (by kernel_rfl) (by kernel_rfl) (by kernel_rfl) (by kernel_rfl) (fun w => by kernel_rfl) (fun w => by kernel_rfl) rfl (fun w => by kernel_rfl) (run_loadVarA (vs := [.int .i64 a812.at_, .int .i64 a812.why]) Tryd.isAgg64 Tryd.sizeOf64 rfl (hS.cellsAt 0 rfl rfl)) rfl Tryd.sizeOf64 rfl rfl rfl rfl) rfl rfl ?_
  rintro _ w ⟨rfl, hS⟩
  have hS : St B w (Cl b829 [.int .i64 a812.at_, .int .i64 a812.why] 64 :: Cl b825 [.pointer (some ⟨1, 68, none⟩), .pointer (some ⟨b817, 0, none⟩), .int .u64 150] 79 :: Cl b814 [.int .i64 a812.at_, .int .i64 a812.why] 64 :: Cl b817 [.pointer (some ⟨b814, 0, none⟩)] 68 :: l) hf := hS
  refine RL.nil ?_
  refine RQ.then_n ?_
  refine RC.seq ?_
  refine RC.region ?_
  refine RL.s (Vl.assign rfl) rfl ?_
  refine RL.nil ?_
  refine RQ.then_n ?_
  refine RC.ret ?_
  refine RQ.ret ?_
  refine RQ.inB_ret ?_
  refine RQ.ret ?_
  refine RQ.inB_ret ?_
  have e := h.some
  subst e
  refine RQ.ret0 (vs := [.bool true]) Tryd.results41 ⟨rfl, trivial⟩ ?_
  exact ⟨rfl, ((hS.dropAt 0 rfl).dropAt 0 rfl)⟩

/-! ### errors.as: function 41 -/
noncomputable def errors_as_2.f (a794 : model_flaw) (a795 : Int) (a798 : model_flaw) : Option (Bool × model_flaw) := ((errors_joinError_Unwrap.f a794 a795).bind fun _ => ((errors_as_3.f a794 a798).bind fun (y857, y858) => (if y857 = true then some (true, y858) else ((errors_as.f a795 y858).bind fun t863 => (if t863 = true then some (true, y858) else some (false, y858))))))
set_option maxRecDepth 100000 in
set_option maxHeartbeats 4000000 in
theorem errors_as_2.ok {B : Base} {w : World} {l : List HProp} {hf : Hp} (a794 : model_flaw) (a795 : Int) (a798 : model_flaw) (b790 : Nat) (A792 : Option Addr) (c793 : Nat) (b797 : Nat) (b800 : Nat) (r : Bool × model_flaw) (h : errors_as_2.f a794 a795 a798 = some r) (hS : St B w (OSl 66 1 (.slice A792 2 c793) 2 [.iface 64 (.agg #[.int .i64 a794.at_, .int .i64 a794.why]), .iface 28 (.int .i64 a795)] :: Cl b790 [.slice A792 2 c793] 116 :: Cl b797 [.int .i64 a798.at_, .int .i64 a798.why] 64 :: Cl b800 [.pointer (some ⟨b797, 0, none⟩)] 68 :: l) hf) :
    Calls Tryd.prog 41 #[.iface 114 (.pointer (some ⟨b790, 0, none⟩)), .iface 68 (.pointer (some ⟨b797, 0, none⟩)), .agg #[.pointer (some ⟨1, 68, none⟩), .pointer (some ⟨b800, 0, none⟩), .int .u64 150], .iface 96 (.agg #[.pointer (some ⟨1, 64, none⟩)])] w (Ret fun v w => v = .bool r.1 ∧ St B w (OSl 66 1 (.slice A792 2 c793) 2 [.iface 64 (.agg #[.int .i64 a794.at_, .int .i64 a794.why]), .iface 28 (.int .i64 a795)] :: Cl b790 [.slice A792 2 c793] 116 :: Cl b797 [.int .i64 r.2.at_, .int .i64 r.2.why] 64 :: Cl b800 [.pointer (some ⟨b797, 0, none⟩)] 68 :: l) hf) := by
  have h := Holds.of h
  refine enter (args := [.iface 114 (.pointer (some ⟨b790, 0, none⟩)), .iface 68 (.pointer (some ⟨b797, 0, none⟩)), .agg #[.pointer (some ⟨1, 68, none⟩), .pointer (some ⟨b800, 0, none⟩), .int .u64 150], .iface 96 (.agg #[.pointer (some ⟨1, 64, none⟩)])]) Tryd.func41 rfl Tryd.ntmps41 (Nat.le_of_ble_eq_true rfl) ?_
  refine RC.seq ?_
  refine RC.region ?_
  refine RL.e (OW.box (cs := [.pointer (some ⟨1, 68, none⟩), .pointer (some ⟨b800, 0, none⟩), .int .u64 150]) hS rfl rfl) rfl rfl ?_
  rintro _ w ⟨b847, rfl, hS⟩
  have hS : St B w (Cl b847 [.pointer (some ⟨1, 68, none⟩), .pointer (some ⟨b800, 0, none⟩), .int .u64 150] 79 :: OSl 66 1 (.slice A792 2 c793) 2 [.iface 64 (.agg #[.int .i64 a794.at_, .int .i64 a794.why]), .iface 28 (.int .i64 a795)] :: Cl b790 [.slice A792 2 c793] 116 :: Cl b797 [.int .i64 a798.at_, .int .i64 a798.why] 64 :: Cl b800 [.pointer (some ⟨b797, 0, none⟩)] 68 :: l) hf := hS
  refine RL.s (Vl.assign rfl) rfl ?_
  refine RL.nil ?_
  refine RQ.then_n ?_
  refine RC.block ?_
  refine RC.unroll ?_
  refine RQ.round ?_
  refine RC.block ?_
  refine RC.seq ?_
  refine RC.seq ?_
  refine RC.region ?_
  refine RL.s (Vl.move rfl) rfl ?_
  refine RL.s (Vl.extern (ls := [.tmp 16]) (v := .iface 96 (.agg #[.pointer (some ⟨1, 114, none⟩)])) rfl Tryd.func42 (by kernel_rfl) (by kernel_rfl) (by kernel_rfl) (e := Extern.ReflectliteType.typeOf) (by kernel_rfl) (fun w => by kernel_rfl)) rfl ?_
  refine RL.s (Vl.move rfl) rfl ?_
  refine RL.s (Vl.invokeX (F := 77) (ls := [.tmp 18]) (v := .bool false) (u' := .agg #[.pointer (some ⟨1, 114, none⟩)]) rfl rfl (fun w => by kernel_rfl) Tryd.func77 (by kernel_rfl) (by kernel_rfl) (by kernel_rfl) (e := (Extern.ReflectliteType.relation "AssignableTo" Extern.ReflectliteType.assignableTo)) (by kernel_rfl) (fun w => by kernel_rfl)) rfl ?_
  refine RL.nil ?_
  refine RQ.then_n ?_
  refine RC.condF rfl ?_
  refine RC.skip ?_
  refine RQ.then_n ?_
  refine RC.seq ?_
  refine RC.seq ?_
  refine RC.region ?_
  refine RL.s (Vl.move rfl) rfl ?_
  refine RL.s (Vl.tassert (r := .tuple #[.nilIface, .bool false]) rfl (fun w => run_typeAssert_lacksB Tryd.underlying100 (by kernel_rfl) (by kernel_rfl) _ _ w)) rfl ?_
  refine RL.s (Vl.move rfl) rfl ?_
  refine RL.s (Vl.extract rfl rfl) rfl ?_
  refine RL.s (Vl.extract rfl rfl) rfl ?_
  refine RL.s (Vl.assign rfl) rfl ?_
  refine RL.s (Vl.assign rfl) rfl ?_
  refine RL.nil ?_
  refine RQ.then_n ?_
  refine RC.seq ?_
  refine RC.region ?_
  refine RL.s (Vl.move rfl) rfl ?_
  refine RL.s (Vl.move rfl) rfl ?_
  refine RL.nn rfl rfl ?_
  refine RL.nn rfl rfl ?_
  refine RL.nn rfl rfl ?_
  refine RL.s (Vl.pickF rfl rfl) rfl ?_
  refine RL.nil ?_
  refine RQ.then_n ?_
  refine RC.condF rfl ?_
  refine RC.skip ?_
  refine RQ.then_n ?_
  refine RC.seq ?_
  refine RC.region ?_
  refine RL.s (Vl.move rfl) rfl ?_
  refine RL.nil ?_
  refine RQ.then_n ?_
  refine RC.block ?_
  refine RC.seq ?_
  refine RC.region ?_
  refine RL.s (Vl.tassert (r := .tuple #[.nilIface, .bool false]) rfl (fun w => run_typeAssert_lacksB Tryd.underlying103 (by kernel_rfl) (by kernel_rfl) _ _ w)) rfl ?_
  refine RL.s (Vl.extract rfl rfl) rfl ?_
  refine RL.s (Vl.extract rfl rfl) rfl ?_
  refine RL.nil ?_
  refine RQ.then_n ?_
  refine RC.condF rfl ?_
  refine RC.seq ?_
  refine RC.region ?_
  refine RL.s (Vl.tassert (r := .tuple #[.iface 114 (.pointer (some ⟨b790, 0, none⟩)), .bool true]) rfl (fun w => run_typeAssert_hasB Tryd.underlying105 (by kernel_rfl) _ _ w)) rfl ?_
  refine RL.s (Vl.extract rfl rfl) rfl ?_
  refine RL.s (Vl.extract rfl rfl) rfl ?_
  refine RL.nil ?_
  refine RQ.then_n ?_
  refine RC.condT rfl ?_
  refine RC.seq ?_
  refine RC.region ?_
  refine RL.s (Vl.assign rfl) rfl ?_
  refine RL.nil ?_
  refine RQ.then_n ?_
  refine RC.seq ?_
  refine RC.seq ?_
  refine RC.region ?_
  refine RL.s (Vl.move rfl) rfl ?_
  obtain ⟨t848, hg849, h⟩ := h.bind
  refine RL.e (OW.invoke (F := 90) (u' := .pointer (some ⟨b790, 0, none⟩)) (ls := []) rfl rfl (fun w => by kernel_rfl) Tryd.call90 rfl (errors_joinError_Unwrap.ok a794 a795 b790 A792 c793 _ hg849 (((((hS.pull 4 rfl rfl).pull 4 rfl rfl).pull 2 rfl rfl).pull 4 rfl rfl).pull 4 rfl rfl))) rfl rfl ?_
  rintro _ w ⟨rfl, hS⟩
  have hS : St B w (OSl 66 1 (.slice A792 2 c793) 2 [.iface 64 (.agg #[.int .i64 a794.at_, .int .i64 a794.why]), .iface 28 (.int .i64 a795)] :: Cl b790 [.slice A792 2 c793] 116 :: Cl b847 [.pointer (some ⟨1, 68, none⟩), .pointer (some ⟨b800, 0, none⟩), .int .u64 150] 79 :: Cl b797 [.int .i64 a798.at_, .int .i64 a798.why] 64 :: Cl b800 [.pointer (some ⟨b797, 0, none⟩)] 68 :: l) hf := hS
  refine RL.s (Vl.lenSl Tryd.underlying106 rfl) rfl ?_
  refine RL.s (Vl.move rfl) rfl ?_
  refine RL.nil ?_
  refine RQ.then_n ?_
  refine RC.block ?_
  refine RC.unroll ?_
  refine RQ.round ?_
  refine RC.seq ?_
  refine RC.region ?_
  refine RL.s (Vl.int rfl rfl rfl) rfl ?_
  refine RL.nil ?_
  refine RQ.then_n ?_
  refine RC.seq ?_
  refine RC.condT rfl ?_
  refine RC.skip ?_
  refine RQ.then_n ?_
  refine RC.seq ?_
  refine RC.block ?_
  refine RC.seq ?_
  refine RC.region ?_
  refine RL.s (Vl.indexAddr (a'' := (ad A792).add 0) Tryd.underlying106 Tryd.sizeOf66 rfl rfl (hS.litAdr 0 rfl (by decide)) (by decide) (by decide) rfl) rfl ?_
  refine RL.s (Vl.load Tryd.isAgg66 rfl (hS.litCell 0 rfl rfl)) rfl ?_
  refine RL.s (Vl.assign rfl) rfl ?_
  refine RL.nil ?_
  refine RQ.then_n ?_
  refine RC.seq ?_
  refine RC.seq ?_
  refine RC.region ?_
  refine RL.s (Vl.move rfl) rfl ?_
  refine RL.s (Vl.bin (v := .bool false) rfl rfl (by kernel_rfl)) rfl ?_
  refine RL.nil ?_
  refine RQ.then_n ?_
  refine RC.condF rfl ?_
  refine RC.skip ?_
  refine RQ.then_n ?_
  refine RC.seq ?_
  refine RC.region ?_
  refine RL.s (Vl.move rfl) rfl ?_
  refine RL.s (Vl.move rfl) rfl ?_
  refine RL.s (Vl.loadA (vs := [.pointer (some ⟨1, 68, none⟩), .pointer (some ⟨b800, 0, none⟩), .int .u64 150]) Tryd.isAgg79 Tryd.sizeOf79 rfl rfl (hS.cellsAt 2 rfl rfl)) rfl ?_
  refine RL.s (Vl.move rfl) rfl ?_
  obtain ⟨t855, hg856, h⟩ := h.bind
  obtain ⟨y857, y858⟩ := t855
  refine RL.e (OW.callF (ls := [.tmp 56, .tmp 57, .tmp 58, .tmp 59]) rfl Tryd.call41 (errors_as_3.ok a794 a798 b797 b800 _ hg856 (((((hS.pull 2 rfl rfl).pull 2 rfl rfl).pull 2 rfl rfl).pull 4 rfl rfl).pull 4 rfl rfl))) rfl rfl ?_
  rintro _ w ⟨rfl, hS⟩
  have hS : St B w (Cl b797 [.int .i64 y858.at_, .int .i64 y858.why] 64 :: Cl b800 [.pointer (some ⟨b797, 0, none⟩)] 68 :: OSl 66 1 (.slice A792 2 c793) 2 [.iface 64 (.agg #[.int .i64 a794.at_, .int .i64 a794.why]), .iface 28 (.int .i64 a795)] :: Cl b790 [.slice A792 2 c793] 116 :: Cl b847 [.pointer (some ⟨1, 68, none⟩), .pointer (some ⟨b800, 0, none⟩), .int .u64 150] 79 :: l) hf := hS
  refine RL.nil ?_
  refine RQ.then_n ?_
  by_cases hc859 : y857 = true
  case pos =>
    have h := h.pos hc859
    refine RC.re 60 rfl (congrArg Value.bool (id hc859)) ?_
    refine RC.condT rfl ?_
    refine RC.seq ?_
    refine RC.region ?_
    refine RL.s (Vl.assign rfl) rfl ?_
    refine RL.nil ?_
    refine RQ.then_n ?_
    refine RC.ret ?_
    refine RQ.inB_ret ?_
    refine RQ.ret ?_
    refine RQ.ret ?_
    refine RQ.inB_ret ?_
    refine RQ.ret ?_
    refine RQ.inB_ret ?_
    refine RQ.inB_ret ?_
    refine RQ.ret ?_
    refine RQ.inB_ret ?_
    have e := h.some
    subst e
    refine RQ.ret0 (vs := [.bool true]) Tryd.results41 ⟨rfl, trivial⟩ ?_
    exact ⟨rfl, (((((hS.dropAt 4 rfl).pull 1 rfl rfl).pull 1 rfl rfl).pull 3 rfl rfl).pull 3 rfl rfl)⟩
  case neg =>
    have h := h.neg hc859
    refine RC.re 60 rfl (congrArg Value.bool (eq_false_of hc859)) ?_
    refine RC.condF rfl ?_
    refine RC.skip ?_
    refine RQ.inB_n ?_
    refine RQ.then_n ?_
    refine RC.region ?_
    refine RL.s (Vl.int rfl rfl rfl) rfl ?_
    refine RL.s (Vl.move rfl) rfl ?_
    refine RL.nil ?_
    refine RQ.then_n ?_
    refine RQ.round ?_
    refine RC.seq ?_
    refine RC.region ?_
    refine RL.s (Vl.int rfl rfl rfl) rfl ?_
    refine RL.nil ?_
    refine RQ.then_n ?_
    refine RC.seq ?_
    refine RC.condT rfl ?_
    refine RC.skip ?_
    refine RQ.then_n ?_
    refine RC.seq ?_
    refine RC.block ?_
    refine RC.seq ?_
    refine RC.region ?_
    refine RL.s (Vl.indexAddr (a'' := (ad A792).add 1) Tryd.underlying106 Tryd.sizeOf66 rfl rfl (hS.litAdr 2 rfl (by decide)) (by decide) (by decide) rfl) rfl ?_
    refine RL.s (Vl.load Tryd.isAgg66 rfl (hS.litCell 2 rfl rfl)) rfl ?_
    refine RL.s (Vl.assign rfl) rfl ?_
    refine RL.nil ?_
    refine RQ.then_n ?_
    refine RC.seq ?_
    refine RC.seq ?_
    refine RC.region ?_
    refine RL.s (Vl.move rfl) rfl ?_
    refine RL.s (Vl.bin (v := .bool false) rfl rfl (by kernel_rfl)) rfl ?_
    refine RL.nil ?_
    refine RQ.then_n ?_
    refine RC.condF rfl ?_
    refine RC.skip ?_
    refine RQ.then_n ?_
    refine RC.seq ?_
    refine RC.region ?_
    refine RL.s (Vl.move rfl) rfl ?_
    refine RL.s (Vl.move rfl) rfl ?_
    refine RL.s (Vl.loadA (vs := [.pointer (some ⟨1, 68, none⟩), .pointer (some ⟨b800, 0, none⟩), .int .u64 150]) Tryd.isAgg79 Tryd.sizeOf79 rfl rfl (hS.cellsAt 4 rfl rfl)) rfl ?_
    refine RL.s (Vl.move rfl) rfl ?_
    obtain ⟨t863, hg864, h⟩ := h.bind
    refine RL.e (OW.callF (ls := [.tmp 56, .tmp 57, .tmp 58, .tmp 59]) rfl Tryd.call41 (errors_as.ok a795 y858 b797 b800 _ hg864 hS)) rfl rfl ?_
    rintro _ w ⟨rfl, hS⟩
    have hS : St B w (Cl b797 [.int .i64 y858.at_, .int .i64 y858.why] 64 :: Cl b800 [.pointer (some ⟨b797, 0, none⟩)] 68 :: OSl 66 1 (.slice A792 2 c793) 2 [.iface 64 (.agg #[.int .i64 a794.at_, .int .i64 a794.why]), .iface 28 (.int .i64 a795)] :: Cl b790 [.slice A792 2 c793] 116 :: Cl b847 [.pointer (some ⟨1, 68, none⟩), .pointer (some ⟨b800, 0, none⟩), .int .u64 150] 79 :: l) hf := hS
    refine RL.nil ?_
    refine RQ.then_n ?_
    by_cases hc865 : t863 = true
    case pos =>
      have h := h.pos hc865
      refine RC.re 60 rfl (congrArg Value.bool (id hc865)) ?_
      refine RC.condT rfl ?_
      refine RC.seq ?_
      refine RC.region ?_
      refine RL.s (Vl.assign rfl) rfl ?_
      refine RL.nil ?_
      refine RQ.then_n ?_
      refine RC.ret ?_
      refine RQ.inB_ret ?_
      refine RQ.ret ?_
      refine RQ.ret ?_
      refine RQ.inB_ret ?_
      refine RQ.ret ?_
      refine RQ.inB_ret ?_
      refine RQ.inB_ret ?_
      refine RQ.ret ?_
      refine RQ.inB_ret ?_
      have e := h.some
      subst e
      refine RQ.ret0 (vs := [.bool true]) Tryd.results41 ⟨rfl, trivial⟩ ?_
      exact ⟨rfl, (((((hS.dropAt 4 rfl).pull 1 rfl rfl).pull 1 rfl rfl).pull 3 rfl rfl).pull 3 rfl rfl)⟩
    case neg =>
      have h := h.neg hc865
      refine RC.re 60 rfl (congrArg Value.bool (eq_false_of hc865)) ?_
      refine RC.condF rfl ?_
      refine RC.skip ?_
      refine RQ.inB_n ?_
      refine RQ.then_n ?_
      refine RC.region ?_
      refine RL.s (Vl.int rfl rfl rfl) rfl ?_
      refine RL.s (Vl.move rfl) rfl ?_
      refine RL.nil ?_
      refine RQ.then_n ?_
      refine RQ.round ?_
      refine RC.seq ?_
      refine RC.region ?_
      refine RL.s (Vl.int rfl rfl rfl) rfl ?_
      refine RL.nil ?_
      refine RQ.then_n ?_
      refine RC.seq ?_
      refine RC.condF rfl ?_
      refine RC.exit ?_
      refine RQ.exitT ?_
      refine RQ.exitT ?_
      refine RQ.inB_hit ?_
      refine RQ.then_n ?_
      refine RC.seq ?_
      refine RC.region ?_
      refine RL.s (Vl.assign rfl) rfl ?_
      refine RL.nil ?_
      refine RQ.then_n ?_
      refine RC.ret ?_
      refine RQ.inB_ret ?_
      refine RQ.inB_ret ?_
      refine RQ.ret ?_
      refine RQ.inB_ret ?_
      have e := h.some
      subst e
      refine RQ.ret0 (vs := [.bool false]) Tryd.results41 ⟨rfl, trivial⟩ ?_
      exact ⟨rfl, (((((hS.dropAt 4 rfl).pull 1 rfl rfl).pull 1 rfl rfl).pull 3 rfl rfl).pull 3 rfl rfl)⟩

/-! ### errors.As: function 21 -/
noncomputable def errors_As_2.f (a780 : model_flaw) (a781 : Int) (a784 : model_flaw) : Option (Bool × model_flaw) := ((errors_as_2.f a780 a781 a784).bind fun (y876, y877) => some (y876, y877))
set_option maxRecDepth 100000 in
set_option maxHeartbeats 4000000 in
theorem errors_As_2.ok {B : Base} {w : World} {l : List HProp} {hf : Hp} (a780 : model_flaw) (a781 : Int) (a784 : model_flaw) (b776 : Nat) (A778 : Option Addr) (c779 : Nat) (b783 : Nat) (hG0 : GlobAt hf 0 (.iface 96 (.agg #[.pointer (some ⟨1, 66, none⟩)]))) (r : Bool × model_flaw) (h : errors_As_2.f a780 a781 a784 = some r) (hS : St B w (OSl 66 1 (.slice A778 2 c779) 2 [.iface 64 (.agg #[.int .i64 a780.at_, .int .i64 a780.why]), .iface 28 (.int .i64 a781)] :: Cl b776 [.slice A778 2 c779] 116 :: Cl b783 [.int .i64 a784.at_, .int .i64 a784.why] 64 :: l) hf) :
    Calls Tryd.prog 21 #[.iface 114 (.pointer (some ⟨b776, 0, none⟩)), .iface 68 (.pointer (some ⟨b783, 0, none⟩))] w (Ret fun v w => v = .bool r.1 ∧ St B w (OSl 66 1 (.slice A778 2 c779) 2 [.iface 64 (.agg #[.int .i64 a780.at_, .int .i64 a780.why]), .iface 28 (.int .i64 a781)] :: Cl b776 [.slice A778 2 c779] 116 :: Cl b783 [.int .i64 r.2.at_, .int .i64 r.2.why] 64 :: l) hf) := by
  have h := Holds.of h
  refine enter (args := [.iface 114 (.pointer (some ⟨b776, 0, none⟩)), .iface 68 (.pointer (some ⟨b783, 0, none⟩))]) Tryd.func21 rfl Tryd.ntmps21 (Nat.le_of_ble_eq_true rfl) ?_
  refine RC.seq ?_
  refine RC.region ?_
  refine RL.s (Vl.assign rfl) rfl ?_
  refine RL.nil ?_
  refine RQ.then_n ?_
  refine RC.seq ?_
  refine RC.seq ?_
  refine RC.region ?_
  refine RL.s (Vl.move rfl) rfl ?_
  refine RL.s (Vl.bin (v := .bool false) rfl rfl (by kernel_rfl)) rfl ?_
  refine RL.nil ?_
  refine RQ.then_n ?_
  refine RC.condF rfl ?_
  refine RC.skip ?_
  refine RQ.then_n ?_
  refine RC.seq ?_
  refine RC.seq ?_
  refine RC.region ?_
  refine RL.s (Vl.move rfl) rfl ?_
  refine RL.s (Vl.bin (v := .bool false) rfl rfl (by kernel_rfl)) rfl ?_
  refine RL.nil ?_
  refine RQ.then_n ?_
  refine RC.condF rfl ?_
  refine RC.skip ?_
  refine RQ.then_n ?_
  refine RC.seq ?_
  refine RC.region ?_
  refine RL.s (Vl.move rfl) rfl ?_
  refine RL.e (OW.externNew (ls := [.tmp 13]) (cs := [.pointer (some ⟨b783, 0, none⟩)]) (T := 68) (v := fun b => .agg #[.pointer (some ⟨1, 68, none⟩), .pointer (some ⟨b, 0, none⟩), .int .u64 150]) hS rfl Tryd.func38 (by kernel_rfl) (by kernel_rfl) (by kernel_rfl) (e := fun args => Extern.ReflectliteValue.unpack (args.getD 0 (.tuple #[]))) (by kernel_rfl) (fun w => by kernel_rfl)) rfl rfl ?_
  rintro _ w ⟨b871, rfl, hS⟩
  have hS : St B w (Cl b871 [.pointer (some ⟨b783, 0, none⟩)] 68 :: OSl 66 1 (.slice A778 2 c779) 2 [.iface 64 (.agg #[.int .i64 a780.at_, .int .i64 a780.why]), .iface 28 (.int .i64 a781)] :: Cl b776 [.slice A778 2 c779] 116 :: Cl b783 [.int .i64 a784.at_, .int .i64 a784.why] 64 :: l) hf := hS
  refine RL.e (OW.alloc (cs := [.pointer none, .pointer none, .int .u64 0]) hS Tryd.zeroValue79 rfl) rfl rfl ?_
  rintro _ w ⟨b873, rfl, hS⟩
  have hS : St B w (Cl b873 [.pointer none, .pointer none, .int .u64 0] 79 :: Cl b871 [.pointer (some ⟨b783, 0, none⟩)] 68 :: OSl 66 1 (.slice A778 2 c779) 2 [.iface 64 (.agg #[.int .i64 a780.at_, .int .i64 a780.why]), .iface 28 (.int .i64 a781)] :: Cl b776 [.slice A778 2 c779] 116 :: Cl b783 [.int .i64 a784.at_, .int .i64 a784.why] 64 :: l) hf := hS
  refine RL.e0 (OW.store (cs := [.pointer none, .pointer none, .int .u64 0]) (vs := [.pointer (some ⟨1, 68, none⟩), .pointer (some ⟨b871, 0, none⟩), .int .u64 150]) (l' := Cl b873 [.pointer (some ⟨1, 68, none⟩), .pointer (some ⟨b871, 0, none⟩), .int .u64 150] 79 :: Cl b871 [.pointer (some ⟨b783, 0, none⟩)] 68 :: OSl 66 1 (.slice A778 2 c779) 2 [.iface 64 (.agg #[.int .i64 a780.at_, .int .i64 a780.why]), .iface 28 (.int .i64 a781)] :: Cl b776 [.slice A778 2 c779] 116 :: Cl b783 [.int .i64 a784.at_, .int .i64 a784.why] 64 :: l) 0 hS rfl rfl rfl rfl Tryd.sizeOf79 rfl rfl rfl rfl) rfl ?_
  rintro _ w ⟨rfl, hS⟩
  have hS : St B w (Cl b873 [.pointer (some ⟨1, 68, none⟩), .pointer (some ⟨b871, 0, none⟩), .int .u64 150] 79 :: Cl b871 [.pointer (some ⟨b783, 0, none⟩)] 68 :: OSl 66 1 (.slice A778 2 c779) 2 [.iface 64 (.agg #[.int .i64 a780.at_, .int .i64 a780.why]), .iface 28 (.int .i64 a781)] :: Cl b776 [.slice A778 2 c779] 116 :: Cl b783 [.int .i64 a784.at_, .int .i64 a784.why] 64 :: l) hf := hS
  refine RL.nil ?_
  refine RQ.then_n ?_
  refine RC.seq ?_
  refine RC.region ?_
  refine RL.s (Vl.loadA (vs := [.pointer (some ⟨1, 68, none⟩), .pointer (some ⟨b871, 0, none⟩), .int .u64 150]) Tryd.isAgg79 Tryd.sizeOf79 rfl rfl (hS.cellsAt 0 rfl rfl)) rfl ?_
  refine RL.s (Vl.extern (ls := [.tmp 15]) (v := .iface 96 (.agg #[.pointer (some ⟨1, 68, none⟩)])) rfl Tryd.func39 (by kernel_rfl) (by kernel_rfl) (by kernel_rfl) (e := Extern.ReflectliteValue.methodAny (Extern.ReflectliteValue.valueError "reflectlite.Value.Type" 0) fun t _ _ _ => Extern.ReflectliteType.toType t) (by kernel_rfl) (fun w => by kernel_rfl)) rfl ?_
  refine RL.s (Vl.assign rfl) rfl ?_
  refine RL.nil ?_
  refine RQ.then_n ?_
  refine RC.seq ?_
  refine RC.seq ?_
  refine RC.region ?_
  refine RL.s (Vl.move rfl) rfl ?_
  refine RL.s (Vl.invokeX (F := 67) (ls := []) (v := .int .u8 22) (u' := .pointer (some ⟨1, 68, none⟩)) rfl rfl (fun w => by kernel_rfl) Tryd.func67 (by kernel_rfl) (by kernel_rfl) (by kernel_rfl) (e := (Extern.ReflectliteType.abiMethod fun t => do pure (.int .u8 (← Extern.Rtype.kind t)))) (by kernel_rfl) (fun w => by kernel_rfl)) rfl ?_
  refine RL.s (Vl.int rfl rfl rfl) rfl ?_
  refine RL.s (Vl.move rfl) rfl ?_
  refine RL.sg (Vl.loadA (vs := [.pointer (some ⟨1, 68, none⟩), .pointer (some ⟨b871, 0, none⟩), .int .u64 150]) Tryd.isAgg79 Tryd.sizeOf79 rfl rfl (hS.cellsAt 0 rfl rfl)) rfl rfl ?_
  refine RL.sg (Vl.externAt (ls := [.tmp 21]) (v := .bool false) rfl Tryd.func40 (by kernel_rfl) (by kernel_rfl) (by kernel_rfl) (e := Extern.ReflectliteValue.method (Extern.ReflectliteValue.valueError "reflectlite.Value.IsNil" 0) Extern.ReflectliteValue.isNil) (by kernel_rfl) (run_isNil (n := 150) (a := ⟨b871, 0, none⟩) (fun w => by kernel_rfl) Tryd.underlying68 rfl (hS.cell 1 rfl rfl))) rfl rfl ?_
  refine RL.s (Vl.pickF rfl rfl) rfl ?_
  refine RL.nil ?_
  refine RQ.then_n ?_
  refine RC.condF rfl ?_
  refine RC.skip ?_
  refine RQ.then_n ?_
  refine RC.seq ?_
  refine RC.region ?_
  refine RL.s (Vl.move rfl) rfl ?_
  refine RL.s (Vl.invokeX (F := 79) (ls := []) (v := .iface 96 (.agg #[.pointer (some ⟨1, 64, none⟩)])) (u' := .agg #[.pointer (some ⟨1, 68, none⟩)]) rfl rfl (fun w => by kernel_rfl) Tryd.func79 (by kernel_rfl) (by kernel_rfl) (by kernel_rfl) (e := (Extern.ReflectliteType.method Extern.ReflectliteType.elem)) (by kernel_rfl) (fun w => by kernel_rfl)) rfl ?_
  refine RL.s (Vl.assign rfl) rfl ?_
  refine RL.nil ?_
  refine RQ.then_n ?_
  refine RC.seq ?_
  refine RC.seq ?_
  refine RC.region ?_
  refine RL.s (Vl.move rfl) rfl ?_
  refine RL.s (Vl.invokeX (F := 67) (ls := []) (v := .int .u8 25) (u' := .pointer (some ⟨1, 64, none⟩)) rfl rfl (fun w => by kernel_rfl) Tryd.func67 (by kernel_rfl) (by kernel_rfl) (by kernel_rfl) (e := (Extern.ReflectliteType.abiMethod fun t => do pure (.int .u8 (← Extern.Rtype.kind t)))) (by kernel_rfl) (fun w => by kernel_rfl)) rfl ?_
  refine RL.s (Vl.int rfl rfl rfl) rfl ?_
  refine RL.s (Vl.move rfl) rfl ?_
  refine RL.sg (Vl.move rfl) rfl rfl ?_
  refine RL.sg (Vl.load Tryd.isAgg82 rfl (cellH_world hS.sub hG0)) rfl rfl ?_
  refine RL.sg (Vl.invokeX (F := 80) (ls := [.tmp 32]) (v := .bool true) (u' := .agg #[.pointer (some ⟨1, 64, none⟩)]) rfl rfl (fun w => by kernel_rfl) Tryd.func80 (by kernel_rfl) (by kernel_rfl) (by kernel_rfl) (e := (Extern.ReflectliteType.relation "Implements" Extern.ReflectliteType.implements_)) (by kernel_rfl) (fun w => by kernel_rfl)) rfl rfl ?_
  refine RL.sg (Vl.not rfl) rfl rfl ?_
  refine RL.s (Vl.pickT rfl rfl) rfl ?_
  refine RL.nil ?_
  refine RQ.then_n ?_
  refine RC.condF rfl ?_
  refine RC.skip ?_
  refine RQ.then_n ?_
  refine RC.seq ?_
  refine RC.region ?_
  refine RL.s (Vl.move rfl) rfl ?_
  refine RL.s (Vl.move rfl) rfl ?_
  refine RL.s (Vl.loadA (vs := [.pointer (some ⟨1, 68, none⟩), .pointer (some ⟨b871, 0, none⟩), .int .u64 150]) Tryd.isAgg79 Tryd.sizeOf79 rfl rfl (hS.cellsAt 0 rfl rfl)) rfl ?_
  refine RL.s (Vl.move rfl) rfl ?_
  obtain ⟨t874, hg875, h⟩ := h.bind
  obtain ⟨y876, y877⟩ := t874
  refine RL.e (OW.callF (ls := [.tmp 37, .tmp 38, .tmp 39, .tmp 40]) rfl Tryd.call41 (errors_as_2.ok a780 a781 a784 b776 A778 c779 b783 b871 _ hg875 (((((hS.pull 0 rfl rfl).pull 1 rfl rfl).pull 4 rfl rfl).pull 4 rfl rfl).pull 4 rfl rfl))) rfl rfl ?_
  rintro _ w ⟨rfl, hS⟩
  have hS : St B w (OSl 66 1 (.slice A778 2 c779) 2 [.iface 64 (.agg #[.int .i64 a780.at_, .int .i64 a780.why]), .iface 28 (.int .i64 a781)] :: Cl b776 [.slice A778 2 c779] 116 :: Cl b783 [.int .i64 y877.at_, .int .i64 y877.why] 64 :: Cl b871 [.pointer (some ⟨b783, 0, none⟩)] 68 :: Cl b873 [.pointer (some ⟨1, 68, none⟩), .pointer (some ⟨b871, 0, none⟩), .int .u64 150] 79 :: l) hf := hS
  refine RL.s (Vl.assign rfl) rfl ?_
  refine RL.nil ?_
  refine RQ.then_n ?_
  refine RC.ret ?_
  have e := h.some
  subst e
  refine RQ.ret0 (vs := [.bool y876]) Tryd.results21 ⟨rfl, trivial⟩ ?_
  exact ⟨rfl, ((hS.dropAt 3 rfl).dropAt 3 rfl)⟩

/-! ### (isochron/model.flaw).Unwrap: function 72 -/
noncomputable def model_flaw_Unwrap.f (a909 : model_flaw) : Option (Int) := some a909.why
set_option maxRecDepth 100000 in
set_option maxHeartbeats 4000000 in
theorem model_flaw_Unwrap.ok {B : Base} {w : World} {l : List HProp} {hf : Hp} (a909 : model_flaw) (r : Int) (h : model_flaw_Unwrap.f a909 = some r) (hS : St B w (l) hf) :
    Calls Tryd.prog 72 #[.agg #[.int .i64 a909.at_, .int .i64 a909.why]] w (Ret fun v w => v = .iface 28 (.int .i64 r) ∧ St B w (l) hf) := by
  have h := Holds.of h
  refine enter (args := [.agg #[.int .i64 a909.at_, .int .i64 a909.why]]) Tryd.func72 rfl Tryd.ntmps72 (Nat.le_of_ble_eq_true rfl) ?_
  refine RC.seq ?_
  refine RC.region ?_
  refine RL.e (OW.box (cs := [.int .i64 a909.at_, .int .i64 a909.why]) hS rfl rfl) rfl rfl ?_
  rintro _ w ⟨b913, rfl, hS⟩
  have hS : St B w (Cl b913 [.int .i64 a909.at_, .int .i64 a909.why] 64 :: l) hf := hS
  refine RL.s (Vl.assign rfl) rfl ?_
  refine RL.nil ?_
  refine RQ.then_n ?_
  refine RC.seq ?_
  refine RC.region ?_
  refine RL.s (Vl.fieldAddr (a'' := ⟨b913, 1, none⟩) Tryd.underlying64 rfl Tryd.sizeOf28 rfl rfl) rfl ?_
  refine RL.s (Vl.load Tryd.isAgg28 rfl (hS.cell 0 rfl rfl)) rfl ?_
  refine RL.s (Vl.makeIface Tryd.underlying28 rfl rfl) rfl ?_
  refine RL.s (Vl.assign rfl) rfl ?_
  refine RL.nil ?_
  refine RQ.then_n ?_
  refine RC.ret ?_
  have e := h.some
  subst e
  refine RQ.ret0 (vs := [.iface 28 (.int .i64 a909.why)]) Tryd.results72 ⟨rfl, trivial⟩ ?_
  exact ⟨rfl, (hS.dropAt 0 rfl)⟩

/-! ### errors.is: function 43 -/
noncomputable def errors_is_4.f (a904 : model_flaw) (a905 : Int) (a906 : Bool) : Option (Bool) := (if a906 = true then ((model_flaw_Unwrap.f a904).bind fun t922 => (if t922 = a905 then some true else some false)) else ((model_flaw_Unwrap.f a904).bind fun t926 => some false))
set_option maxRecDepth 100000 in
set_option maxHeartbeats 4000000 in
theorem errors_is_4.ok {B : Base} {w : World} {l : List HProp} {hf : Hp} (a904 : model_flaw) (a905 : Int) (a906 : Bool) (r : Bool) (h : errors_is_4.f a904 a905 a906 = some r) (hS : St B w (l) hf) :
    Calls Tryd.prog 43 #[.iface 64 (.agg #[.int .i64 a904.at_, .int .i64 a904.why]), .iface 28 (.int .i64 a905), .bool a906] w (Ret fun v w => v = .bool r ∧ St B w (l) hf) := by
  have h := Holds.of h
  refine enter (args := [.iface 64 (.agg #[.int .i64 a904.at_, .int .i64 a904.why]), .iface 28 (.int .i64 a905), .bool a906]) Tryd.func43 rfl Tryd.ntmps43 (Nat.le_of_ble_eq_true rfl) ?_
  refine RC.seq ?_
  refine RC.region ?_
  refine RL.s (Vl.assign rfl) rfl ?_
  refine RL.nil ?_
  refine RQ.then_n ?_
  refine RC.block ?_
  refine RC.unroll ?_
  refine RQ.round ?_
  refine RC.block ?_
  refine RC.seq ?_
  refine RC.seq ?_
  refine RC.region ?_
  refine RL.s (Vl.move rfl) rfl ?_
  refine RL.s (Vl.move rfl) rfl ?_
  by_cases hc921 : a906 = true
  case pos =>
    have h := h.pos hc921
    refine RL.re 15 rfl (congrArg Value.bool (id hc921)) ?_
    refine RL.sg (Vl.move rfl) rfl rfl ?_
    refine RL.sg (Vl.move rfl) rfl rfl ?_
    refine RL.sg (Vl.ifaceNeq rfl rfl Tryd.underlying66 rfl) rfl rfl ?_
    refine RL.s (Vl.pickT rfl rfl) rfl ?_
    refine RL.nil ?_
    refine RQ.then_n ?_
    refine RC.condF rfl ?_
    refine RC.skip ?_
    refine RQ.then_n ?_
    refine RC.seq ?_
    refine RC.seq ?_
    refine RC.region ?_
    refine RL.s (Vl.move rfl) rfl ?_
    refine RL.s (Vl.tassert (r := .tuple #[.nilIface, .bool false]) rfl (fun w => run_typeAssert_lacksB Tryd.underlying108 (by kernel_rfl) (by kernel_rfl) _ _ w)) rfl ?_
    refine RL.s (Vl.move rfl) rfl ?_
    refine RL.s (Vl.extract rfl rfl) rfl ?_
    refine RL.s (Vl.extract rfl rfl) rfl ?_
    refine RL.s (Vl.assign rfl) rfl ?_
    refine RL.s (Vl.assign rfl) rfl ?_
    refine RL.nil ?_
    refine RQ.then_n ?_
    refine RC.seq ?_
    refine RC.region ?_
    refine RL.s (Vl.move rfl) rfl ?_
    refine RL.s (Vl.move rfl) rfl ?_
    refine RL.nn rfl rfl ?_
    refine RL.nn rfl rfl ?_
    refine RL.nn rfl rfl ?_
    refine RL.s (Vl.pickF rfl rfl) rfl ?_
    refine RL.nil ?_
    refine RQ.then_n ?_
    refine RC.condF rfl ?_
    refine RC.skip ?_
    refine RQ.then_n ?_
    refine RC.seq ?_
    refine RC.region ?_
    refine RL.s (Vl.move rfl) rfl ?_
    refine RL.nil ?_
    refine RQ.then_n ?_
    refine RC.block ?_
    refine RC.seq ?_
    refine RC.region ?_
    refine RL.s (Vl.tassert (r := .tuple #[.iface 64 (.agg #[.int .i64 a904.at_, .int .i64 a904.why]), .bool true]) rfl (fun w => run_typeAssert_hasB Tryd.underlying103 (by kernel_rfl) _ _ w)) rfl ?_
    refine RL.s (Vl.extract rfl rfl) rfl ?_
    refine RL.s (Vl.extract rfl rfl) rfl ?_
    refine RL.nil ?_
    refine RQ.then_n ?_
    refine RC.condT rfl ?_
    refine RC.seq ?_
    refine RC.region ?_
    refine RL.s (Vl.assign rfl) rfl ?_
    refine RL.nil ?_
    refine RQ.then_n ?_
    refine RC.seq ?_
    refine RC.region ?_
    refine RL.s (Vl.move rfl) rfl ?_
    obtain ⟨t922, hg923, h⟩ := h.bind
    refine RL.e (OW.invoke (F := 72) (u' := .agg #[.int .i64 a904.at_, .int .i64 a904.why]) (ls := []) rfl rfl (fun w => by kernel_rfl) Tryd.call72 rfl (model_flaw_Unwrap.ok a904 _ hg923 hS)) rfl rfl ?_
    rintro _ w ⟨rfl, hS⟩
    have hS : St B w (l) hf := hS
    refine RL.s (Vl.assign rfl) rfl ?_
    refine RL.nil ?_
    refine RQ.then_n ?_
    refine RC.seq ?_
    refine RC.region ?_
    refine RL.s (Vl.move rfl) rfl ?_
    refine RL.s (Vl.bin (v := .bool false) rfl rfl (by kernel_rfl)) rfl ?_
    refine RL.nil ?_
    refine RQ.then_n ?_
    refine RC.condF rfl ?_
    refine RC.skip ?_
    refine RQ.inB_n ?_
    refine RQ.inB_n ?_
    refine RQ.then_n ?_
    refine RQ.round ?_
    refine RC.block ?_
    refine RC.seq ?_
    refine RC.seq ?_
    refine RC.region ?_
    refine RL.s (Vl.move rfl) rfl ?_
    refine RL.s (Vl.move rfl) rfl ?_
    refine RL.re 15 rfl (congrArg Value.bool (id hc921)) ?_
    refine RL.sg (Vl.move rfl) rfl rfl ?_
    refine RL.sg (Vl.move rfl) rfl rfl ?_
    refine RL.sg (Vl.ifaceInt rfl rfl Tryd.underlying66 Tryd.underlying28 Tryd.type28 rfl) rfl rfl ?_
    refine RL.s (Vl.pickT rfl rfl) rfl ?_
    refine RL.nil ?_
    refine RQ.then_n ?_
    by_cases hc925 : t922 = a905
    case pos =>
      have h := h.pos hc925
      refine RC.re 19 rfl (congrArg Value.bool (decide_eq_true hc925)) ?_
      refine RC.condT rfl ?_
      refine RC.seq ?_
      refine RC.region ?_
      refine RL.s (Vl.assign rfl) rfl ?_
      refine RL.nil ?_
      refine RQ.then_n ?_
      refine RC.ret ?_
      refine RQ.ret ?_
      refine RQ.inB_ret ?_
      refine RQ.ret ?_
      refine RQ.inB_ret ?_
      have e := h.some
      subst e
      refine RQ.ret0 (vs := [.bool true]) Tryd.results43 ⟨rfl, trivial⟩ ?_
      exact ⟨rfl, hS⟩
    case neg =>
      have h := h.neg hc925
      refine RC.re 19 rfl (congrArg Value.bool (decide_eq_false hc925)) ?_
      refine RC.condF rfl ?_
      refine RC.skip ?_
      refine RQ.then_n ?_
      refine RC.seq ?_
      refine RC.seq ?_
      refine RC.region ?_
      refine RL.s (Vl.move rfl) rfl ?_
      refine RL.s (Vl.tassert (r := .tuple #[.nilIface, .bool false]) rfl (fun w => run_typeAssert_lacksB Tryd.underlying108 (by kernel_rfl) (by kernel_rfl) _ _ w)) rfl ?_
      refine RL.s (Vl.move rfl) rfl ?_
      refine RL.s (Vl.extract rfl rfl) rfl ?_
      refine RL.s (Vl.extract rfl rfl) rfl ?_
      refine RL.s (Vl.assign rfl) rfl ?_
      refine RL.s (Vl.assign rfl) rfl ?_
      refine RL.nil ?_
      refine RQ.then_n ?_
      refine RC.seq ?_
      refine RC.region ?_
      refine RL.s (Vl.move rfl) rfl ?_
      refine RL.s (Vl.move rfl) rfl ?_
      refine RL.nn rfl rfl ?_
      refine RL.nn rfl rfl ?_
      refine RL.nn rfl rfl ?_
      refine RL.s (Vl.pickF rfl rfl) rfl ?_
      refine RL.nil ?_
      refine RQ.then_n ?_
      refine RC.condF rfl ?_
      refine RC.skip ?_
      refine RQ.then_n ?_
      refine RC.seq ?_
      refine RC.region ?_
      refine RL.s (Vl.move rfl) rfl ?_
      refine RL.nil ?_
      refine RQ.then_n ?_
      refine RC.block ?_
      refine RC.seq ?_
      refine RC.region ?_
      refine RL.s (Vl.tassert (r := .tuple #[.nilIface, .bool false]) rfl (fun w => run_typeAssert_lacksB Tryd.underlying103 (by kernel_rfl) (by kernel_rfl) _ _ w)) rfl ?_
      refine RL.s (Vl.extract rfl rfl) rfl ?_
      refine RL.s (Vl.extract rfl rfl) rfl ?_
      refine RL.nil ?_
      refine RQ.then_n ?_
      refine RC.condF rfl ?_
      refine RC.seq ?_
      refine RC.region ?_
      refine RL.s (Vl.tassert (r := .tuple #[.nilIface, .bool false]) rfl (fun w => run_typeAssert_lacksB Tryd.underlying105 (by kernel_rfl) (by kernel_rfl) _ _ w)) rfl ?_
      refine RL.s (Vl.extract rfl rfl) rfl ?_
      refine RL.s (Vl.extract rfl rfl) rfl ?_
      refine RL.nil ?_
      refine RQ.then_n ?_
      refine RC.condF rfl ?_
      refine RC.seq ?_
      refine RC.region ?_
      refine RL.s (Vl.assign rfl) rfl ?_
      refine RL.nil ?_
      refine RQ.then_n ?_
      refine RC.seq ?_
      refine RC.region ?_
      refine RL.s (Vl.assign rfl) rfl ?_
      refine RL.nil ?_
      refine RQ.then_n ?_
      refine RC.ret ?_
      refine RQ.inB_ret ?_
      refine RQ.inB_ret ?_
      refine RQ.ret ?_
      refine RQ.inB_ret ?_
      have e := h.some
      subst e
      refine RQ.ret0 (vs := [.bool false]) Tryd.results43 ⟨rfl, trivial⟩ ?_
      exact ⟨rfl, hS⟩
  case neg =>
    have h := h.neg hc921
    refine RL.re 15 rfl (congrArg Value.bool (eq_false_of hc921)) ?_
    refine RL.nn rfl rfl ?_
    refine RL.nn rfl rfl ?_
    refine RL.nn rfl rfl ?_
    refine RL.s (Vl.pickF rfl rfl) rfl ?_
    refine RL.nil ?_
    refine RQ.then_n ?_
    refine RC.condF rfl ?_
    refine RC.skip ?_
    refine RQ.then_n ?_
    refine RC.seq ?_
    refine RC.seq ?_
    refine RC.region ?_
    refine RL.s (Vl.move rfl) rfl ?_
    refine RL.s (Vl.tassert (r := .tuple #[.nilIface, .bool false]) rfl (fun w => run_typeAssert_lacksB Tryd.underlying108 (by kernel_rfl) (by kernel_rfl) _ _ w)) rfl ?_
    refine RL.s (Vl.move rfl) rfl ?_
    refine RL.s (Vl.extract rfl rfl) rfl ?_
    refine RL.s (Vl.extract rfl rfl) rfl ?_
    refine RL.s (Vl.assign rfl) rfl ?_
    refine RL.s (Vl.assign rfl) rfl ?_
    refine RL.nil ?_
    refine RQ.then_n ?_
    refine RC.seq ?_
    refine RC.region ?_
    refine RL.s (Vl.move rfl) rfl ?_
    refine RL.s (Vl.move rfl) rfl ?_
    refine RL.nn rfl rfl ?_
    refine RL.nn rfl rfl ?_
    refine RL.nn rfl rfl ?_
    refine RL.s (Vl.pickF rfl rfl) rfl ?_
    refine RL.nil ?_
    refine RQ.then_n ?_
    refine RC.condF rfl ?_
    refine RC.skip ?_
    refine RQ.then_n ?_
    refine RC.seq ?_
    refine RC.region ?_
    refine RL.s (Vl.move rfl) rfl ?_
    refine RL.nil ?_
    refine RQ.then_n ?_
    refine RC.block ?_
    refine RC.seq ?_
    refine RC.region ?_
    refine RL.s (Vl.tassert (r := .tuple #[.iface 64 (.agg #[.int .i64 a904.at_, .int .i64 a904.why]), .bool true]) rfl (fun w => run_typeAssert_hasB Tryd.underlying103 (by kernel_rfl) _ _ w)) rfl ?_
    refine RL.s (Vl.extract rfl rfl) rfl ?_
    refine RL.s (Vl.extract rfl rfl) rfl ?_
    refine RL.nil ?_
    refine RQ.then_n ?_
    refine RC.condT rfl ?_
    refine RC.seq ?_
    refine RC.region ?_
    refine RL.s (Vl.assign rfl) rfl ?_
    refine RL.nil ?_
    refine RQ.then_n ?_
    refine RC.seq ?_
    refine RC.region ?_
    refine RL.s (Vl.move rfl) rfl ?_
    obtain ⟨t926, hg927, h⟩ := h.bind
    refine RL.e (OW.invoke (F := 72) (u' := .agg #[.int .i64 a904.at_, .int .i64 a904.why]) (ls := []) rfl rfl (fun w => by kernel_rfl) Tryd.call72 rfl (model_flaw_Unwrap.ok a904 _ hg927 hS)) rfl rfl ?_
    rintro _ w ⟨rfl, hS⟩
    have hS : St B w (l) hf := hS
    refine RL.s (Vl.assign rfl) rfl ?_
    refine RL.nil ?_
    refine RQ.then_n ?_
    refine RC.seq ?_
    refine RC.region ?_
    refine RL.s (Vl.move rfl) rfl ?_
    refine RL.s (Vl.bin (v := .bool false) rfl rfl (by kernel_rfl)) rfl ?_
    refine RL.nil ?_
    refine RQ.then_n ?_
    refine RC.condF rfl ?_
    refine RC.skip ?_
    refine RQ.inB_n ?_
    refine RQ.inB_n ?_
    refine RQ.then_n ?_
    refine RQ.round ?_
    refine RC.block ?_
    refine RC.seq ?_
    refine RC.seq ?_
    refine RC.region ?_
    refine RL.s (Vl.move rfl) rfl ?_
    refine RL.s (Vl.move rfl) rfl ?_
    refine RL.re 15 rfl (congrArg Value.bool (eq_false_of hc921)) ?_
    refine RL.nn rfl rfl ?_
    refine RL.nn rfl rfl ?_
    refine RL.nn rfl rfl ?_
    refine RL.s (Vl.pickF rfl rfl) rfl ?_
    refine RL.nil ?_
    refine RQ.then_n ?_
    refine RC.condF rfl ?_
    refine RC.skip ?_
    refine RQ.then_n ?_
    refine RC.seq ?_
    refine RC.seq ?_
    refine RC.region ?_
    refine RL.s (Vl.move rfl) rfl ?_
    refine RL.s (Vl.tassert (r := .tuple #[.nilIface, .bool false]) rfl (fun w => run_typeAssert_lacksB Tryd.underlying108 (by kernel_rfl) (by kernel_rfl) _ _ w)) rfl ?_
    refine RL.s (Vl.move rfl) rfl ?_
    refine RL.s (Vl.extract rfl rfl) rfl ?_
    refine RL.s (Vl.extract rfl rfl) rfl ?_
    refine RL.s (Vl.assign rfl) rfl ?_
    refine RL.s (Vl.assign rfl) rfl ?_
    refine RL.nil ?_
    refine RQ.then_n ?_
    refine RC.seq ?_
    refine RC.region ?_
    refine RL.s (Vl.move rfl) rfl ?_
    refine RL.s (Vl.move rfl) rfl ?_
    refine RL.nn rfl rfl ?_
    refine RL.nn rfl rfl ?_
    refine RL.nn rfl rfl ?_
    refine RL.s (Vl.pickF rfl rfl) rfl ?_
    refine RL.nil ?_
    refine RQ.then_n ?_
    refine RC.condF rfl ?_
    refine RC.skip ?_
    refine RQ.then_n ?_
    refine RC.seq ?_
    refine RC.region ?_
    refine RL.s (Vl.move rfl) rfl ?_
    refine RL.nil ?_
    refine RQ.then_n ?_
    refine RC.block ?_
    refine RC.seq ?_
    refine RC.region ?_
    refine RL.s (Vl.tassert (r := .tuple #[.nilIface, .bool false]) rfl (fun w => run_typeAssert_lacksB Tryd.underlying103 (by kernel_rfl) (by kernel_rfl) _ _ w)) rfl ?_
    refine RL.s (Vl.extract rfl rfl) rfl ?_
    refine RL.s (Vl.extract rfl rfl) rfl ?_
    refine RL.nil ?_
    refine RQ.then_n ?_
    refine RC.condF rfl ?_
    refine RC.seq ?_
    refine RC.region ?_
    refine RL.s (Vl.tassert (r := .tuple #[.nilIface, .bool false]) rfl (fun w => run_typeAssert_lacksB Tryd.underlying105 (by kernel_rfl) (by kernel_rfl) _ _ w)) rfl ?_
    refine RL.s (Vl.extract rfl rfl) rfl ?_
    refine RL.s (Vl.extract rfl rfl) rfl ?_
    refine RL.nil ?_
    refine RQ.then_n ?_
    refine RC.condF rfl ?_
    refine RC.seq ?_
    refine RC.region ?_
    refine RL.s (Vl.assign rfl) rfl ?_
    refine RL.nil ?_
    refine RQ.then_n ?_
    refine RC.seq ?_
    refine RC.region ?_
    refine RL.s (Vl.assign rfl) rfl ?_
    refine RL.nil ?_
    refine RQ.then_n ?_
    refine RC.ret ?_
    refine RQ.inB_ret ?_
    refine RQ.inB_ret ?_
    refine RQ.ret ?_
    refine RQ.inB_ret ?_
    have e := h.some
    subst e
    refine RQ.ret0 (vs := [.bool false]) Tryd.results43 ⟨rfl, trivial⟩ ?_
    exact ⟨rfl, hS⟩

/-! ### errors.is: function 43 -/
noncomputable def errors_is_3.f (a896 : model_flaw) (a897 : Int) (a898 : Int) (a899 : Bool) : Option (Bool) := (if a899 = true then ((errors_joinError_Unwrap.f a896 a897).bind fun _ => ((errors_is_4.f a896 a898 a899).bind fun t961 => (if t961 = true then some true else ((errors_is.f a897 a898 a899).bind fun t967 => (if t967 = true then some true else some false))))) else ((errors_joinError_Unwrap.f a896 a897).bind fun _ => ((errors_is_4.f a896 a898 a899).bind fun t975 => (if t975 = true then some true else ((errors_is.f a897 a898 a899).bind fun t981 => (if t981 = true then some true else some false))))))
set_option maxRecDepth 100000 in
set_option maxHeartbeats 4000000 in
theorem errors_is_3.ok {B : Base} {w : World} {l : List HProp} {hf : Hp} (a896 : model_flaw) (a897 : Int) (a898 : Int) (a899 : Bool) (b892 : Nat) (A894 : Option Addr) (c895 : Nat) (r : Bool) (h : errors_is_3.f a896 a897 a898 a899 = some r) (hS : St B w (OSl 66 1 (.slice A894 2 c895) 2 [.iface 64 (.agg #[.int .i64 a896.at_, .int .i64 a896.why]), .iface 28 (.int .i64 a897)] :: Cl b892 [.slice A894 2 c895] 116 :: l) hf) :
    Calls Tryd.prog 43 #[.iface 114 (.pointer (some ⟨b892, 0, none⟩)), .iface 28 (.int .i64 a898), .bool a899] w (Ret fun v w => v = .bool r ∧ St B w (OSl 66 1 (.slice A894 2 c895) 2 [.iface 64 (.agg #[.int .i64 a896.at_, .int .i64 a896.why]), .iface 28 (.int .i64 a897)] :: Cl b892 [.slice A894 2 c895] 116 :: l) hf) := by
  have h := Holds.of h
  refine enter (args := [.iface 114 (.pointer (some ⟨b892, 0, none⟩)), .iface 28 (.int .i64 a898), .bool a899]) Tryd.func43 rfl Tryd.ntmps43 (Nat.le_of_ble_eq_true rfl) ?_
  refine RC.seq ?_
  refine RC.region ?_
  refine RL.s (Vl.assign rfl) rfl ?_
  refine RL.nil ?_
  refine RQ.then_n ?_
  refine RC.block ?_
  refine RC.unroll ?_
  refine RQ.round ?_
  refine RC.block ?_
  refine RC.seq ?_
  refine RC.seq ?_
  refine RC.region ?_
  refine RL.s (Vl.move rfl) rfl ?_
  refine RL.s (Vl.move rfl) rfl ?_
  by_cases hc955 : a899 = true
  case pos =>
    have h := h.pos hc955
    refine RL.re 15 rfl (congrArg Value.bool (id hc955)) ?_
    refine RL.sg (Vl.move rfl) rfl rfl ?_
    refine RL.sg (Vl.move rfl) rfl rfl ?_
    refine RL.sg (Vl.ifaceNeq rfl rfl Tryd.underlying66 rfl) rfl rfl ?_
    refine RL.s (Vl.pickT rfl rfl) rfl ?_
    refine RL.nil ?_
    refine RQ.then_n ?_
    refine RC.condF rfl ?_
    refine RC.skip ?_
    refine RQ.then_n ?_
    refine RC.seq ?_
    refine RC.seq ?_
    refine RC.region ?_
    refine RL.s (Vl.move rfl) rfl ?_
    refine RL.s (Vl.tassert (r := .tuple #[.nilIface, .bool false]) rfl (fun w => run_typeAssert_lacksB Tryd.underlying108 (by kernel_rfl) (by kernel_rfl) _ _ w)) rfl ?_
    refine RL.s (Vl.move rfl) rfl ?_
    refine RL.s (Vl.extract rfl rfl) rfl ?_
    refine RL.s (Vl.extract rfl rfl) rfl ?_
    refine RL.s (Vl.assign rfl) rfl ?_
    refine RL.s (Vl.assign rfl) rfl ?_
    refine RL.nil ?_
    refine RQ.then_n ?_
    refine RC.seq ?_
    refine RC.region ?_
    refine RL.s (Vl.move rfl) rfl ?_
    refine RL.s (Vl.move rfl) rfl ?_
    refine RL.nn rfl rfl ?_
    refine RL.nn rfl rfl ?_
    refine RL.nn rfl rfl ?_
    refine RL.s (Vl.pickF rfl rfl) rfl ?_
    refine RL.nil ?_
    refine RQ.then_n ?_
    refine RC.condF rfl ?_
    refine RC.skip ?_
    refine RQ.then_n ?_
    refine RC.seq ?_
    refine RC.region ?_
    refine RL.s (Vl.move rfl) rfl ?_
    refine RL.nil ?_
    refine RQ.then_n ?_
    refine RC.block ?_
    refine RC.seq ?_
    refine RC.region ?_
    refine RL.s (Vl.tassert (r := .tuple #[.nilIface, .bool false]) rfl (fun w => run_typeAssert_lacksB Tryd.underlying103 (by kernel_rfl) (by kernel_rfl) _ _ w)) rfl ?_
    refine RL.s (Vl.extract rfl rfl) rfl ?_
    refine RL.s (Vl.extract rfl rfl) rfl ?_
    refine RL.nil ?_
    refine RQ.then_n ?_
    refine RC.condF rfl ?_
    refine RC.seq ?_
    refine RC.region ?_
    refine RL.s (Vl.tassert (r := .tuple #[.iface 114 (.pointer (some ⟨b892, 0, none⟩)), .bool true]) rfl (fun w => run_typeAssert_hasB Tryd.underlying105 (by kernel_rfl) _ _ w)) rfl ?_
    refine RL.s (Vl.extract rfl rfl) rfl ?_
    refine RL.s (Vl.extract rfl rfl) rfl ?_
    refine RL.nil ?_
    refine RQ.then_n ?_
    refine RC.condT rfl ?_
    refine RC.seq ?_
    refine RC.region ?_
    refine RL.s (Vl.assign rfl) rfl ?_
    refine RL.nil ?_
    refine RQ.then_n ?_
    refine RC.seq ?_
    refine RC.seq ?_
    refine RC.region ?_
    refine RL.s (Vl.move rfl) rfl ?_
    obtain ⟨t956, hg957, h⟩ := h.bind
    refine RL.e (OW.invoke (F := 90) (u' := .pointer (some ⟨b892, 0, none⟩)) (ls := []) rfl rfl (fun w => by kernel_rfl) Tryd.call90 rfl (errors_joinError_Unwrap.ok a896 a897 b892 A894 c895 _ hg957 hS)) rfl rfl ?_
    rintro _ w ⟨rfl, hS⟩
    have hS : St B w (OSl 66 1 (.slice A894 2 c895) 2 [.iface 64 (.agg #[.int .i64 a896.at_, .int .i64 a896.why]), .iface 28 (.int .i64 a897)] :: Cl b892 [.slice A894 2 c895] 116 :: l) hf := hS
    refine RL.s (Vl.lenSl Tryd.underlying106 rfl) rfl ?_
    refine RL.s (Vl.move rfl) rfl ?_
    refine RL.nil ?_
    refine RQ.then_n ?_
    refine RC.block ?_
    refine RC.unroll ?_
    refine RQ.round ?_
    refine RC.seq ?_
    refine RC.region ?_
    refine RL.s (Vl.int rfl rfl rfl) rfl ?_
    refine RL.nil ?_
    refine RQ.then_n ?_
    refine RC.seq ?_
    refine RC.condT rfl ?_
    refine RC.skip ?_
    refine RQ.then_n ?_
    refine RC.seq ?_
    refine RC.block ?_
    refine RC.seq ?_
    refine RC.region ?_
    refine RL.s (Vl.indexAddr (a'' := (ad A894).add 0) Tryd.underlying106 Tryd.sizeOf66 rfl rfl (hS.litAdr 0 rfl (by decide)) (by decide) (by decide) rfl) rfl ?_
    refine RL.s (Vl.load Tryd.isAgg66 rfl (hS.litCell 0 rfl rfl)) rfl ?_
    refine RL.s (Vl.assign rfl) rfl ?_
    refine RL.nil ?_
    refine RQ.then_n ?_
    refine RC.seq ?_
    refine RC.region ?_
    refine RL.s (Vl.move rfl) rfl ?_
    refine RL.s (Vl.move rfl) rfl ?_
    refine RL.s (Vl.move rfl) rfl ?_
    obtain ⟨t961, hg962, h⟩ := h.bind
    refine RL.e (OW.callF (ls := [.tmp 49, .tmp 50, .tmp 51]) rfl Tryd.call43 (errors_is_4.ok a896 a898 a899 _ hg962 hS)) rfl rfl ?_
    rintro _ w ⟨rfl, hS⟩
    have hS : St B w (OSl 66 1 (.slice A894 2 c895) 2 [.iface 64 (.agg #[.int .i64 a896.at_, .int .i64 a896.why]), .iface 28 (.int .i64 a897)] :: Cl b892 [.slice A894 2 c895] 116 :: l) hf := hS
    refine RL.nil ?_
    refine RQ.then_n ?_
    by_cases hc963 : t961 = true
    case pos =>
      have h := h.pos hc963
      refine RC.re 52 rfl (congrArg Value.bool (id hc963)) ?_
      refine RC.condT rfl ?_
      refine RC.seq ?_
      refine RC.region ?_
      refine RL.s (Vl.assign rfl) rfl ?_
      refine RL.nil ?_
      refine RQ.then_n ?_
      refine RC.ret ?_
      refine RQ.inB_ret ?_
      refine RQ.ret ?_
      refine RQ.ret ?_
      refine RQ.inB_ret ?_
      refine RQ.ret ?_
      refine RQ.inB_ret ?_
      refine RQ.inB_ret ?_
      refine RQ.ret ?_
      refine RQ.inB_ret ?_
      have e := h.some
      subst e
      refine RQ.ret0 (vs := [.bool true]) Tryd.results43 ⟨rfl, trivial⟩ ?_
      exact ⟨rfl, hS⟩
    case neg =>
      have h := h.neg hc963
      refine RC.re 52 rfl (congrArg Value.bool (eq_false_of hc963)) ?_
      refine RC.condF rfl ?_
      refine RC.skip ?_
      refine RQ.inB_n ?_
      refine RQ.then_n ?_
      refine RC.region ?_
      refine RL.s (Vl.int rfl rfl rfl) rfl ?_
      refine RL.s (Vl.move rfl) rfl ?_
      refine RL.nil ?_
      refine RQ.then_n ?_
      refine RQ.round ?_
      refine RC.seq ?_
      refine RC.region ?_
      refine RL.s (Vl.int rfl rfl rfl) rfl ?_
      refine RL.nil ?_
      refine RQ.then_n ?_
      refine RC.seq ?_
      refine RC.condT rfl ?_
      refine RC.skip ?_
      refine RQ.then_n ?_
      refine RC.seq ?_
      refine RC.block ?_
      refine RC.seq ?_
      refine RC.region ?_
      refine RL.s (Vl.indexAddr (a'' := (ad A894).add 1) Tryd.underlying106 Tryd.sizeOf66 rfl rfl (hS.litAdr 0 rfl (by decide)) (by decide) (by decide) rfl) rfl ?_
      refine RL.s (Vl.load Tryd.isAgg66 rfl (hS.litCell 0 rfl rfl)) rfl ?_
      refine RL.s (Vl.assign rfl) rfl ?_
      refine RL.nil ?_
      refine RQ.then_n ?_
      refine RC.seq ?_
      refine RC.region ?_
      refine RL.s (Vl.move rfl) rfl ?_
      refine RL.s (Vl.move rfl) rfl ?_
      refine RL.s (Vl.move rfl) rfl ?_
      obtain ⟨t967, hg968, h⟩ := h.bind
      refine RL.e (OW.callF (ls := [.tmp 49, .tmp 50, .tmp 51]) rfl Tryd.call43 (errors_is.ok a897 a898 a899 _ hg968 hS)) rfl rfl ?_
      rintro _ w ⟨rfl, hS⟩
      have hS : St B w (OSl 66 1 (.slice A894 2 c895) 2 [.iface 64 (.agg #[.int .i64 a896.at_, .int .i64 a896.why]), .iface 28 (.int .i64 a897)] :: Cl b892 [.slice A894 2 c895] 116 :: l) hf := hS
      refine RL.nil ?_
      refine RQ.then_n ?_
      by_cases hc969 : t967 = true
      case pos =>
        have h := h.pos hc969
        refine RC.re 52 rfl (congrArg Value.bool (id hc969)) ?_
        refine RC.condT rfl ?_
        refine RC.seq ?_
        refine RC.region ?_
        refine RL.s (Vl.assign rfl) rfl ?_
        refine RL.nil ?_
        refine RQ.then_n ?_
        refine RC.ret ?_
        refine RQ.inB_ret ?_
        refine RQ.ret ?_
        refine RQ.ret ?_
        refine RQ.inB_ret ?_
        refine RQ.ret ?_
        refine RQ.inB_ret ?_
        refine RQ.inB_ret ?_
        refine RQ.ret ?_
        refine RQ.inB_ret ?_
        have e := h.some
        subst e
        refine RQ.ret0 (vs := [.bool true]) Tryd.results43 ⟨rfl, trivial⟩ ?_
        exact ⟨rfl, hS⟩
      case neg =>
        have h := h.neg hc969
        refine RC.re 52 rfl (congrArg Value.bool (eq_false_of hc969)) ?_
        refine RC.condF rfl ?_
        refine RC.skip ?_
        refine RQ.inB_n ?_
        refine RQ.then_n ?_
        refine RC.region ?_
        refine RL.s (Vl.int rfl rfl rfl) rfl ?_
        refine RL.s (Vl.move rfl) rfl ?_
        refine RL.nil ?_
        refine RQ.then_n ?_
        refine RQ.round ?_
        refine RC.seq ?_
        refine RC.region ?_
        refine RL.s (Vl.int rfl rfl rfl) rfl ?_
        refine RL.nil ?_
        refine RQ.then_n ?_
        refine RC.seq ?_
        refine RC.condF rfl ?_
        refine RC.exit ?_
        refine RQ.exitT ?_
        refine RQ.exitT ?_
        refine RQ.inB_hit ?_
        refine RQ.then_n ?_
        refine RC.seq ?_
        refine RC.region ?_
        refine RL.s (Vl.assign rfl) rfl ?_
        refine RL.nil ?_
        refine RQ.then_n ?_
        refine RC.ret ?_
        refine RQ.inB_ret ?_
        refine RQ.inB_ret ?_
        refine RQ.ret ?_
        refine RQ.inB_ret ?_
        have e := h.some
        subst e
        refine RQ.ret0 (vs := [.bool false]) Tryd.results43 ⟨rfl, trivial⟩ ?_
        exact ⟨rfl, hS⟩
  case neg =>
    have h := h.neg hc955
    refine RL.re 15 rfl (congrArg Value.bool (eq_false_of hc955)) ?_
    refine RL.nn rfl rfl ?_
    refine RL.nn rfl rfl ?_
    refine RL.nn rfl rfl ?_
    refine RL.s (Vl.pickF rfl rfl) rfl ?_
    refine RL.nil ?_
    refine RQ.then_n ?_
    refine RC.condF rfl ?_
    refine RC.skip ?_
    refine RQ.then_n ?_
    refine RC.seq ?_
    refine RC.seq ?_
    refine RC.region ?_
    refine RL.s (Vl.move rfl) rfl ?_
    refine RL.s (Vl.tassert (r := .tuple #[.nilIface, .bool false]) rfl (fun w => run_typeAssert_lacksB Tryd.underlying108 (by kernel_rfl) (by kernel_rfl) _ _ w)) rfl ?_
    refine RL.s (Vl.move rfl) rfl ?_
    refine RL.s (Vl.extract rfl rfl) rfl ?_
    refine RL.s (Vl.extract rfl rfl) rfl ?_
    refine RL.s (Vl.assign rfl) rfl ?_
    refine RL.s (Vl.assign rfl) rfl ?_
    refine RL.nil ?_
    refine RQ.then_n ?_
    refine RC.seq ?_
    refine RC.region ?_
    refine RL.s (Vl.move rfl) rfl ?_
    refine RL.s (Vl.move rfl) rfl ?_
    refine RL.nn rfl rfl ?_
    refine RL.nn rfl rfl ?_
    refine RL.nn rfl rfl ?_
    refine RL.s (Vl.pickF rfl rfl) rfl ?_
    refine RL.nil ?_
    refine RQ.then_n ?_
    refine RC.condF rfl ?_
    refine RC.skip ?_
    refine RQ.then_n ?_
    refine RC.seq ?_
    refine RC.region ?_
    refine RL.s (Vl.move rfl) rfl ?_
    refine RL.nil ?_
    refine RQ.then_n ?_
    refine RC.block ?_
    refine RC.seq ?_
    refine RC.region ?_
    refine RL.s (Vl.tassert (r := .tuple #[.nilIface, .bool false]) rfl (fun w => run_typeAssert_lacksB Tryd.underlying103 (by kernel_rfl) (by kernel_rfl) _ _ w)) rfl ?_
    refine RL.s (Vl.extract rfl rfl) rfl ?_
    refine RL.s (Vl.extract rfl rfl) rfl ?_
    refine RL.nil ?_
    refine RQ.then_n ?_
    refine RC.condF rfl ?_
    refine RC.seq ?_
    refine RC.region ?_
    refine RL.s (Vl.tassert (r := .tuple #[.iface 114 (.pointer (some ⟨b892, 0, none⟩)), .bool true]) rfl (fun w => run_typeAssert_hasB Tryd.underlying105 (by kernel_rfl) _ _ w)) rfl ?_
    refine RL.s (Vl.extract rfl rfl) rfl ?_
    refine RL.s (Vl.extract rfl rfl) rfl ?_
    refine RL.nil ?_
    refine RQ.then_n ?_
    refine RC.condT rfl ?_
    refine RC.seq ?_
    refine RC.region ?_
    refine RL.s (Vl.assign rfl) rfl ?_
    refine RL.nil ?_
    refine RQ.then_n ?_
    refine RC.seq ?_
    refine RC.seq ?_
    refine RC.region ?_
    refine RL.s (Vl.move rfl) rfl ?_
    obtain ⟨t970, hg971, h⟩ := h.bind
    refine RL.e (OW.invoke (F := 90) (u' := .pointer (some ⟨b892, 0, none⟩)) (ls := []) rfl rfl (fun w => by kernel_rfl) Tryd.call90 rfl (errors_joinError_Unwrap.ok a896 a897 b892 A894 c895 _ hg971 hS)) rfl rfl ?_
    rintro _ w ⟨rfl, hS⟩
    have hS : St B w (OSl 66 1 (.slice A894 2 c895) 2 [.iface 64 (.agg #[.int .i64 a896.at_, .int .i64 a896.why]), .iface 28 (.int .i64 a897)] :: Cl b892 [.slice A894 2 c895] 116 :: l) hf := hS
    refine RL.s (Vl.lenSl Tryd.underlying106 rfl) rfl ?_
    refine RL.s (Vl.move rfl) rfl ?_
    refine RL.nil ?_
    refine RQ.then_n ?_
    refine RC.block ?_
    refine RC.unroll ?_
    refine RQ.round ?_
    refine RC.seq ?_
    refine RC.region ?_
    refine RL.s (Vl.int rfl rfl rfl) rfl ?_
    refine RL.nil ?_
    refine RQ.then_n ?_
    refine RC.seq ?_
    refine RC.condT rfl ?_
    refine RC.skip ?_
    refine RQ.then_n ?_
    refine RC.seq ?_
    refine RC.block ?_
    refine RC.seq ?_
    refine RC.region ?_
    refine RL.s (Vl.indexAddr (a'' := (ad A894).add 0) Tryd.underlying106 Tryd.sizeOf66 rfl rfl (hS.litAdr 0 rfl (by decide)) (by decide) (by decide) rfl) rfl ?_
    refine RL.s (Vl.load Tryd.isAgg66 rfl (hS.litCell 0 rfl rfl)) rfl ?_
    refine RL.s (Vl.assign rfl) rfl ?_
    refine RL.nil ?_
    refine RQ.then_n ?_
    refine RC.seq ?_
    refine RC.region ?_
    refine RL.s (Vl.move rfl) rfl ?_
    refine RL.s (Vl.move rfl) rfl ?_
    refine RL.s (Vl.move rfl) rfl ?_
    obtain ⟨t975, hg976, h⟩ := h.bind
    refine RL.e (OW.callF (ls := [.tmp 49, .tmp 50, .tmp 51]) rfl Tryd.call43 (errors_is_4.ok a896 a898 a899 _ hg976 hS)) rfl rfl ?_
    rintro _ w ⟨rfl, hS⟩
    have hS : St B w (OSl 66 1 (.slice A894 2 c895) 2 [.iface 64 (.agg #[.int .i64 a896.at_, .int .i64 a896.why]), .iface 28 (.int .i64 a897)] :: Cl b892 [.slice A894 2 c895] 116 :: l) hf := hS
    refine RL.nil ?_
    refine RQ.then_n ?_
    by_cases hc977 : t975 = true
    case pos =>
      have h := h.pos hc977
      refine RC.re 52 rfl (congrArg Value.bool (id hc977)) ?_
      refine RC.condT rfl ?_
      refine RC.seq ?_
      refine RC.region ?_
      refine RL.s (Vl.assign rfl) rfl ?_
      refine RL.nil ?_
      refine RQ.then_n ?_
      refine RC.ret ?_
      refine RQ.inB_ret ?_
      refine RQ.ret ?_
      refine RQ.ret ?_
      refine RQ.inB_ret ?_
      refine RQ.ret ?_
      refine RQ.inB_ret ?_
      refine RQ.inB_ret ?_
      refine RQ.ret ?_
      refine RQ.inB_ret ?_
      have e := h.some
      subst e
      refine RQ.ret0 (vs := [.bool true]) Tryd.results43 ⟨rfl, trivial⟩ ?_
      exact ⟨rfl, hS⟩
    case neg =>
      have h := h.neg hc977
      refine RC.re 52 rfl (congrArg Value.bool (eq_false_of hc977)) ?_
      refine RC.condF rfl ?_
      refine RC.skip ?_
      refine RQ.inB_n ?_
      refine RQ.then_n ?_
      refine RC.region ?_
      refine RL.s (Vl.int rfl rfl rfl) rfl ?_
      refine RL.s (Vl.move rfl) rfl ?_
      refine RL.nil ?_
      refine RQ.then_n ?_
      refine RQ.round ?_
      refine RC.seq ?_
      refine RC.region ?_
      refine RL.s (Vl.int rfl rfl rfl) rfl ?_
      refine RL.nil ?_
      refine RQ.then_n ?_
      refine RC.seq ?_
      refine RC.condT rfl ?_
      refine RC.skip ?_
      refine RQ.then_n ?_
      refine RC.seq ?_
      refine RC.block ?_
      refine RC.seq ?_
      refine RC.region ?_
      refine RL.s (Vl.indexAddr (a'' := (ad A894).add 1) Tryd.underlying106 Tryd.sizeOf66 rfl rfl (hS.litAdr 0 rfl (by decide)) (by decide) (by decide) rfl) rfl ?_
      refine RL.s (Vl.load Tryd.isAgg66 rfl (hS.litCell 0 rfl rfl)) rfl ?_
      refine RL.s (Vl.assign rfl) rfl ?_
      refine RL.nil ?_
      refine RQ.then_n ?_
      refine RC.seq ?_
      refine RC.region ?_
      refine RL.s (Vl.move rfl) rfl ?_
      refine RL.s (Vl.move rfl) rfl ?_
      refine RL.s (Vl.move rfl) rfl ?_
      obtain ⟨t981, hg982, h⟩ := h.bind
      refine RL.e (OW.callF (ls := [.tmp 49, .tmp 50, .tmp 51]) rfl Tryd.call43 (errors_is.ok a897 a898 a899 _ hg982 hS)) rfl rfl ?_
      rintro _ w ⟨rfl, hS⟩
      have hS : St B w (OSl 66 1 (.slice A894 2 c895) 2 [.iface 64 (.agg #[.int .i64 a896.at_, .int .i64 a896.why]), .iface 28 (.int .i64 a897)] :: Cl b892 [.slice A894 2 c895] 116 :: l) hf := hS
      refine RL.nil ?_
      refine RQ.then_n ?_
      by_cases hc983 : t981 = true
      case pos =>
        have h := h.pos hc983
        refine RC.re 52 rfl (congrArg Value.bool (id hc983)) ?_
        refine RC.condT rfl ?_
        refine RC.seq ?_
        refine RC.region ?_
        refine RL.s (Vl.assign rfl) rfl ?_
        refine RL.nil ?_
        refine RQ.then_n ?_
        refine RC.ret ?_
        refine RQ.inB_ret ?_
        refine RQ.ret ?_
        refine RQ.ret ?_
        refine RQ.inB_ret ?_
        refine RQ.ret ?_
        refine RQ.inB_ret ?_
        refine RQ.inB_ret ?_
        refine RQ.ret ?_
        refine RQ.inB_ret ?_
        have e := h.some
        subst e
        refine RQ.ret0 (vs := [.bool true]) Tryd.results43 ⟨rfl, trivial⟩ ?_
        exact ⟨rfl, hS⟩
      case neg =>
        have h := h.neg hc983
        refine RC.re 52 rfl (congrArg Value.bool (eq_false_of hc983)) ?_
        refine RC.condF rfl ?_
        refine RC.skip ?_
        refine RQ.inB_n ?_
        refine RQ.then_n ?_
        refine RC.region ?_
        refine RL.s (Vl.int rfl rfl rfl) rfl ?_
        refine RL.s (Vl.move rfl) rfl ?_
        refine RL.nil ?_
        refine RQ.then_n ?_
        refine RQ.round ?_
        refine RC.seq ?_
        refine RC.region ?_
        refine RL.s (Vl.int rfl rfl rfl) rfl ?_
        refine RL.nil ?_
        refine RQ.then_n ?_
        refine RC.seq ?_
        refine RC.condF rfl ?_
        refine RC.exit ?_
        refine RQ.exitT ?_
        refine RQ.exitT ?_
        refine RQ.inB_hit ?_
        refine RQ.then_n ?_
        refine RC.seq ?_
        refine RC.region ?_
        refine RL.s (Vl.assign rfl) rfl ?_
        refine RL.nil ?_
        refine RQ.then_n ?_
        refine RC.ret ?_
        refine RQ.inB_ret ?_
        refine RQ.inB_ret ?_
        refine RQ.ret ?_
        refine RQ.inB_ret ?_
        have e := h.some
        subst e
        refine RQ.ret0 (vs := [.bool false]) Tryd.results43 ⟨rfl, trivial⟩ ?_
        exact ⟨rfl, hS⟩

/-! ### errors.Is: function 22 -/
noncomputable def errors_Is_4.f (a888 : model_flaw) (a889 : Int) (a890 : Int) : Option (Bool) := ((errors_is_3.f a888 a889 a890 true).bind fun t986 => some t986)
set_option maxRecDepth 100000 in
set_option maxHeartbeats 4000000 in
theorem errors_Is_4.ok {B : Base} {w : World} {l : List HProp} {hf : Hp} (a888 : model_flaw) (a889 : Int) (a890 : Int) (b884 : Nat) (A886 : Option Addr) (c887 : Nat) (r : Bool) (h : errors_Is_4.f a888 a889 a890 = some r) (hS : St B w (OSl 66 1 (.slice A886 2 c887) 2 [.iface 64 (.agg #[.int .i64 a888.at_, .int .i64 a888.why]), .iface 28 (.int .i64 a889)] :: Cl b884 [.slice A886 2 c887] 116 :: l) hf) :
    Calls Tryd.prog 22 #[.iface 114 (.pointer (some ⟨b884, 0, none⟩)), .iface 28 (.int .i64 a890)] w (Ret fun v w => v = .bool r ∧ St B w (OSl 66 1 (.slice A886 2 c887) 2 [.iface 64 (.agg #[.int .i64 a888.at_, .int .i64 a888.why]), .iface 28 (.int .i64 a889)] :: Cl b884 [.slice A886 2 c887] 116 :: l) hf) := by
  have h := Holds.of h
  refine enter (args := [.iface 114 (.pointer (some ⟨b884, 0, none⟩)), .iface 28 (.int .i64 a890)]) Tryd.func22 rfl Tryd.ntmps22 (Nat.le_of_ble_eq_true rfl) ?_
  refine RC.seq ?_
  refine RC.region ?_
  refine RL.s (Vl.assign rfl) rfl ?_
  refine RL.nil ?_
  refine RQ.then_n ?_
  refine RC.seq ?_
  refine RC.seq ?_
  refine RC.region ?_
  refine RL.s (Vl.move rfl) rfl ?_
  refine RL.s (Vl.bin (v := .bool false) rfl rfl (by kernel_rfl)) rfl ?_
  refine RL.s (Vl.move rfl) rfl ?_
  refine RL.sg (Vl.move rfl) rfl rfl ?_
  refine RL.sg (Vl.bin (v := .bool false) rfl rfl (by kernel_rfl)) rfl rfl ?_
  refine RL.s (Vl.pickF rfl rfl) rfl ?_
  refine RL.nil ?_
  refine RQ.then_n ?_
  refine RC.condF rfl ?_
  refine RC.skip ?_
  refine RQ.then_n ?_
  refine RC.seq ?_
  refine RC.region ?_
  refine RL.s (Vl.move rfl) rfl ?_
  refine RL.s (Vl.extern (ls := [.tmp 15]) (v := .iface 96 (.agg #[.pointer (some ⟨1, 28, none⟩)])) rfl Tryd.func42 (by kernel_rfl) (by kernel_rfl) (by kernel_rfl) (e := Extern.ReflectliteType.typeOf) (by kernel_rfl) (fun w => by kernel_rfl)) rfl ?_
  refine RL.s (Vl.invokeX (F := 78) (ls := []) (v := .bool true) (u' := .agg #[.pointer (some ⟨1, 28, none⟩)]) rfl rfl (fun w => by kernel_rfl) Tryd.func78 (by kernel_rfl) (by kernel_rfl) (by kernel_rfl) (e := (Extern.ReflectliteType.method fun t => do Extern.Rtype.noPackHeld "Comparable" t; pure (.bool (← typeInfo t).comparable))) (by kernel_rfl) (fun w => by kernel_rfl)) rfl ?_
  refine RL.s (Vl.assign rfl) rfl ?_
  refine RL.nil ?_
  refine RQ.then_n ?_
  refine RC.seq ?_
  refine RC.region ?_
  refine RL.s (Vl.move rfl) rfl ?_
  refine RL.s (Vl.move rfl) rfl ?_
  refine RL.s (Vl.move rfl) rfl ?_
  obtain ⟨t986, hg987, h⟩ := h.bind
  refine RL.e (OW.callF (ls := [.tmp 18, .tmp 19, .tmp 20]) rfl Tryd.call43 (errors_is_3.ok a888 a889 a890 true b884 A886 c887 _ hg987 hS)) rfl rfl ?_
  rintro _ w ⟨rfl, hS⟩
  have hS : St B w (OSl 66 1 (.slice A886 2 c887) 2 [.iface 64 (.agg #[.int .i64 a888.at_, .int .i64 a888.why]), .iface 28 (.int .i64 a889)] :: Cl b884 [.slice A886 2 c887] 116 :: l) hf := hS
  refine RL.s (Vl.assign rfl) rfl ?_
  refine RL.nil ?_
  refine RQ.then_n ?_
  refine RC.ret ?_
  have e := h.some
  subst e
  refine RQ.ret0 (vs := [.bool t986]) Tryd.results22 ⟨rfl, trivial⟩ ?_
  exact ⟨rfl, hS⟩

/-! ### isochron/model.lane: function 29 -/
noncomputable def model_lane.f (a1042 : api_Model) (a1052 : Int) : Option (Bool) := (if 0 ≤ a1052 then some (decide (a1052 < (a1042.Progs.length : Int))) else some false)
set_option maxRecDepth 100000 in
set_option maxHeartbeats 4000000 in
theorem model_lane.ok {B : Base} {w : World} {l : List HProp} {hf : Hp} (a1042 : api_Model) (a1052 : Int) (A1043 : Option Addr) (c1044 : Nat) (A1046 : Option Addr) (c1047 : Nat) (A1049 : Option Addr) (c1050 : Nat) (hr1045 : SlR (Rep.sl E_api_Instr.rep) hf A1043 c1044 a1042.Progs) (hr1048 : SlR E_api_Link.rep hf A1046 c1047 a1042.Links) (hr1051 : SlR E_api_Start.rep hf A1049 c1050 a1042.Starts) (r : Bool) (h : model_lane.f a1042 a1052 = some r) (hS : St B w (l) hf) :
    Calls Tryd.prog 29 #[.agg #[.slice A1043 a1042.Progs.length c1044, .slice A1046 a1042.Links.length c1047, .slice A1049 a1042.Starts.length c1050, .int .u64 a1042.Seed, .int .i64 a1042.End, .int .i64 a1042.Budget], .int .i64 a1052] w (Ret fun v w => v = .bool r ∧ St B w (l) hf) := by
  have h := Holds.of h
  refine enter (args := [.agg #[.slice A1043 a1042.Progs.length c1044, .slice A1046 a1042.Links.length c1047, .slice A1049 a1042.Starts.length c1050, .int .u64 a1042.Seed, .int .i64 a1042.End, .int .i64 a1042.Budget], .int .i64 a1052]) Tryd.func29 rfl Tryd.ntmps29 (Nat.le_of_ble_eq_true rfl) ?_
  refine RC.seq ?_
  refine RC.region ?_
  refine RL.e (OW.box (cs := [.slice A1043 a1042.Progs.length c1044, .slice A1046 a1042.Links.length c1047, .slice A1049 a1042.Starts.length c1050, .int .u64 a1042.Seed, .int .i64 a1042.End, .int .i64 a1042.Budget]) hS rfl rfl) rfl rfl ?_
  rintro _ w ⟨b1057, rfl, hS⟩
  have hS : St B w (Cl b1057 [.slice A1043 a1042.Progs.length c1044, .slice A1046 a1042.Links.length c1047, .slice A1049 a1042.Starts.length c1050, .int .u64 a1042.Seed, .int .i64 a1042.End, .int .i64 a1042.Budget] 27 :: l) hf := hS
  refine RL.s (Vl.assign rfl) rfl ?_
  refine RL.nil ?_
  refine RQ.then_n ?_
  refine RC.seq ?_
  refine RC.region ?_
  refine RL.s (Vl.move rfl) rfl ?_
  refine RL.s (Vl.int rfl rfl rfl) rfl ?_
  refine RL.s (Vl.move rfl) rfl ?_
  by_cases hc1058 : 0 ≤ a1052
  case pos =>
    have h := h.pos hc1058
    refine RL.re 7 rfl (congrArg Value.bool (decide_eq_true hc1058)) ?_
    refine RL.sg (Vl.move rfl) rfl rfl ?_
    refine RL.sg (Vl.fieldAddr (a'' := ⟨b1057, 0, none⟩) Tryd.underlying27 rfl Tryd.sizeOf22 rfl rfl) rfl rfl ?_
    refine RL.sg (Vl.load Tryd.isAgg22 rfl (hS.cell 0 rfl rfl)) rfl rfl ?_
    refine RL.sg (Vl.lenSl Tryd.underlying22 rfl) rfl rfl ?_
    refine RL.sg (Vl.int rfl rfl rfl) rfl rfl ?_
    refine RL.s (Vl.pickT rfl rfl) rfl ?_
    refine RL.s (Vl.assign rfl) rfl ?_
    refine RL.nil ?_
    refine RQ.then_n ?_
    refine RC.ret ?_
    have e := h.some
    subst e
    refine RQ.ret0 (vs := [.bool (decide (a1052 < (a1042.Progs.length : Int)))]) Tryd.results29 ⟨rfl, trivial⟩ ?_
    exact ⟨rfl, (hS.dropAt 0 rfl)⟩
  case neg =>
    have h := h.neg hc1058
    refine RL.re 7 rfl (congrArg Value.bool (decide_eq_false hc1058)) ?_
    refine RL.nn rfl rfl ?_
    refine RL.nn rfl rfl ?_
    refine RL.nn rfl rfl ?_
    refine RL.nn rfl rfl ?_
    refine RL.nn rfl rfl ?_
    refine RL.s (Vl.pickF rfl rfl) rfl ?_
    refine RL.s (Vl.assign rfl) rfl ?_
    refine RL.nil ?_
    refine RQ.then_n ?_
    refine RC.ret ?_
    have e := h.some
    subst e
    refine RQ.ret0 (vs := [.bool false]) Tryd.results29 ⟨rfl, trivial⟩ ?_
    exact ⟨rfl, (hS.dropAt 0 rfl)⟩

end Go.Proofs.Gx
