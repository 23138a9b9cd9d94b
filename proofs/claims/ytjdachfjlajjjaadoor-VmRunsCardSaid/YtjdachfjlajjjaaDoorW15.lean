/-
  The walks of functions, each with what it computes: printed by wip/gx.py.
-/
import Derived.Test.YtjdachfjlajjjaaDoorW0
set_option linter.unusedVariables false
namespace Go.Proofs.Gx
open Go.Sl
/-! ### isochron/isochronref01.Valid: function 40 -/
noncomputable def isochronref01vValid.f (a6155 : Int) : Option (Bool) := (if 0 ≤ a6155 then some (decide (a6155 ≤ 4611686018427387903)) else some false)
set_option maxRecDepth 100000 in
set_option maxHeartbeats 4000000 in
theorem isochronref01vValid.ok {B : Base} {w : World} {l : List HProp} {hf : Hp} (a6155 : Int) (r : Bool) (h : isochronref01vValid.f a6155 = some r) (hS : St B w (l) hf) :
    Calls Tryd.prog 40 #[.int .i64 a6155] w (Ret fun v w => v = .bool r ∧ St B w (l) hf) := by
  have h := Holds.of h
  refine enter (args := [.int .i64 a6155]) Tryd.func40 rfl Tryd.ntmps40 (Nat.le_of_ble_eq_true rfl) ?_
  refine RC.seq ?_
  refine RC.region ?_
  refine RL.s (Vl.assign rfl) rfl ?_
  refine RL.nil ?_
  refine RQ.then_n ?_
  refine RC.seq ?_
  refine RC.region ?_
  refine RL.s (Vl.move rfl) rfl ?_
  refine RL.s (Vl.int rfl rfl rfl) rfl ?_
  refine RL.s (Vl.move rfl) rfl ?_
  by_cases hc6157 : 0 ≤ a6155
  case pos =>
   have h := h.pos hc6157
   refine RL.re 5 rfl (congrArg Value.bool (decide_eq_true hc6157)) ?_
   refine RL.sg (Vl.move rfl) rfl rfl ?_
   refine RL.sg (Vl.int rfl rfl rfl) rfl rfl ?_
   refine RL.s (Vl.pickT rfl rfl) rfl ?_
   refine RL.s (Vl.assign rfl) rfl ?_
   refine RL.nil ?_
   refine RQ.then_n ?_
   refine RC.ret ?_
   have e := h.some
   subst e
   refine RQ.ret0 (vs := [.bool (decide (a6155 ≤ 4611686018427387903))]) Tryd.results40 ⟨rfl, trivial⟩ ?_
   exact ⟨rfl, hS⟩
  case neg =>
   have h := h.neg hc6157
   refine RL.re 5 rfl (congrArg Value.bool (decide_eq_false hc6157)) ?_
   refine RL.nn rfl rfl ?_
   refine RL.nn rfl rfl ?_
   refine RL.s (Vl.pickF rfl rfl) rfl ?_
   refine RL.s (Vl.assign rfl) rfl ?_
   refine RL.nil ?_
   refine RQ.then_n ?_
   refine RC.ret ?_
   have e := h.some
   subst e
   refine RQ.ret0 (vs := [.bool false]) Tryd.results40 ⟨rfl, trivial⟩ ?_
   exact ⟨rfl, hS⟩

/-! ### isochron/isochronref02.Check: function 22 -/
noncomputable def isochronref02vCheck.f (a6152 : api_Message) : Option (Int) := ((isochronref01vValid.f a6152.Key.Time).bind fun t6169 => (if t6169 = true then (if a6152.Key.From < (-1) then some 1 else (if 16 ≤ a6152.Key.From then some 1 else (if a6152.Key.Seq < 0 then some 1 else (if a6152.Uid < 0 then some 1 else (if a6152.To < 0 then some 1 else (if 16 ≤ a6152.To then some 1 else some 0)))))) else some 1))
set_option maxRecDepth 100000 in
set_option maxHeartbeats 4000000 in
theorem isochronref02vCheck.ok {B : Base} {w : World} {l : List HProp} {hf : Hp} (a6152 : api_Message) (r : Int) (h : isochronref02vCheck.f a6152 = some r) (hS : St B w (l) hf) :
    Calls Tryd.prog 22 #[.agg #[.int .i64 a6152.Key.Time, .int .i64 a6152.Key.From, .int .i64 a6152.Key.Seq, .int .i64 a6152.To, .int .i64 a6152.Value, .int .i64 a6152.Uid, .bool a6152.Anti]] w (Ret fun v w => v = .int .i64 r ∧ St B w (l) hf) := by
  have h := Holds.of h
  refine enter (args := [.agg #[.int .i64 a6152.Key.Time, .int .i64 a6152.Key.From, .int .i64 a6152.Key.Seq, .int .i64 a6152.To, .int .i64 a6152.Value, .int .i64 a6152.Uid, .bool a6152.Anti]]) Tryd.func22 rfl Tryd.ntmps22 (Nat.le_of_ble_eq_true rfl) ?_
  refine RC.seq ?_
  refine RC.region ?_
  refine RL.e (OW.box (cs := [.int .i64 a6152.Key.Time, .int .i64 a6152.Key.From, .int .i64 a6152.Key.Seq, .int .i64 a6152.To, .int .i64 a6152.Value, .int .i64 a6152.Uid, .bool a6152.Anti]) hS rfl rfl) rfl rfl ?_
  rintro _ w ⟨b6168, rfl, hS⟩
  have hS : St B w (Cl b6168 [.int .i64 a6152.Key.Time, .int .i64 a6152.Key.From, .int .i64 a6152.Key.Seq, .int .i64 a6152.To, .int .i64 a6152.Value, .int .i64 a6152.Uid, .bool a6152.Anti] 33 :: l) hf := hS
  refine RL.s (Vl.assign rfl) rfl ?_
  refine RL.nil ?_
  refine RQ.then_n ?_
  refine RC.seq ?_
  refine RC.seq ?_
  refine RC.region ?_
  refine RL.s (Vl.fieldAddr (a'' := ⟨b6168, 0, none⟩) Tryd.underlying33 rfl Tryd.sizeOf31 rfl rfl) rfl ?_
  refine RL.s (Vl.fieldAddr (a'' := ⟨b6168, 0, none⟩) Tryd.underlying31 rfl Tryd.sizeOf2 rfl rfl) rfl ?_
  refine RL.s (Vl.load Tryd.isAgg2 rfl (hS.cell 0 rfl rfl)) rfl ?_
  obtain ⟨t6169, hg6170, h⟩ := h.bind
  refine RL.e (OW.callF (ls := [.tmp 5]) rfl Tryd.call40 (isochronref01vValid.ok a6152.Key.Time _ hg6170 hS)) rfl rfl ?_
  rintro _ w ⟨rfl, hS⟩
  have hS : St B w (Cl b6168 [.int .i64 a6152.Key.Time, .int .i64 a6152.Key.From, .int .i64 a6152.Key.Seq, .int .i64 a6152.To, .int .i64 a6152.Value, .int .i64 a6152.Uid, .bool a6152.Anti] 33 :: l) hf := hS
  refine RL.s (Vl.not rfl) rfl ?_
  refine RL.s (Vl.move rfl) rfl ?_
  by_cases hc6171 : t6169 = true
  case pos =>
   have h := h.pos hc6171
   refine RL.re 8 rfl (congrArg Value.bool (notb_pos hc6171)) ?_
   refine RL.sg (Vl.fieldAddr (a'' := ⟨b6168, 0, none⟩) Tryd.underlying33 rfl Tryd.sizeOf31 rfl rfl) rfl rfl ?_
   refine RL.sg (Vl.fieldAddr (a'' := ⟨b6168, 1, none⟩) Tryd.underlying31 rfl Tryd.sizeOf3 rfl rfl) rfl rfl ?_
   refine RL.sg (Vl.load Tryd.isAgg3 rfl (hS.cell 0 rfl rfl)) rfl rfl ?_
   refine RL.sg (Vl.int rfl rfl rfl) rfl rfl ?_
   refine RL.s (Vl.pickF rfl rfl) rfl ?_
   refine RL.s (Vl.move rfl) rfl ?_
   by_cases hc6172 : a6152.Key.From < (-1)
   case pos =>
    have h := h.pos hc6172
    refine RL.re 14 rfl (congrArg Value.bool (decide_eq_true hc6172)) ?_
    refine RL.nn rfl rfl ?_
    refine RL.nn rfl rfl ?_
    refine RL.nn rfl rfl ?_
    refine RL.nn rfl rfl ?_
    refine RL.s (Vl.pickT rfl rfl) rfl ?_
    refine RL.s (Vl.move rfl) rfl ?_
    refine RL.nn rfl rfl ?_
    refine RL.nn rfl rfl ?_
    refine RL.nn rfl rfl ?_
    refine RL.nn rfl rfl ?_
    refine RL.s (Vl.pickT rfl rfl) rfl ?_
    refine RL.s (Vl.move rfl) rfl ?_
    refine RL.nn rfl rfl ?_
    refine RL.nn rfl rfl ?_
    refine RL.nn rfl rfl ?_
    refine RL.s (Vl.pickT rfl rfl) rfl ?_
    refine RL.s (Vl.move rfl) rfl ?_
    refine RL.nn rfl rfl ?_
    refine RL.nn rfl rfl ?_
    refine RL.nn rfl rfl ?_
    refine RL.s (Vl.pickT rfl rfl) rfl ?_
    refine RL.s (Vl.move rfl) rfl ?_
    refine RL.nn rfl rfl ?_
    refine RL.nn rfl rfl ?_
    refine RL.nn rfl rfl ?_
    refine RL.s (Vl.pickT rfl rfl) rfl ?_
    refine RL.nil ?_
    refine RQ.then_n ?_
    refine RC.condT rfl ?_
    refine RC.seq ?_
    refine RC.region ?_
    refine RL.s (Vl.assign rfl) rfl ?_
    refine RL.nil ?_
    refine RQ.then_n ?_
    refine RC.ret ?_
    refine RQ.ret ?_
    have e := h.some
    subst e
    refine RQ.ret0 (vs := [.int .i64 1]) Tryd.results22 ⟨rfl, trivial⟩ ?_
    exact ⟨rfl, (hS.dropAt 0 rfl)⟩
   case neg =>
    have h := h.neg hc6172
    refine RL.re 14 rfl (congrArg Value.bool (decide_eq_false hc6172)) ?_
    refine RL.sg (Vl.fieldAddr (a'' := ⟨b6168, 0, none⟩) Tryd.underlying33 rfl Tryd.sizeOf31 rfl rfl) rfl rfl ?_
    refine RL.sg (Vl.fieldAddr (a'' := ⟨b6168, 1, none⟩) Tryd.underlying31 rfl Tryd.sizeOf3 rfl rfl) rfl rfl ?_
    refine RL.sg (Vl.load Tryd.isAgg3 rfl (hS.cell 0 rfl rfl)) rfl rfl ?_
    refine RL.sg (Vl.int rfl rfl rfl) rfl rfl ?_
    refine RL.s (Vl.pickF rfl rfl) rfl ?_
    refine RL.s (Vl.move rfl) rfl ?_
    by_cases hc6173 : 16 ≤ a6152.Key.From
    case pos =>
     have h := h.pos hc6173
     refine RL.re 20 rfl (congrArg Value.bool (decide_eq_true hc6173)) ?_
     refine RL.nn rfl rfl ?_
     refine RL.nn rfl rfl ?_
     refine RL.nn rfl rfl ?_
     refine RL.nn rfl rfl ?_
     refine RL.s (Vl.pickT rfl rfl) rfl ?_
     refine RL.s (Vl.move rfl) rfl ?_
     refine RL.nn rfl rfl ?_
     refine RL.nn rfl rfl ?_
     refine RL.nn rfl rfl ?_
     refine RL.s (Vl.pickT rfl rfl) rfl ?_
     refine RL.s (Vl.move rfl) rfl ?_
     refine RL.nn rfl rfl ?_
     refine RL.nn rfl rfl ?_
     refine RL.nn rfl rfl ?_
     refine RL.s (Vl.pickT rfl rfl) rfl ?_
     refine RL.s (Vl.move rfl) rfl ?_
     refine RL.nn rfl rfl ?_
     refine RL.nn rfl rfl ?_
     refine RL.nn rfl rfl ?_
     refine RL.s (Vl.pickT rfl rfl) rfl ?_
     refine RL.nil ?_
     refine RQ.then_n ?_
     refine RC.condT rfl ?_
     refine RC.seq ?_
     refine RC.region ?_
     refine RL.s (Vl.assign rfl) rfl ?_
     refine RL.nil ?_
     refine RQ.then_n ?_
     refine RC.ret ?_
     refine RQ.ret ?_
     have e := h.some
     subst e
     refine RQ.ret0 (vs := [.int .i64 1]) Tryd.results22 ⟨rfl, trivial⟩ ?_
     exact ⟨rfl, (hS.dropAt 0 rfl)⟩
    case neg =>
     have h := h.neg hc6173
     refine RL.re 20 rfl (congrArg Value.bool (decide_eq_false hc6173)) ?_
     refine RL.sg (Vl.fieldAddr (a'' := ⟨b6168, 0, none⟩) Tryd.underlying33 rfl Tryd.sizeOf31 rfl rfl) rfl rfl ?_
     refine RL.sg (Vl.fieldAddr (a'' := ⟨b6168, 2, none⟩) Tryd.underlying31 rfl Tryd.sizeOf3 rfl rfl) rfl rfl ?_
     refine RL.sg (Vl.load Tryd.isAgg3 rfl (hS.cell 0 rfl rfl)) rfl rfl ?_
     refine RL.sg (Vl.int rfl rfl rfl) rfl rfl ?_
     refine RL.s (Vl.pickF rfl rfl) rfl ?_
     refine RL.s (Vl.move rfl) rfl ?_
     by_cases hc6174 : a6152.Key.Seq < 0
     case pos =>
      have h := h.pos hc6174
      refine RL.re 26 rfl (congrArg Value.bool (decide_eq_true hc6174)) ?_
      refine RL.nn rfl rfl ?_
      refine RL.nn rfl rfl ?_
      refine RL.nn rfl rfl ?_
      refine RL.s (Vl.pickT rfl rfl) rfl ?_
      refine RL.s (Vl.move rfl) rfl ?_
      refine RL.nn rfl rfl ?_
      refine RL.nn rfl rfl ?_
      refine RL.nn rfl rfl ?_
      refine RL.s (Vl.pickT rfl rfl) rfl ?_
      refine RL.s (Vl.move rfl) rfl ?_
      refine RL.nn rfl rfl ?_
      refine RL.nn rfl rfl ?_
      refine RL.nn rfl rfl ?_
      refine RL.s (Vl.pickT rfl rfl) rfl ?_
      refine RL.nil ?_
      refine RQ.then_n ?_
      refine RC.condT rfl ?_
      refine RC.seq ?_
      refine RC.region ?_
      refine RL.s (Vl.assign rfl) rfl ?_
      refine RL.nil ?_
      refine RQ.then_n ?_
      refine RC.ret ?_
      refine RQ.ret ?_
      have e := h.some
      subst e
      refine RQ.ret0 (vs := [.int .i64 1]) Tryd.results22 ⟨rfl, trivial⟩ ?_
      exact ⟨rfl, (hS.dropAt 0 rfl)⟩
     case neg =>
      have h := h.neg hc6174
      refine RL.re 26 rfl (congrArg Value.bool (decide_eq_false hc6174)) ?_
      refine RL.sg (Vl.fieldAddr (a'' := ⟨b6168, 5, none⟩) Tryd.underlying33 rfl Tryd.sizeOf3 rfl rfl) rfl rfl ?_
      refine RL.sg (Vl.load Tryd.isAgg3 rfl (hS.cell 0 rfl rfl)) rfl rfl ?_
      refine RL.sg (Vl.int rfl rfl rfl) rfl rfl ?_
      refine RL.s (Vl.pickF rfl rfl) rfl ?_
      refine RL.s (Vl.move rfl) rfl ?_
      by_cases hc6175 : a6152.Uid < 0
      case pos =>
       have h := h.pos hc6175
       refine RL.re 31 rfl (congrArg Value.bool (decide_eq_true hc6175)) ?_
       refine RL.nn rfl rfl ?_
       refine RL.nn rfl rfl ?_
       refine RL.nn rfl rfl ?_
       refine RL.s (Vl.pickT rfl rfl) rfl ?_
       refine RL.s (Vl.move rfl) rfl ?_
       refine RL.nn rfl rfl ?_
       refine RL.nn rfl rfl ?_
       refine RL.nn rfl rfl ?_
       refine RL.s (Vl.pickT rfl rfl) rfl ?_
       refine RL.nil ?_
       refine RQ.then_n ?_
       refine RC.condT rfl ?_
       refine RC.seq ?_
       refine RC.region ?_
       refine RL.s (Vl.assign rfl) rfl ?_
       refine RL.nil ?_
       refine RQ.then_n ?_
       refine RC.ret ?_
       refine RQ.ret ?_
       have e := h.some
       subst e
       refine RQ.ret0 (vs := [.int .i64 1]) Tryd.results22 ⟨rfl, trivial⟩ ?_
       exact ⟨rfl, (hS.dropAt 0 rfl)⟩
      case neg =>
       have h := h.neg hc6175
       refine RL.re 31 rfl (congrArg Value.bool (decide_eq_false hc6175)) ?_
       refine RL.sg (Vl.fieldAddr (a'' := ⟨b6168, 3, none⟩) Tryd.underlying33 rfl Tryd.sizeOf3 rfl rfl) rfl rfl ?_
       refine RL.sg (Vl.load Tryd.isAgg3 rfl (hS.cell 0 rfl rfl)) rfl rfl ?_
       refine RL.sg (Vl.int rfl rfl rfl) rfl rfl ?_
       refine RL.s (Vl.pickF rfl rfl) rfl ?_
       refine RL.s (Vl.move rfl) rfl ?_
       by_cases hc6176 : a6152.To < 0
       case pos =>
        have h := h.pos hc6176
        refine RL.re 36 rfl (congrArg Value.bool (decide_eq_true hc6176)) ?_
        refine RL.nn rfl rfl ?_
        refine RL.nn rfl rfl ?_
        refine RL.nn rfl rfl ?_
        refine RL.s (Vl.pickT rfl rfl) rfl ?_
        refine RL.nil ?_
        refine RQ.then_n ?_
        refine RC.condT rfl ?_
        refine RC.seq ?_
        refine RC.region ?_
        refine RL.s (Vl.assign rfl) rfl ?_
        refine RL.nil ?_
        refine RQ.then_n ?_
        refine RC.ret ?_
        refine RQ.ret ?_
        have e := h.some
        subst e
        refine RQ.ret0 (vs := [.int .i64 1]) Tryd.results22 ⟨rfl, trivial⟩ ?_
        exact ⟨rfl, (hS.dropAt 0 rfl)⟩
       case neg =>
        have h := h.neg hc6176
        refine RL.re 36 rfl (congrArg Value.bool (decide_eq_false hc6176)) ?_
        refine RL.sg (Vl.fieldAddr (a'' := ⟨b6168, 3, none⟩) Tryd.underlying33 rfl Tryd.sizeOf3 rfl rfl) rfl rfl ?_
        refine RL.sg (Vl.load Tryd.isAgg3 rfl (hS.cell 0 rfl rfl)) rfl rfl ?_
        refine RL.sg (Vl.int rfl rfl rfl) rfl rfl ?_
        refine RL.s (Vl.pickF rfl rfl) rfl ?_
        refine RL.nil ?_
        refine RQ.then_n ?_
        by_cases hc6177 : 16 ≤ a6152.To
        case pos =>
         have h := h.pos hc6177
         refine RC.re 40 rfl (congrArg Value.bool (decide_eq_true hc6177)) ?_
         refine RC.condT rfl ?_
         refine RC.seq ?_
         refine RC.region ?_
         refine RL.s (Vl.assign rfl) rfl ?_
         refine RL.nil ?_
         refine RQ.then_n ?_
         refine RC.ret ?_
         refine RQ.ret ?_
         have e := h.some
         subst e
         refine RQ.ret0 (vs := [.int .i64 1]) Tryd.results22 ⟨rfl, trivial⟩ ?_
         exact ⟨rfl, (hS.dropAt 0 rfl)⟩
        case neg =>
         have h := h.neg hc6177
         refine RC.re 40 rfl (congrArg Value.bool (decide_eq_false hc6177)) ?_
         refine RC.condF rfl ?_
         refine RC.skip ?_
         refine RQ.then_n ?_
         refine RC.seq ?_
         refine RC.region ?_
         refine RL.s (Vl.assign rfl) rfl ?_
         refine RL.nil ?_
         refine RQ.then_n ?_
         refine RC.ret ?_
         have e := h.some
         subst e
         refine RQ.ret0 (vs := [.int .i64 0]) Tryd.results22 ⟨rfl, trivial⟩ ?_
         exact ⟨rfl, (hS.dropAt 0 rfl)⟩
  case neg =>
   have h := h.neg hc6171
   refine RL.re 8 rfl (congrArg Value.bool (notb_neg hc6171)) ?_
   refine RL.nn rfl rfl ?_
   refine RL.nn rfl rfl ?_
   refine RL.nn rfl rfl ?_
   refine RL.nn rfl rfl ?_
   refine RL.s (Vl.pickT rfl rfl) rfl ?_
   refine RL.s (Vl.move rfl) rfl ?_
   refine RL.nn rfl rfl ?_
   refine RL.nn rfl rfl ?_
   refine RL.nn rfl rfl ?_
   refine RL.nn rfl rfl ?_
   refine RL.s (Vl.pickT rfl rfl) rfl ?_
   refine RL.s (Vl.move rfl) rfl ?_
   refine RL.nn rfl rfl ?_
   refine RL.nn rfl rfl ?_
   refine RL.nn rfl rfl ?_
   refine RL.nn rfl rfl ?_
   refine RL.s (Vl.pickT rfl rfl) rfl ?_
   refine RL.s (Vl.move rfl) rfl ?_
   refine RL.nn rfl rfl ?_
   refine RL.nn rfl rfl ?_
   refine RL.nn rfl rfl ?_
   refine RL.s (Vl.pickT rfl rfl) rfl ?_
   refine RL.s (Vl.move rfl) rfl ?_
   refine RL.nn rfl rfl ?_
   refine RL.nn rfl rfl ?_
   refine RL.nn rfl rfl ?_
   refine RL.s (Vl.pickT rfl rfl) rfl ?_
   refine RL.s (Vl.move rfl) rfl ?_
   refine RL.nn rfl rfl ?_
   refine RL.nn rfl rfl ?_
   refine RL.nn rfl rfl ?_
   refine RL.s (Vl.pickT rfl rfl) rfl ?_
   refine RL.nil ?_
   refine RQ.then_n ?_
   refine RC.condT rfl ?_
   refine RC.seq ?_
   refine RC.region ?_
   refine RL.s (Vl.assign rfl) rfl ?_
   refine RL.nil ?_
   refine RQ.then_n ?_
   refine RC.ret ?_
   refine RQ.ret ?_
   have e := h.some
   subst e
   refine RQ.ret0 (vs := [.int .i64 1]) Tryd.results22 ⟨rfl, trivial⟩ ?_
   exact ⟨rfl, (hS.dropAt 0 rfl)⟩

/-! ### isochron/isochronref05.State: function 23 -/
noncomputable def isochronref05vState.f (a6181 : api_State) : Option (Bool) := (if 0 ≤ a6181.Draws then (if a6181.Draws ≤ 1125899906842624 then (if 0 ≤ a6181.Sent then some (decide (a6181.Sent ≤ 1125899906842624)) else some false) else some false) else some false)
set_option maxRecDepth 100000 in
set_option maxHeartbeats 4000000 in
theorem isochronref05vState.ok {B : Base} {w : World} {l : List HProp} {hf : Hp} (a6181 : api_State) (r : Bool) (h : isochronref05vState.f a6181 = some r) (hS : St B w (l) hf) :
    Calls Tryd.prog 23 #[.agg #[.int .i64 a6181.Regs.c0, .int .i64 a6181.Regs.c1, .int .i64 a6181.Regs.c2, .int .i64 a6181.Regs.c3, .int .i64 a6181.Regs.c4, .int .i64 a6181.Regs.c5, .int .i64 a6181.Regs.c6, .int .i64 a6181.Regs.c7, .int .i64 a6181.Draws, .int .i64 a6181.Sent]] w (Ret fun v w => v = .bool r ∧ St B w (l) hf) := by
  have h := Holds.of h
  refine enter (args := [.agg #[.int .i64 a6181.Regs.c0, .int .i64 a6181.Regs.c1, .int .i64 a6181.Regs.c2, .int .i64 a6181.Regs.c3, .int .i64 a6181.Regs.c4, .int .i64 a6181.Regs.c5, .int .i64 a6181.Regs.c6, .int .i64 a6181.Regs.c7, .int .i64 a6181.Draws, .int .i64 a6181.Sent]]) Tryd.func23 rfl Tryd.ntmps23 (Nat.le_of_ble_eq_true rfl) ?_
  refine RC.seq ?_
  refine RC.region ?_
  refine RL.e (OW.box (cs := [.int .i64 a6181.Regs.c0, .int .i64 a6181.Regs.c1, .int .i64 a6181.Regs.c2, .int .i64 a6181.Regs.c3, .int .i64 a6181.Regs.c4, .int .i64 a6181.Regs.c5, .int .i64 a6181.Regs.c6, .int .i64 a6181.Regs.c7, .int .i64 a6181.Draws, .int .i64 a6181.Sent]) hS rfl rfl) rfl rfl ?_
  rintro _ w ⟨b6188, rfl, hS⟩
  have hS : St B w (Cl b6188 [.int .i64 a6181.Regs.c0, .int .i64 a6181.Regs.c1, .int .i64 a6181.Regs.c2, .int .i64 a6181.Regs.c3, .int .i64 a6181.Regs.c4, .int .i64 a6181.Regs.c5, .int .i64 a6181.Regs.c6, .int .i64 a6181.Regs.c7, .int .i64 a6181.Draws, .int .i64 a6181.Sent] 29 :: l) hf := hS
  refine RL.s (Vl.assign rfl) rfl ?_
  refine RL.nil ?_
  refine RQ.then_n ?_
  refine RC.seq ?_
  refine RC.region ?_
  refine RL.s (Vl.fieldAddr (a'' := ⟨b6188, 8, none⟩) Tryd.underlying29 rfl Tryd.sizeOf3 rfl rfl) rfl ?_
  refine RL.s (Vl.load Tryd.isAgg3 rfl (hS.cell 0 rfl rfl)) rfl ?_
  refine RL.s (Vl.int rfl rfl rfl) rfl ?_
  refine RL.s (Vl.move rfl) rfl ?_
  by_cases hc6189 : 0 ≤ a6181.Draws
  case pos =>
   have h := h.pos hc6189
   refine RL.re 6 rfl (congrArg Value.bool (decide_eq_true hc6189)) ?_
   refine RL.sg (Vl.fieldAddr (a'' := ⟨b6188, 8, none⟩) Tryd.underlying29 rfl Tryd.sizeOf3 rfl rfl) rfl rfl ?_
   refine RL.sg (Vl.load Tryd.isAgg3 rfl (hS.cell 0 rfl rfl)) rfl rfl ?_
   refine RL.sg (Vl.int rfl rfl rfl) rfl rfl ?_
   refine RL.s (Vl.pickT rfl rfl) rfl ?_
   refine RL.s (Vl.move rfl) rfl ?_
   by_cases hc6190 : a6181.Draws ≤ 1125899906842624
   case pos =>
    have h := h.pos hc6190
    refine RL.re 11 rfl (congrArg Value.bool (decide_eq_true hc6190)) ?_
    refine RL.sg (Vl.fieldAddr (a'' := ⟨b6188, 9, none⟩) Tryd.underlying29 rfl Tryd.sizeOf3 rfl rfl) rfl rfl ?_
    refine RL.sg (Vl.load Tryd.isAgg3 rfl (hS.cell 0 rfl rfl)) rfl rfl ?_
    refine RL.sg (Vl.int rfl rfl rfl) rfl rfl ?_
    refine RL.s (Vl.pickT rfl rfl) rfl ?_
    refine RL.s (Vl.move rfl) rfl ?_
    by_cases hc6191 : 0 ≤ a6181.Sent
    case pos =>
     have h := h.pos hc6191
     refine RL.re 16 rfl (congrArg Value.bool (decide_eq_true hc6191)) ?_
     refine RL.sg (Vl.fieldAddr (a'' := ⟨b6188, 9, none⟩) Tryd.underlying29 rfl Tryd.sizeOf3 rfl rfl) rfl rfl ?_
     refine RL.sg (Vl.load Tryd.isAgg3 rfl (hS.cell 0 rfl rfl)) rfl rfl ?_
     refine RL.sg (Vl.int rfl rfl rfl) rfl rfl ?_
     refine RL.s (Vl.pickT rfl rfl) rfl ?_
     refine RL.s (Vl.assign rfl) rfl ?_
     refine RL.nil ?_
     refine RQ.then_n ?_
     refine RC.ret ?_
     have e := h.some
     subst e
     refine RQ.ret0 (vs := [.bool (decide (a6181.Sent ≤ 1125899906842624))]) Tryd.results23 ⟨rfl, trivial⟩ ?_
     exact ⟨rfl, (hS.dropAt 0 rfl)⟩
    case neg =>
     have h := h.neg hc6191
     refine RL.re 16 rfl (congrArg Value.bool (decide_eq_false hc6191)) ?_
     refine RL.nn rfl rfl ?_
     refine RL.nn rfl rfl ?_
     refine RL.nn rfl rfl ?_
     refine RL.s (Vl.pickF rfl rfl) rfl ?_
     refine RL.s (Vl.assign rfl) rfl ?_
     refine RL.nil ?_
     refine RQ.then_n ?_
     refine RC.ret ?_
     have e := h.some
     subst e
     refine RQ.ret0 (vs := [.bool false]) Tryd.results23 ⟨rfl, trivial⟩ ?_
     exact ⟨rfl, (hS.dropAt 0 rfl)⟩
   case neg =>
    have h := h.neg hc6190
    refine RL.re 11 rfl (congrArg Value.bool (decide_eq_false hc6190)) ?_
    refine RL.nn rfl rfl ?_
    refine RL.nn rfl rfl ?_
    refine RL.nn rfl rfl ?_
    refine RL.s (Vl.pickF rfl rfl) rfl ?_
    refine RL.s (Vl.move rfl) rfl ?_
    refine RL.nn rfl rfl ?_
    refine RL.nn rfl rfl ?_
    refine RL.nn rfl rfl ?_
    refine RL.s (Vl.pickF rfl rfl) rfl ?_
    refine RL.s (Vl.assign rfl) rfl ?_
    refine RL.nil ?_
    refine RQ.then_n ?_
    refine RC.ret ?_
    have e := h.some
    subst e
    refine RQ.ret0 (vs := [.bool false]) Tryd.results23 ⟨rfl, trivial⟩ ?_
    exact ⟨rfl, (hS.dropAt 0 rfl)⟩
  case neg =>
   have h := h.neg hc6189
   refine RL.re 6 rfl (congrArg Value.bool (decide_eq_false hc6189)) ?_
   refine RL.nn rfl rfl ?_
   refine RL.nn rfl rfl ?_
   refine RL.nn rfl rfl ?_
   refine RL.s (Vl.pickF rfl rfl) rfl ?_
   refine RL.s (Vl.move rfl) rfl ?_
   refine RL.nn rfl rfl ?_
   refine RL.nn rfl rfl ?_
   refine RL.nn rfl rfl ?_
   refine RL.s (Vl.pickF rfl rfl) rfl ?_
   refine RL.s (Vl.move rfl) rfl ?_
   refine RL.nn rfl rfl ?_
   refine RL.nn rfl rfl ?_
   refine RL.nn rfl rfl ?_
   refine RL.s (Vl.pickF rfl rfl) rfl ?_
   refine RL.s (Vl.assign rfl) rfl ?_
   refine RL.nil ?_
   refine RQ.then_n ?_
   refine RC.ret ?_
   have e := h.some
   subst e
   refine RQ.ret0 (vs := [.bool false]) Tryd.results23 ⟨rfl, trivial⟩ ?_
   exact ⟨rfl, (hS.dropAt 0 rfl)⟩

/-! ### (*isochron/isochronref05.run).send: function 41 -/
noncomputable def isochronref05vrun_send.j2 (a6305 : List api_Link) (a6310 : Int) (fn6320 : (Nat → Int)) (a6325 : List api_Out) (a6327 : api_Instr) (x6378 : Int) : Option (Int × List api_Out) := (if 0 ≤ a6327.B ∧ a6327.B < 16 then (if 0 ≤ x6378 ∧ x6378 < (a6305.length : Int) then (if fn6320 (a6327.B.toNat * 1) < (nth a6305 x6378).Look then some (50, a6325) else (if IntKind.i64.wrap (4611686018427387903 - a6310) < fn6320 (a6327.B.toNat * 1) then some (10, a6325) else (if 0 ≤ a6327.C ∧ a6327.C < 16 then (if (a6325.length + 1) * 24 ≤ 140737488355328 then some (0, (a6325 ++ ([(⟨x6378, fn6320 (a6327.B.toNat * 1), fn6320 (a6327.C.toNat * 1)⟩ : api_Out)]))) else none) else none))) else none) else none)
noncomputable def isochronref05vrun_send.f (a6300 : List api_Instr) (a6304 : Int) (a6305 : List api_Link) (a6309 : Int) (a6310 : Int) (a6311 : Int) (a6312 : Int) (a6313 : Int) (a6314 : Int) (a6315 : Int) (a6316 : Bool) (fn6320 : (Nat → Int)) (a6321 : Int) (a6325 : List api_Out) (a6326 : Int) (a6327 : api_Instr) : Option (Int × List api_Out) := (if (a6305.length : Int) = 0 then some (0, a6325) else (if 8 ≤ (a6325.length : Int) then some (0, a6325) else (if 0 ≤ a6327.A ∧ a6327.A < 16 then (if ¬ (a6305.length : Int) = 0 then (if Int.tmod (fn6320 (a6327.A.toNat * 1)) (a6305.length : Int) < 0 then isochronref05vrun_send.j2 a6305 a6310 fn6320 a6325 a6327 (IntKind.i64.wrap ((Int.tmod (fn6320 (a6327.A.toNat * 1)) (a6305.length : Int)) + (a6305.length : Int))) else isochronref05vrun_send.j2 a6305 a6310 fn6320 a6325 a6327 (Int.tmod (fn6320 (a6327.A.toNat * 1)) (a6305.length : Int))) else none) else none)))
set_option maxRecDepth 100000 in
set_option maxHeartbeats 4000000 in
theorem isochronref05vrun_send.ok {B : Base} {w : World} {l : List HProp} {hf : Hp} (a6300 : List api_Instr) (a6304 : Int) (a6305 : List api_Link) (a6309 : Int) (a6310 : Int) (a6311 : Int) (a6312 : Int) (a6313 : Int) (a6314 : Int) (a6315 : Int) (a6316 : Bool) (fn6320 : (Nat → Int)) (a6321 : Int) (a6325 : List api_Out) (a6326 : Int) (a6327 : api_Instr) (b6299 : Nat) (A6301 : Option Addr) (c6302 : Nat) (A6306 : Option Addr) (c6307 : Nat) (A6318 : Option Addr) (c6319 : Nat) (A6323 : Option Addr) (c6324 : Nat) (hr6303 : SlR E_api_Instr.rep hf A6301 c6302 a6300) (hr6308 : SlR E_api_Link.rep hf A6306 c6307 a6305) (r : Int × List api_Out) (h : isochronref05vrun_send.f a6300 a6304 a6305 a6309 a6310 a6311 a6312 a6313 a6314 a6315 a6316 fn6320 a6321 a6325 a6326 a6327 = some r) (hS : St B w (OSl 2 1 (.slice A6318 16 c6319) 16 [.int .i64 (fn6320 0), .int .i64 (fn6320 1), .int .i64 (fn6320 2), .int .i64 (fn6320 3), .int .i64 (fn6320 4), .int .i64 (fn6320 5), .int .i64 (fn6320 6), .int .i64 (fn6320 7), .int .i64 (fn6320 8), .int .i64 (fn6320 9), .int .i64 (fn6320 10), .int .i64 (fn6320 11), .int .i64 (fn6320 12), .int .i64 (fn6320 13), .int .i64 (fn6320 14), .int .i64 (fn6320 15)] :: Cl b6299 [.slice A6301 a6300.length c6302, .int .i64 a6304, .slice A6306 a6305.length c6307, .int .u64 a6309, .int .i64 a6310, .int .i64 a6311, .int .i64 a6312, .int .i64 a6313, .int .i64 a6314, .int .i64 a6315, .bool a6316, .slice A6318 16 c6319, .int .i64 a6321, .slice A6323 a6325.length c6324, .int .i64 a6326] 79 :: OSf E_api_Out 58 (.slice A6323 a6325.length c6324) a6325 :: l) hf) :
    Calls Tryd.prog 41 #[.pointer (some ⟨b6299, 0, none⟩), .agg #[.int .i64 a6327.Op, .int .i64 a6327.A, .int .i64 a6327.B, .int .i64 a6327.C]] w (Ret fun v w => ∃ (A_1 : Option Addr) (c_2 : Nat), v = .int .i64 r.1 ∧ St B w (OSf E_api_Out 58 (.slice A_1 r.2.length c_2) r.2 :: OSl 2 1 (.slice A6318 16 c6319) 16 [.int .i64 (fn6320 0), .int .i64 (fn6320 1), .int .i64 (fn6320 2), .int .i64 (fn6320 3), .int .i64 (fn6320 4), .int .i64 (fn6320 5), .int .i64 (fn6320 6), .int .i64 (fn6320 7), .int .i64 (fn6320 8), .int .i64 (fn6320 9), .int .i64 (fn6320 10), .int .i64 (fn6320 11), .int .i64 (fn6320 12), .int .i64 (fn6320 13), .int .i64 (fn6320 14), .int .i64 (fn6320 15)] :: Cl b6299 [.slice A6301 a6300.length c6302, .int .i64 a6304, .slice A6306 a6305.length c6307, .int .u64 a6309, .int .i64 a6310, .int .i64 a6311, .int .i64 a6312, .int .i64 a6313, .int .i64 a6314, .int .i64 a6315, .bool a6316, .slice A6318 16 c6319, .int .i64 a6321, .slice A_1 r.2.length c_2, .int .i64 a6326] 79 :: l) hf) := by
  have h := Holds.of h
  refine enter (args := [.pointer (some ⟨b6299, 0, none⟩), .agg #[.int .i64 a6327.Op, .int .i64 a6327.A, .int .i64 a6327.B, .int .i64 a6327.C]]) Tryd.func41 rfl Tryd.ntmps41 (Nat.le_of_ble_eq_true rfl) ?_
  refine RC.seq ?_
  refine RC.region ?_
  refine RL.e (OW.box (cs := [.int .i64 a6327.Op, .int .i64 a6327.A, .int .i64 a6327.B, .int .i64 a6327.C]) hS rfl rfl) rfl rfl ?_
  rintro _ w ⟨b6369, rfl, hS⟩
  have hS : St B w (Cl b6369 [.int .i64 a6327.Op, .int .i64 a6327.A, .int .i64 a6327.B, .int .i64 a6327.C] 48 :: OSl 2 1 (.slice A6318 16 c6319) 16 [.int .i64 (fn6320 0), .int .i64 (fn6320 1), .int .i64 (fn6320 2), .int .i64 (fn6320 3), .int .i64 (fn6320 4), .int .i64 (fn6320 5), .int .i64 (fn6320 6), .int .i64 (fn6320 7), .int .i64 (fn6320 8), .int .i64 (fn6320 9), .int .i64 (fn6320 10), .int .i64 (fn6320 11), .int .i64 (fn6320 12), .int .i64 (fn6320 13), .int .i64 (fn6320 14), .int .i64 (fn6320 15)] :: Cl b6299 [.slice A6301 a6300.length c6302, .int .i64 a6304, .slice A6306 a6305.length c6307, .int .u64 a6309, .int .i64 a6310, .int .i64 a6311, .int .i64 a6312, .int .i64 a6313, .int .i64 a6314, .int .i64 a6315, .bool a6316, .slice A6318 16 c6319, .int .i64 a6321, .slice A6323 a6325.length c6324, .int .i64 a6326] 79 :: OSf E_api_Out 58 (.slice A6323 a6325.length c6324) a6325 :: l) hf := hS
  refine RL.s (Vl.assign rfl) rfl ?_
  refine RL.nil ?_
  refine RQ.then_n ?_
  refine RC.seq ?_
  refine RC.region ?_
  refine RL.s (Vl.move rfl) rfl ?_
  refine RL.s (Vl.nilCheck rfl) rfl ?_
  refine RL.s (Vl.fieldAddr (a'' := ⟨b6299, 0, none⟩) Tryd.underlying79 rfl Tryd.sizeOf26 rfl rfl) rfl ?_
  refine RL.s (Vl.fieldAddr (a'' := ⟨b6299, 2, none⟩) Tryd.underlying26 rfl Tryd.sizeOf23 rfl rfl) rfl ?_
  refine RL.s (Vl.load Tryd.isAgg23 rfl (hS.cell 2 rfl rfl)) rfl ?_
  refine RL.s (Vl.lenSl Tryd.underlying23 rfl) rfl ?_
  refine RL.s (Vl.assign rfl) rfl ?_
  refine RL.nil ?_
  refine RQ.then_n ?_
  refine RC.seq ?_
  refine RC.seq ?_
  refine RC.region ?_
  refine RL.s (Vl.move rfl) rfl ?_
  refine RL.s (Vl.int rfl rfl rfl) rfl ?_
  refine RL.s (Vl.move rfl) rfl ?_
  by_cases hc6372 : (a6305.length : Int) = 0
  case pos =>
   have h := h.pos hc6372
   refine RL.re 16 rfl (congrArg Value.bool (decide_eq_true hc6372)) ?_
   refine RL.nn rfl rfl ?_
   refine RL.nn rfl rfl ?_
   refine RL.nn rfl rfl ?_
   refine RL.nn rfl rfl ?_
   refine RL.nn rfl rfl ?_
   refine RL.nn rfl rfl ?_
   refine RL.s (Vl.pickT rfl rfl) rfl ?_
   refine RL.nil ?_
   refine RQ.then_n ?_
   refine RC.condT rfl ?_
   refine RC.seq ?_
   refine RC.region ?_
   refine RL.s (Vl.assign rfl) rfl ?_
   refine RL.nil ?_
   refine RQ.then_n ?_
   refine RC.ret ?_
   refine RQ.ret ?_
   have e := h.some
   subst e
   refine RQ.ret0 (vs := [.int .i64 0]) Tryd.results41 ⟨rfl, trivial⟩ ?_
   exact ⟨A6323, c6324, rfl, ((((hS.dropAt 0 rfl).pull 1 rfl rfl).pull 1 rfl rfl).pull 2 rfl rfl)⟩
  case neg =>
   have h := h.neg hc6372
   refine RL.re 16 rfl (congrArg Value.bool (decide_eq_false hc6372)) ?_
   refine RL.sg (Vl.move rfl) rfl rfl ?_
   refine RL.sg (Vl.nilCheck rfl) rfl rfl ?_
   refine RL.sg (Vl.fieldAddr (a'' := ⟨b6299, 13, none⟩) Tryd.underlying79 rfl Tryd.sizeOf34 rfl rfl) rfl rfl ?_
   refine RL.sg (Vl.load Tryd.isAgg34 rfl (hS.cell 2 rfl rfl)) rfl rfl ?_
   refine RL.sg (Vl.lenSl Tryd.underlying34 rfl) rfl rfl ?_
   refine RL.sg (Vl.int rfl rfl rfl) rfl rfl ?_
   refine RL.s (Vl.pickF rfl rfl) rfl ?_
   refine RL.nil ?_
   refine RQ.then_n ?_
   by_cases hc6373 : 8 ≤ (a6325.length : Int)
   case pos =>
    have h := h.pos hc6373
    refine RC.re 23 rfl (congrArg Value.bool (decide_eq_true hc6373)) ?_
    refine RC.condT rfl ?_
    refine RC.seq ?_
    refine RC.region ?_
    refine RL.s (Vl.assign rfl) rfl ?_
    refine RL.nil ?_
    refine RQ.then_n ?_
    refine RC.ret ?_
    refine RQ.ret ?_
    have e := h.some
    subst e
    refine RQ.ret0 (vs := [.int .i64 0]) Tryd.results41 ⟨rfl, trivial⟩ ?_
    exact ⟨A6323, c6324, rfl, ((((hS.dropAt 0 rfl).pull 1 rfl rfl).pull 1 rfl rfl).pull 2 rfl rfl)⟩
   case neg =>
    have h := h.neg hc6373
    refine RC.re 23 rfl (congrArg Value.bool (decide_eq_false hc6373)) ?_
    refine RC.condF rfl ?_
    refine RC.skip ?_
    refine RQ.then_n ?_
    refine RC.seq ?_
    refine RC.plan (.pure 0 (.pure 1 (.pure 2 (.cons 3 true (.pure 4 (.cons 5 true (.cons 6 true (.cons 7 true (.cons 8 false (.cons 9 false (.cons 10 false .nil))))))))))) [10] (fun w => St B w (Cl b6369 [.int .i64 a6327.Op, .int .i64 a6327.A, .int .i64 a6327.B, .int .i64 a6327.C] 48 :: OSl 2 1 (.slice A6318 16 c6319) 16 [.int .i64 (fn6320 0), .int .i64 (fn6320 1), .int .i64 (fn6320 2), .int .i64 (fn6320 3), .int .i64 (fn6320 4), .int .i64 (fn6320 5), .int .i64 (fn6320 6), .int .i64 (fn6320 7), .int .i64 (fn6320 8), .int .i64 (fn6320 9), .int .i64 (fn6320 10), .int .i64 (fn6320 11), .int .i64 (fn6320 12), .int .i64 (fn6320 13), .int .i64 (fn6320 14), .int .i64 (fn6320 15)] :: Cl b6299 [.slice A6301 a6300.length c6302, .int .i64 a6304, .slice A6306 a6305.length c6307, .int .u64 a6309, .int .i64 a6310, .int .i64 a6311, .int .i64 a6312, .int .i64 a6313, .int .i64 a6314, .int .i64 a6315, .bool a6316, .slice A6318 16 c6319, .int .i64 a6321, .slice A6323 a6325.length c6324, .int .i64 a6326] 79 :: OSf E_api_Out 58 (.slice A6323 a6325.length c6324) a6325 :: l) hf) follows rfl (by kernel_rfl) (NoTmp.then NoTmp.body) ?_
    have hS := hS.same (w' := { w with drawn := w.drawn + 1 }) rfl rfl
    revert hS
    generalize { w with drawn := w.drawn + 1 } = w
    intro hS
    refine RP.s0 0 rfl (fun w => Vl.move rfl) rfl ?_
    refine RP.s0 1 rfl (fun w => Vl.nilCheck rfl) rfl ?_
    refine RP.s0 2 rfl (fun w => Vl.fieldAddr (a'' := ⟨b6299, 11, none⟩) Tryd.underlying79 rfl Tryd.sizeOf67 rfl rfl) rfl ?_
    refine RP.s 3 rfl rfl hS (fun w hS => Vl.load Tryd.isAgg67 rfl (hS.cell 2 rfl rfl)) rfl ?_
    refine RP.s0 4 rfl (fun w => Vl.fieldAddr (a'' := ⟨b6369, 1, none⟩) Tryd.underlying48 rfl Tryd.sizeOf3 rfl rfl) rfl ?_
    refine RP.s 5 rfl rfl hS (fun w hS => Vl.load Tryd.isAgg3 rfl (hS.cell 0 rfl rfl)) rfl ?_
    obtain ⟨⟨hq6374, hq6375⟩, h⟩ := h.req
    refine RP.s 6 rfl rfl hS (fun w hS => Vl.indexAddr (a'' := (ad A6318).add (a6327.A.toNat * 1)) Tryd.underlying67 Tryd.sizeOf2 rfl rfl (hS.litAdr 1 rfl (by decide)) hq6374 hq6375 rfl) rfl ?_
    refine RP.s 7 rfl rfl hS (fun w hS => Vl.load Tryd.isAgg2 rfl (hS.litCell (j := a6327.A.toNat * 1) (cs := fc (Value.int .i64) 16 fn6320) 1 rfl (fc_get (by omega)))) rfl ?_
    refine RP.v1 8 rfl (Vl.move rfl) rfl rfl ?_
    obtain ⟨hq6376, h⟩ := h.req
    refine RP.v1 9 rfl (Vl.rem rfl rfl hq6376) rfl rfl ?_
    refine RP.v1 10 rfl (Vl.assign rfl) rfl rfl ?_
    refine RP.nil ?_
    refine RQ.then_n ?_
    refine RC.join (fun (s : Int) a w => ∃ (x6378 : Int), s = (x6378) ∧ Has 87 [(0, .pointer (some ⟨b6299, 0, none⟩)), (3, .pointer (some ⟨b6369, 0, none⟩)), (6, .int .i64 x6378)] a ∧ St B w (OSf E_api_Out 58 (.slice A6323 a6325.length c6324) a6325 :: Cl b6369 [.int .i64 a6327.Op, .int .i64 a6327.A, .int .i64 a6327.B, .int .i64 a6327.C] 48 :: OSl 2 1 (.slice A6318 16 c6319) 16 [.int .i64 (fn6320 0), .int .i64 (fn6320 1), .int .i64 (fn6320 2), .int .i64 (fn6320 3), .int .i64 (fn6320 4), .int .i64 (fn6320 5), .int .i64 (fn6320 6), .int .i64 (fn6320 7), .int .i64 (fn6320 8), .int .i64 (fn6320 9), .int .i64 (fn6320 10), .int .i64 (fn6320 11), .int .i64 (fn6320 12), .int .i64 (fn6320 13), .int .i64 (fn6320 14), .int .i64 (fn6320 15)] :: Cl b6299 [.slice A6301 a6300.length c6302, .int .i64 a6304, .slice A6306 a6305.length c6307, .int .u64 a6309, .int .i64 a6310, .int .i64 a6311, .int .i64 a6312, .int .i64 a6313, .int .i64 a6314, .int .i64 a6315, .bool a6316, .slice A6318 16 c6319, .int .i64 a6321, .slice A6323 a6325.length c6324, .int .i64 a6326] 79 :: l) hf ∧ Holds (· = r) (isochronref05vrun_send.j2 a6305 a6310 fn6320 a6325 a6327 x6378)) ?_ ?_
    · rintro x6378 a w ⟨_, rfl, ha, hS, h⟩
      revert a
      show RC _ _ _ _ _ _
      refine RC.seq ?_
      refine RC.plan (.pure 0 (.pure 1 (.pure 2 (.cons 3 true (.cons 4 false (.cons 5 false (.cons 6 false (.cons 7 false (.cons 8 false .nil))))))))) [8] (fun w => St B w (OSf E_api_Out 58 (.slice A6323 a6325.length c6324) a6325 :: Cl b6369 [.int .i64 a6327.Op, .int .i64 a6327.A, .int .i64 a6327.B, .int .i64 a6327.C] 48 :: OSl 2 1 (.slice A6318 16 c6319) 16 [.int .i64 (fn6320 0), .int .i64 (fn6320 1), .int .i64 (fn6320 2), .int .i64 (fn6320 3), .int .i64 (fn6320 4), .int .i64 (fn6320 5), .int .i64 (fn6320 6), .int .i64 (fn6320 7), .int .i64 (fn6320 8), .int .i64 (fn6320 9), .int .i64 (fn6320 10), .int .i64 (fn6320 11), .int .i64 (fn6320 12), .int .i64 (fn6320 13), .int .i64 (fn6320 14), .int .i64 (fn6320 15)] :: Cl b6299 [.slice A6301 a6300.length c6302, .int .i64 a6304, .slice A6306 a6305.length c6307, .int .u64 a6309, .int .i64 a6310, .int .i64 a6311, .int .i64 a6312, .int .i64 a6313, .int .i64 a6314, .int .i64 a6315, .bool a6316, .slice A6318 16 c6319, .int .i64 a6321, .slice A6323 a6325.length c6324, .int .i64 a6326] 79 :: l) hf) follows rfl (by kernel_rfl) (NoTmp.then NoTmp.body) ?_
      have hS := hS.same (w' := { w with drawn := w.drawn + 1 }) rfl rfl
      revert hS
      generalize { w with drawn := w.drawn + 1 } = w
      intro hS
      refine RP.s0 0 rfl (fun w => Vl.move rfl) rfl ?_
      refine RP.s0 1 rfl (fun w => Vl.nilCheck rfl) rfl ?_
      refine RP.s0 2 rfl (fun w => Vl.fieldAddr (a'' := ⟨b6299, 11, none⟩) Tryd.underlying79 rfl Tryd.sizeOf67 rfl rfl) rfl ?_
      refine RP.s 3 rfl rfl hS (fun w hS => Vl.load Tryd.isAgg67 rfl (hS.cell 3 rfl rfl)) rfl ?_
      refine RP.v1 4 rfl (Vl.fieldAddr (a'' := ⟨b6369, 2, none⟩) Tryd.underlying48 rfl Tryd.sizeOf3 rfl rfl) rfl rfl ?_
      refine RP.v1 5 rfl (Vl.load Tryd.isAgg3 rfl (hS.cell 1 rfl rfl)) rfl rfl ?_
      obtain ⟨⟨hq6379, hq6380⟩, h⟩ := h.req
      refine RP.v1 6 rfl (Vl.indexAddr (a'' := (ad A6318).add (a6327.B.toNat * 1)) Tryd.underlying67 Tryd.sizeOf2 rfl rfl (hS.litAdr 2 rfl (by decide)) hq6379 hq6380 rfl) rfl rfl ?_
      refine RP.v1 7 rfl (Vl.load Tryd.isAgg2 rfl (hS.litCell (j := a6327.B.toNat * 1) (cs := fc (Value.int .i64) 16 fn6320) 2 rfl (fc_get (by omega)))) rfl rfl ?_
      refine RP.v1 8 rfl (Vl.assign rfl) rfl rfl ?_
      refine RP.nil ?_
      refine RQ.then_n ?_
      refine RC.seq ?_
      refine RC.seq ?_
      refine RC.region ?_
      refine RL.s (Vl.move rfl) rfl ?_
      refine RL.s (Vl.move rfl) rfl ?_
      refine RL.s (Vl.nilCheck rfl) rfl ?_
      refine RL.s (Vl.fieldAddr (a'' := ⟨b6299, 0, none⟩) Tryd.underlying79 rfl Tryd.sizeOf26 rfl rfl) rfl ?_
      refine RL.s (Vl.fieldAddr (a'' := ⟨b6299, 2, none⟩) Tryd.underlying26 rfl Tryd.sizeOf23 rfl rfl) rfl ?_
      refine RL.s (Vl.load Tryd.isAgg23 rfl (hS.cell 3 rfl rfl)) rfl ?_
      refine RL.s (Vl.move rfl) rfl ?_
      obtain ⟨⟨hq6384, hq6385⟩, h⟩ := h.req
      refine RL.s (Vl.indexAddr Tryd.underlying23 Tryd.sizeOf56 rfl rfl ((hr6308.2.world hS.sub).adr hq6384 hq6385) hq6384 hq6385 rfl) rfl ?_
      refine RL.s (Vl.fieldAddr (a'' := (ad A6306).add (x6378.toNat * 4 + 2)) Tryd.underlying56 rfl Tryd.sizeOf2 rfl (add_add _ _ _)) rfl ?_
      refine RL.s (Vl.load Tryd.isAgg2 rfl ((hr6308.2.world hS.sub).cell (j := 2) hq6384 hq6385 rfl)) rfl ?_
      refine RL.s (Vl.int rfl rfl rfl) rfl ?_
      refine RL.nil ?_
      refine RQ.then_n ?_
      by_cases hc6386 : fn6320 (a6327.B.toNat * 1) < (nth a6305 x6378).Look
      case pos =>
       have h := h.pos hc6386
       refine RC.re 57 rfl (congrArg Value.bool (decide_eq_true hc6386)) ?_
       refine RC.condT rfl ?_
       refine RC.seq ?_
       refine RC.region ?_
       refine RL.s (Vl.assign rfl) rfl ?_
       refine RL.nil ?_
       refine RQ.then_n ?_
       refine RC.ret ?_
       refine RQ.ret ?_
       have e := h.some
       subst e
       refine RQ.ret0 (vs := [.int .i64 50]) Tryd.results41 ⟨rfl, trivial⟩ ?_
       exact ⟨A6323, c6324, rfl, (hS.dropAt 1 rfl)⟩
      case neg =>
       have h := h.neg hc6386
       refine RC.re 57 rfl (congrArg Value.bool (decide_eq_false hc6386)) ?_
       refine RC.condF rfl ?_
       refine RC.skip ?_
       refine RQ.then_n ?_
       refine RC.seq ?_
       refine RC.seq ?_
       refine RC.region ?_
       refine RL.s (Vl.move rfl) rfl ?_
       refine RL.s (Vl.move rfl) rfl ?_
       refine RL.s (Vl.nilCheck rfl) rfl ?_
       refine RL.s (Vl.fieldAddr (a'' := ⟨b6299, 4, none⟩) Tryd.underlying79 rfl Tryd.sizeOf33 rfl rfl) rfl ?_
       refine RL.s (Vl.fieldAddr (a'' := ⟨b6299, 4, none⟩) Tryd.underlying33 rfl Tryd.sizeOf31 rfl rfl) rfl ?_
       refine RL.s (Vl.fieldAddr (a'' := ⟨b6299, 4, none⟩) Tryd.underlying31 rfl Tryd.sizeOf2 rfl rfl) rfl ?_
       refine RL.s (Vl.load Tryd.isAgg2 rfl (hS.cell 3 rfl rfl)) rfl ?_
       refine RL.s (Vl.int rfl rfl rfl) rfl ?_
       refine RL.s (Vl.int rfl rfl rfl) rfl ?_
       refine RL.nil ?_
       refine RQ.then_n ?_
       by_cases hc6388 : IntKind.i64.wrap (4611686018427387903 - a6310) < fn6320 (a6327.B.toNat * 1)
       case pos =>
        have h := h.pos hc6388
        refine RC.re 66 rfl (congrArg Value.bool (decide_eq_true hc6388)) ?_
        refine RC.condT rfl ?_
        refine RC.seq ?_
        refine RC.region ?_
        refine RL.s (Vl.assign rfl) rfl ?_
        refine RL.nil ?_
        refine RQ.then_n ?_
        refine RC.ret ?_
        refine RQ.ret ?_
        have e := h.some
        subst e
        refine RQ.ret0 (vs := [.int .i64 10]) Tryd.results41 ⟨rfl, trivial⟩ ?_
        exact ⟨A6323, c6324, rfl, (hS.dropAt 1 rfl)⟩
       case neg =>
        have h := h.neg hc6388
        refine RC.re 66 rfl (congrArg Value.bool (decide_eq_false hc6388)) ?_
        refine RC.condF rfl ?_
        refine RC.skip ?_
        refine RQ.then_n ?_
        refine RC.seq ?_
        refine RC.plan (.pure 0 (.pure 1 (.pure 2 (.pure 3 (.cons 4 true (.pure 5 (.pure 6 (.pure 7 (.pure 8 (.pure 9 (.cons 10 true (.cons 11 false (.cons 12 false (.cons 13 false (.cons 14 false (.cons 15 false (.cons 16 false (.cons 17 false (.cons 18 false (.cons 19 false (.cons 20 false .nil))))))))))))))))))))) [18, 19, 20] (fun w => St B w (Cl b6369 [.int .i64 a6327.Op, .int .i64 a6327.A, .int .i64 a6327.B, .int .i64 a6327.C] 48 :: OSl 2 1 (.slice A6318 16 c6319) 16 [.int .i64 (fn6320 0), .int .i64 (fn6320 1), .int .i64 (fn6320 2), .int .i64 (fn6320 3), .int .i64 (fn6320 4), .int .i64 (fn6320 5), .int .i64 (fn6320 6), .int .i64 (fn6320 7), .int .i64 (fn6320 8), .int .i64 (fn6320 9), .int .i64 (fn6320 10), .int .i64 (fn6320 11), .int .i64 (fn6320 12), .int .i64 (fn6320 13), .int .i64 (fn6320 14), .int .i64 (fn6320 15)] :: Cl b6299 [.slice A6301 a6300.length c6302, .int .i64 a6304, .slice A6306 a6305.length c6307, .int .u64 a6309, .int .i64 a6310, .int .i64 a6311, .int .i64 a6312, .int .i64 a6313, .int .i64 a6314, .int .i64 a6315, .bool a6316, .slice A6318 16 c6319, .int .i64 a6321, .slice A6323 a6325.length c6324, .int .i64 a6326] 79 :: l) hf) follows rfl (by kernel_rfl) (NoTmp.then NoTmp.body) ?_
        have hS := hS.same (w' := { w with drawn := w.drawn + 1 }) rfl rfl
        revert hS
        generalize { w with drawn := w.drawn + 1 } = w
        intro hS
        refine RP.s0 0 rfl (fun w => Vl.move rfl) rfl ?_
        refine RP.s0 1 rfl (fun w => Vl.move rfl) rfl ?_
        refine RP.s0 2 rfl (fun w => Vl.nilCheck rfl) rfl ?_
        refine RP.s0 3 rfl (fun w => Vl.fieldAddr (a'' := ⟨b6299, 13, none⟩) Tryd.underlying79 rfl Tryd.sizeOf34 rfl rfl) rfl ?_
        refine RP.s 4 rfl rfl (hS.dropAt 0 rfl) (fun w hS => Vl.load Tryd.isAgg34 rfl (hS.cell 2 rfl rfl)) rfl ?_
        refine RP.s0 5 rfl (fun w => Vl.move rfl) rfl ?_
        refine RP.s0 6 rfl (fun w => Vl.move rfl) rfl ?_
        refine RP.s0 7 rfl (fun w => Vl.move rfl) rfl ?_
        refine RP.s0 8 rfl (fun w => Vl.nilCheck rfl) rfl ?_
        refine RP.s0 9 rfl (fun w => Vl.fieldAddr (a'' := ⟨b6299, 11, none⟩) Tryd.underlying79 rfl Tryd.sizeOf67 rfl rfl) rfl ?_
        refine RP.s 10 rfl rfl (hS.dropAt 0 rfl) (fun w hS => Vl.load Tryd.isAgg67 rfl (hS.cell 2 rfl rfl)) rfl ?_
        refine RP.v1 11 rfl (Vl.fieldAddr (a'' := ⟨b6369, 3, none⟩) Tryd.underlying48 rfl Tryd.sizeOf3 rfl rfl) rfl rfl ?_
        refine RP.v1 12 rfl (Vl.load Tryd.isAgg3 rfl (hS.cell 1 rfl rfl)) rfl rfl ?_
        obtain ⟨⟨hq6398, hq6399⟩, h⟩ := h.req
        refine RP.v1 13 rfl (Vl.indexAddr (a'' := (ad A6318).add (a6327.C.toNat * 1)) Tryd.underlying67 Tryd.sizeOf2 rfl rfl (hS.litAdr 2 rfl (by decide)) hq6398 hq6399 rfl) rfl rfl ?_
        refine RP.v1 14 rfl (Vl.load Tryd.isAgg2 rfl (hS.litCell (j := a6327.C.toNat * 1) (cs := fc (Value.int .i64) 16 fn6320) 2 rfl (fc_get (by omega)))) rfl rfl ?_
        refine RP.v1 15 rfl (Vl.build (v := .agg #[.int .i64 x6378, .int .i64 (fn6320 (a6327.B.toNat * 1)), .int .i64 (fn6320 (a6327.C.toNat * 1))]) (parts := [(0, .tmp 72), (1, .tmp 73), (2, .tmp 81)]) rfl (by kernel_rfl)) rfl rfl ?_
        refine RP.e 16 rfl (OW.buildSlice (E := E_api_Out) (xs := [(⟨x6378, fn6320 (a6327.B.toNat * 1), fn6320 (a6327.C.toNat * 1)⟩ : api_Out)]) (cs := [.int .i64 x6378, .int .i64 (fn6320 (a6327.B.toNat * 1)), .int .i64 (fn6320 (a6327.C.toNat * 1))]) hS Tryd.underlying34 Tryd.zeroValue58 Tryd.sizeOf58 (parts := [(0, .tmp 82)]) rfl rfl (by decide) (by decide) (by kernel_rfl) rfl) rfl rfl ?_
        rintro _ w ⟨b6401, rfl, hS⟩
        have hS : St B w (OSf E_api_Out 58 (.slice (some ⟨b6401, 0, none⟩) ([(⟨x6378, fn6320 (a6327.B.toNat * 1), fn6320 (a6327.C.toNat * 1)⟩ : api_Out)]).length 1) ([(⟨x6378, fn6320 (a6327.B.toNat * 1), fn6320 (a6327.C.toNat * 1)⟩ : api_Out)]) :: OSf E_api_Out 58 (.slice A6323 a6325.length c6324) a6325 :: Cl b6369 [.int .i64 a6327.Op, .int .i64 a6327.A, .int .i64 a6327.B, .int .i64 a6327.C] 48 :: OSl 2 1 (.slice A6318 16 c6319) 16 [.int .i64 (fn6320 0), .int .i64 (fn6320 1), .int .i64 (fn6320 2), .int .i64 (fn6320 3), .int .i64 (fn6320 4), .int .i64 (fn6320 5), .int .i64 (fn6320 6), .int .i64 (fn6320 7), .int .i64 (fn6320 8), .int .i64 (fn6320 9), .int .i64 (fn6320 10), .int .i64 (fn6320 11), .int .i64 (fn6320 12), .int .i64 (fn6320 13), .int .i64 (fn6320 14), .int .i64 (fn6320 15)] :: Cl b6299 [.slice A6301 a6300.length c6302, .int .i64 a6304, .slice A6306 a6305.length c6307, .int .u64 a6309, .int .i64 a6310, .int .i64 a6311, .int .i64 a6312, .int .i64 a6313, .int .i64 a6314, .int .i64 a6315, .bool a6316, .slice A6318 16 c6319, .int .i64 a6321, .slice A6323 a6325.length c6324, .int .i64 a6326] 79 :: l) hf := hS
        refine ⟨fun _ => ((hS.dropAt 0 rfl).dropAt 0 rfl), ?_⟩
        obtain ⟨hq6402, h⟩ := h.req
        refine RP.e 17 rfl (OW.append (E := E_api_Out) (xs := a6325) (ys := [(⟨x6378, fn6320 (a6327.B.toNat * 1), fn6320 (a6327.C.toNat * 1)⟩ : api_Out)]) 1 hS rfl Tryd.underlying34 Tryd.type58 rfl rfl rfl rfl (by decide) rfl rfl rfl (hS.slW 0 rfl).2.2.flat (by simp only [maxLen, List.length_cons, List.length_nil] at *; omega) hq6402 rfl) rfl rfl ?_
        rintro v6406 w hS
        obtain ⟨A6403, c6404, rfl, _⟩ := hS.osShape 0 rfl
        have hS : St B w (OSf E_api_Out 58 (.slice A6403 (a6325 ++ ([(⟨x6378, fn6320 (a6327.B.toNat * 1), fn6320 (a6327.C.toNat * 1)⟩ : api_Out)])).length c6404) (a6325 ++ ([(⟨x6378, fn6320 (a6327.B.toNat * 1), fn6320 (a6327.C.toNat * 1)⟩ : api_Out)])) :: OSf E_api_Out 58 (.slice (some ⟨b6401, 0, none⟩) ([(⟨x6378, fn6320 (a6327.B.toNat * 1), fn6320 (a6327.C.toNat * 1)⟩ : api_Out)]).length 1) ([(⟨x6378, fn6320 (a6327.B.toNat * 1), fn6320 (a6327.C.toNat * 1)⟩ : api_Out)]) :: Cl b6369 [.int .i64 a6327.Op, .int .i64 a6327.A, .int .i64 a6327.B, .int .i64 a6327.C] 48 :: OSl 2 1 (.slice A6318 16 c6319) 16 [.int .i64 (fn6320 0), .int .i64 (fn6320 1), .int .i64 (fn6320 2), .int .i64 (fn6320 3), .int .i64 (fn6320 4), .int .i64 (fn6320 5), .int .i64 (fn6320 6), .int .i64 (fn6320 7), .int .i64 (fn6320 8), .int .i64 (fn6320 9), .int .i64 (fn6320 10), .int .i64 (fn6320 11), .int .i64 (fn6320 12), .int .i64 (fn6320 13), .int .i64 (fn6320 14), .int .i64 (fn6320 15)] :: Cl b6299 [.slice A6301 a6300.length c6302, .int .i64 a6304, .slice A6306 a6305.length c6307, .int .u64 a6309, .int .i64 a6310, .int .i64 a6311, .int .i64 a6312, .int .i64 a6313, .int .i64 a6314, .int .i64 a6315, .bool a6316, .slice A6318 16 c6319, .int .i64 a6321, .slice A6323 a6325.length c6324, .int .i64 a6326] 79 :: l) hf := hS
        refine ⟨fun _ => ((hS.dropAt 0 rfl).dropAt 0 rfl), ?_⟩
        refine RP.v1 18 rfl (Vl.nilCheck rfl) rfl rfl ?_
        refine RP.v1 19 rfl (Vl.fieldAddr (a'' := ⟨b6299, 13, none⟩) Tryd.underlying79 rfl Tryd.sizeOf34 rfl rfl) rfl rfl ?_
        refine RP.e0 20 rfl (OW.store (cs := [.slice A6301 a6300.length c6302, .int .i64 a6304, .slice A6306 a6305.length c6307, .int .u64 a6309, .int .i64 a6310, .int .i64 a6311, .int .i64 a6312, .int .i64 a6313, .int .i64 a6314, .int .i64 a6315, .bool a6316, .slice A6318 16 c6319, .int .i64 a6321, .slice A6323 a6325.length c6324, .int .i64 a6326]) (vs := [.slice A6403 (a6325 ++ ([(⟨x6378, fn6320 (a6327.B.toNat * 1), fn6320 (a6327.C.toNat * 1)⟩ : api_Out)])).length c6404]) (l' := OSf E_api_Out 58 (.slice A6403 (a6325 ++ ([(⟨x6378, fn6320 (a6327.B.toNat * 1), fn6320 (a6327.C.toNat * 1)⟩ : api_Out)])).length c6404) (a6325 ++ ([(⟨x6378, fn6320 (a6327.B.toNat * 1), fn6320 (a6327.C.toNat * 1)⟩ : api_Out)])) :: OSf E_api_Out 58 (.slice (some ⟨b6401, 0, none⟩) ([(⟨x6378, fn6320 (a6327.B.toNat * 1), fn6320 (a6327.C.toNat * 1)⟩ : api_Out)]).length 1) ([(⟨x6378, fn6320 (a6327.B.toNat * 1), fn6320 (a6327.C.toNat * 1)⟩ : api_Out)]) :: Cl b6369 [.int .i64 a6327.Op, .int .i64 a6327.A, .int .i64 a6327.B, .int .i64 a6327.C] 48 :: OSl 2 1 (.slice A6318 16 c6319) 16 [.int .i64 (fn6320 0), .int .i64 (fn6320 1), .int .i64 (fn6320 2), .int .i64 (fn6320 3), .int .i64 (fn6320 4), .int .i64 (fn6320 5), .int .i64 (fn6320 6), .int .i64 (fn6320 7), .int .i64 (fn6320 8), .int .i64 (fn6320 9), .int .i64 (fn6320 10), .int .i64 (fn6320 11), .int .i64 (fn6320 12), .int .i64 (fn6320 13), .int .i64 (fn6320 14), .int .i64 (fn6320 15)] :: Cl b6299 [.slice A6301 a6300.length c6302, .int .i64 a6304, .slice A6306 a6305.length c6307, .int .u64 a6309, .int .i64 a6310, .int .i64 a6311, .int .i64 a6312, .int .i64 a6313, .int .i64 a6314, .int .i64 a6315, .bool a6316, .slice A6318 16 c6319, .int .i64 a6321, .slice A6403 (a6325 ++ ([(⟨x6378, fn6320 (a6327.B.toNat * 1), fn6320 (a6327.C.toNat * 1)⟩ : api_Out)])).length c6404, .int .i64 a6326] 79 :: l) 4 hS rfl rfl rfl rfl Tryd.sizeOf34 rfl rfl rfl rfl) rfl ?_
        rintro _ w ⟨rfl, hS⟩
        have hS : St B w (OSf E_api_Out 58 (.slice A6403 (a6325 ++ ([(⟨x6378, fn6320 (a6327.B.toNat * 1), fn6320 (a6327.C.toNat * 1)⟩ : api_Out)])).length c6404) (a6325 ++ ([(⟨x6378, fn6320 (a6327.B.toNat * 1), fn6320 (a6327.C.toNat * 1)⟩ : api_Out)])) :: OSf E_api_Out 58 (.slice (some ⟨b6401, 0, none⟩) ([(⟨x6378, fn6320 (a6327.B.toNat * 1), fn6320 (a6327.C.toNat * 1)⟩ : api_Out)]).length 1) ([(⟨x6378, fn6320 (a6327.B.toNat * 1), fn6320 (a6327.C.toNat * 1)⟩ : api_Out)]) :: Cl b6369 [.int .i64 a6327.Op, .int .i64 a6327.A, .int .i64 a6327.B, .int .i64 a6327.C] 48 :: OSl 2 1 (.slice A6318 16 c6319) 16 [.int .i64 (fn6320 0), .int .i64 (fn6320 1), .int .i64 (fn6320 2), .int .i64 (fn6320 3), .int .i64 (fn6320 4), .int .i64 (fn6320 5), .int .i64 (fn6320 6), .int .i64 (fn6320 7), .int .i64 (fn6320 8), .int .i64 (fn6320 9), .int .i64 (fn6320 10), .int .i64 (fn6320 11), .int .i64 (fn6320 12), .int .i64 (fn6320 13), .int .i64 (fn6320 14), .int .i64 (fn6320 15)] :: Cl b6299 [.slice A6301 a6300.length c6302, .int .i64 a6304, .slice A6306 a6305.length c6307, .int .u64 a6309, .int .i64 a6310, .int .i64 a6311, .int .i64 a6312, .int .i64 a6313, .int .i64 a6314, .int .i64 a6315, .bool a6316, .slice A6318 16 c6319, .int .i64 a6321, .slice A6403 (a6325 ++ ([(⟨x6378, fn6320 (a6327.B.toNat * 1), fn6320 (a6327.C.toNat * 1)⟩ : api_Out)])).length c6404, .int .i64 a6326] 79 :: l) hf := hS
        refine ⟨(by intro hx; cases hx), ?_⟩
        refine RP.nil ?_
        refine RQ.then_n ?_
        refine RC.seq ?_
        refine RC.region ?_
        refine RL.s (Vl.assign rfl) rfl ?_
        refine RL.nil ?_
        refine RQ.then_n ?_
        refine RC.ret ?_
        have e := h.some
        subst e
        refine RQ.ret0 (vs := [.int .i64 0]) Tryd.results41 ⟨rfl, trivial⟩ ?_
        exact ⟨A6403, c6404, rfl, ((hS.dropAt 1 rfl).dropAt 1 rfl)⟩
    · refine RC.seq ?_
      refine RC.region ?_
      refine RL.s (Vl.move rfl) rfl ?_
      refine RL.s (Vl.int rfl rfl rfl) rfl ?_
      refine RL.nil ?_
      refine RQ.then_n ?_
      by_cases hc6407 : Int.tmod (fn6320 (a6327.A.toNat * 1)) (a6305.length : Int) < 0
      case pos =>
       have h := h.pos hc6407
       refine RC.re 35 rfl (congrArg Value.bool (decide_eq_true hc6407)) ?_
       refine RC.condT rfl ?_
       refine RC.region ?_
       refine RL.s (Vl.move rfl) rfl ?_
       refine RL.s (Vl.move rfl) rfl ?_
       refine RL.s (Vl.int rfl rfl rfl) rfl ?_
       refine RL.s (Vl.assign rfl) rfl ?_
       refine RL.nil ?_
       exact fun a ha => ⟨(IntKind.i64.wrap ((Int.tmod (fn6320 (a6327.A.toNat * 1)) (a6305.length : Int)) + (a6305.length : Int))), (IntKind.i64.wrap ((Int.tmod (fn6320 (a6327.A.toNat * 1)) (a6305.length : Int)) + (a6305.length : Int))), rfl, ha.to ⟨rfl, rfl, rfl, trivial⟩, ((((hS.pull 2 rfl rfl).pull 2 rfl rfl).pull 2 rfl rfl).pull 3 rfl rfl), h⟩
      case neg =>
       have h := h.neg hc6407
       refine RC.re 35 rfl (congrArg Value.bool (decide_eq_false hc6407)) ?_
       refine RC.condF rfl ?_
       refine RC.skip ?_
       exact fun a ha => ⟨(Int.tmod (fn6320 (a6327.A.toNat * 1)) (a6305.length : Int)), (Int.tmod (fn6320 (a6327.A.toNat * 1)) (a6305.length : Int)), rfl, ha.to ⟨rfl, rfl, rfl, trivial⟩, ((((hS.pull 2 rfl rfl).pull 2 rfl rfl).pull 2 rfl rfl).pull 3 rfl rfl), h⟩

/-! ### isochron/isochronref04.Mix: function 78 -/
noncomputable def isochronref04vMix.f (a6428 : Int) : Option (Int) := some (IntKind.u64.wrap (BitVec.ofInt IntKind.u64.bits (IntKind.u64.wrap ((IntKind.u64.wrap (BitVec.ofInt IntKind.u64.bits (IntKind.u64.wrap ((IntKind.u64.wrap (BitVec.ofInt IntKind.u64.bits (IntKind.u64.wrap (a6428 + 11400714819323198485)) ^^^ BitVec.ofInt IntKind.u64.bits (Int.fdiv (IntKind.u64.wrap (a6428 + 11400714819323198485)) (2 ^ (min (30 : Int).toNat IntKind.u64.bits)))).toNat) * 13787848793156543929)) ^^^ BitVec.ofInt IntKind.u64.bits (Int.fdiv (IntKind.u64.wrap ((IntKind.u64.wrap (BitVec.ofInt IntKind.u64.bits (IntKind.u64.wrap (a6428 + 11400714819323198485)) ^^^ BitVec.ofInt IntKind.u64.bits (Int.fdiv (IntKind.u64.wrap (a6428 + 11400714819323198485)) (2 ^ (min (30 : Int).toNat IntKind.u64.bits)))).toNat) * 13787848793156543929)) (2 ^ (min (27 : Int).toNat IntKind.u64.bits)))).toNat) * 10723151780598845931)) ^^^ BitVec.ofInt IntKind.u64.bits (Int.fdiv (IntKind.u64.wrap ((IntKind.u64.wrap (BitVec.ofInt IntKind.u64.bits (IntKind.u64.wrap ((IntKind.u64.wrap (BitVec.ofInt IntKind.u64.bits (IntKind.u64.wrap (a6428 + 11400714819323198485)) ^^^ BitVec.ofInt IntKind.u64.bits (Int.fdiv (IntKind.u64.wrap (a6428 + 11400714819323198485)) (2 ^ (min (30 : Int).toNat IntKind.u64.bits)))).toNat) * 13787848793156543929)) ^^^ BitVec.ofInt IntKind.u64.bits (Int.fdiv (IntKind.u64.wrap ((IntKind.u64.wrap (BitVec.ofInt IntKind.u64.bits (IntKind.u64.wrap (a6428 + 11400714819323198485)) ^^^ BitVec.ofInt IntKind.u64.bits (Int.fdiv (IntKind.u64.wrap (a6428 + 11400714819323198485)) (2 ^ (min (30 : Int).toNat IntKind.u64.bits)))).toNat) * 13787848793156543929)) (2 ^ (min (27 : Int).toNat IntKind.u64.bits)))).toNat) * 10723151780598845931)) (2 ^ (min (31 : Int).toNat IntKind.u64.bits)))).toNat)
set_option maxRecDepth 100000 in
set_option maxHeartbeats 4000000 in
theorem isochronref04vMix.ok {B : Base} {w : World} {l : List HProp} {hf : Hp} (a6428 : Int) (r : Int) (h : isochronref04vMix.f a6428 = some r) (hS : St B w (l) hf) :
    Calls Tryd.prog 78 #[.int .u64 a6428] w (Ret fun v w => v = .int .u64 r ∧ St B w (l) hf) := by
  have h := Holds.of h
  refine enter (args := [.int .u64 a6428]) Tryd.func78 rfl Tryd.ntmps78 (Nat.le_of_ble_eq_true rfl) ?_
  refine RC.seq ?_
  refine RC.region ?_
  refine RL.s (Vl.assign rfl) rfl ?_
  refine RL.nil ?_
  refine RQ.then_n ?_
  refine RC.seq ?_
  refine RC.region ?_
  refine RL.s (Vl.move rfl) rfl ?_
  refine RL.s (Vl.int rfl rfl rfl) rfl ?_
  refine RL.s (Vl.assign rfl) rfl ?_
  refine RL.nil ?_
  refine RQ.then_n ?_
  refine RC.seq ?_
  refine RC.region ?_
  refine RL.s (Vl.move rfl) rfl ?_
  refine RL.s (Vl.move rfl) rfl ?_
  refine RL.s (Vl.shr rfl rfl (by decide)) rfl ?_
  refine RL.s (Vl.int rfl rfl rfl) rfl ?_
  refine RL.s (Vl.int rfl rfl rfl) rfl ?_
  refine RL.s (Vl.assign rfl) rfl ?_
  refine RL.nil ?_
  refine RQ.then_n ?_
  refine RC.seq ?_
  refine RC.region ?_
  refine RL.s (Vl.move rfl) rfl ?_
  refine RL.s (Vl.move rfl) rfl ?_
  refine RL.s (Vl.shr rfl rfl (by decide)) rfl ?_
  refine RL.s (Vl.int rfl rfl rfl) rfl ?_
  refine RL.s (Vl.int rfl rfl rfl) rfl ?_
  refine RL.s (Vl.assign rfl) rfl ?_
  refine RL.nil ?_
  refine RQ.then_n ?_
  refine RC.seq ?_
  refine RC.region ?_
  refine RL.s (Vl.move rfl) rfl ?_
  refine RL.s (Vl.move rfl) rfl ?_
  refine RL.s (Vl.shr rfl rfl (by decide)) rfl ?_
  refine RL.s (Vl.int rfl rfl rfl) rfl ?_
  refine RL.s (Vl.assign rfl) rfl ?_
  refine RL.nil ?_
  refine RQ.then_n ?_
  refine RC.ret ?_
  have e := h.some
  subst e
  refine RQ.ret0 (vs := [.int .u64 (IntKind.u64.wrap (BitVec.ofInt IntKind.u64.bits (IntKind.u64.wrap ((IntKind.u64.wrap (BitVec.ofInt IntKind.u64.bits (IntKind.u64.wrap ((IntKind.u64.wrap (BitVec.ofInt IntKind.u64.bits (IntKind.u64.wrap (a6428 + 11400714819323198485)) ^^^ BitVec.ofInt IntKind.u64.bits (Int.fdiv (IntKind.u64.wrap (a6428 + 11400714819323198485)) (2 ^ (min (30 : Int).toNat IntKind.u64.bits)))).toNat) * 13787848793156543929)) ^^^ BitVec.ofInt IntKind.u64.bits (Int.fdiv (IntKind.u64.wrap ((IntKind.u64.wrap (BitVec.ofInt IntKind.u64.bits (IntKind.u64.wrap (a6428 + 11400714819323198485)) ^^^ BitVec.ofInt IntKind.u64.bits (Int.fdiv (IntKind.u64.wrap (a6428 + 11400714819323198485)) (2 ^ (min (30 : Int).toNat IntKind.u64.bits)))).toNat) * 13787848793156543929)) (2 ^ (min (27 : Int).toNat IntKind.u64.bits)))).toNat) * 10723151780598845931)) ^^^ BitVec.ofInt IntKind.u64.bits (Int.fdiv (IntKind.u64.wrap ((IntKind.u64.wrap (BitVec.ofInt IntKind.u64.bits (IntKind.u64.wrap ((IntKind.u64.wrap (BitVec.ofInt IntKind.u64.bits (IntKind.u64.wrap (a6428 + 11400714819323198485)) ^^^ BitVec.ofInt IntKind.u64.bits (Int.fdiv (IntKind.u64.wrap (a6428 + 11400714819323198485)) (2 ^ (min (30 : Int).toNat IntKind.u64.bits)))).toNat) * 13787848793156543929)) ^^^ BitVec.ofInt IntKind.u64.bits (Int.fdiv (IntKind.u64.wrap ((IntKind.u64.wrap (BitVec.ofInt IntKind.u64.bits (IntKind.u64.wrap (a6428 + 11400714819323198485)) ^^^ BitVec.ofInt IntKind.u64.bits (Int.fdiv (IntKind.u64.wrap (a6428 + 11400714819323198485)) (2 ^ (min (30 : Int).toNat IntKind.u64.bits)))).toNat) * 13787848793156543929)) (2 ^ (min (27 : Int).toNat IntKind.u64.bits)))).toNat) * 10723151780598845931)) (2 ^ (min (31 : Int).toNat IntKind.u64.bits)))).toNat)]) Tryd.results78 ⟨rfl, trivial⟩ ?_
  exact ⟨rfl, hS⟩

/-! ### isochron/isochronref04.At: function 69 -/
noncomputable def isochronref04vAt.f (a6425 : Int) (a6426 : Int) (a6427 : Int) : Option (Int) := ((isochronref04vMix.f a6425).bind fun t6435 => ((isochronref04vMix.f (IntKind.u64.wrap (t6435 + (IntKind.u64.wrap a6426)))).bind fun t6437 => ((isochronref04vMix.f (IntKind.u64.wrap (t6437 + (IntKind.u64.wrap a6427)))).bind fun t6439 => some t6439)))
set_option maxRecDepth 100000 in
set_option maxHeartbeats 4000000 in
theorem isochronref04vAt.ok {B : Base} {w : World} {l : List HProp} {hf : Hp} (a6425 : Int) (a6426 : Int) (a6427 : Int) (r : Int) (h : isochronref04vAt.f a6425 a6426 a6427 = some r) (hS : St B w (l) hf) :
    Calls Tryd.prog 69 #[.int .u64 a6425, .int .i64 a6426, .int .i64 a6427] w (Ret fun v w => v = .int .u64 r ∧ St B w (l) hf) := by
  have h := Holds.of h
  refine enter (args := [.int .u64 a6425, .int .i64 a6426, .int .i64 a6427]) Tryd.func69 rfl Tryd.ntmps69 (Nat.le_of_ble_eq_true rfl) ?_
  refine RC.seq ?_
  refine RC.region ?_
  refine RL.s (Vl.assign rfl) rfl ?_
  refine RL.nil ?_
  refine RQ.then_n ?_
  refine RC.seq ?_
  refine RC.region ?_
  refine RL.s (Vl.move rfl) rfl ?_
  obtain ⟨t6435, hg6436, h⟩ := h.bind
  refine RL.e (OW.callF (ls := [.tmp 7]) rfl Tryd.call78 (isochronref04vMix.ok a6425 _ hg6436 hS)) rfl rfl ?_
  rintro _ w ⟨rfl, hS⟩
  have hS : St B w (l) hf := hS
  refine RL.s (Vl.move rfl) rfl ?_
  refine RL.s (Vl.conv Tryd.underlying3 Tryd.underlying24 rfl) rfl ?_
  refine RL.s (Vl.int rfl rfl rfl) rfl ?_
  obtain ⟨t6437, hg6438, h⟩ := h.bind
  refine RL.e (OW.callF (ls := [.tmp 11]) rfl Tryd.call78 (isochronref04vMix.ok (IntKind.u64.wrap (t6435 + (IntKind.u64.wrap a6426))) _ hg6438 hS)) rfl rfl ?_
  rintro _ w ⟨rfl, hS⟩
  have hS : St B w (l) hf := hS
  refine RL.s (Vl.move rfl) rfl ?_
  refine RL.s (Vl.conv Tryd.underlying3 Tryd.underlying24 rfl) rfl ?_
  refine RL.s (Vl.int rfl rfl rfl) rfl ?_
  obtain ⟨t6439, hg6440, h⟩ := h.bind
  refine RL.e (OW.callF (ls := [.tmp 15]) rfl Tryd.call78 (isochronref04vMix.ok (IntKind.u64.wrap (t6437 + (IntKind.u64.wrap a6427))) _ hg6440 hS)) rfl rfl ?_
  rintro _ w ⟨rfl, hS⟩
  have hS : St B w (l) hf := hS
  refine RL.s (Vl.assign rfl) rfl ?_
  refine RL.nil ?_
  refine RQ.then_n ?_
  refine RC.ret ?_
  have e := h.some
  subst e
  refine RQ.ret0 (vs := [.int .u64 t6439]) Tryd.results69 ⟨rfl, trivial⟩ ?_
  exact ⟨rfl, hS⟩

/-! ### isochron/isochronref04.Below: function 42 -/
noncomputable def isochronref04vBelow.f (a6419 : Int) (a6420 : Int) (a6421 : Int) (a6422 : Int) : Option (Int) := (if a6422 < 1 then some 0 else ((isochronref04vAt.f a6419 a6420 a6421).bind fun t6446 => (if ¬ (IntKind.u64.wrap a6422) = 0 then some (IntKind.i64.wrap (Int.tmod t6446 (IntKind.u64.wrap a6422))) else none)))
set_option maxRecDepth 100000 in
set_option maxHeartbeats 4000000 in
theorem isochronref04vBelow.ok {B : Base} {w : World} {l : List HProp} {hf : Hp} (a6419 : Int) (a6420 : Int) (a6421 : Int) (a6422 : Int) (r : Int) (h : isochronref04vBelow.f a6419 a6420 a6421 a6422 = some r) (hS : St B w (l) hf) :
    Calls Tryd.prog 42 #[.int .u64 a6419, .int .i64 a6420, .int .i64 a6421, .int .i64 a6422] w (Ret fun v w => v = .int .i64 r ∧ St B w (l) hf) := by
  have h := Holds.of h
  refine enter (args := [.int .u64 a6419, .int .i64 a6420, .int .i64 a6421, .int .i64 a6422]) Tryd.func42 rfl Tryd.ntmps42 (Nat.le_of_ble_eq_true rfl) ?_
  refine RC.seq ?_
  refine RC.region ?_
  refine RL.s (Vl.assign rfl) rfl ?_
  refine RL.nil ?_
  refine RQ.then_n ?_
  refine RC.seq ?_
  refine RC.seq ?_
  refine RC.region ?_
  refine RL.s (Vl.move rfl) rfl ?_
  refine RL.s (Vl.int rfl rfl rfl) rfl ?_
  refine RL.nil ?_
  refine RQ.then_n ?_
  by_cases hc6445 : a6422 < 1
  case pos =>
   have h := h.pos hc6445
   refine RC.re 10 rfl (congrArg Value.bool (decide_eq_true hc6445)) ?_
   refine RC.condT rfl ?_
   refine RC.seq ?_
   refine RC.region ?_
   refine RL.s (Vl.assign rfl) rfl ?_
   refine RL.nil ?_
   refine RQ.then_n ?_
   refine RC.ret ?_
   refine RQ.ret ?_
   have e := h.some
   subst e
   refine RQ.ret0 (vs := [.int .i64 0]) Tryd.results42 ⟨rfl, trivial⟩ ?_
   exact ⟨rfl, hS⟩
  case neg =>
   have h := h.neg hc6445
   refine RC.re 10 rfl (congrArg Value.bool (decide_eq_false hc6445)) ?_
   refine RC.condF rfl ?_
   refine RC.skip ?_
   refine RQ.then_n ?_
   refine RC.seq ?_
   refine RC.region ?_
   refine RL.s (Vl.move rfl) rfl ?_
   refine RL.s (Vl.move rfl) rfl ?_
   refine RL.s (Vl.move rfl) rfl ?_
   obtain ⟨t6446, hg6447, h⟩ := h.bind
   refine RL.e (OW.callF (ls := [.tmp 11, .tmp 12, .tmp 13]) rfl Tryd.call69 (isochronref04vAt.ok a6419 a6420 a6421 _ hg6447 hS)) rfl rfl ?_
   rintro _ w ⟨rfl, hS⟩
   have hS : St B w (l) hf := hS
   refine RL.s (Vl.move rfl) rfl ?_
   refine RL.s (Vl.conv Tryd.underlying2 Tryd.underlying24 rfl) rfl ?_
   obtain ⟨hq6448, h⟩ := h.req
   refine RL.s (Vl.rem rfl rfl hq6448) rfl ?_
   refine RL.s (Vl.conv Tryd.underlying24 Tryd.underlying2 rfl) rfl ?_
   refine RL.s (Vl.assign rfl) rfl ?_
   refine RL.nil ?_
   refine RQ.then_n ?_
   refine RC.ret ?_
   have e := h.some
   subst e
   refine RQ.ret0 (vs := [.int .i64 (IntKind.i64.wrap (Int.tmod t6446 (IntKind.u64.wrap a6422)))]) Tryd.results42 ⟨rfl, trivial⟩ ?_
   exact ⟨rfl, hS⟩

/-! ### isochron/isochronref05.least: function 70 -/
noncomputable def isochronref05vleast.f (a6485 : Int) : Option (Bool) := some (decide (a6485 = (-9223372036854775808)))
set_option maxRecDepth 100000 in
set_option maxHeartbeats 4000000 in
theorem isochronref05vleast.ok {B : Base} {w : World} {l : List HProp} {hf : Hp} (a6485 : Int) (r : Bool) (h : isochronref05vleast.f a6485 = some r) (hS : St B w (l) hf) :
    Calls Tryd.prog 70 #[.int .i64 a6485] w (Ret fun v w => v = .bool r ∧ St B w (l) hf) := by
  have h := Holds.of h
  refine enter (args := [.int .i64 a6485]) Tryd.func70 rfl Tryd.ntmps70 (Nat.le_of_ble_eq_true rfl) ?_
  refine RC.seq ?_
  refine RC.region ?_
  refine RL.s (Vl.assign rfl) rfl ?_
  refine RL.nil ?_
  refine RQ.then_n ?_
  refine RC.seq ?_
  refine RC.region ?_
  refine RL.s (Vl.move rfl) rfl ?_
  refine RL.s (Vl.int rfl rfl rfl) rfl ?_
  refine RL.s (Vl.assign rfl) rfl ?_
  refine RL.nil ?_
  refine RQ.then_n ?_
  refine RC.ret ?_
  have e := h.some
  subst e
  refine RQ.ret0 (vs := [.bool (decide (a6485 = (-9223372036854775808)))]) Tryd.results70 ⟨rfl, trivial⟩ ?_
  exact ⟨rfl, hS⟩

/-! ### isochron/isochronref05.math: function 43 -/
noncomputable def isochronref05vmath.j2 (a6466 : Int) (a6467 : Int) (a6468 : Int) : Option (Int) := (if a6466 = 6 then (if ¬ a6468 = 0 then some (IntKind.i64.wrap (Int.tdiv a6467 a6468)) else none) else (if ¬ a6468 = 0 then some (Int.tmod a6467 a6468) else none))
noncomputable def isochronref05vmath.f (a6466 : Int) (a6467 : Int) (a6468 : Int) : Option (Int) := (if a6466 = 3 then some (IntKind.i64.wrap (a6467 + a6468)) else (if a6466 = 4 then some (IntKind.i64.wrap (a6467 - a6468)) else (if a6466 = 5 then some (IntKind.i64.wrap (a6467 * a6468)) else (if a6466 = 8 then (if a6467 < a6468 then some 1 else some 0) else (if a6466 = 9 then (if a6467 = a6468 then some 1 else some 0) else (if a6468 = 0 then some 0 else ((isochronref05vleast.f a6467).bind fun t6527 => (if t6527 = true then (if a6468 = (-1) then (if a6466 = 6 then some a6467 else some 0) else isochronref05vmath.j2 a6466 a6467 a6468) else isochronref05vmath.j2 a6466 a6467 a6468))))))))
set_option maxRecDepth 100000 in
set_option maxHeartbeats 4000000 in
theorem isochronref05vmath.ok {B : Base} {w : World} {l : List HProp} {hf : Hp} (a6466 : Int) (a6467 : Int) (a6468 : Int) (r : Int) (h : isochronref05vmath.f a6466 a6467 a6468 = some r) (hS : St B w (l) hf) :
    Calls Tryd.prog 43 #[.int .i64 a6466, .int .i64 a6467, .int .i64 a6468] w (Ret fun v w => v = .int .i64 r ∧ St B w (l) hf) := by
  have h := Holds.of h
  refine enter (args := [.int .i64 a6466, .int .i64 a6467, .int .i64 a6468]) Tryd.func43 rfl Tryd.ntmps43 (Nat.le_of_ble_eq_true rfl) ?_
  refine RC.seq ?_
  refine RC.region ?_
  refine RL.s (Vl.assign rfl) rfl ?_
  refine RL.nil ?_
  refine RQ.then_n ?_
  refine RC.seq ?_
  refine RC.seq ?_
  refine RC.region ?_
  refine RL.s (Vl.move rfl) rfl ?_
  refine RL.nil ?_
  refine RQ.then_n ?_
  refine RC.block ?_
  refine RC.seq ?_
  refine RC.region ?_
  refine RL.s (Vl.int rfl rfl rfl) rfl ?_
  refine RL.s (Vl.assign rfl) rfl ?_
  refine RL.nil ?_
  refine RQ.then_n ?_
  by_cases hc6508 : a6466 = 3
  case pos =>
   have h := h.pos hc6508
   refine RC.re 8 rfl (congrArg Value.bool (decide_eq_true hc6508)) ?_
   refine RC.condT rfl ?_
   refine RC.seq ?_
   refine RC.region ?_
   refine RL.s (Vl.move rfl) rfl ?_
   refine RL.s (Vl.move rfl) rfl ?_
   refine RL.s (Vl.int rfl rfl rfl) rfl ?_
   refine RL.s (Vl.assign rfl) rfl ?_
   refine RL.nil ?_
   refine RQ.then_n ?_
   refine RC.ret ?_
   refine RQ.inB_ret ?_
   refine RQ.ret ?_
   have e := h.some
   subst e
   refine RQ.ret0 (vs := [.int .i64 (IntKind.i64.wrap (a6467 + a6468))]) Tryd.results43 ⟨rfl, trivial⟩ ?_
   exact ⟨rfl, hS⟩
  case neg =>
   have h := h.neg hc6508
   refine RC.re 8 rfl (congrArg Value.bool (decide_eq_false hc6508)) ?_
   refine RC.condF rfl ?_
   refine RC.seq ?_
   refine RC.region ?_
   refine RL.s (Vl.int rfl rfl rfl) rfl ?_
   refine RL.s (Vl.assign rfl) rfl ?_
   refine RL.nil ?_
   refine RQ.then_n ?_
   by_cases hc6509 : a6466 = 4
   case pos =>
    have h := h.pos hc6509
    refine RC.re 13 rfl (congrArg Value.bool (decide_eq_true hc6509)) ?_
    refine RC.condT rfl ?_
    refine RC.seq ?_
    refine RC.region ?_
    refine RL.s (Vl.move rfl) rfl ?_
    refine RL.s (Vl.move rfl) rfl ?_
    refine RL.s (Vl.int rfl rfl rfl) rfl ?_
    refine RL.s (Vl.assign rfl) rfl ?_
    refine RL.nil ?_
    refine RQ.then_n ?_
    refine RC.ret ?_
    refine RQ.inB_ret ?_
    refine RQ.ret ?_
    have e := h.some
    subst e
    refine RQ.ret0 (vs := [.int .i64 (IntKind.i64.wrap (a6467 - a6468))]) Tryd.results43 ⟨rfl, trivial⟩ ?_
    exact ⟨rfl, hS⟩
   case neg =>
    have h := h.neg hc6509
    refine RC.re 13 rfl (congrArg Value.bool (decide_eq_false hc6509)) ?_
    refine RC.condF rfl ?_
    refine RC.seq ?_
    refine RC.region ?_
    refine RL.s (Vl.int rfl rfl rfl) rfl ?_
    refine RL.s (Vl.assign rfl) rfl ?_
    refine RL.nil ?_
    refine RQ.then_n ?_
    by_cases hc6510 : a6466 = 5
    case pos =>
     have h := h.pos hc6510
     refine RC.re 18 rfl (congrArg Value.bool (decide_eq_true hc6510)) ?_
     refine RC.condT rfl ?_
     refine RC.seq ?_
     refine RC.region ?_
     refine RL.s (Vl.move rfl) rfl ?_
     refine RL.s (Vl.move rfl) rfl ?_
     refine RL.s (Vl.int rfl rfl rfl) rfl ?_
     refine RL.s (Vl.assign rfl) rfl ?_
     refine RL.nil ?_
     refine RQ.then_n ?_
     refine RC.ret ?_
     refine RQ.inB_ret ?_
     refine RQ.ret ?_
     have e := h.some
     subst e
     refine RQ.ret0 (vs := [.int .i64 (IntKind.i64.wrap (a6467 * a6468))]) Tryd.results43 ⟨rfl, trivial⟩ ?_
     exact ⟨rfl, hS⟩
    case neg =>
     have h := h.neg hc6510
     refine RC.re 18 rfl (congrArg Value.bool (decide_eq_false hc6510)) ?_
     refine RC.condF rfl ?_
     refine RC.seq ?_
     refine RC.region ?_
     refine RL.s (Vl.int rfl rfl rfl) rfl ?_
     refine RL.s (Vl.assign rfl) rfl ?_
     refine RL.nil ?_
     refine RQ.then_n ?_
     by_cases hc6511 : a6466 = 8
     case pos =>
      have h := h.pos hc6511
      refine RC.re 23 rfl (congrArg Value.bool (decide_eq_true hc6511)) ?_
      refine RC.condT rfl ?_
      refine RC.seq ?_
      refine RC.seq ?_
      refine RC.region ?_
      refine RL.s (Vl.move rfl) rfl ?_
      refine RL.s (Vl.move rfl) rfl ?_
      refine RL.s (Vl.int rfl rfl rfl) rfl ?_
      refine RL.nil ?_
      refine RQ.then_n ?_
      by_cases hc6512 : a6467 < a6468
      case pos =>
       have h := h.pos hc6512
       refine RC.re 27 rfl (congrArg Value.bool (decide_eq_true hc6512)) ?_
       refine RC.condT rfl ?_
       refine RC.seq ?_
       refine RC.region ?_
       refine RL.s (Vl.assign rfl) rfl ?_
       refine RL.nil ?_
       refine RQ.then_n ?_
       refine RC.ret ?_
       refine RQ.ret ?_
       refine RQ.inB_ret ?_
       refine RQ.ret ?_
       have e := h.some
       subst e
       refine RQ.ret0 (vs := [.int .i64 1]) Tryd.results43 ⟨rfl, trivial⟩ ?_
       exact ⟨rfl, hS⟩
      case neg =>
       have h := h.neg hc6512
       refine RC.re 27 rfl (congrArg Value.bool (decide_eq_false hc6512)) ?_
       refine RC.condF rfl ?_
       refine RC.skip ?_
       refine RQ.then_n ?_
       refine RC.seq ?_
       refine RC.region ?_
       refine RL.s (Vl.assign rfl) rfl ?_
       refine RL.nil ?_
       refine RQ.then_n ?_
       refine RC.ret ?_
       refine RQ.inB_ret ?_
       refine RQ.ret ?_
       have e := h.some
       subst e
       refine RQ.ret0 (vs := [.int .i64 0]) Tryd.results43 ⟨rfl, trivial⟩ ?_
       exact ⟨rfl, hS⟩
     case neg =>
      have h := h.neg hc6511
      refine RC.re 23 rfl (congrArg Value.bool (decide_eq_false hc6511)) ?_
      refine RC.condF rfl ?_
      refine RC.seq ?_
      refine RC.region ?_
      refine RL.s (Vl.int rfl rfl rfl) rfl ?_
      refine RL.s (Vl.assign rfl) rfl ?_
      refine RL.nil ?_
      refine RQ.then_n ?_
      by_cases hc6513 : a6466 = 9
      case pos =>
       have h := h.pos hc6513
       refine RC.re 28 rfl (congrArg Value.bool (decide_eq_true hc6513)) ?_
       refine RC.condT rfl ?_
       refine RC.seq ?_
       refine RC.seq ?_
       refine RC.region ?_
       refine RL.s (Vl.move rfl) rfl ?_
       refine RL.s (Vl.move rfl) rfl ?_
       refine RL.s (Vl.int rfl rfl rfl) rfl ?_
       refine RL.nil ?_
       refine RQ.then_n ?_
       by_cases hc6514 : a6467 = a6468
       case pos =>
        have h := h.pos hc6514
        refine RC.re 32 rfl (congrArg Value.bool (decide_eq_true hc6514)) ?_
        refine RC.condT rfl ?_
        refine RC.seq ?_
        refine RC.region ?_
        refine RL.s (Vl.assign rfl) rfl ?_
        refine RL.nil ?_
        refine RQ.then_n ?_
        refine RC.ret ?_
        refine RQ.ret ?_
        refine RQ.inB_ret ?_
        refine RQ.ret ?_
        have e := h.some
        subst e
        refine RQ.ret0 (vs := [.int .i64 1]) Tryd.results43 ⟨rfl, trivial⟩ ?_
        exact ⟨rfl, hS⟩
       case neg =>
        have h := h.neg hc6514
        refine RC.re 32 rfl (congrArg Value.bool (decide_eq_false hc6514)) ?_
        refine RC.condF rfl ?_
        refine RC.skip ?_
        refine RQ.then_n ?_
        refine RC.seq ?_
        refine RC.region ?_
        refine RL.s (Vl.assign rfl) rfl ?_
        refine RL.nil ?_
        refine RQ.then_n ?_
        refine RC.ret ?_
        refine RQ.inB_ret ?_
        refine RQ.ret ?_
        have e := h.some
        subst e
        refine RQ.ret0 (vs := [.int .i64 0]) Tryd.results43 ⟨rfl, trivial⟩ ?_
        exact ⟨rfl, hS⟩
      case neg =>
       have h := h.neg hc6513
       refine RC.re 28 rfl (congrArg Value.bool (decide_eq_false hc6513)) ?_
       refine RC.condF rfl ?_
       refine RC.skip ?_
       refine RQ.inB_n ?_
       refine RQ.then_n ?_
       refine RC.seq ?_
       refine RC.seq ?_
       refine RC.region ?_
       refine RL.s (Vl.move rfl) rfl ?_
       refine RL.s (Vl.int rfl rfl rfl) rfl ?_
       refine RL.nil ?_
       refine RQ.then_n ?_
       by_cases hc6516 : a6468 = 0
       case pos =>
        have h := h.pos hc6516
        refine RC.re 34 rfl (congrArg Value.bool (decide_eq_true hc6516)) ?_
        refine RC.condT rfl ?_
        refine RC.seq ?_
        refine RC.region ?_
        refine RL.s (Vl.assign rfl) rfl ?_
        refine RL.nil ?_
        refine RQ.then_n ?_
        refine RC.ret ?_
        refine RQ.ret ?_
        have e := h.some
        subst e
        refine RQ.ret0 (vs := [.int .i64 0]) Tryd.results43 ⟨rfl, trivial⟩ ?_
        exact ⟨rfl, hS⟩
       case neg =>
        have h := h.neg hc6516
        refine RC.re 34 rfl (congrArg Value.bool (decide_eq_false hc6516)) ?_
        refine RC.condF rfl ?_
        refine RC.skip ?_
        refine RQ.then_n ?_
        refine RC.join (fun (s : Unit) a w => s = () ∧ Has 52 [(0, .int .i64 a6466), (1, .int .i64 a6467), (2, .int .i64 a6468)] a ∧ St B w (l) hf ∧ Holds (· = r) (isochronref05vmath.j2 a6466 a6467 a6468)) ?_ ?_
        · rintro _ a w ⟨rfl, ha, hS, h⟩
          revert a
          show RC _ _ _ _ _ _
          refine RC.seq ?_
          refine RC.seq ?_
          refine RC.region ?_
          refine RL.s (Vl.move rfl) rfl ?_
          refine RL.s (Vl.int rfl rfl rfl) rfl ?_
          refine RL.nil ?_
          refine RQ.then_n ?_
          by_cases hc6524 : a6466 = 6
          case pos =>
           have h := h.pos hc6524
           refine RC.re 45 rfl (congrArg Value.bool (decide_eq_true hc6524)) ?_
           refine RC.condT rfl ?_
           refine RC.seq ?_
           refine RC.region ?_
           refine RL.s (Vl.move rfl) rfl ?_
           refine RL.s (Vl.move rfl) rfl ?_
           obtain ⟨hq6525, h⟩ := h.req
           refine RL.s (Vl.quo rfl rfl hq6525) rfl ?_
           refine RL.s (Vl.assign rfl) rfl ?_
           refine RL.nil ?_
           refine RQ.then_n ?_
           refine RC.ret ?_
           refine RQ.ret ?_
           have e := h.some
           subst e
           refine RQ.ret0 (vs := [.int .i64 (IntKind.i64.wrap (Int.tdiv a6467 a6468))]) Tryd.results43 ⟨rfl, trivial⟩ ?_
           exact ⟨rfl, hS⟩
          case neg =>
           have h := h.neg hc6524
           refine RC.re 45 rfl (congrArg Value.bool (decide_eq_false hc6524)) ?_
           refine RC.condF rfl ?_
           refine RC.skip ?_
           refine RQ.then_n ?_
           refine RC.seq ?_
           refine RC.region ?_
           refine RL.s (Vl.move rfl) rfl ?_
           refine RL.s (Vl.move rfl) rfl ?_
           obtain ⟨hq6526, h⟩ := h.req
           refine RL.s (Vl.rem rfl rfl hq6526) rfl ?_
           refine RL.s (Vl.assign rfl) rfl ?_
           refine RL.nil ?_
           refine RQ.then_n ?_
           refine RC.ret ?_
           have e := h.some
           subst e
           refine RQ.ret0 (vs := [.int .i64 (Int.tmod a6467 a6468)]) Tryd.results43 ⟨rfl, trivial⟩ ?_
           exact ⟨rfl, hS⟩
        · refine RC.seq ?_
          refine RC.region ?_
          refine RL.s (Vl.move rfl) rfl ?_
          obtain ⟨t6527, hg6528, h⟩ := h.bind
          refine RL.e (OW.callF (ls := [.tmp 35]) rfl Tryd.call70 (isochronref05vleast.ok a6467 _ hg6528 hS)) rfl rfl ?_
          rintro _ w ⟨rfl, hS⟩
          have hS : St B w (l) hf := hS
          refine RL.s (Vl.move rfl) rfl ?_
          by_cases hc6529 : t6527 = true
          case pos =>
           have h := h.pos hc6529
           refine RL.re 37 rfl (congrArg Value.bool (id hc6529)) ?_
           refine RL.sg (Vl.move rfl) rfl rfl ?_
           refine RL.sg (Vl.int rfl rfl rfl) rfl rfl ?_
           refine RL.s (Vl.pickT rfl rfl) rfl ?_
           refine RL.nil ?_
           refine RQ.then_n ?_
           by_cases hc6530 : a6468 = (-1)
           case pos =>
            have h := h.pos hc6530
            refine RC.re 40 rfl (congrArg Value.bool (decide_eq_true hc6530)) ?_
            refine RC.condT rfl ?_
            refine RC.seq ?_
            refine RC.seq ?_
            refine RC.region ?_
            refine RL.s (Vl.move rfl) rfl ?_
            refine RL.s (Vl.int rfl rfl rfl) rfl ?_
            refine RL.nil ?_
            refine RQ.then_n ?_
            by_cases hc6531 : a6466 = 6
            case pos =>
             have h := h.pos hc6531
             refine RC.re 42 rfl (congrArg Value.bool (decide_eq_true hc6531)) ?_
             refine RC.condT rfl ?_
             refine RC.seq ?_
             refine RC.region ?_
             refine RL.s (Vl.move rfl) rfl ?_
             refine RL.s (Vl.assign rfl) rfl ?_
             refine RL.nil ?_
             refine RQ.then_n ?_
             refine RC.ret ?_
             refine RQ.ret ?_
             refine RQ.ret ?_
             have e := h.some
             subst e
             refine RQ.ret0 (vs := [.int .i64 a6467]) Tryd.results43 ⟨rfl, trivial⟩ ?_
             exact ⟨rfl, hS⟩
            case neg =>
             have h := h.neg hc6531
             refine RC.re 42 rfl (congrArg Value.bool (decide_eq_false hc6531)) ?_
             refine RC.condF rfl ?_
             refine RC.skip ?_
             refine RQ.then_n ?_
             refine RC.seq ?_
             refine RC.region ?_
             refine RL.s (Vl.assign rfl) rfl ?_
             refine RL.nil ?_
             refine RQ.then_n ?_
             refine RC.ret ?_
             refine RQ.ret ?_
             have e := h.some
             subst e
             refine RQ.ret0 (vs := [.int .i64 0]) Tryd.results43 ⟨rfl, trivial⟩ ?_
             exact ⟨rfl, hS⟩
           case neg =>
            have h := h.neg hc6530
            refine RC.re 40 rfl (congrArg Value.bool (decide_eq_false hc6530)) ?_
            refine RC.condF rfl ?_
            refine RC.skip ?_
            exact fun a ha => ⟨(), rfl, ha.to ⟨rfl, rfl, rfl, trivial⟩, hS, h⟩
          case neg =>
           have h := h.neg hc6529
           refine RL.re 37 rfl (congrArg Value.bool (eq_false_of hc6529)) ?_
           refine RL.nn rfl rfl ?_
           refine RL.nn rfl rfl ?_
           refine RL.s (Vl.pickF rfl rfl) rfl ?_
           refine RL.nil ?_
           refine RQ.then_n ?_
           refine RC.condF rfl ?_
           refine RC.skip ?_
           exact fun a ha => ⟨(), rfl, ha.to ⟨rfl, rfl, rfl, trivial⟩, hS, h⟩

/-! ### (*isochron/isochronref05.run).step: function 24 -/
noncomputable def isochronref05vrun_step.f (a6252 : List api_Instr) (a6256 : Int) (a6257 : List api_Link) (a6261 : Int) (a6262 : Int) (a6263 : Int) (a6264 : Int) (a6265 : Int) (a6266 : Int) (a6267 : Int) (a6268 : Bool) (fn6272 : (Nat → Int)) (a6273 : Int) (a6277 : List api_Out) (a6278 : Int) : Option (Int × Bool × (Nat → Int) × Int × List api_Out × Int) := (if 0 ≤ a6278 ∧ a6278 < (a6252.length : Int) then (if (nth a6252 a6278).Op = 0 then some (0, false, fn6272, a6273, a6277, IntKind.i64.wrap (a6278 + 1)) else (if (nth a6252 a6278).Op = 1 then (if 0 ≤ (nth a6252 a6278).A ∧ (nth a6252 a6278).A < 16 then some (0, true, upd fn6272 (((nth a6252 a6278).A).toNat * 1) ((nth a6252 a6278).B), a6273, a6277, IntKind.i64.wrap (a6278 + 1)) else none) else (if (nth a6252 a6278).Op = 2 then (if 0 ≤ (nth a6252 a6278).B ∧ (nth a6252 a6278).B < 16 then (if 0 ≤ (nth a6252 a6278).A ∧ (nth a6252 a6278).A < 16 then some (0, true, upd fn6272 (((nth a6252 a6278).A).toNat * 1) (fn6272 (((nth a6252 a6278).B).toNat * 1)), a6273, a6277, IntKind.i64.wrap (a6278 + 1)) else none) else none) else (if (nth a6252 a6278).Op = 10 then some (0, true, fn6272, a6273, a6277, (nth a6252 a6278).A) else (if (nth a6252 a6278).Op = 11 then (if 0 ≤ (nth a6252 a6278).A ∧ (nth a6252 a6278).A < 16 then (if fn6272 (((nth a6252 a6278).A).toNat * 1) = 0 then some (0, true, fn6272, a6273, a6277, (nth a6252 a6278).B) else some (0, true, fn6272, a6273, a6277, IntKind.i64.wrap (a6278 + 1))) else none) else (if (nth a6252 a6278).Op = 12 then ((isochronref05vrun_send.f a6252 a6256 a6257 a6261 a6262 a6263 a6264 a6265 a6266 a6267 a6268 fn6272 a6273 a6277 (IntKind.i64.wrap (a6278 + 1)) (nth a6252 a6278)).bind fun (y6557, y6558) => some (y6557, (decide (y6557 = 0)), fn6272, a6273, y6558, IntKind.i64.wrap (a6278 + 1))) else (if (nth a6252 a6278).Op = 13 then (if 0 ≤ (nth a6252 a6278).B ∧ (nth a6252 a6278).B < 16 then ((isochronref04vBelow.f a6261 a6256 a6273 (fn6272 (((nth a6252 a6278).B).toNat * 1))).bind fun t6565 => (if 0 ≤ (nth a6252 a6278).A ∧ (nth a6252 a6278).A < 16 then some (0, true, upd fn6272 (((nth a6252 a6278).A).toNat * 1) t6565, IntKind.i64.wrap (a6273 + 1), a6277, IntKind.i64.wrap (a6278 + 1)) else none)) else none) else (if (nth a6252 a6278).Op = 14 then (if 0 ≤ (nth a6252 a6278).A ∧ (nth a6252 a6278).A < 16 then some (0, true, upd fn6272 (((nth a6252 a6278).A).toNat * 1) a6266, a6273, a6277, IntKind.i64.wrap (a6278 + 1)) else none) else (if (nth a6252 a6278).Op = 15 then (if 0 ≤ (nth a6252 a6278).A ∧ (nth a6252 a6278).A < 16 then some (0, true, upd fn6272 (((nth a6252 a6278).A).toNat * 1) a6262, a6273, a6277, IntKind.i64.wrap (a6278 + 1)) else none) else (if (nth a6252 a6278).Op = 16 then (if 0 ≤ (nth a6252 a6278).A ∧ (nth a6252 a6278).A < 16 then some (0, true, upd fn6272 (((nth a6252 a6278).A).toNat * 1) a6256, a6273, a6277, IntKind.i64.wrap (a6278 + 1)) else none) else (if 0 ≤ (nth a6252 a6278).B ∧ (nth a6252 a6278).B < 16 then (if 0 ≤ (nth a6252 a6278).C ∧ (nth a6252 a6278).C < 16 then ((isochronref05vmath.f ((nth a6252 a6278).Op) (fn6272 (((nth a6252 a6278).B).toNat * 1)) (fn6272 (((nth a6252 a6278).C).toNat * 1))).bind fun t6582 => (if 0 ≤ (nth a6252 a6278).A ∧ (nth a6252 a6278).A < 16 then some (0, true, upd fn6272 (((nth a6252 a6278).A).toNat * 1) t6582, a6273, a6277, IntKind.i64.wrap (a6278 + 1)) else none)) else none) else none))))))))))) else none)
set_option maxRecDepth 100000 in
set_option maxHeartbeats 4000000 in
theorem isochronref05vrun_step.ok {B : Base} {w : World} {l : List HProp} {hf : Hp} (a6252 : List api_Instr) (a6256 : Int) (a6257 : List api_Link) (a6261 : Int) (a6262 : Int) (a6263 : Int) (a6264 : Int) (a6265 : Int) (a6266 : Int) (a6267 : Int) (a6268 : Bool) (fn6272 : (Nat → Int)) (a6273 : Int) (a6277 : List api_Out) (a6278 : Int) (b6251 : Nat) (A6253 : Option Addr) (c6254 : Nat) (A6258 : Option Addr) (c6259 : Nat) (A6270 : Option Addr) (c6271 : Nat) (A6275 : Option Addr) (c6276 : Nat) (hr6255 : SlR E_api_Instr.rep hf A6253 c6254 a6252) (hr6260 : SlR E_api_Link.rep hf A6258 c6259 a6257) (r : Int × Bool × (Nat → Int) × Int × List api_Out × Int) (h : isochronref05vrun_step.f a6252 a6256 a6257 a6261 a6262 a6263 a6264 a6265 a6266 a6267 a6268 fn6272 a6273 a6277 a6278 = some r) (hS : St B w (OSl 2 1 (.slice A6270 16 c6271) 16 [.int .i64 (fn6272 0), .int .i64 (fn6272 1), .int .i64 (fn6272 2), .int .i64 (fn6272 3), .int .i64 (fn6272 4), .int .i64 (fn6272 5), .int .i64 (fn6272 6), .int .i64 (fn6272 7), .int .i64 (fn6272 8), .int .i64 (fn6272 9), .int .i64 (fn6272 10), .int .i64 (fn6272 11), .int .i64 (fn6272 12), .int .i64 (fn6272 13), .int .i64 (fn6272 14), .int .i64 (fn6272 15)] :: Cl b6251 [.slice A6253 a6252.length c6254, .int .i64 a6256, .slice A6258 a6257.length c6259, .int .u64 a6261, .int .i64 a6262, .int .i64 a6263, .int .i64 a6264, .int .i64 a6265, .int .i64 a6266, .int .i64 a6267, .bool a6268, .slice A6270 16 c6271, .int .i64 a6273, .slice A6275 a6277.length c6276, .int .i64 a6278] 79 :: OSf E_api_Out 58 (.slice A6275 a6277.length c6276) a6277 :: l) hf) :
    Calls Tryd.prog 24 #[.pointer (some ⟨b6251, 0, none⟩)] w (Ret fun v w => ∃ (A_1 : Option Addr) (c_2 : Nat), v = .tuple #[.int .i64 r.1, .bool r.2.1] ∧ St B w (OSf E_api_Out 58 (.slice A_1 r.2.2.2.2.1.length c_2) r.2.2.2.2.1 :: OSl 2 1 (.slice A6270 16 c6271) 16 [.int .i64 (r.2.2.1 0), .int .i64 (r.2.2.1 1), .int .i64 (r.2.2.1 2), .int .i64 (r.2.2.1 3), .int .i64 (r.2.2.1 4), .int .i64 (r.2.2.1 5), .int .i64 (r.2.2.1 6), .int .i64 (r.2.2.1 7), .int .i64 (r.2.2.1 8), .int .i64 (r.2.2.1 9), .int .i64 (r.2.2.1 10), .int .i64 (r.2.2.1 11), .int .i64 (r.2.2.1 12), .int .i64 (r.2.2.1 13), .int .i64 (r.2.2.1 14), .int .i64 (r.2.2.1 15)] :: Cl b6251 [.slice A6253 a6252.length c6254, .int .i64 a6256, .slice A6258 a6257.length c6259, .int .u64 a6261, .int .i64 a6262, .int .i64 a6263, .int .i64 a6264, .int .i64 a6265, .int .i64 a6266, .int .i64 a6267, .bool a6268, .slice A6270 16 c6271, .int .i64 r.2.2.2.1, .slice A_1 r.2.2.2.2.1.length c_2, .int .i64 r.2.2.2.2.2] 79 :: l) hf) := by
  have h := Holds.of h
  refine enter (args := [.pointer (some ⟨b6251, 0, none⟩)]) Tryd.func24 rfl Tryd.ntmps24 (Nat.le_of_ble_eq_true rfl) ?_
  refine RC.seq ?_
  refine RC.region ?_
  refine RL.s (Vl.assign rfl) rfl ?_
  refine RL.s (Vl.assign rfl) rfl ?_
  refine RL.nil ?_
  refine RQ.then_n ?_
  refine RC.seq ?_
  refine RC.plan (.pure 0 (.pure 1 (.pure 2 (.pure 3 (.cons 4 true (.pure 5 (.pure 6 (.pure 7 (.cons 8 true (.cons 9 true (.cons 10 true (.cons 11 false (.cons 12 false .nil))))))))))))) [12] (fun w => St B w (OSl 2 1 (.slice A6270 16 c6271) 16 [.int .i64 (fn6272 0), .int .i64 (fn6272 1), .int .i64 (fn6272 2), .int .i64 (fn6272 3), .int .i64 (fn6272 4), .int .i64 (fn6272 5), .int .i64 (fn6272 6), .int .i64 (fn6272 7), .int .i64 (fn6272 8), .int .i64 (fn6272 9), .int .i64 (fn6272 10), .int .i64 (fn6272 11), .int .i64 (fn6272 12), .int .i64 (fn6272 13), .int .i64 (fn6272 14), .int .i64 (fn6272 15)] :: Cl b6251 [.slice A6253 a6252.length c6254, .int .i64 a6256, .slice A6258 a6257.length c6259, .int .u64 a6261, .int .i64 a6262, .int .i64 a6263, .int .i64 a6264, .int .i64 a6265, .int .i64 a6266, .int .i64 a6267, .bool a6268, .slice A6270 16 c6271, .int .i64 a6273, .slice A6275 a6277.length c6276, .int .i64 a6278] 79 :: OSf E_api_Out 58 (.slice A6275 a6277.length c6276) a6277 :: l) hf) follows rfl (by kernel_rfl) (NoTmp.then NoTmp.body) ?_
  have hS := hS.same (w' := { w with drawn := w.drawn + 1 }) rfl rfl
  revert hS
  generalize { w with drawn := w.drawn + 1 } = w
  intro hS
  refine RP.s0 0 rfl (fun w => Vl.move rfl) rfl ?_
  refine RP.s0 1 rfl (fun w => Vl.nilCheck rfl) rfl ?_
  refine RP.s0 2 rfl (fun w => Vl.fieldAddr (a'' := ⟨b6251, 0, none⟩) Tryd.underlying79 rfl Tryd.sizeOf26 rfl rfl) rfl ?_
  refine RP.s0 3 rfl (fun w => Vl.fieldAddr (a'' := ⟨b6251, 0, none⟩) Tryd.underlying26 rfl Tryd.sizeOf22 rfl rfl) rfl ?_
  refine RP.s 4 rfl rfl hS (fun w hS => Vl.load Tryd.isAgg22 rfl (hS.cell 1 rfl rfl)) rfl ?_
  refine RP.s0 5 rfl (fun w => Vl.move rfl) rfl ?_
  refine RP.s0 6 rfl (fun w => Vl.nilCheck rfl) rfl ?_
  refine RP.s0 7 rfl (fun w => Vl.fieldAddr (a'' := ⟨b6251, 14, none⟩) Tryd.underlying79 rfl Tryd.sizeOf3 rfl rfl) rfl ?_
  refine RP.s 8 rfl rfl hS (fun w hS => Vl.load Tryd.isAgg3 rfl (hS.cell 1 rfl rfl)) rfl ?_
  obtain ⟨⟨hq6536, hq6537⟩, h⟩ := h.req
  refine RP.s 9 rfl rfl hS (fun w hS => Vl.indexAddr Tryd.underlying22 Tryd.sizeOf48 rfl rfl ((hr6255.2.world hS.sub).adr hq6536 hq6537) hq6536 hq6537 rfl) rfl ?_
  refine RP.s 10 rfl rfl hS (fun w hS => Vl.loadA Tryd.isAgg48 Tryd.sizeOf48 rfl rfl ((hr6255.2.world hS.sub).cells hq6536 hq6537)) rfl ?_
  refine RP.e 11 rfl (OW.alloc (cs := [.int .i64 0, .int .i64 0, .int .i64 0, .int .i64 0]) hS Tryd.zeroValue48 rfl) rfl rfl ?_
  rintro _ w ⟨b6539, rfl, hS⟩
  have hS : St B w (Cl b6539 [.int .i64 0, .int .i64 0, .int .i64 0, .int .i64 0] 48 :: OSl 2 1 (.slice A6270 16 c6271) 16 [.int .i64 (fn6272 0), .int .i64 (fn6272 1), .int .i64 (fn6272 2), .int .i64 (fn6272 3), .int .i64 (fn6272 4), .int .i64 (fn6272 5), .int .i64 (fn6272 6), .int .i64 (fn6272 7), .int .i64 (fn6272 8), .int .i64 (fn6272 9), .int .i64 (fn6272 10), .int .i64 (fn6272 11), .int .i64 (fn6272 12), .int .i64 (fn6272 13), .int .i64 (fn6272 14), .int .i64 (fn6272 15)] :: Cl b6251 [.slice A6253 a6252.length c6254, .int .i64 a6256, .slice A6258 a6257.length c6259, .int .u64 a6261, .int .i64 a6262, .int .i64 a6263, .int .i64 a6264, .int .i64 a6265, .int .i64 a6266, .int .i64 a6267, .bool a6268, .slice A6270 16 c6271, .int .i64 a6273, .slice A6275 a6277.length c6276, .int .i64 a6278] 79 :: OSf E_api_Out 58 (.slice A6275 a6277.length c6276) a6277 :: l) hf := hS
  refine ⟨fun _ => (hS.dropAt 0 rfl), ?_⟩
  refine RP.e0 12 rfl (OW.store (cs := [.int .i64 0, .int .i64 0, .int .i64 0, .int .i64 0]) (vs := [.int .i64 ((nth a6252 a6278).Op), .int .i64 ((nth a6252 a6278).A), .int .i64 ((nth a6252 a6278).B), .int .i64 ((nth a6252 a6278).C)]) (l' := Cl b6539 [.int .i64 ((nth a6252 a6278).Op), .int .i64 ((nth a6252 a6278).A), .int .i64 ((nth a6252 a6278).B), .int .i64 ((nth a6252 a6278).C)] 48 :: OSl 2 1 (.slice A6270 16 c6271) 16 [.int .i64 (fn6272 0), .int .i64 (fn6272 1), .int .i64 (fn6272 2), .int .i64 (fn6272 3), .int .i64 (fn6272 4), .int .i64 (fn6272 5), .int .i64 (fn6272 6), .int .i64 (fn6272 7), .int .i64 (fn6272 8), .int .i64 (fn6272 9), .int .i64 (fn6272 10), .int .i64 (fn6272 11), .int .i64 (fn6272 12), .int .i64 (fn6272 13), .int .i64 (fn6272 14), .int .i64 (fn6272 15)] :: Cl b6251 [.slice A6253 a6252.length c6254, .int .i64 a6256, .slice A6258 a6257.length c6259, .int .u64 a6261, .int .i64 a6262, .int .i64 a6263, .int .i64 a6264, .int .i64 a6265, .int .i64 a6266, .int .i64 a6267, .bool a6268, .slice A6270 16 c6271, .int .i64 a6273, .slice A6275 a6277.length c6276, .int .i64 a6278] 79 :: OSf E_api_Out 58 (.slice A6275 a6277.length c6276) a6277 :: l) 0 hS rfl rfl rfl rfl Tryd.sizeOf48 rfl rfl rfl rfl) rfl ?_
  rintro _ w ⟨rfl, hS⟩
  have hS : St B w (Cl b6539 [.int .i64 ((nth a6252 a6278).Op), .int .i64 ((nth a6252 a6278).A), .int .i64 ((nth a6252 a6278).B), .int .i64 ((nth a6252 a6278).C)] 48 :: OSl 2 1 (.slice A6270 16 c6271) 16 [.int .i64 (fn6272 0), .int .i64 (fn6272 1), .int .i64 (fn6272 2), .int .i64 (fn6272 3), .int .i64 (fn6272 4), .int .i64 (fn6272 5), .int .i64 (fn6272 6), .int .i64 (fn6272 7), .int .i64 (fn6272 8), .int .i64 (fn6272 9), .int .i64 (fn6272 10), .int .i64 (fn6272 11), .int .i64 (fn6272 12), .int .i64 (fn6272 13), .int .i64 (fn6272 14), .int .i64 (fn6272 15)] :: Cl b6251 [.slice A6253 a6252.length c6254, .int .i64 a6256, .slice A6258 a6257.length c6259, .int .u64 a6261, .int .i64 a6262, .int .i64 a6263, .int .i64 a6264, .int .i64 a6265, .int .i64 a6266, .int .i64 a6267, .bool a6268, .slice A6270 16 c6271, .int .i64 a6273, .slice A6275 a6277.length c6276, .int .i64 a6278] 79 :: OSf E_api_Out 58 (.slice A6275 a6277.length c6276) a6277 :: l) hf := hS
  refine ⟨(by intro hx; cases hx), ?_⟩
  refine RP.nil ?_
  refine RQ.then_n ?_
  refine RC.seq ?_
  refine RC.region ?_
  refine RL.s (Vl.move rfl) rfl ?_
  refine RL.s (Vl.nilCheck rfl) rfl ?_
  refine RL.s (Vl.fieldAddr (a'' := ⟨b6251, 14, none⟩) Tryd.underlying79 rfl Tryd.sizeOf3 rfl rfl) rfl ?_
  refine RL.s (Vl.load Tryd.isAgg3 rfl (hS.cell 2 rfl rfl)) rfl ?_
  refine RL.s (Vl.int rfl rfl rfl) rfl ?_
  refine RL.s (Vl.nilCheck rfl) rfl ?_
  refine RL.s (Vl.fieldAddr (a'' := ⟨b6251, 14, none⟩) Tryd.underlying79 rfl Tryd.sizeOf3 rfl rfl) rfl ?_
  refine RL.e0 (OW.store (cs := [.slice A6253 a6252.length c6254, .int .i64 a6256, .slice A6258 a6257.length c6259, .int .u64 a6261, .int .i64 a6262, .int .i64 a6263, .int .i64 a6264, .int .i64 a6265, .int .i64 a6266, .int .i64 a6267, .bool a6268, .slice A6270 16 c6271, .int .i64 a6273, .slice A6275 a6277.length c6276, .int .i64 a6278]) (vs := [.int .i64 (IntKind.i64.wrap (a6278 + 1))]) (l' := Cl b6539 [.int .i64 ((nth a6252 a6278).Op), .int .i64 ((nth a6252 a6278).A), .int .i64 ((nth a6252 a6278).B), .int .i64 ((nth a6252 a6278).C)] 48 :: OSl 2 1 (.slice A6270 16 c6271) 16 [.int .i64 (fn6272 0), .int .i64 (fn6272 1), .int .i64 (fn6272 2), .int .i64 (fn6272 3), .int .i64 (fn6272 4), .int .i64 (fn6272 5), .int .i64 (fn6272 6), .int .i64 (fn6272 7), .int .i64 (fn6272 8), .int .i64 (fn6272 9), .int .i64 (fn6272 10), .int .i64 (fn6272 11), .int .i64 (fn6272 12), .int .i64 (fn6272 13), .int .i64 (fn6272 14), .int .i64 (fn6272 15)] :: Cl b6251 [.slice A6253 a6252.length c6254, .int .i64 a6256, .slice A6258 a6257.length c6259, .int .u64 a6261, .int .i64 a6262, .int .i64 a6263, .int .i64 a6264, .int .i64 a6265, .int .i64 a6266, .int .i64 a6267, .bool a6268, .slice A6270 16 c6271, .int .i64 a6273, .slice A6275 a6277.length c6276, .int .i64 (IntKind.i64.wrap (a6278 + 1))] 79 :: OSf E_api_Out 58 (.slice A6275 a6277.length c6276) a6277 :: l) 2 hS rfl rfl rfl rfl Tryd.sizeOf3 rfl rfl rfl rfl) rfl ?_
  rintro _ w ⟨rfl, hS⟩
  have hS : St B w (Cl b6539 [.int .i64 ((nth a6252 a6278).Op), .int .i64 ((nth a6252 a6278).A), .int .i64 ((nth a6252 a6278).B), .int .i64 ((nth a6252 a6278).C)] 48 :: OSl 2 1 (.slice A6270 16 c6271) 16 [.int .i64 (fn6272 0), .int .i64 (fn6272 1), .int .i64 (fn6272 2), .int .i64 (fn6272 3), .int .i64 (fn6272 4), .int .i64 (fn6272 5), .int .i64 (fn6272 6), .int .i64 (fn6272 7), .int .i64 (fn6272 8), .int .i64 (fn6272 9), .int .i64 (fn6272 10), .int .i64 (fn6272 11), .int .i64 (fn6272 12), .int .i64 (fn6272 13), .int .i64 (fn6272 14), .int .i64 (fn6272 15)] :: Cl b6251 [.slice A6253 a6252.length c6254, .int .i64 a6256, .slice A6258 a6257.length c6259, .int .u64 a6261, .int .i64 a6262, .int .i64 a6263, .int .i64 a6264, .int .i64 a6265, .int .i64 a6266, .int .i64 a6267, .bool a6268, .slice A6270 16 c6271, .int .i64 a6273, .slice A6275 a6277.length c6276, .int .i64 (IntKind.i64.wrap (a6278 + 1))] 79 :: OSf E_api_Out 58 (.slice A6275 a6277.length c6276) a6277 :: l) hf := hS
  refine RL.nil ?_
  refine RQ.then_n ?_
  refine RC.seq ?_
  refine RC.seq ?_
  refine RC.region ?_
  refine RL.s (Vl.fieldAddr (a'' := ⟨b6539, 0, none⟩) Tryd.underlying48 rfl Tryd.sizeOf3 rfl rfl) rfl ?_
  refine RL.s (Vl.load Tryd.isAgg3 rfl (hS.cell 0 rfl rfl)) rfl ?_
  refine RL.nil ?_
  refine RQ.then_n ?_
  refine RC.block ?_
  refine RC.seq ?_
  refine RC.region ?_
  refine RL.s (Vl.int rfl rfl rfl) rfl ?_
  refine RL.s (Vl.assign rfl) rfl ?_
  refine RL.nil ?_
  refine RQ.then_n ?_
  by_cases hc6540 : (nth a6252 a6278).Op = 0
  case pos =>
   have h := h.pos hc6540
   refine RC.re 52 rfl (congrArg Value.bool (decide_eq_true hc6540)) ?_
   refine RC.condT rfl ?_
   refine RC.seq ?_
   refine RC.region ?_
   refine RL.s (Vl.assign rfl) rfl ?_
   refine RL.s (Vl.assign rfl) rfl ?_
   refine RL.nil ?_
   refine RQ.then_n ?_
   refine RC.ret ?_
   refine RQ.inB_ret ?_
   refine RQ.ret ?_
   have e := h.some
   subst e
   refine RQ.ret0 (vs := [.int .i64 0, .bool false]) Tryd.results24 ⟨rfl, rfl, trivial⟩ ?_
   exact ⟨A6275, c6276, rfl, ((((hS.dropAt 0 rfl).pull 1 rfl rfl).pull 1 rfl rfl).pull 2 rfl rfl)⟩
  case neg =>
   have h := h.neg hc6540
   refine RC.re 52 rfl (congrArg Value.bool (decide_eq_false hc6540)) ?_
   refine RC.condF rfl ?_
   refine RC.seq ?_
   refine RC.region ?_
   refine RL.s (Vl.int rfl rfl rfl) rfl ?_
   refine RL.s (Vl.assign rfl) rfl ?_
   refine RL.nil ?_
   refine RQ.then_n ?_
   by_cases hc6541 : (nth a6252 a6278).Op = 1
   case pos =>
    have h := h.pos hc6541
    refine RC.re 54 rfl (congrArg Value.bool (decide_eq_true hc6541)) ?_
    refine RC.condT rfl ?_
    refine RC.plan (.pure 0 (.pure 1 (.pure 2 (.cons 3 true (.pure 4 (.cons 5 true (.cons 6 false (.cons 7 false (.cons 8 false (.cons 9 false .nil)))))))))) [8, 9] (fun w => St B w (Cl b6539 [.int .i64 ((nth a6252 a6278).Op), .int .i64 ((nth a6252 a6278).A), .int .i64 ((nth a6252 a6278).B), .int .i64 ((nth a6252 a6278).C)] 48 :: OSl 2 1 (.slice A6270 16 c6271) 16 [.int .i64 (fn6272 0), .int .i64 (fn6272 1), .int .i64 (fn6272 2), .int .i64 (fn6272 3), .int .i64 (fn6272 4), .int .i64 (fn6272 5), .int .i64 (fn6272 6), .int .i64 (fn6272 7), .int .i64 (fn6272 8), .int .i64 (fn6272 9), .int .i64 (fn6272 10), .int .i64 (fn6272 11), .int .i64 (fn6272 12), .int .i64 (fn6272 13), .int .i64 (fn6272 14), .int .i64 (fn6272 15)] :: Cl b6251 [.slice A6253 a6252.length c6254, .int .i64 a6256, .slice A6258 a6257.length c6259, .int .u64 a6261, .int .i64 a6262, .int .i64 a6263, .int .i64 a6264, .int .i64 a6265, .int .i64 a6266, .int .i64 a6267, .bool a6268, .slice A6270 16 c6271, .int .i64 a6273, .slice A6275 a6277.length c6276, .int .i64 (IntKind.i64.wrap (a6278 + 1))] 79 :: OSf E_api_Out 58 (.slice A6275 a6277.length c6276) a6277 :: l) hf) follows rfl (by kernel_rfl) (NoTmp.block (NoTmp.then NoTmp.body)) ?_
    have hS := hS.same (w' := { w with drawn := w.drawn + 1 }) rfl rfl
    revert hS
    generalize { w with drawn := w.drawn + 1 } = w
    intro hS
    refine RP.s0 0 rfl (fun w => Vl.move rfl) rfl ?_
    refine RP.s0 1 rfl (fun w => Vl.nilCheck rfl) rfl ?_
    refine RP.s0 2 rfl (fun w => Vl.fieldAddr (a'' := ⟨b6251, 11, none⟩) Tryd.underlying79 rfl Tryd.sizeOf67 rfl rfl) rfl ?_
    refine RP.s 3 rfl rfl hS (fun w hS => Vl.load Tryd.isAgg67 rfl (hS.cell 2 rfl rfl)) rfl ?_
    refine RP.s0 4 rfl (fun w => Vl.fieldAddr (a'' := ⟨b6539, 1, none⟩) Tryd.underlying48 rfl Tryd.sizeOf3 rfl rfl) rfl ?_
    refine RP.s 5 rfl rfl hS (fun w hS => Vl.load Tryd.isAgg3 rfl (hS.cell 0 rfl rfl)) rfl ?_
    refine RP.v1 6 rfl (Vl.fieldAddr (a'' := ⟨b6539, 2, none⟩) Tryd.underlying48 rfl Tryd.sizeOf3 rfl rfl) rfl rfl ?_
    refine RP.v1 7 rfl (Vl.load Tryd.isAgg3 rfl (hS.cell 0 rfl rfl)) rfl rfl ?_
    obtain ⟨⟨hq6542, hq6543⟩, h⟩ := h.req
    refine RP.v1 8 rfl (Vl.indexAddr (a'' := (ad A6270).add (((nth a6252 a6278).A).toNat * 1)) Tryd.underlying67 Tryd.sizeOf2 rfl rfl (hS.litAdr 1 rfl (by decide)) hq6542 hq6543 rfl) rfl rfl ?_
    refine RP.e0 9 rfl (OW.storeLitF (mk := (Value.int .i64)) (f := fn6272) (n := 16) (l' := Cl b6539 [.int .i64 ((nth a6252 a6278).Op), .int .i64 ((nth a6252 a6278).A), .int .i64 ((nth a6252 a6278).B), .int .i64 ((nth a6252 a6278).C)] 48 :: OSl 2 1 (.slice A6270 16 c6271) 16 [.int .i64 ((upd fn6272 (((nth a6252 a6278).A).toNat * 1) ((nth a6252 a6278).B)) 0), .int .i64 ((upd fn6272 (((nth a6252 a6278).A).toNat * 1) ((nth a6252 a6278).B)) 1), .int .i64 ((upd fn6272 (((nth a6252 a6278).A).toNat * 1) ((nth a6252 a6278).B)) 2), .int .i64 ((upd fn6272 (((nth a6252 a6278).A).toNat * 1) ((nth a6252 a6278).B)) 3), .int .i64 ((upd fn6272 (((nth a6252 a6278).A).toNat * 1) ((nth a6252 a6278).B)) 4), .int .i64 ((upd fn6272 (((nth a6252 a6278).A).toNat * 1) ((nth a6252 a6278).B)) 5), .int .i64 ((upd fn6272 (((nth a6252 a6278).A).toNat * 1) ((nth a6252 a6278).B)) 6), .int .i64 ((upd fn6272 (((nth a6252 a6278).A).toNat * 1) ((nth a6252 a6278).B)) 7), .int .i64 ((upd fn6272 (((nth a6252 a6278).A).toNat * 1) ((nth a6252 a6278).B)) 8), .int .i64 ((upd fn6272 (((nth a6252 a6278).A).toNat * 1) ((nth a6252 a6278).B)) 9), .int .i64 ((upd fn6272 (((nth a6252 a6278).A).toNat * 1) ((nth a6252 a6278).B)) 10), .int .i64 ((upd fn6272 (((nth a6252 a6278).A).toNat * 1) ((nth a6252 a6278).B)) 11), .int .i64 ((upd fn6272 (((nth a6252 a6278).A).toNat * 1) ((nth a6252 a6278).B)) 12), .int .i64 ((upd fn6272 (((nth a6252 a6278).A).toNat * 1) ((nth a6252 a6278).B)) 13), .int .i64 ((upd fn6272 (((nth a6252 a6278).A).toNat * 1) ((nth a6252 a6278).B)) 14), .int .i64 ((upd fn6272 (((nth a6252 a6278).A).toNat * 1) ((nth a6252 a6278).B)) 15)] :: Cl b6251 [.slice A6253 a6252.length c6254, .int .i64 a6256, .slice A6258 a6257.length c6259, .int .u64 a6261, .int .i64 a6262, .int .i64 a6263, .int .i64 a6264, .int .i64 a6265, .int .i64 a6266, .int .i64 a6267, .bool a6268, .slice A6270 16 c6271, .int .i64 a6273, .slice A6275 a6277.length c6276, .int .i64 (IntKind.i64.wrap (a6278 + 1))] 79 :: OSf E_api_Out 58 (.slice A6275 a6277.length c6276) a6277 :: l) 1 hS rfl rfl rfl Tryd.sizeOf2 (by omega) (fun _ => rfl) (fun _ => rfl) rfl) rfl ?_
    rintro _ w ⟨rfl, hS⟩
    have hS : St B w (Cl b6539 [.int .i64 ((nth a6252 a6278).Op), .int .i64 ((nth a6252 a6278).A), .int .i64 ((nth a6252 a6278).B), .int .i64 ((nth a6252 a6278).C)] 48 :: OSl 2 1 (.slice A6270 16 c6271) 16 [.int .i64 ((upd fn6272 (((nth a6252 a6278).A).toNat * 1) ((nth a6252 a6278).B)) 0), .int .i64 ((upd fn6272 (((nth a6252 a6278).A).toNat * 1) ((nth a6252 a6278).B)) 1), .int .i64 ((upd fn6272 (((nth a6252 a6278).A).toNat * 1) ((nth a6252 a6278).B)) 2), .int .i64 ((upd fn6272 (((nth a6252 a6278).A).toNat * 1) ((nth a6252 a6278).B)) 3), .int .i64 ((upd fn6272 (((nth a6252 a6278).A).toNat * 1) ((nth a6252 a6278).B)) 4), .int .i64 ((upd fn6272 (((nth a6252 a6278).A).toNat * 1) ((nth a6252 a6278).B)) 5), .int .i64 ((upd fn6272 (((nth a6252 a6278).A).toNat * 1) ((nth a6252 a6278).B)) 6), .int .i64 ((upd fn6272 (((nth a6252 a6278).A).toNat * 1) ((nth a6252 a6278).B)) 7), .int .i64 ((upd fn6272 (((nth a6252 a6278).A).toNat * 1) ((nth a6252 a6278).B)) 8), .int .i64 ((upd fn6272 (((nth a6252 a6278).A).toNat * 1) ((nth a6252 a6278).B)) 9), .int .i64 ((upd fn6272 (((nth a6252 a6278).A).toNat * 1) ((nth a6252 a6278).B)) 10), .int .i64 ((upd fn6272 (((nth a6252 a6278).A).toNat * 1) ((nth a6252 a6278).B)) 11), .int .i64 ((upd fn6272 (((nth a6252 a6278).A).toNat * 1) ((nth a6252 a6278).B)) 12), .int .i64 ((upd fn6272 (((nth a6252 a6278).A).toNat * 1) ((nth a6252 a6278).B)) 13), .int .i64 ((upd fn6272 (((nth a6252 a6278).A).toNat * 1) ((nth a6252 a6278).B)) 14), .int .i64 ((upd fn6272 (((nth a6252 a6278).A).toNat * 1) ((nth a6252 a6278).B)) 15)] :: Cl b6251 [.slice A6253 a6252.length c6254, .int .i64 a6256, .slice A6258 a6257.length c6259, .int .u64 a6261, .int .i64 a6262, .int .i64 a6263, .int .i64 a6264, .int .i64 a6265, .int .i64 a6266, .int .i64 a6267, .bool a6268, .slice A6270 16 c6271, .int .i64 a6273, .slice A6275 a6277.length c6276, .int .i64 (IntKind.i64.wrap (a6278 + 1))] 79 :: OSf E_api_Out 58 (.slice A6275 a6277.length c6276) a6277 :: l) hf := hS
    refine ⟨(by intro hx; cases hx), ?_⟩
    refine RP.nil ?_
    refine RQ.inB_n ?_
    refine RQ.then_n ?_
    refine RC.seq ?_
    refine RC.region ?_
    refine RL.s (Vl.assign rfl) rfl ?_
    refine RL.s (Vl.assign rfl) rfl ?_
    refine RL.nil ?_
    refine RQ.then_n ?_
    refine RC.ret ?_
    have e := h.some
    subst e
    refine RQ.ret0 (vs := [.int .i64 0, .bool true]) Tryd.results24 ⟨rfl, rfl, trivial⟩ ?_
    exact ⟨A6275, c6276, rfl, ((((hS.dropAt 0 rfl).pull 1 rfl rfl).pull 1 rfl rfl).pull 2 rfl rfl)⟩
   case neg =>
    have h := h.neg hc6541
    refine RC.re 54 rfl (congrArg Value.bool (decide_eq_false hc6541)) ?_
    refine RC.condF rfl ?_
    refine RC.seq ?_
    refine RC.region ?_
    refine RL.s (Vl.int rfl rfl rfl) rfl ?_
    refine RL.s (Vl.assign rfl) rfl ?_
    refine RL.nil ?_
    refine RQ.then_n ?_
    by_cases hc6544 : (nth a6252 a6278).Op = 2
    case pos =>
     have h := h.pos hc6544
     refine RC.re 65 rfl (congrArg Value.bool (decide_eq_true hc6544)) ?_
     refine RC.condT rfl ?_
     refine RC.plan (.pure 0 (.pure 1 (.pure 2 (.cons 3 true (.pure 4 (.cons 5 true (.pure 6 (.pure 7 (.pure 8 (.cons 9 true (.cons 10 false (.cons 11 false (.cons 12 false (.cons 13 false (.cons 14 false (.cons 15 false .nil)))))))))))))))) [14, 15] (fun w => St B w (Cl b6539 [.int .i64 ((nth a6252 a6278).Op), .int .i64 ((nth a6252 a6278).A), .int .i64 ((nth a6252 a6278).B), .int .i64 ((nth a6252 a6278).C)] 48 :: OSl 2 1 (.slice A6270 16 c6271) 16 [.int .i64 (fn6272 0), .int .i64 (fn6272 1), .int .i64 (fn6272 2), .int .i64 (fn6272 3), .int .i64 (fn6272 4), .int .i64 (fn6272 5), .int .i64 (fn6272 6), .int .i64 (fn6272 7), .int .i64 (fn6272 8), .int .i64 (fn6272 9), .int .i64 (fn6272 10), .int .i64 (fn6272 11), .int .i64 (fn6272 12), .int .i64 (fn6272 13), .int .i64 (fn6272 14), .int .i64 (fn6272 15)] :: Cl b6251 [.slice A6253 a6252.length c6254, .int .i64 a6256, .slice A6258 a6257.length c6259, .int .u64 a6261, .int .i64 a6262, .int .i64 a6263, .int .i64 a6264, .int .i64 a6265, .int .i64 a6266, .int .i64 a6267, .bool a6268, .slice A6270 16 c6271, .int .i64 a6273, .slice A6275 a6277.length c6276, .int .i64 (IntKind.i64.wrap (a6278 + 1))] 79 :: OSf E_api_Out 58 (.slice A6275 a6277.length c6276) a6277 :: l) hf) follows rfl (by kernel_rfl) (NoTmp.block (NoTmp.then NoTmp.body)) ?_
     have hS := hS.same (w' := { w with drawn := w.drawn + 1 }) rfl rfl
     revert hS
     generalize { w with drawn := w.drawn + 1 } = w
     intro hS
     refine RP.s0 0 rfl (fun w => Vl.move rfl) rfl ?_
     refine RP.s0 1 rfl (fun w => Vl.nilCheck rfl) rfl ?_
     refine RP.s0 2 rfl (fun w => Vl.fieldAddr (a'' := ⟨b6251, 11, none⟩) Tryd.underlying79 rfl Tryd.sizeOf67 rfl rfl) rfl ?_
     refine RP.s 3 rfl rfl hS (fun w hS => Vl.load Tryd.isAgg67 rfl (hS.cell 2 rfl rfl)) rfl ?_
     refine RP.s0 4 rfl (fun w => Vl.fieldAddr (a'' := ⟨b6539, 1, none⟩) Tryd.underlying48 rfl Tryd.sizeOf3 rfl rfl) rfl ?_
     refine RP.s 5 rfl rfl hS (fun w hS => Vl.load Tryd.isAgg3 rfl (hS.cell 0 rfl rfl)) rfl ?_
     refine RP.s0 6 rfl (fun w => Vl.move rfl) rfl ?_
     refine RP.s0 7 rfl (fun w => Vl.nilCheck rfl) rfl ?_
     refine RP.s0 8 rfl (fun w => Vl.fieldAddr (a'' := ⟨b6251, 11, none⟩) Tryd.underlying79 rfl Tryd.sizeOf67 rfl rfl) rfl ?_
     refine RP.s 9 rfl rfl hS (fun w hS => Vl.load Tryd.isAgg67 rfl (hS.cell 2 rfl rfl)) rfl ?_
     refine RP.v1 10 rfl (Vl.fieldAddr (a'' := ⟨b6539, 2, none⟩) Tryd.underlying48 rfl Tryd.sizeOf3 rfl rfl) rfl rfl ?_
     refine RP.v1 11 rfl (Vl.load Tryd.isAgg3 rfl (hS.cell 0 rfl rfl)) rfl rfl ?_
     obtain ⟨⟨hq6545, hq6546⟩, h⟩ := h.req
     refine RP.v1 12 rfl (Vl.indexAddr (a'' := (ad A6270).add (((nth a6252 a6278).B).toNat * 1)) Tryd.underlying67 Tryd.sizeOf2 rfl rfl (hS.litAdr 1 rfl (by decide)) hq6545 hq6546 rfl) rfl rfl ?_
     refine RP.v1 13 rfl (Vl.load Tryd.isAgg2 rfl (hS.litCell (j := ((nth a6252 a6278).B).toNat * 1) (cs := fc (Value.int .i64) 16 fn6272) 1 rfl (fc_get (by omega)))) rfl rfl ?_
     obtain ⟨⟨hq6547, hq6548⟩, h⟩ := h.req
     refine RP.v1 14 rfl (Vl.indexAddr (a'' := (ad A6270).add (((nth a6252 a6278).A).toNat * 1)) Tryd.underlying67 Tryd.sizeOf2 rfl rfl (hS.litAdr 1 rfl (by decide)) hq6547 hq6548 rfl) rfl rfl ?_
     refine RP.e0 15 rfl (OW.storeLitF (mk := (Value.int .i64)) (f := fn6272) (n := 16) (l' := Cl b6539 [.int .i64 ((nth a6252 a6278).Op), .int .i64 ((nth a6252 a6278).A), .int .i64 ((nth a6252 a6278).B), .int .i64 ((nth a6252 a6278).C)] 48 :: OSl 2 1 (.slice A6270 16 c6271) 16 [.int .i64 ((upd fn6272 (((nth a6252 a6278).A).toNat * 1) (fn6272 (((nth a6252 a6278).B).toNat * 1))) 0), .int .i64 ((upd fn6272 (((nth a6252 a6278).A).toNat * 1) (fn6272 (((nth a6252 a6278).B).toNat * 1))) 1), .int .i64 ((upd fn6272 (((nth a6252 a6278).A).toNat * 1) (fn6272 (((nth a6252 a6278).B).toNat * 1))) 2), .int .i64 ((upd fn6272 (((nth a6252 a6278).A).toNat * 1) (fn6272 (((nth a6252 a6278).B).toNat * 1))) 3), .int .i64 ((upd fn6272 (((nth a6252 a6278).A).toNat * 1) (fn6272 (((nth a6252 a6278).B).toNat * 1))) 4), .int .i64 ((upd fn6272 (((nth a6252 a6278).A).toNat * 1) (fn6272 (((nth a6252 a6278).B).toNat * 1))) 5), .int .i64 ((upd fn6272 (((nth a6252 a6278).A).toNat * 1) (fn6272 (((nth a6252 a6278).B).toNat * 1))) 6), .int .i64 ((upd fn6272 (((nth a6252 a6278).A).toNat * 1) (fn6272 (((nth a6252 a6278).B).toNat * 1))) 7), .int .i64 ((upd fn6272 (((nth a6252 a6278).A).toNat * 1) (fn6272 (((nth a6252 a6278).B).toNat * 1))) 8), .int .i64 ((upd fn6272 (((nth a6252 a6278).A).toNat * 1) (fn6272 (((nth a6252 a6278).B).toNat * 1))) 9), .int .i64 ((upd fn6272 (((nth a6252 a6278).A).toNat * 1) (fn6272 (((nth a6252 a6278).B).toNat * 1))) 10), .int .i64 ((upd fn6272 (((nth a6252 a6278).A).toNat * 1) (fn6272 (((nth a6252 a6278).B).toNat * 1))) 11), .int .i64 ((upd fn6272 (((nth a6252 a6278).A).toNat * 1) (fn6272 (((nth a6252 a6278).B).toNat * 1))) 12), .int .i64 ((upd fn6272 (((nth a6252 a6278).A).toNat * 1) (fn6272 (((nth a6252 a6278).B).toNat * 1))) 13), .int .i64 ((upd fn6272 (((nth a6252 a6278).A).toNat * 1) (fn6272 (((nth a6252 a6278).B).toNat * 1))) 14), .int .i64 ((upd fn6272 (((nth a6252 a6278).A).toNat * 1) (fn6272 (((nth a6252 a6278).B).toNat * 1))) 15)] :: Cl b6251 [.slice A6253 a6252.length c6254, .int .i64 a6256, .slice A6258 a6257.length c6259, .int .u64 a6261, .int .i64 a6262, .int .i64 a6263, .int .i64 a6264, .int .i64 a6265, .int .i64 a6266, .int .i64 a6267, .bool a6268, .slice A6270 16 c6271, .int .i64 a6273, .slice A6275 a6277.length c6276, .int .i64 (IntKind.i64.wrap (a6278 + 1))] 79 :: OSf E_api_Out 58 (.slice A6275 a6277.length c6276) a6277 :: l) 1 hS rfl rfl rfl Tryd.sizeOf2 (by omega) (fun _ => rfl) (fun _ => rfl) rfl) rfl ?_
     rintro _ w ⟨rfl, hS⟩
     have hS : St B w (Cl b6539 [.int .i64 ((nth a6252 a6278).Op), .int .i64 ((nth a6252 a6278).A), .int .i64 ((nth a6252 a6278).B), .int .i64 ((nth a6252 a6278).C)] 48 :: OSl 2 1 (.slice A6270 16 c6271) 16 [.int .i64 ((upd fn6272 (((nth a6252 a6278).A).toNat * 1) (fn6272 (((nth a6252 a6278).B).toNat * 1))) 0), .int .i64 ((upd fn6272 (((nth a6252 a6278).A).toNat * 1) (fn6272 (((nth a6252 a6278).B).toNat * 1))) 1), .int .i64 ((upd fn6272 (((nth a6252 a6278).A).toNat * 1) (fn6272 (((nth a6252 a6278).B).toNat * 1))) 2), .int .i64 ((upd fn6272 (((nth a6252 a6278).A).toNat * 1) (fn6272 (((nth a6252 a6278).B).toNat * 1))) 3), .int .i64 ((upd fn6272 (((nth a6252 a6278).A).toNat * 1) (fn6272 (((nth a6252 a6278).B).toNat * 1))) 4), .int .i64 ((upd fn6272 (((nth a6252 a6278).A).toNat * 1) (fn6272 (((nth a6252 a6278).B).toNat * 1))) 5), .int .i64 ((upd fn6272 (((nth a6252 a6278).A).toNat * 1) (fn6272 (((nth a6252 a6278).B).toNat * 1))) 6), .int .i64 ((upd fn6272 (((nth a6252 a6278).A).toNat * 1) (fn6272 (((nth a6252 a6278).B).toNat * 1))) 7), .int .i64 ((upd fn6272 (((nth a6252 a6278).A).toNat * 1) (fn6272 (((nth a6252 a6278).B).toNat * 1))) 8), .int .i64 ((upd fn6272 (((nth a6252 a6278).A).toNat * 1) (fn6272 (((nth a6252 a6278).B).toNat * 1))) 9), .int .i64 ((upd fn6272 (((nth a6252 a6278).A).toNat * 1) (fn6272 (((nth a6252 a6278).B).toNat * 1))) 10), .int .i64 ((upd fn6272 (((nth a6252 a6278).A).toNat * 1) (fn6272 (((nth a6252 a6278).B).toNat * 1))) 11), .int .i64 ((upd fn6272 (((nth a6252 a6278).A).toNat * 1) (fn6272 (((nth a6252 a6278).B).toNat * 1))) 12), .int .i64 ((upd fn6272 (((nth a6252 a6278).A).toNat * 1) (fn6272 (((nth a6252 a6278).B).toNat * 1))) 13), .int .i64 ((upd fn6272 (((nth a6252 a6278).A).toNat * 1) (fn6272 (((nth a6252 a6278).B).toNat * 1))) 14), .int .i64 ((upd fn6272 (((nth a6252 a6278).A).toNat * 1) (fn6272 (((nth a6252 a6278).B).toNat * 1))) 15)] :: Cl b6251 [.slice A6253 a6252.length c6254, .int .i64 a6256, .slice A6258 a6257.length c6259, .int .u64 a6261, .int .i64 a6262, .int .i64 a6263, .int .i64 a6264, .int .i64 a6265, .int .i64 a6266, .int .i64 a6267, .bool a6268, .slice A6270 16 c6271, .int .i64 a6273, .slice A6275 a6277.length c6276, .int .i64 (IntKind.i64.wrap (a6278 + 1))] 79 :: OSf E_api_Out 58 (.slice A6275 a6277.length c6276) a6277 :: l) hf := hS
     refine ⟨(by intro hx; cases hx), ?_⟩
     refine RP.nil ?_
     refine RQ.inB_n ?_
     refine RQ.then_n ?_
     refine RC.seq ?_
     refine RC.region ?_
     refine RL.s (Vl.assign rfl) rfl ?_
     refine RL.s (Vl.assign rfl) rfl ?_
     refine RL.nil ?_
     refine RQ.then_n ?_
     refine RC.ret ?_
     have e := h.some
     subst e
     refine RQ.ret0 (vs := [.int .i64 0, .bool true]) Tryd.results24 ⟨rfl, rfl, trivial⟩ ?_
     exact ⟨A6275, c6276, rfl, ((((hS.dropAt 0 rfl).pull 1 rfl rfl).pull 1 rfl rfl).pull 2 rfl rfl)⟩
    case neg =>
     have h := h.neg hc6544
     refine RC.re 65 rfl (congrArg Value.bool (decide_eq_false hc6544)) ?_
     refine RC.condF rfl ?_
     refine RC.seq ?_
     refine RC.region ?_
     refine RL.s (Vl.int rfl rfl rfl) rfl ?_
     refine RL.s (Vl.assign rfl) rfl ?_
     refine RL.nil ?_
     refine RQ.then_n ?_
     by_cases hc6549 : (nth a6252 a6278).Op = 10
     case pos =>
      have h := h.pos hc6549
      refine RC.re 82 rfl (congrArg Value.bool (decide_eq_true hc6549)) ?_
      refine RC.condT rfl ?_
      refine RC.region ?_
      refine RL.s (Vl.move rfl) rfl ?_
      refine RL.s (Vl.fieldAddr (a'' := ⟨b6539, 1, none⟩) Tryd.underlying48 rfl Tryd.sizeOf3 rfl rfl) rfl ?_
      refine RL.s (Vl.load Tryd.isAgg3 rfl (hS.cell 0 rfl rfl)) rfl ?_
      refine RL.s (Vl.nilCheck rfl) rfl ?_
      refine RL.s (Vl.fieldAddr (a'' := ⟨b6251, 14, none⟩) Tryd.underlying79 rfl Tryd.sizeOf3 rfl rfl) rfl ?_
      refine RL.e0 (OW.store (cs := [.slice A6253 a6252.length c6254, .int .i64 a6256, .slice A6258 a6257.length c6259, .int .u64 a6261, .int .i64 a6262, .int .i64 a6263, .int .i64 a6264, .int .i64 a6265, .int .i64 a6266, .int .i64 a6267, .bool a6268, .slice A6270 16 c6271, .int .i64 a6273, .slice A6275 a6277.length c6276, .int .i64 (IntKind.i64.wrap (a6278 + 1))]) (vs := [.int .i64 ((nth a6252 a6278).A)]) (l' := Cl b6539 [.int .i64 ((nth a6252 a6278).Op), .int .i64 ((nth a6252 a6278).A), .int .i64 ((nth a6252 a6278).B), .int .i64 ((nth a6252 a6278).C)] 48 :: OSl 2 1 (.slice A6270 16 c6271) 16 [.int .i64 (fn6272 0), .int .i64 (fn6272 1), .int .i64 (fn6272 2), .int .i64 (fn6272 3), .int .i64 (fn6272 4), .int .i64 (fn6272 5), .int .i64 (fn6272 6), .int .i64 (fn6272 7), .int .i64 (fn6272 8), .int .i64 (fn6272 9), .int .i64 (fn6272 10), .int .i64 (fn6272 11), .int .i64 (fn6272 12), .int .i64 (fn6272 13), .int .i64 (fn6272 14), .int .i64 (fn6272 15)] :: Cl b6251 [.slice A6253 a6252.length c6254, .int .i64 a6256, .slice A6258 a6257.length c6259, .int .u64 a6261, .int .i64 a6262, .int .i64 a6263, .int .i64 a6264, .int .i64 a6265, .int .i64 a6266, .int .i64 a6267, .bool a6268, .slice A6270 16 c6271, .int .i64 a6273, .slice A6275 a6277.length c6276, .int .i64 ((nth a6252 a6278).A)] 79 :: OSf E_api_Out 58 (.slice A6275 a6277.length c6276) a6277 :: l) 2 hS rfl rfl rfl rfl Tryd.sizeOf3 rfl rfl rfl rfl) rfl ?_
      rintro _ w ⟨rfl, hS⟩
      have hS : St B w (Cl b6539 [.int .i64 ((nth a6252 a6278).Op), .int .i64 ((nth a6252 a6278).A), .int .i64 ((nth a6252 a6278).B), .int .i64 ((nth a6252 a6278).C)] 48 :: OSl 2 1 (.slice A6270 16 c6271) 16 [.int .i64 (fn6272 0), .int .i64 (fn6272 1), .int .i64 (fn6272 2), .int .i64 (fn6272 3), .int .i64 (fn6272 4), .int .i64 (fn6272 5), .int .i64 (fn6272 6), .int .i64 (fn6272 7), .int .i64 (fn6272 8), .int .i64 (fn6272 9), .int .i64 (fn6272 10), .int .i64 (fn6272 11), .int .i64 (fn6272 12), .int .i64 (fn6272 13), .int .i64 (fn6272 14), .int .i64 (fn6272 15)] :: Cl b6251 [.slice A6253 a6252.length c6254, .int .i64 a6256, .slice A6258 a6257.length c6259, .int .u64 a6261, .int .i64 a6262, .int .i64 a6263, .int .i64 a6264, .int .i64 a6265, .int .i64 a6266, .int .i64 a6267, .bool a6268, .slice A6270 16 c6271, .int .i64 a6273, .slice A6275 a6277.length c6276, .int .i64 ((nth a6252 a6278).A)] 79 :: OSf E_api_Out 58 (.slice A6275 a6277.length c6276) a6277 :: l) hf := hS
      refine RL.nil ?_
      refine RQ.inB_n ?_
      refine RQ.then_n ?_
      refine RC.seq ?_
      refine RC.region ?_
      refine RL.s (Vl.assign rfl) rfl ?_
      refine RL.s (Vl.assign rfl) rfl ?_
      refine RL.nil ?_
      refine RQ.then_n ?_
      refine RC.ret ?_
      have e := h.some
      subst e
      refine RQ.ret0 (vs := [.int .i64 0, .bool true]) Tryd.results24 ⟨rfl, rfl, trivial⟩ ?_
      exact ⟨A6275, c6276, rfl, ((((hS.dropAt 0 rfl).pull 1 rfl rfl).pull 1 rfl rfl).pull 2 rfl rfl)⟩
     case neg =>
      have h := h.neg hc6549
      refine RC.re 82 rfl (congrArg Value.bool (decide_eq_false hc6549)) ?_
      refine RC.condF rfl ?_
      refine RC.seq ?_
      refine RC.region ?_
      refine RL.s (Vl.int rfl rfl rfl) rfl ?_
      refine RL.s (Vl.assign rfl) rfl ?_
      refine RL.nil ?_
      refine RQ.then_n ?_
      by_cases hc6550 : (nth a6252 a6278).Op = 11
      case pos =>
       have h := h.pos hc6550
       refine RC.re 89 rfl (congrArg Value.bool (decide_eq_true hc6550)) ?_
       refine RC.condT rfl ?_
       refine RC.seq ?_
       refine RC.plan (.pure 0 (.pure 1 (.pure 2 (.cons 3 true (.cons 4 false (.cons 5 false (.cons 6 false (.cons 7 false (.cons 8 false .nil))))))))) [] (fun w => St B w (Cl b6539 [.int .i64 ((nth a6252 a6278).Op), .int .i64 ((nth a6252 a6278).A), .int .i64 ((nth a6252 a6278).B), .int .i64 ((nth a6252 a6278).C)] 48 :: OSl 2 1 (.slice A6270 16 c6271) 16 [.int .i64 (fn6272 0), .int .i64 (fn6272 1), .int .i64 (fn6272 2), .int .i64 (fn6272 3), .int .i64 (fn6272 4), .int .i64 (fn6272 5), .int .i64 (fn6272 6), .int .i64 (fn6272 7), .int .i64 (fn6272 8), .int .i64 (fn6272 9), .int .i64 (fn6272 10), .int .i64 (fn6272 11), .int .i64 (fn6272 12), .int .i64 (fn6272 13), .int .i64 (fn6272 14), .int .i64 (fn6272 15)] :: Cl b6251 [.slice A6253 a6252.length c6254, .int .i64 a6256, .slice A6258 a6257.length c6259, .int .u64 a6261, .int .i64 a6262, .int .i64 a6263, .int .i64 a6264, .int .i64 a6265, .int .i64 a6266, .int .i64 a6267, .bool a6268, .slice A6270 16 c6271, .int .i64 a6273, .slice A6275 a6277.length c6276, .int .i64 (IntKind.i64.wrap (a6278 + 1))] 79 :: OSf E_api_Out 58 (.slice A6275 a6277.length c6276) a6277 :: l) hf) follows rfl (by kernel_rfl) (NoTmp.then (NoTmp.block (NoTmp.then NoTmp.body))) ?_
       have hS := hS.same (w' := { w with drawn := w.drawn + 1 }) rfl rfl
       revert hS
       generalize { w with drawn := w.drawn + 1 } = w
       intro hS
       refine RP.s0 0 rfl (fun w => Vl.move rfl) rfl ?_
       refine RP.s0 1 rfl (fun w => Vl.nilCheck rfl) rfl ?_
       refine RP.s0 2 rfl (fun w => Vl.fieldAddr (a'' := ⟨b6251, 11, none⟩) Tryd.underlying79 rfl Tryd.sizeOf67 rfl rfl) rfl ?_
       refine RP.s 3 rfl rfl hS (fun w hS => Vl.load Tryd.isAgg67 rfl (hS.cell 2 rfl rfl)) rfl ?_
       refine RP.v1 4 rfl (Vl.fieldAddr (a'' := ⟨b6539, 1, none⟩) Tryd.underlying48 rfl Tryd.sizeOf3 rfl rfl) rfl rfl ?_
       refine RP.v1 5 rfl (Vl.load Tryd.isAgg3 rfl (hS.cell 0 rfl rfl)) rfl rfl ?_
       obtain ⟨⟨hq6551, hq6552⟩, h⟩ := h.req
       refine RP.v1 6 rfl (Vl.indexAddr (a'' := (ad A6270).add (((nth a6252 a6278).A).toNat * 1)) Tryd.underlying67 Tryd.sizeOf2 rfl rfl (hS.litAdr 1 rfl (by decide)) hq6551 hq6552 rfl) rfl rfl ?_
       refine RP.v1 7 rfl (Vl.load Tryd.isAgg2 rfl (hS.litCell (j := ((nth a6252 a6278).A).toNat * 1) (cs := fc (Value.int .i64) 16 fn6272) 1 rfl (fc_get (by omega)))) rfl rfl ?_
       refine RP.v1 8 rfl (Vl.int rfl rfl rfl) rfl rfl ?_
       refine RP.nil ?_
       refine RQ.then_n ?_
       by_cases hc6553 : fn6272 (((nth a6252 a6278).A).toNat * 1) = 0
       case pos =>
        have h := h.pos hc6553
        refine RC.re 99 rfl (congrArg Value.bool (decide_eq_true hc6553)) ?_
        refine RC.condT rfl ?_
        refine RC.region ?_
        refine RL.s (Vl.move rfl) rfl ?_
        refine RL.s (Vl.fieldAddr (a'' := ⟨b6539, 2, none⟩) Tryd.underlying48 rfl Tryd.sizeOf3 rfl rfl) rfl ?_
        refine RL.s (Vl.load Tryd.isAgg3 rfl (hS.cell 0 rfl rfl)) rfl ?_
        refine RL.s (Vl.nilCheck rfl) rfl ?_
        refine RL.s (Vl.fieldAddr (a'' := ⟨b6251, 14, none⟩) Tryd.underlying79 rfl Tryd.sizeOf3 rfl rfl) rfl ?_
        refine RL.e0 (OW.store (cs := [.slice A6253 a6252.length c6254, .int .i64 a6256, .slice A6258 a6257.length c6259, .int .u64 a6261, .int .i64 a6262, .int .i64 a6263, .int .i64 a6264, .int .i64 a6265, .int .i64 a6266, .int .i64 a6267, .bool a6268, .slice A6270 16 c6271, .int .i64 a6273, .slice A6275 a6277.length c6276, .int .i64 (IntKind.i64.wrap (a6278 + 1))]) (vs := [.int .i64 ((nth a6252 a6278).B)]) (l' := Cl b6539 [.int .i64 ((nth a6252 a6278).Op), .int .i64 ((nth a6252 a6278).A), .int .i64 ((nth a6252 a6278).B), .int .i64 ((nth a6252 a6278).C)] 48 :: OSl 2 1 (.slice A6270 16 c6271) 16 [.int .i64 (fn6272 0), .int .i64 (fn6272 1), .int .i64 (fn6272 2), .int .i64 (fn6272 3), .int .i64 (fn6272 4), .int .i64 (fn6272 5), .int .i64 (fn6272 6), .int .i64 (fn6272 7), .int .i64 (fn6272 8), .int .i64 (fn6272 9), .int .i64 (fn6272 10), .int .i64 (fn6272 11), .int .i64 (fn6272 12), .int .i64 (fn6272 13), .int .i64 (fn6272 14), .int .i64 (fn6272 15)] :: Cl b6251 [.slice A6253 a6252.length c6254, .int .i64 a6256, .slice A6258 a6257.length c6259, .int .u64 a6261, .int .i64 a6262, .int .i64 a6263, .int .i64 a6264, .int .i64 a6265, .int .i64 a6266, .int .i64 a6267, .bool a6268, .slice A6270 16 c6271, .int .i64 a6273, .slice A6275 a6277.length c6276, .int .i64 ((nth a6252 a6278).B)] 79 :: OSf E_api_Out 58 (.slice A6275 a6277.length c6276) a6277 :: l) 2 hS rfl rfl rfl rfl Tryd.sizeOf3 rfl rfl rfl rfl) rfl ?_
        rintro _ w ⟨rfl, hS⟩
        have hS : St B w (Cl b6539 [.int .i64 ((nth a6252 a6278).Op), .int .i64 ((nth a6252 a6278).A), .int .i64 ((nth a6252 a6278).B), .int .i64 ((nth a6252 a6278).C)] 48 :: OSl 2 1 (.slice A6270 16 c6271) 16 [.int .i64 (fn6272 0), .int .i64 (fn6272 1), .int .i64 (fn6272 2), .int .i64 (fn6272 3), .int .i64 (fn6272 4), .int .i64 (fn6272 5), .int .i64 (fn6272 6), .int .i64 (fn6272 7), .int .i64 (fn6272 8), .int .i64 (fn6272 9), .int .i64 (fn6272 10), .int .i64 (fn6272 11), .int .i64 (fn6272 12), .int .i64 (fn6272 13), .int .i64 (fn6272 14), .int .i64 (fn6272 15)] :: Cl b6251 [.slice A6253 a6252.length c6254, .int .i64 a6256, .slice A6258 a6257.length c6259, .int .u64 a6261, .int .i64 a6262, .int .i64 a6263, .int .i64 a6264, .int .i64 a6265, .int .i64 a6266, .int .i64 a6267, .bool a6268, .slice A6270 16 c6271, .int .i64 a6273, .slice A6275 a6277.length c6276, .int .i64 ((nth a6252 a6278).B)] 79 :: OSf E_api_Out 58 (.slice A6275 a6277.length c6276) a6277 :: l) hf := hS
        refine RL.nil ?_
        refine RQ.inB_n ?_
        refine RQ.then_n ?_
        refine RC.seq ?_
        refine RC.region ?_
        refine RL.s (Vl.assign rfl) rfl ?_
        refine RL.s (Vl.assign rfl) rfl ?_
        refine RL.nil ?_
        refine RQ.then_n ?_
        refine RC.ret ?_
        have e := h.some
        subst e
        refine RQ.ret0 (vs := [.int .i64 0, .bool true]) Tryd.results24 ⟨rfl, rfl, trivial⟩ ?_
        exact ⟨A6275, c6276, rfl, ((((hS.dropAt 0 rfl).pull 1 rfl rfl).pull 1 rfl rfl).pull 2 rfl rfl)⟩
       case neg =>
        have h := h.neg hc6553
        refine RC.re 99 rfl (congrArg Value.bool (decide_eq_false hc6553)) ?_
        refine RC.condF rfl ?_
        refine RC.skip ?_
        refine RQ.inB_n ?_
        refine RQ.then_n ?_
        refine RC.seq ?_
        refine RC.region ?_
        refine RL.s (Vl.assign rfl) rfl ?_
        refine RL.s (Vl.assign rfl) rfl ?_
        refine RL.nil ?_
        refine RQ.then_n ?_
        refine RC.ret ?_
        have e := h.some
        subst e
        refine RQ.ret0 (vs := [.int .i64 0, .bool true]) Tryd.results24 ⟨rfl, rfl, trivial⟩ ?_
        exact ⟨A6275, c6276, rfl, ((((hS.dropAt 0 rfl).pull 1 rfl rfl).pull 1 rfl rfl).pull 2 rfl rfl)⟩
      case neg =>
       have h := h.neg hc6550
       refine RC.re 89 rfl (congrArg Value.bool (decide_eq_false hc6550)) ?_
       refine RC.condF rfl ?_
       refine RC.seq ?_
       refine RC.region ?_
       refine RL.s (Vl.int rfl rfl rfl) rfl ?_
       refine RL.s (Vl.assign rfl) rfl ?_
       refine RL.nil ?_
       refine RQ.then_n ?_
       by_cases hc6554 : (nth a6252 a6278).Op = 12
       case pos =>
        have h := h.pos hc6554
        refine RC.re 105 rfl (congrArg Value.bool (decide_eq_true hc6554)) ?_
        refine RC.condT rfl ?_
        refine RC.seq ?_
        refine RC.region ?_
        refine RL.s (Vl.move rfl) rfl ?_
        refine RL.s (Vl.loadA (vs := [.int .i64 ((nth a6252 a6278).Op), .int .i64 ((nth a6252 a6278).A), .int .i64 ((nth a6252 a6278).B), .int .i64 ((nth a6252 a6278).C)]) Tryd.isAgg48 Tryd.sizeOf48 rfl rfl (hS.cellsAt 0 rfl rfl)) rfl ?_
        obtain ⟨t6555, hg6556, h⟩ := h.bind
        obtain ⟨y6557, y6558⟩ := t6555
        refine RL.e (OW.callF (ls := [.tmp 107, .tmp 108]) rfl Tryd.call41 (isochronref05vrun_send.ok a6252 a6256 a6257 a6261 a6262 a6263 a6264 a6265 a6266 a6267 a6268 fn6272 a6273 a6277 (IntKind.i64.wrap (a6278 + 1)) (nth a6252 a6278) b6251 A6253 c6254 A6258 c6259 A6270 c6271 A6275 c6276 hr6255 hr6260 _ hg6556 ((((hS.pull 0 rfl rfl).pull 3 rfl rfl).pull 3 rfl rfl).pull 3 rfl rfl))) rfl rfl ?_
        rintro _ w ⟨A6559, c6560, rfl, hS⟩
        have hS : St B w (OSf E_api_Out 58 (.slice A6559 y6558.length c6560) y6558 :: OSl 2 1 (.slice A6270 16 c6271) 16 [.int .i64 (fn6272 0), .int .i64 (fn6272 1), .int .i64 (fn6272 2), .int .i64 (fn6272 3), .int .i64 (fn6272 4), .int .i64 (fn6272 5), .int .i64 (fn6272 6), .int .i64 (fn6272 7), .int .i64 (fn6272 8), .int .i64 (fn6272 9), .int .i64 (fn6272 10), .int .i64 (fn6272 11), .int .i64 (fn6272 12), .int .i64 (fn6272 13), .int .i64 (fn6272 14), .int .i64 (fn6272 15)] :: Cl b6251 [.slice A6253 a6252.length c6254, .int .i64 a6256, .slice A6258 a6257.length c6259, .int .u64 a6261, .int .i64 a6262, .int .i64 a6263, .int .i64 a6264, .int .i64 a6265, .int .i64 a6266, .int .i64 a6267, .bool a6268, .slice A6270 16 c6271, .int .i64 a6273, .slice A6559 y6558.length c6560, .int .i64 (IntKind.i64.wrap (a6278 + 1))] 79 :: Cl b6539 [.int .i64 ((nth a6252 a6278).Op), .int .i64 ((nth a6252 a6278).A), .int .i64 ((nth a6252 a6278).B), .int .i64 ((nth a6252 a6278).C)] 48 :: l) hf := hS
        refine RL.s (Vl.assign rfl) rfl ?_
        refine RL.nil ?_
        refine RQ.then_n ?_
        refine RC.seq ?_
        refine RC.region ?_
        refine RL.s (Vl.move rfl) rfl ?_
        refine RL.s (Vl.move rfl) rfl ?_
        refine RL.s (Vl.int rfl rfl rfl) rfl ?_
        refine RL.s (Vl.assign rfl) rfl ?_
        refine RL.s (Vl.assign rfl) rfl ?_
        refine RL.nil ?_
        refine RQ.then_n ?_
        refine RC.ret ?_
        refine RQ.inB_ret ?_
        refine RQ.ret ?_
        have e := h.some
        subst e
        refine RQ.ret0 (vs := [.int .i64 y6557, .bool (decide (y6557 = 0))]) Tryd.results24 ⟨rfl, rfl, trivial⟩ ?_
        exact ⟨A6559, c6560, rfl, (hS.dropAt 3 rfl)⟩
       case neg =>
        have h := h.neg hc6554
        refine RC.re 105 rfl (congrArg Value.bool (decide_eq_false hc6554)) ?_
        refine RC.condF rfl ?_
        refine RC.seq ?_
        refine RC.region ?_
        refine RL.s (Vl.int rfl rfl rfl) rfl ?_
        refine RL.s (Vl.assign rfl) rfl ?_
        refine RL.nil ?_
        refine RQ.then_n ?_
        by_cases hc6562 : (nth a6252 a6278).Op = 13
        case pos =>
         have h := h.pos hc6562
         refine RC.re 113 rfl (congrArg Value.bool (decide_eq_true hc6562)) ?_
         refine RC.condT rfl ?_
         refine RC.seq ?_
         refine RC.plan (.pure 0 (.pure 1 (.pure 2 (.cons 3 true (.pure 4 (.cons 5 true (.pure 6 (.pure 7 (.pure 8 (.pure 9 (.cons 10 true (.pure 11 (.pure 12 (.pure 13 (.pure 14 (.cons 15 true (.pure 16 (.pure 17 (.pure 18 (.cons 19 true (.pure 20 (.pure 21 (.pure 22 (.cons 23 true (.cons 24 false (.cons 25 false (.cons 26 false (.cons 27 false (.cons 28 false (.cons 29 false (.cons 30 false .nil))))))))))))))))))))))))))))))) [29, 30] (fun w => St B w (Cl b6539 [.int .i64 ((nth a6252 a6278).Op), .int .i64 ((nth a6252 a6278).A), .int .i64 ((nth a6252 a6278).B), .int .i64 ((nth a6252 a6278).C)] 48 :: OSl 2 1 (.slice A6270 16 c6271) 16 [.int .i64 (fn6272 0), .int .i64 (fn6272 1), .int .i64 (fn6272 2), .int .i64 (fn6272 3), .int .i64 (fn6272 4), .int .i64 (fn6272 5), .int .i64 (fn6272 6), .int .i64 (fn6272 7), .int .i64 (fn6272 8), .int .i64 (fn6272 9), .int .i64 (fn6272 10), .int .i64 (fn6272 11), .int .i64 (fn6272 12), .int .i64 (fn6272 13), .int .i64 (fn6272 14), .int .i64 (fn6272 15)] :: Cl b6251 [.slice A6253 a6252.length c6254, .int .i64 a6256, .slice A6258 a6257.length c6259, .int .u64 a6261, .int .i64 a6262, .int .i64 a6263, .int .i64 a6264, .int .i64 a6265, .int .i64 a6266, .int .i64 a6267, .bool a6268, .slice A6270 16 c6271, .int .i64 a6273, .slice A6275 a6277.length c6276, .int .i64 (IntKind.i64.wrap (a6278 + 1))] 79 :: OSf E_api_Out 58 (.slice A6275 a6277.length c6276) a6277 :: l) hf) follows rfl (by kernel_rfl) (NoTmp.then (NoTmp.block (NoTmp.then NoTmp.body))) ?_
         have hS := hS.same (w' := { w with drawn := w.drawn + 1 }) rfl rfl
         revert hS
         generalize { w with drawn := w.drawn + 1 } = w
         intro hS
         refine RP.s0 0 rfl (fun w => Vl.move rfl) rfl ?_
         refine RP.s0 1 rfl (fun w => Vl.nilCheck rfl) rfl ?_
         refine RP.s0 2 rfl (fun w => Vl.fieldAddr (a'' := ⟨b6251, 11, none⟩) Tryd.underlying79 rfl Tryd.sizeOf67 rfl rfl) rfl ?_
         refine RP.s 3 rfl rfl hS (fun w hS => Vl.load Tryd.isAgg67 rfl (hS.cell 2 rfl rfl)) rfl ?_
         refine RP.s0 4 rfl (fun w => Vl.fieldAddr (a'' := ⟨b6539, 1, none⟩) Tryd.underlying48 rfl Tryd.sizeOf3 rfl rfl) rfl ?_
         refine RP.s 5 rfl rfl hS (fun w hS => Vl.load Tryd.isAgg3 rfl (hS.cell 0 rfl rfl)) rfl ?_
         refine RP.s0 6 rfl (fun w => Vl.move rfl) rfl ?_
         refine RP.s0 7 rfl (fun w => Vl.nilCheck rfl) rfl ?_
         refine RP.s0 8 rfl (fun w => Vl.fieldAddr (a'' := ⟨b6251, 0, none⟩) Tryd.underlying79 rfl Tryd.sizeOf26 rfl rfl) rfl ?_
         refine RP.s0 9 rfl (fun w => Vl.fieldAddr (a'' := ⟨b6251, 3, none⟩) Tryd.underlying26 rfl Tryd.sizeOf24 rfl rfl) rfl ?_
         refine RP.s 10 rfl rfl hS (fun w hS => Vl.load Tryd.isAgg24 rfl (hS.cell 2 rfl rfl)) rfl ?_
         refine RP.s0 11 rfl (fun w => Vl.move rfl) rfl ?_
         refine RP.s0 12 rfl (fun w => Vl.nilCheck rfl) rfl ?_
         refine RP.s0 13 rfl (fun w => Vl.fieldAddr (a'' := ⟨b6251, 0, none⟩) Tryd.underlying79 rfl Tryd.sizeOf26 rfl rfl) rfl ?_
         refine RP.s0 14 rfl (fun w => Vl.fieldAddr (a'' := ⟨b6251, 1, none⟩) Tryd.underlying26 rfl Tryd.sizeOf3 rfl rfl) rfl ?_
         refine RP.s 15 rfl rfl hS (fun w hS => Vl.load Tryd.isAgg3 rfl (hS.cell 2 rfl rfl)) rfl ?_
         refine RP.s0 16 rfl (fun w => Vl.move rfl) rfl ?_
         refine RP.s0 17 rfl (fun w => Vl.nilCheck rfl) rfl ?_
         refine RP.s0 18 rfl (fun w => Vl.fieldAddr (a'' := ⟨b6251, 12, none⟩) Tryd.underlying79 rfl Tryd.sizeOf3 rfl rfl) rfl ?_
         refine RP.s 19 rfl rfl hS (fun w hS => Vl.load Tryd.isAgg3 rfl (hS.cell 2 rfl rfl)) rfl ?_
         refine RP.s0 20 rfl (fun w => Vl.move rfl) rfl ?_
         refine RP.s0 21 rfl (fun w => Vl.nilCheck rfl) rfl ?_
         refine RP.s0 22 rfl (fun w => Vl.fieldAddr (a'' := ⟨b6251, 11, none⟩) Tryd.underlying79 rfl Tryd.sizeOf67 rfl rfl) rfl ?_
         refine RP.s 23 rfl rfl hS (fun w hS => Vl.load Tryd.isAgg67 rfl (hS.cell 2 rfl rfl)) rfl ?_
         refine RP.v1 24 rfl (Vl.fieldAddr (a'' := ⟨b6539, 2, none⟩) Tryd.underlying48 rfl Tryd.sizeOf3 rfl rfl) rfl rfl ?_
         refine RP.v1 25 rfl (Vl.load Tryd.isAgg3 rfl (hS.cell 0 rfl rfl)) rfl rfl ?_
         obtain ⟨⟨hq6563, hq6564⟩, h⟩ := h.req
         refine RP.v1 26 rfl (Vl.indexAddr (a'' := (ad A6270).add (((nth a6252 a6278).B).toNat * 1)) Tryd.underlying67 Tryd.sizeOf2 rfl rfl (hS.litAdr 1 rfl (by decide)) hq6563 hq6564 rfl) rfl rfl ?_
         refine RP.v1 27 rfl (Vl.load Tryd.isAgg2 rfl (hS.litCell (j := ((nth a6252 a6278).B).toNat * 1) (cs := fc (Value.int .i64) 16 fn6272) 1 rfl (fc_get (by omega)))) rfl rfl ?_
         obtain ⟨t6565, hg6566, h⟩ := h.bind
         refine RP.e 28 rfl (OW.callF (ls := [.tmp 125, .tmp 130, .tmp 134, .tmp 142]) rfl Tryd.call42 (isochronref04vBelow.ok a6261 a6256 a6273 (fn6272 (((nth a6252 a6278).B).toNat * 1)) _ hg6566 hS)) rfl rfl ?_
         rintro _ w ⟨rfl, hS⟩
         have hS : St B w (Cl b6539 [.int .i64 ((nth a6252 a6278).Op), .int .i64 ((nth a6252 a6278).A), .int .i64 ((nth a6252 a6278).B), .int .i64 ((nth a6252 a6278).C)] 48 :: OSl 2 1 (.slice A6270 16 c6271) 16 [.int .i64 (fn6272 0), .int .i64 (fn6272 1), .int .i64 (fn6272 2), .int .i64 (fn6272 3), .int .i64 (fn6272 4), .int .i64 (fn6272 5), .int .i64 (fn6272 6), .int .i64 (fn6272 7), .int .i64 (fn6272 8), .int .i64 (fn6272 9), .int .i64 (fn6272 10), .int .i64 (fn6272 11), .int .i64 (fn6272 12), .int .i64 (fn6272 13), .int .i64 (fn6272 14), .int .i64 (fn6272 15)] :: Cl b6251 [.slice A6253 a6252.length c6254, .int .i64 a6256, .slice A6258 a6257.length c6259, .int .u64 a6261, .int .i64 a6262, .int .i64 a6263, .int .i64 a6264, .int .i64 a6265, .int .i64 a6266, .int .i64 a6267, .bool a6268, .slice A6270 16 c6271, .int .i64 a6273, .slice A6275 a6277.length c6276, .int .i64 (IntKind.i64.wrap (a6278 + 1))] 79 :: OSf E_api_Out 58 (.slice A6275 a6277.length c6276) a6277 :: l) hf := hS
         refine ⟨fun _ => hS, ?_⟩
         obtain ⟨⟨hq6567, hq6568⟩, h⟩ := h.req
         refine RP.v1 29 rfl (Vl.indexAddr (a'' := (ad A6270).add (((nth a6252 a6278).A).toNat * 1)) Tryd.underlying67 Tryd.sizeOf2 rfl rfl (hS.litAdr 1 rfl (by decide)) hq6567 hq6568 rfl) rfl rfl ?_
         refine RP.e0 30 rfl (OW.storeLitF (mk := (Value.int .i64)) (f := fn6272) (n := 16) (l' := Cl b6539 [.int .i64 ((nth a6252 a6278).Op), .int .i64 ((nth a6252 a6278).A), .int .i64 ((nth a6252 a6278).B), .int .i64 ((nth a6252 a6278).C)] 48 :: OSl 2 1 (.slice A6270 16 c6271) 16 [.int .i64 ((upd fn6272 (((nth a6252 a6278).A).toNat * 1) t6565) 0), .int .i64 ((upd fn6272 (((nth a6252 a6278).A).toNat * 1) t6565) 1), .int .i64 ((upd fn6272 (((nth a6252 a6278).A).toNat * 1) t6565) 2), .int .i64 ((upd fn6272 (((nth a6252 a6278).A).toNat * 1) t6565) 3), .int .i64 ((upd fn6272 (((nth a6252 a6278).A).toNat * 1) t6565) 4), .int .i64 ((upd fn6272 (((nth a6252 a6278).A).toNat * 1) t6565) 5), .int .i64 ((upd fn6272 (((nth a6252 a6278).A).toNat * 1) t6565) 6), .int .i64 ((upd fn6272 (((nth a6252 a6278).A).toNat * 1) t6565) 7), .int .i64 ((upd fn6272 (((nth a6252 a6278).A).toNat * 1) t6565) 8), .int .i64 ((upd fn6272 (((nth a6252 a6278).A).toNat * 1) t6565) 9), .int .i64 ((upd fn6272 (((nth a6252 a6278).A).toNat * 1) t6565) 10), .int .i64 ((upd fn6272 (((nth a6252 a6278).A).toNat * 1) t6565) 11), .int .i64 ((upd fn6272 (((nth a6252 a6278).A).toNat * 1) t6565) 12), .int .i64 ((upd fn6272 (((nth a6252 a6278).A).toNat * 1) t6565) 13), .int .i64 ((upd fn6272 (((nth a6252 a6278).A).toNat * 1) t6565) 14), .int .i64 ((upd fn6272 (((nth a6252 a6278).A).toNat * 1) t6565) 15)] :: Cl b6251 [.slice A6253 a6252.length c6254, .int .i64 a6256, .slice A6258 a6257.length c6259, .int .u64 a6261, .int .i64 a6262, .int .i64 a6263, .int .i64 a6264, .int .i64 a6265, .int .i64 a6266, .int .i64 a6267, .bool a6268, .slice A6270 16 c6271, .int .i64 a6273, .slice A6275 a6277.length c6276, .int .i64 (IntKind.i64.wrap (a6278 + 1))] 79 :: OSf E_api_Out 58 (.slice A6275 a6277.length c6276) a6277 :: l) 1 hS rfl rfl rfl Tryd.sizeOf2 (by omega) (fun _ => rfl) (fun _ => rfl) rfl) rfl ?_
         rintro _ w ⟨rfl, hS⟩
         have hS : St B w (Cl b6539 [.int .i64 ((nth a6252 a6278).Op), .int .i64 ((nth a6252 a6278).A), .int .i64 ((nth a6252 a6278).B), .int .i64 ((nth a6252 a6278).C)] 48 :: OSl 2 1 (.slice A6270 16 c6271) 16 [.int .i64 ((upd fn6272 (((nth a6252 a6278).A).toNat * 1) t6565) 0), .int .i64 ((upd fn6272 (((nth a6252 a6278).A).toNat * 1) t6565) 1), .int .i64 ((upd fn6272 (((nth a6252 a6278).A).toNat * 1) t6565) 2), .int .i64 ((upd fn6272 (((nth a6252 a6278).A).toNat * 1) t6565) 3), .int .i64 ((upd fn6272 (((nth a6252 a6278).A).toNat * 1) t6565) 4), .int .i64 ((upd fn6272 (((nth a6252 a6278).A).toNat * 1) t6565) 5), .int .i64 ((upd fn6272 (((nth a6252 a6278).A).toNat * 1) t6565) 6), .int .i64 ((upd fn6272 (((nth a6252 a6278).A).toNat * 1) t6565) 7), .int .i64 ((upd fn6272 (((nth a6252 a6278).A).toNat * 1) t6565) 8), .int .i64 ((upd fn6272 (((nth a6252 a6278).A).toNat * 1) t6565) 9), .int .i64 ((upd fn6272 (((nth a6252 a6278).A).toNat * 1) t6565) 10), .int .i64 ((upd fn6272 (((nth a6252 a6278).A).toNat * 1) t6565) 11), .int .i64 ((upd fn6272 (((nth a6252 a6278).A).toNat * 1) t6565) 12), .int .i64 ((upd fn6272 (((nth a6252 a6278).A).toNat * 1) t6565) 13), .int .i64 ((upd fn6272 (((nth a6252 a6278).A).toNat * 1) t6565) 14), .int .i64 ((upd fn6272 (((nth a6252 a6278).A).toNat * 1) t6565) 15)] :: Cl b6251 [.slice A6253 a6252.length c6254, .int .i64 a6256, .slice A6258 a6257.length c6259, .int .u64 a6261, .int .i64 a6262, .int .i64 a6263, .int .i64 a6264, .int .i64 a6265, .int .i64 a6266, .int .i64 a6267, .bool a6268, .slice A6270 16 c6271, .int .i64 a6273, .slice A6275 a6277.length c6276, .int .i64 (IntKind.i64.wrap (a6278 + 1))] 79 :: OSf E_api_Out 58 (.slice A6275 a6277.length c6276) a6277 :: l) hf := hS
         refine ⟨(by intro hx; cases hx), ?_⟩
         refine RP.nil ?_
         refine RQ.then_n ?_
         refine RC.region ?_
         refine RL.s (Vl.move rfl) rfl ?_
         refine RL.s (Vl.nilCheck rfl) rfl ?_
         refine RL.s (Vl.fieldAddr (a'' := ⟨b6251, 12, none⟩) Tryd.underlying79 rfl Tryd.sizeOf3 rfl rfl) rfl ?_
         refine RL.s (Vl.load Tryd.isAgg3 rfl (hS.cell 2 rfl rfl)) rfl ?_
         refine RL.s (Vl.int rfl rfl rfl) rfl ?_
         refine RL.s (Vl.nilCheck rfl) rfl ?_
         refine RL.s (Vl.fieldAddr (a'' := ⟨b6251, 12, none⟩) Tryd.underlying79 rfl Tryd.sizeOf3 rfl rfl) rfl ?_
         refine RL.e0 (OW.store (cs := [.slice A6253 a6252.length c6254, .int .i64 a6256, .slice A6258 a6257.length c6259, .int .u64 a6261, .int .i64 a6262, .int .i64 a6263, .int .i64 a6264, .int .i64 a6265, .int .i64 a6266, .int .i64 a6267, .bool a6268, .slice A6270 16 c6271, .int .i64 a6273, .slice A6275 a6277.length c6276, .int .i64 (IntKind.i64.wrap (a6278 + 1))]) (vs := [.int .i64 (IntKind.i64.wrap (a6273 + 1))]) (l' := Cl b6539 [.int .i64 ((nth a6252 a6278).Op), .int .i64 ((nth a6252 a6278).A), .int .i64 ((nth a6252 a6278).B), .int .i64 ((nth a6252 a6278).C)] 48 :: OSl 2 1 (.slice A6270 16 c6271) 16 [.int .i64 ((upd fn6272 (((nth a6252 a6278).A).toNat * 1) t6565) 0), .int .i64 ((upd fn6272 (((nth a6252 a6278).A).toNat * 1) t6565) 1), .int .i64 ((upd fn6272 (((nth a6252 a6278).A).toNat * 1) t6565) 2), .int .i64 ((upd fn6272 (((nth a6252 a6278).A).toNat * 1) t6565) 3), .int .i64 ((upd fn6272 (((nth a6252 a6278).A).toNat * 1) t6565) 4), .int .i64 ((upd fn6272 (((nth a6252 a6278).A).toNat * 1) t6565) 5), .int .i64 ((upd fn6272 (((nth a6252 a6278).A).toNat * 1) t6565) 6), .int .i64 ((upd fn6272 (((nth a6252 a6278).A).toNat * 1) t6565) 7), .int .i64 ((upd fn6272 (((nth a6252 a6278).A).toNat * 1) t6565) 8), .int .i64 ((upd fn6272 (((nth a6252 a6278).A).toNat * 1) t6565) 9), .int .i64 ((upd fn6272 (((nth a6252 a6278).A).toNat * 1) t6565) 10), .int .i64 ((upd fn6272 (((nth a6252 a6278).A).toNat * 1) t6565) 11), .int .i64 ((upd fn6272 (((nth a6252 a6278).A).toNat * 1) t6565) 12), .int .i64 ((upd fn6272 (((nth a6252 a6278).A).toNat * 1) t6565) 13), .int .i64 ((upd fn6272 (((nth a6252 a6278).A).toNat * 1) t6565) 14), .int .i64 ((upd fn6272 (((nth a6252 a6278).A).toNat * 1) t6565) 15)] :: Cl b6251 [.slice A6253 a6252.length c6254, .int .i64 a6256, .slice A6258 a6257.length c6259, .int .u64 a6261, .int .i64 a6262, .int .i64 a6263, .int .i64 a6264, .int .i64 a6265, .int .i64 a6266, .int .i64 a6267, .bool a6268, .slice A6270 16 c6271, .int .i64 (IntKind.i64.wrap (a6273 + 1)), .slice A6275 a6277.length c6276, .int .i64 (IntKind.i64.wrap (a6278 + 1))] 79 :: OSf E_api_Out 58 (.slice A6275 a6277.length c6276) a6277 :: l) 2 hS rfl rfl rfl rfl Tryd.sizeOf3 rfl rfl rfl rfl) rfl ?_
         rintro _ w ⟨rfl, hS⟩
         have hS : St B w (Cl b6539 [.int .i64 ((nth a6252 a6278).Op), .int .i64 ((nth a6252 a6278).A), .int .i64 ((nth a6252 a6278).B), .int .i64 ((nth a6252 a6278).C)] 48 :: OSl 2 1 (.slice A6270 16 c6271) 16 [.int .i64 ((upd fn6272 (((nth a6252 a6278).A).toNat * 1) t6565) 0), .int .i64 ((upd fn6272 (((nth a6252 a6278).A).toNat * 1) t6565) 1), .int .i64 ((upd fn6272 (((nth a6252 a6278).A).toNat * 1) t6565) 2), .int .i64 ((upd fn6272 (((nth a6252 a6278).A).toNat * 1) t6565) 3), .int .i64 ((upd fn6272 (((nth a6252 a6278).A).toNat * 1) t6565) 4), .int .i64 ((upd fn6272 (((nth a6252 a6278).A).toNat * 1) t6565) 5), .int .i64 ((upd fn6272 (((nth a6252 a6278).A).toNat * 1) t6565) 6), .int .i64 ((upd fn6272 (((nth a6252 a6278).A).toNat * 1) t6565) 7), .int .i64 ((upd fn6272 (((nth a6252 a6278).A).toNat * 1) t6565) 8), .int .i64 ((upd fn6272 (((nth a6252 a6278).A).toNat * 1) t6565) 9), .int .i64 ((upd fn6272 (((nth a6252 a6278).A).toNat * 1) t6565) 10), .int .i64 ((upd fn6272 (((nth a6252 a6278).A).toNat * 1) t6565) 11), .int .i64 ((upd fn6272 (((nth a6252 a6278).A).toNat * 1) t6565) 12), .int .i64 ((upd fn6272 (((nth a6252 a6278).A).toNat * 1) t6565) 13), .int .i64 ((upd fn6272 (((nth a6252 a6278).A).toNat * 1) t6565) 14), .int .i64 ((upd fn6272 (((nth a6252 a6278).A).toNat * 1) t6565) 15)] :: Cl b6251 [.slice A6253 a6252.length c6254, .int .i64 a6256, .slice A6258 a6257.length c6259, .int .u64 a6261, .int .i64 a6262, .int .i64 a6263, .int .i64 a6264, .int .i64 a6265, .int .i64 a6266, .int .i64 a6267, .bool a6268, .slice A6270 16 c6271, .int .i64 (IntKind.i64.wrap (a6273 + 1)), .slice A6275 a6277.length c6276, .int .i64 (IntKind.i64.wrap (a6278 + 1))] 79 :: OSf E_api_Out 58 (.slice A6275 a6277.length c6276) a6277 :: l) hf := hS
         refine RL.nil ?_
         refine RQ.inB_n ?_
         refine RQ.then_n ?_
         refine RC.seq ?_
         refine RC.region ?_
         refine RL.s (Vl.assign rfl) rfl ?_
         refine RL.s (Vl.assign rfl) rfl ?_
         refine RL.nil ?_
         refine RQ.then_n ?_
         refine RC.ret ?_
         have e := h.some
         subst e
         refine RQ.ret0 (vs := [.int .i64 0, .bool true]) Tryd.results24 ⟨rfl, rfl, trivial⟩ ?_
         exact ⟨A6275, c6276, rfl, ((((hS.dropAt 0 rfl).pull 1 rfl rfl).pull 1 rfl rfl).pull 2 rfl rfl)⟩
        case neg =>
         have h := h.neg hc6562
         refine RC.re 113 rfl (congrArg Value.bool (decide_eq_false hc6562)) ?_
         refine RC.condF rfl ?_
         refine RC.seq ?_
         refine RC.region ?_
         refine RL.s (Vl.int rfl rfl rfl) rfl ?_
         refine RL.s (Vl.assign rfl) rfl ?_
         refine RL.nil ?_
         refine RQ.then_n ?_
         by_cases hc6569 : (nth a6252 a6278).Op = 14
         case pos =>
          have h := h.pos hc6569
          refine RC.re 152 rfl (congrArg Value.bool (decide_eq_true hc6569)) ?_
          refine RC.condT rfl ?_
          refine RC.plan (.pure 0 (.pure 1 (.pure 2 (.cons 3 true (.pure 4 (.cons 5 true (.cons 6 false (.cons 7 false (.cons 8 false (.cons 9 false (.cons 10 false (.cons 11 false (.cons 12 false .nil))))))))))))) [11, 12] (fun w => St B w (Cl b6539 [.int .i64 ((nth a6252 a6278).Op), .int .i64 ((nth a6252 a6278).A), .int .i64 ((nth a6252 a6278).B), .int .i64 ((nth a6252 a6278).C)] 48 :: OSl 2 1 (.slice A6270 16 c6271) 16 [.int .i64 (fn6272 0), .int .i64 (fn6272 1), .int .i64 (fn6272 2), .int .i64 (fn6272 3), .int .i64 (fn6272 4), .int .i64 (fn6272 5), .int .i64 (fn6272 6), .int .i64 (fn6272 7), .int .i64 (fn6272 8), .int .i64 (fn6272 9), .int .i64 (fn6272 10), .int .i64 (fn6272 11), .int .i64 (fn6272 12), .int .i64 (fn6272 13), .int .i64 (fn6272 14), .int .i64 (fn6272 15)] :: Cl b6251 [.slice A6253 a6252.length c6254, .int .i64 a6256, .slice A6258 a6257.length c6259, .int .u64 a6261, .int .i64 a6262, .int .i64 a6263, .int .i64 a6264, .int .i64 a6265, .int .i64 a6266, .int .i64 a6267, .bool a6268, .slice A6270 16 c6271, .int .i64 a6273, .slice A6275 a6277.length c6276, .int .i64 (IntKind.i64.wrap (a6278 + 1))] 79 :: OSf E_api_Out 58 (.slice A6275 a6277.length c6276) a6277 :: l) hf) follows rfl (by kernel_rfl) (NoTmp.block (NoTmp.then NoTmp.body)) ?_
          have hS := hS.same (w' := { w with drawn := w.drawn + 1 }) rfl rfl
          revert hS
          generalize { w with drawn := w.drawn + 1 } = w
          intro hS
          refine RP.s0 0 rfl (fun w => Vl.move rfl) rfl ?_
          refine RP.s0 1 rfl (fun w => Vl.nilCheck rfl) rfl ?_
          refine RP.s0 2 rfl (fun w => Vl.fieldAddr (a'' := ⟨b6251, 11, none⟩) Tryd.underlying79 rfl Tryd.sizeOf67 rfl rfl) rfl ?_
          refine RP.s 3 rfl rfl hS (fun w hS => Vl.load Tryd.isAgg67 rfl (hS.cell 2 rfl rfl)) rfl ?_
          refine RP.s0 4 rfl (fun w => Vl.fieldAddr (a'' := ⟨b6539, 1, none⟩) Tryd.underlying48 rfl Tryd.sizeOf3 rfl rfl) rfl ?_
          refine RP.s 5 rfl rfl hS (fun w hS => Vl.load Tryd.isAgg3 rfl (hS.cell 0 rfl rfl)) rfl ?_
          refine RP.v1 6 rfl (Vl.move rfl) rfl rfl ?_
          refine RP.v1 7 rfl (Vl.nilCheck rfl) rfl rfl ?_
          refine RP.v1 8 rfl (Vl.fieldAddr (a'' := ⟨b6251, 4, none⟩) Tryd.underlying79 rfl Tryd.sizeOf33 rfl rfl) rfl rfl ?_
          refine RP.v1 9 rfl (Vl.fieldAddr (a'' := ⟨b6251, 8, none⟩) Tryd.underlying33 rfl Tryd.sizeOf2 rfl rfl) rfl rfl ?_
          refine RP.v1 10 rfl (Vl.load Tryd.isAgg2 rfl (hS.cell 2 rfl rfl)) rfl rfl ?_
          obtain ⟨⟨hq6570, hq6571⟩, h⟩ := h.req
          refine RP.v1 11 rfl (Vl.indexAddr (a'' := (ad A6270).add (((nth a6252 a6278).A).toNat * 1)) Tryd.underlying67 Tryd.sizeOf2 rfl rfl (hS.litAdr 1 rfl (by decide)) hq6570 hq6571 rfl) rfl rfl ?_
          refine RP.e0 12 rfl (OW.storeLitF (mk := (Value.int .i64)) (f := fn6272) (n := 16) (l' := Cl b6539 [.int .i64 ((nth a6252 a6278).Op), .int .i64 ((nth a6252 a6278).A), .int .i64 ((nth a6252 a6278).B), .int .i64 ((nth a6252 a6278).C)] 48 :: OSl 2 1 (.slice A6270 16 c6271) 16 [.int .i64 ((upd fn6272 (((nth a6252 a6278).A).toNat * 1) a6266) 0), .int .i64 ((upd fn6272 (((nth a6252 a6278).A).toNat * 1) a6266) 1), .int .i64 ((upd fn6272 (((nth a6252 a6278).A).toNat * 1) a6266) 2), .int .i64 ((upd fn6272 (((nth a6252 a6278).A).toNat * 1) a6266) 3), .int .i64 ((upd fn6272 (((nth a6252 a6278).A).toNat * 1) a6266) 4), .int .i64 ((upd fn6272 (((nth a6252 a6278).A).toNat * 1) a6266) 5), .int .i64 ((upd fn6272 (((nth a6252 a6278).A).toNat * 1) a6266) 6), .int .i64 ((upd fn6272 (((nth a6252 a6278).A).toNat * 1) a6266) 7), .int .i64 ((upd fn6272 (((nth a6252 a6278).A).toNat * 1) a6266) 8), .int .i64 ((upd fn6272 (((nth a6252 a6278).A).toNat * 1) a6266) 9), .int .i64 ((upd fn6272 (((nth a6252 a6278).A).toNat * 1) a6266) 10), .int .i64 ((upd fn6272 (((nth a6252 a6278).A).toNat * 1) a6266) 11), .int .i64 ((upd fn6272 (((nth a6252 a6278).A).toNat * 1) a6266) 12), .int .i64 ((upd fn6272 (((nth a6252 a6278).A).toNat * 1) a6266) 13), .int .i64 ((upd fn6272 (((nth a6252 a6278).A).toNat * 1) a6266) 14), .int .i64 ((upd fn6272 (((nth a6252 a6278).A).toNat * 1) a6266) 15)] :: Cl b6251 [.slice A6253 a6252.length c6254, .int .i64 a6256, .slice A6258 a6257.length c6259, .int .u64 a6261, .int .i64 a6262, .int .i64 a6263, .int .i64 a6264, .int .i64 a6265, .int .i64 a6266, .int .i64 a6267, .bool a6268, .slice A6270 16 c6271, .int .i64 a6273, .slice A6275 a6277.length c6276, .int .i64 (IntKind.i64.wrap (a6278 + 1))] 79 :: OSf E_api_Out 58 (.slice A6275 a6277.length c6276) a6277 :: l) 1 hS rfl rfl rfl Tryd.sizeOf2 (by omega) (fun _ => rfl) (fun _ => rfl) rfl) rfl ?_
          rintro _ w ⟨rfl, hS⟩
          have hS : St B w (Cl b6539 [.int .i64 ((nth a6252 a6278).Op), .int .i64 ((nth a6252 a6278).A), .int .i64 ((nth a6252 a6278).B), .int .i64 ((nth a6252 a6278).C)] 48 :: OSl 2 1 (.slice A6270 16 c6271) 16 [.int .i64 ((upd fn6272 (((nth a6252 a6278).A).toNat * 1) a6266) 0), .int .i64 ((upd fn6272 (((nth a6252 a6278).A).toNat * 1) a6266) 1), .int .i64 ((upd fn6272 (((nth a6252 a6278).A).toNat * 1) a6266) 2), .int .i64 ((upd fn6272 (((nth a6252 a6278).A).toNat * 1) a6266) 3), .int .i64 ((upd fn6272 (((nth a6252 a6278).A).toNat * 1) a6266) 4), .int .i64 ((upd fn6272 (((nth a6252 a6278).A).toNat * 1) a6266) 5), .int .i64 ((upd fn6272 (((nth a6252 a6278).A).toNat * 1) a6266) 6), .int .i64 ((upd fn6272 (((nth a6252 a6278).A).toNat * 1) a6266) 7), .int .i64 ((upd fn6272 (((nth a6252 a6278).A).toNat * 1) a6266) 8), .int .i64 ((upd fn6272 (((nth a6252 a6278).A).toNat * 1) a6266) 9), .int .i64 ((upd fn6272 (((nth a6252 a6278).A).toNat * 1) a6266) 10), .int .i64 ((upd fn6272 (((nth a6252 a6278).A).toNat * 1) a6266) 11), .int .i64 ((upd fn6272 (((nth a6252 a6278).A).toNat * 1) a6266) 12), .int .i64 ((upd fn6272 (((nth a6252 a6278).A).toNat * 1) a6266) 13), .int .i64 ((upd fn6272 (((nth a6252 a6278).A).toNat * 1) a6266) 14), .int .i64 ((upd fn6272 (((nth a6252 a6278).A).toNat * 1) a6266) 15)] :: Cl b6251 [.slice A6253 a6252.length c6254, .int .i64 a6256, .slice A6258 a6257.length c6259, .int .u64 a6261, .int .i64 a6262, .int .i64 a6263, .int .i64 a6264, .int .i64 a6265, .int .i64 a6266, .int .i64 a6267, .bool a6268, .slice A6270 16 c6271, .int .i64 a6273, .slice A6275 a6277.length c6276, .int .i64 (IntKind.i64.wrap (a6278 + 1))] 79 :: OSf E_api_Out 58 (.slice A6275 a6277.length c6276) a6277 :: l) hf := hS
          refine ⟨(by intro hx; cases hx), ?_⟩
          refine RP.nil ?_
          refine RQ.inB_n ?_
          refine RQ.then_n ?_
          refine RC.seq ?_
          refine RC.region ?_
          refine RL.s (Vl.assign rfl) rfl ?_
          refine RL.s (Vl.assign rfl) rfl ?_
          refine RL.nil ?_
          refine RQ.then_n ?_
          refine RC.ret ?_
          have e := h.some
          subst e
          refine RQ.ret0 (vs := [.int .i64 0, .bool true]) Tryd.results24 ⟨rfl, rfl, trivial⟩ ?_
          exact ⟨A6275, c6276, rfl, ((((hS.dropAt 0 rfl).pull 1 rfl rfl).pull 1 rfl rfl).pull 2 rfl rfl)⟩
         case neg =>
          have h := h.neg hc6569
          refine RC.re 152 rfl (congrArg Value.bool (decide_eq_false hc6569)) ?_
          refine RC.condF rfl ?_
          refine RC.seq ?_
          refine RC.region ?_
          refine RL.s (Vl.int rfl rfl rfl) rfl ?_
          refine RL.s (Vl.assign rfl) rfl ?_
          refine RL.nil ?_
          refine RQ.then_n ?_
          by_cases hc6572 : (nth a6252 a6278).Op = 15
          case pos =>
           have h := h.pos hc6572
           refine RC.re 166 rfl (congrArg Value.bool (decide_eq_true hc6572)) ?_
           refine RC.condT rfl ?_
           refine RC.plan (.pure 0 (.pure 1 (.pure 2 (.cons 3 true (.pure 4 (.cons 5 true (.cons 6 false (.cons 7 false (.cons 8 false (.cons 9 false (.cons 10 false (.cons 11 false (.cons 12 false (.cons 13 false .nil)))))))))))))) [12, 13] (fun w => St B w (Cl b6539 [.int .i64 ((nth a6252 a6278).Op), .int .i64 ((nth a6252 a6278).A), .int .i64 ((nth a6252 a6278).B), .int .i64 ((nth a6252 a6278).C)] 48 :: OSl 2 1 (.slice A6270 16 c6271) 16 [.int .i64 (fn6272 0), .int .i64 (fn6272 1), .int .i64 (fn6272 2), .int .i64 (fn6272 3), .int .i64 (fn6272 4), .int .i64 (fn6272 5), .int .i64 (fn6272 6), .int .i64 (fn6272 7), .int .i64 (fn6272 8), .int .i64 (fn6272 9), .int .i64 (fn6272 10), .int .i64 (fn6272 11), .int .i64 (fn6272 12), .int .i64 (fn6272 13), .int .i64 (fn6272 14), .int .i64 (fn6272 15)] :: Cl b6251 [.slice A6253 a6252.length c6254, .int .i64 a6256, .slice A6258 a6257.length c6259, .int .u64 a6261, .int .i64 a6262, .int .i64 a6263, .int .i64 a6264, .int .i64 a6265, .int .i64 a6266, .int .i64 a6267, .bool a6268, .slice A6270 16 c6271, .int .i64 a6273, .slice A6275 a6277.length c6276, .int .i64 (IntKind.i64.wrap (a6278 + 1))] 79 :: OSf E_api_Out 58 (.slice A6275 a6277.length c6276) a6277 :: l) hf) follows rfl (by kernel_rfl) (NoTmp.block (NoTmp.then NoTmp.body)) ?_
           have hS := hS.same (w' := { w with drawn := w.drawn + 1 }) rfl rfl
           revert hS
           generalize { w with drawn := w.drawn + 1 } = w
           intro hS
           refine RP.s0 0 rfl (fun w => Vl.move rfl) rfl ?_
           refine RP.s0 1 rfl (fun w => Vl.nilCheck rfl) rfl ?_
           refine RP.s0 2 rfl (fun w => Vl.fieldAddr (a'' := ⟨b6251, 11, none⟩) Tryd.underlying79 rfl Tryd.sizeOf67 rfl rfl) rfl ?_
           refine RP.s 3 rfl rfl hS (fun w hS => Vl.load Tryd.isAgg67 rfl (hS.cell 2 rfl rfl)) rfl ?_
           refine RP.s0 4 rfl (fun w => Vl.fieldAddr (a'' := ⟨b6539, 1, none⟩) Tryd.underlying48 rfl Tryd.sizeOf3 rfl rfl) rfl ?_
           refine RP.s 5 rfl rfl hS (fun w hS => Vl.load Tryd.isAgg3 rfl (hS.cell 0 rfl rfl)) rfl ?_
           refine RP.v1 6 rfl (Vl.move rfl) rfl rfl ?_
           refine RP.v1 7 rfl (Vl.nilCheck rfl) rfl rfl ?_
           refine RP.v1 8 rfl (Vl.fieldAddr (a'' := ⟨b6251, 4, none⟩) Tryd.underlying79 rfl Tryd.sizeOf33 rfl rfl) rfl rfl ?_
           refine RP.v1 9 rfl (Vl.fieldAddr (a'' := ⟨b6251, 4, none⟩) Tryd.underlying33 rfl Tryd.sizeOf31 rfl rfl) rfl rfl ?_
           refine RP.v1 10 rfl (Vl.fieldAddr (a'' := ⟨b6251, 4, none⟩) Tryd.underlying31 rfl Tryd.sizeOf2 rfl rfl) rfl rfl ?_
           refine RP.v1 11 rfl (Vl.load Tryd.isAgg2 rfl (hS.cell 2 rfl rfl)) rfl rfl ?_
           obtain ⟨⟨hq6573, hq6574⟩, h⟩ := h.req
           refine RP.v1 12 rfl (Vl.indexAddr (a'' := (ad A6270).add (((nth a6252 a6278).A).toNat * 1)) Tryd.underlying67 Tryd.sizeOf2 rfl rfl (hS.litAdr 1 rfl (by decide)) hq6573 hq6574 rfl) rfl rfl ?_
           refine RP.e0 13 rfl (OW.storeLitF (mk := (Value.int .i64)) (f := fn6272) (n := 16) (l' := Cl b6539 [.int .i64 ((nth a6252 a6278).Op), .int .i64 ((nth a6252 a6278).A), .int .i64 ((nth a6252 a6278).B), .int .i64 ((nth a6252 a6278).C)] 48 :: OSl 2 1 (.slice A6270 16 c6271) 16 [.int .i64 ((upd fn6272 (((nth a6252 a6278).A).toNat * 1) a6262) 0), .int .i64 ((upd fn6272 (((nth a6252 a6278).A).toNat * 1) a6262) 1), .int .i64 ((upd fn6272 (((nth a6252 a6278).A).toNat * 1) a6262) 2), .int .i64 ((upd fn6272 (((nth a6252 a6278).A).toNat * 1) a6262) 3), .int .i64 ((upd fn6272 (((nth a6252 a6278).A).toNat * 1) a6262) 4), .int .i64 ((upd fn6272 (((nth a6252 a6278).A).toNat * 1) a6262) 5), .int .i64 ((upd fn6272 (((nth a6252 a6278).A).toNat * 1) a6262) 6), .int .i64 ((upd fn6272 (((nth a6252 a6278).A).toNat * 1) a6262) 7), .int .i64 ((upd fn6272 (((nth a6252 a6278).A).toNat * 1) a6262) 8), .int .i64 ((upd fn6272 (((nth a6252 a6278).A).toNat * 1) a6262) 9), .int .i64 ((upd fn6272 (((nth a6252 a6278).A).toNat * 1) a6262) 10), .int .i64 ((upd fn6272 (((nth a6252 a6278).A).toNat * 1) a6262) 11), .int .i64 ((upd fn6272 (((nth a6252 a6278).A).toNat * 1) a6262) 12), .int .i64 ((upd fn6272 (((nth a6252 a6278).A).toNat * 1) a6262) 13), .int .i64 ((upd fn6272 (((nth a6252 a6278).A).toNat * 1) a6262) 14), .int .i64 ((upd fn6272 (((nth a6252 a6278).A).toNat * 1) a6262) 15)] :: Cl b6251 [.slice A6253 a6252.length c6254, .int .i64 a6256, .slice A6258 a6257.length c6259, .int .u64 a6261, .int .i64 a6262, .int .i64 a6263, .int .i64 a6264, .int .i64 a6265, .int .i64 a6266, .int .i64 a6267, .bool a6268, .slice A6270 16 c6271, .int .i64 a6273, .slice A6275 a6277.length c6276, .int .i64 (IntKind.i64.wrap (a6278 + 1))] 79 :: OSf E_api_Out 58 (.slice A6275 a6277.length c6276) a6277 :: l) 1 hS rfl rfl rfl Tryd.sizeOf2 (by omega) (fun _ => rfl) (fun _ => rfl) rfl) rfl ?_
           rintro _ w ⟨rfl, hS⟩
           have hS : St B w (Cl b6539 [.int .i64 ((nth a6252 a6278).Op), .int .i64 ((nth a6252 a6278).A), .int .i64 ((nth a6252 a6278).B), .int .i64 ((nth a6252 a6278).C)] 48 :: OSl 2 1 (.slice A6270 16 c6271) 16 [.int .i64 ((upd fn6272 (((nth a6252 a6278).A).toNat * 1) a6262) 0), .int .i64 ((upd fn6272 (((nth a6252 a6278).A).toNat * 1) a6262) 1), .int .i64 ((upd fn6272 (((nth a6252 a6278).A).toNat * 1) a6262) 2), .int .i64 ((upd fn6272 (((nth a6252 a6278).A).toNat * 1) a6262) 3), .int .i64 ((upd fn6272 (((nth a6252 a6278).A).toNat * 1) a6262) 4), .int .i64 ((upd fn6272 (((nth a6252 a6278).A).toNat * 1) a6262) 5), .int .i64 ((upd fn6272 (((nth a6252 a6278).A).toNat * 1) a6262) 6), .int .i64 ((upd fn6272 (((nth a6252 a6278).A).toNat * 1) a6262) 7), .int .i64 ((upd fn6272 (((nth a6252 a6278).A).toNat * 1) a6262) 8), .int .i64 ((upd fn6272 (((nth a6252 a6278).A).toNat * 1) a6262) 9), .int .i64 ((upd fn6272 (((nth a6252 a6278).A).toNat * 1) a6262) 10), .int .i64 ((upd fn6272 (((nth a6252 a6278).A).toNat * 1) a6262) 11), .int .i64 ((upd fn6272 (((nth a6252 a6278).A).toNat * 1) a6262) 12), .int .i64 ((upd fn6272 (((nth a6252 a6278).A).toNat * 1) a6262) 13), .int .i64 ((upd fn6272 (((nth a6252 a6278).A).toNat * 1) a6262) 14), .int .i64 ((upd fn6272 (((nth a6252 a6278).A).toNat * 1) a6262) 15)] :: Cl b6251 [.slice A6253 a6252.length c6254, .int .i64 a6256, .slice A6258 a6257.length c6259, .int .u64 a6261, .int .i64 a6262, .int .i64 a6263, .int .i64 a6264, .int .i64 a6265, .int .i64 a6266, .int .i64 a6267, .bool a6268, .slice A6270 16 c6271, .int .i64 a6273, .slice A6275 a6277.length c6276, .int .i64 (IntKind.i64.wrap (a6278 + 1))] 79 :: OSf E_api_Out 58 (.slice A6275 a6277.length c6276) a6277 :: l) hf := hS
           refine ⟨(by intro hx; cases hx), ?_⟩
           refine RP.nil ?_
           refine RQ.inB_n ?_
           refine RQ.then_n ?_
           refine RC.seq ?_
           refine RC.region ?_
           refine RL.s (Vl.assign rfl) rfl ?_
           refine RL.s (Vl.assign rfl) rfl ?_
           refine RL.nil ?_
           refine RQ.then_n ?_
           refine RC.ret ?_
           have e := h.some
           subst e
           refine RQ.ret0 (vs := [.int .i64 0, .bool true]) Tryd.results24 ⟨rfl, rfl, trivial⟩ ?_
           exact ⟨A6275, c6276, rfl, ((((hS.dropAt 0 rfl).pull 1 rfl rfl).pull 1 rfl rfl).pull 2 rfl rfl)⟩
          case neg =>
           have h := h.neg hc6572
           refine RC.re 166 rfl (congrArg Value.bool (decide_eq_false hc6572)) ?_
           refine RC.condF rfl ?_
           refine RC.seq ?_
           refine RC.region ?_
           refine RL.s (Vl.int rfl rfl rfl) rfl ?_
           refine RL.s (Vl.assign rfl) rfl ?_
           refine RL.nil ?_
           refine RQ.then_n ?_
           by_cases hc6575 : (nth a6252 a6278).Op = 16
           case pos =>
            have h := h.pos hc6575
            refine RC.re 181 rfl (congrArg Value.bool (decide_eq_true hc6575)) ?_
            refine RC.condT rfl ?_
            refine RC.plan (.pure 0 (.pure 1 (.pure 2 (.cons 3 true (.pure 4 (.cons 5 true (.cons 6 false (.cons 7 false (.cons 8 false (.cons 9 false (.cons 10 false (.cons 11 false (.cons 12 false .nil))))))))))))) [11, 12] (fun w => St B w (Cl b6539 [.int .i64 ((nth a6252 a6278).Op), .int .i64 ((nth a6252 a6278).A), .int .i64 ((nth a6252 a6278).B), .int .i64 ((nth a6252 a6278).C)] 48 :: OSl 2 1 (.slice A6270 16 c6271) 16 [.int .i64 (fn6272 0), .int .i64 (fn6272 1), .int .i64 (fn6272 2), .int .i64 (fn6272 3), .int .i64 (fn6272 4), .int .i64 (fn6272 5), .int .i64 (fn6272 6), .int .i64 (fn6272 7), .int .i64 (fn6272 8), .int .i64 (fn6272 9), .int .i64 (fn6272 10), .int .i64 (fn6272 11), .int .i64 (fn6272 12), .int .i64 (fn6272 13), .int .i64 (fn6272 14), .int .i64 (fn6272 15)] :: Cl b6251 [.slice A6253 a6252.length c6254, .int .i64 a6256, .slice A6258 a6257.length c6259, .int .u64 a6261, .int .i64 a6262, .int .i64 a6263, .int .i64 a6264, .int .i64 a6265, .int .i64 a6266, .int .i64 a6267, .bool a6268, .slice A6270 16 c6271, .int .i64 a6273, .slice A6275 a6277.length c6276, .int .i64 (IntKind.i64.wrap (a6278 + 1))] 79 :: OSf E_api_Out 58 (.slice A6275 a6277.length c6276) a6277 :: l) hf) follows rfl (by kernel_rfl) (NoTmp.block (NoTmp.then NoTmp.body)) ?_
            have hS := hS.same (w' := { w with drawn := w.drawn + 1 }) rfl rfl
            revert hS
            generalize { w with drawn := w.drawn + 1 } = w
            intro hS
            refine RP.s0 0 rfl (fun w => Vl.move rfl) rfl ?_
            refine RP.s0 1 rfl (fun w => Vl.nilCheck rfl) rfl ?_
            refine RP.s0 2 rfl (fun w => Vl.fieldAddr (a'' := ⟨b6251, 11, none⟩) Tryd.underlying79 rfl Tryd.sizeOf67 rfl rfl) rfl ?_
            refine RP.s 3 rfl rfl hS (fun w hS => Vl.load Tryd.isAgg67 rfl (hS.cell 2 rfl rfl)) rfl ?_
            refine RP.s0 4 rfl (fun w => Vl.fieldAddr (a'' := ⟨b6539, 1, none⟩) Tryd.underlying48 rfl Tryd.sizeOf3 rfl rfl) rfl ?_
            refine RP.s 5 rfl rfl hS (fun w hS => Vl.load Tryd.isAgg3 rfl (hS.cell 0 rfl rfl)) rfl ?_
            refine RP.v1 6 rfl (Vl.move rfl) rfl rfl ?_
            refine RP.v1 7 rfl (Vl.nilCheck rfl) rfl rfl ?_
            refine RP.v1 8 rfl (Vl.fieldAddr (a'' := ⟨b6251, 0, none⟩) Tryd.underlying79 rfl Tryd.sizeOf26 rfl rfl) rfl rfl ?_
            refine RP.v1 9 rfl (Vl.fieldAddr (a'' := ⟨b6251, 1, none⟩) Tryd.underlying26 rfl Tryd.sizeOf3 rfl rfl) rfl rfl ?_
            refine RP.v1 10 rfl (Vl.load Tryd.isAgg3 rfl (hS.cell 2 rfl rfl)) rfl rfl ?_
            obtain ⟨⟨hq6576, hq6577⟩, h⟩ := h.req
            refine RP.v1 11 rfl (Vl.indexAddr (a'' := (ad A6270).add (((nth a6252 a6278).A).toNat * 1)) Tryd.underlying67 Tryd.sizeOf2 rfl rfl (hS.litAdr 1 rfl (by decide)) hq6576 hq6577 rfl) rfl rfl ?_
            refine RP.e0 12 rfl (OW.storeLitF (mk := (Value.int .i64)) (f := fn6272) (n := 16) (l' := Cl b6539 [.int .i64 ((nth a6252 a6278).Op), .int .i64 ((nth a6252 a6278).A), .int .i64 ((nth a6252 a6278).B), .int .i64 ((nth a6252 a6278).C)] 48 :: OSl 2 1 (.slice A6270 16 c6271) 16 [.int .i64 ((upd fn6272 (((nth a6252 a6278).A).toNat * 1) a6256) 0), .int .i64 ((upd fn6272 (((nth a6252 a6278).A).toNat * 1) a6256) 1), .int .i64 ((upd fn6272 (((nth a6252 a6278).A).toNat * 1) a6256) 2), .int .i64 ((upd fn6272 (((nth a6252 a6278).A).toNat * 1) a6256) 3), .int .i64 ((upd fn6272 (((nth a6252 a6278).A).toNat * 1) a6256) 4), .int .i64 ((upd fn6272 (((nth a6252 a6278).A).toNat * 1) a6256) 5), .int .i64 ((upd fn6272 (((nth a6252 a6278).A).toNat * 1) a6256) 6), .int .i64 ((upd fn6272 (((nth a6252 a6278).A).toNat * 1) a6256) 7), .int .i64 ((upd fn6272 (((nth a6252 a6278).A).toNat * 1) a6256) 8), .int .i64 ((upd fn6272 (((nth a6252 a6278).A).toNat * 1) a6256) 9), .int .i64 ((upd fn6272 (((nth a6252 a6278).A).toNat * 1) a6256) 10), .int .i64 ((upd fn6272 (((nth a6252 a6278).A).toNat * 1) a6256) 11), .int .i64 ((upd fn6272 (((nth a6252 a6278).A).toNat * 1) a6256) 12), .int .i64 ((upd fn6272 (((nth a6252 a6278).A).toNat * 1) a6256) 13), .int .i64 ((upd fn6272 (((nth a6252 a6278).A).toNat * 1) a6256) 14), .int .i64 ((upd fn6272 (((nth a6252 a6278).A).toNat * 1) a6256) 15)] :: Cl b6251 [.slice A6253 a6252.length c6254, .int .i64 a6256, .slice A6258 a6257.length c6259, .int .u64 a6261, .int .i64 a6262, .int .i64 a6263, .int .i64 a6264, .int .i64 a6265, .int .i64 a6266, .int .i64 a6267, .bool a6268, .slice A6270 16 c6271, .int .i64 a6273, .slice A6275 a6277.length c6276, .int .i64 (IntKind.i64.wrap (a6278 + 1))] 79 :: OSf E_api_Out 58 (.slice A6275 a6277.length c6276) a6277 :: l) 1 hS rfl rfl rfl Tryd.sizeOf2 (by omega) (fun _ => rfl) (fun _ => rfl) rfl) rfl ?_
            rintro _ w ⟨rfl, hS⟩
            have hS : St B w (Cl b6539 [.int .i64 ((nth a6252 a6278).Op), .int .i64 ((nth a6252 a6278).A), .int .i64 ((nth a6252 a6278).B), .int .i64 ((nth a6252 a6278).C)] 48 :: OSl 2 1 (.slice A6270 16 c6271) 16 [.int .i64 ((upd fn6272 (((nth a6252 a6278).A).toNat * 1) a6256) 0), .int .i64 ((upd fn6272 (((nth a6252 a6278).A).toNat * 1) a6256) 1), .int .i64 ((upd fn6272 (((nth a6252 a6278).A).toNat * 1) a6256) 2), .int .i64 ((upd fn6272 (((nth a6252 a6278).A).toNat * 1) a6256) 3), .int .i64 ((upd fn6272 (((nth a6252 a6278).A).toNat * 1) a6256) 4), .int .i64 ((upd fn6272 (((nth a6252 a6278).A).toNat * 1) a6256) 5), .int .i64 ((upd fn6272 (((nth a6252 a6278).A).toNat * 1) a6256) 6), .int .i64 ((upd fn6272 (((nth a6252 a6278).A).toNat * 1) a6256) 7), .int .i64 ((upd fn6272 (((nth a6252 a6278).A).toNat * 1) a6256) 8), .int .i64 ((upd fn6272 (((nth a6252 a6278).A).toNat * 1) a6256) 9), .int .i64 ((upd fn6272 (((nth a6252 a6278).A).toNat * 1) a6256) 10), .int .i64 ((upd fn6272 (((nth a6252 a6278).A).toNat * 1) a6256) 11), .int .i64 ((upd fn6272 (((nth a6252 a6278).A).toNat * 1) a6256) 12), .int .i64 ((upd fn6272 (((nth a6252 a6278).A).toNat * 1) a6256) 13), .int .i64 ((upd fn6272 (((nth a6252 a6278).A).toNat * 1) a6256) 14), .int .i64 ((upd fn6272 (((nth a6252 a6278).A).toNat * 1) a6256) 15)] :: Cl b6251 [.slice A6253 a6252.length c6254, .int .i64 a6256, .slice A6258 a6257.length c6259, .int .u64 a6261, .int .i64 a6262, .int .i64 a6263, .int .i64 a6264, .int .i64 a6265, .int .i64 a6266, .int .i64 a6267, .bool a6268, .slice A6270 16 c6271, .int .i64 a6273, .slice A6275 a6277.length c6276, .int .i64 (IntKind.i64.wrap (a6278 + 1))] 79 :: OSf E_api_Out 58 (.slice A6275 a6277.length c6276) a6277 :: l) hf := hS
            refine ⟨(by intro hx; cases hx), ?_⟩
            refine RP.nil ?_
            refine RQ.inB_n ?_
            refine RQ.then_n ?_
            refine RC.seq ?_
            refine RC.region ?_
            refine RL.s (Vl.assign rfl) rfl ?_
            refine RL.s (Vl.assign rfl) rfl ?_
            refine RL.nil ?_
            refine RQ.then_n ?_
            refine RC.ret ?_
            have e := h.some
            subst e
            refine RQ.ret0 (vs := [.int .i64 0, .bool true]) Tryd.results24 ⟨rfl, rfl, trivial⟩ ?_
            exact ⟨A6275, c6276, rfl, ((((hS.dropAt 0 rfl).pull 1 rfl rfl).pull 1 rfl rfl).pull 2 rfl rfl)⟩
           case neg =>
            have h := h.neg hc6575
            refine RC.re 181 rfl (congrArg Value.bool (decide_eq_false hc6575)) ?_
            refine RC.condF rfl ?_
            refine RC.plan (.pure 0 (.pure 1 (.pure 2 (.cons 3 true (.pure 4 (.cons 5 true (.pure 6 (.cons 7 true (.pure 8 (.pure 9 (.pure 10 (.cons 11 true (.pure 12 (.cons 13 true (.cons 14 true (.cons 15 true (.pure 16 (.pure 17 (.pure 18 (.cons 19 true (.cons 20 false (.cons 21 false (.cons 22 false (.cons 23 false (.cons 24 false (.cons 25 false (.cons 26 false .nil))))))))))))))))))))))))))) [25, 26] (fun w => St B w (Cl b6539 [.int .i64 ((nth a6252 a6278).Op), .int .i64 ((nth a6252 a6278).A), .int .i64 ((nth a6252 a6278).B), .int .i64 ((nth a6252 a6278).C)] 48 :: OSl 2 1 (.slice A6270 16 c6271) 16 [.int .i64 (fn6272 0), .int .i64 (fn6272 1), .int .i64 (fn6272 2), .int .i64 (fn6272 3), .int .i64 (fn6272 4), .int .i64 (fn6272 5), .int .i64 (fn6272 6), .int .i64 (fn6272 7), .int .i64 (fn6272 8), .int .i64 (fn6272 9), .int .i64 (fn6272 10), .int .i64 (fn6272 11), .int .i64 (fn6272 12), .int .i64 (fn6272 13), .int .i64 (fn6272 14), .int .i64 (fn6272 15)] :: Cl b6251 [.slice A6253 a6252.length c6254, .int .i64 a6256, .slice A6258 a6257.length c6259, .int .u64 a6261, .int .i64 a6262, .int .i64 a6263, .int .i64 a6264, .int .i64 a6265, .int .i64 a6266, .int .i64 a6267, .bool a6268, .slice A6270 16 c6271, .int .i64 a6273, .slice A6275 a6277.length c6276, .int .i64 (IntKind.i64.wrap (a6278 + 1))] 79 :: OSf E_api_Out 58 (.slice A6275 a6277.length c6276) a6277 :: l) hf) follows rfl (by kernel_rfl) (NoTmp.block (NoTmp.then NoTmp.body)) ?_
            have hS := hS.same (w' := { w with drawn := w.drawn + 1 }) rfl rfl
            revert hS
            generalize { w with drawn := w.drawn + 1 } = w
            intro hS
            refine RP.s0 0 rfl (fun w => Vl.move rfl) rfl ?_
            refine RP.s0 1 rfl (fun w => Vl.nilCheck rfl) rfl ?_
            refine RP.s0 2 rfl (fun w => Vl.fieldAddr (a'' := ⟨b6251, 11, none⟩) Tryd.underlying79 rfl Tryd.sizeOf67 rfl rfl) rfl ?_
            refine RP.s 3 rfl rfl hS (fun w hS => Vl.load Tryd.isAgg67 rfl (hS.cell 2 rfl rfl)) rfl ?_
            refine RP.s0 4 rfl (fun w => Vl.fieldAddr (a'' := ⟨b6539, 1, none⟩) Tryd.underlying48 rfl Tryd.sizeOf3 rfl rfl) rfl ?_
            refine RP.s 5 rfl rfl hS (fun w hS => Vl.load Tryd.isAgg3 rfl (hS.cell 0 rfl rfl)) rfl ?_
            refine RP.s0 6 rfl (fun w => Vl.fieldAddr (a'' := ⟨b6539, 0, none⟩) Tryd.underlying48 rfl Tryd.sizeOf3 rfl rfl) rfl ?_
            refine RP.s 7 rfl rfl hS (fun w hS => Vl.load Tryd.isAgg3 rfl (hS.cell 0 rfl rfl)) rfl ?_
            refine RP.s0 8 rfl (fun w => Vl.move rfl) rfl ?_
            refine RP.s0 9 rfl (fun w => Vl.nilCheck rfl) rfl ?_
            refine RP.s0 10 rfl (fun w => Vl.fieldAddr (a'' := ⟨b6251, 11, none⟩) Tryd.underlying79 rfl Tryd.sizeOf67 rfl rfl) rfl ?_
            refine RP.s 11 rfl rfl hS (fun w hS => Vl.load Tryd.isAgg67 rfl (hS.cell 2 rfl rfl)) rfl ?_
            refine RP.s0 12 rfl (fun w => Vl.fieldAddr (a'' := ⟨b6539, 2, none⟩) Tryd.underlying48 rfl Tryd.sizeOf3 rfl rfl) rfl ?_
            refine RP.s 13 rfl rfl hS (fun w hS => Vl.load Tryd.isAgg3 rfl (hS.cell 0 rfl rfl)) rfl ?_
            obtain ⟨⟨hq6578, hq6579⟩, h⟩ := h.req
            refine RP.s 14 rfl rfl hS (fun w hS => Vl.indexAddr (a'' := (ad A6270).add (((nth a6252 a6278).B).toNat * 1)) Tryd.underlying67 Tryd.sizeOf2 rfl rfl (hS.litAdr 1 rfl (by decide)) hq6578 hq6579 rfl) rfl ?_
            refine RP.s 15 rfl rfl hS (fun w hS => Vl.load Tryd.isAgg2 rfl (hS.litCell (j := ((nth a6252 a6278).B).toNat * 1) (cs := fc (Value.int .i64) 16 fn6272) 1 rfl (fc_get (by omega)))) rfl ?_
            refine RP.s0 16 rfl (fun w => Vl.move rfl) rfl ?_
            refine RP.s0 17 rfl (fun w => Vl.nilCheck rfl) rfl ?_
            refine RP.s0 18 rfl (fun w => Vl.fieldAddr (a'' := ⟨b6251, 11, none⟩) Tryd.underlying79 rfl Tryd.sizeOf67 rfl rfl) rfl ?_
            refine RP.s 19 rfl rfl hS (fun w hS => Vl.load Tryd.isAgg67 rfl (hS.cell 2 rfl rfl)) rfl ?_
            refine RP.v1 20 rfl (Vl.fieldAddr (a'' := ⟨b6539, 3, none⟩) Tryd.underlying48 rfl Tryd.sizeOf3 rfl rfl) rfl rfl ?_
            refine RP.v1 21 rfl (Vl.load Tryd.isAgg3 rfl (hS.cell 0 rfl rfl)) rfl rfl ?_
            obtain ⟨⟨hq6580, hq6581⟩, h⟩ := h.req
            refine RP.v1 22 rfl (Vl.indexAddr (a'' := (ad A6270).add (((nth a6252 a6278).C).toNat * 1)) Tryd.underlying67 Tryd.sizeOf2 rfl rfl (hS.litAdr 1 rfl (by decide)) hq6580 hq6581 rfl) rfl rfl ?_
            refine RP.v1 23 rfl (Vl.load Tryd.isAgg2 rfl (hS.litCell (j := ((nth a6252 a6278).C).toNat * 1) (cs := fc (Value.int .i64) 16 fn6272) 1 rfl (fc_get (by omega)))) rfl rfl ?_
            obtain ⟨t6582, hg6583, h⟩ := h.bind
            refine RP.e 24 rfl (OW.callF (ls := [.tmp 33, .tmp 41, .tmp 49]) rfl Tryd.call43 (isochronref05vmath.ok ((nth a6252 a6278).Op) (fn6272 (((nth a6252 a6278).B).toNat * 1)) (fn6272 (((nth a6252 a6278).C).toNat * 1)) _ hg6583 hS)) rfl rfl ?_
            rintro _ w ⟨rfl, hS⟩
            have hS : St B w (Cl b6539 [.int .i64 ((nth a6252 a6278).Op), .int .i64 ((nth a6252 a6278).A), .int .i64 ((nth a6252 a6278).B), .int .i64 ((nth a6252 a6278).C)] 48 :: OSl 2 1 (.slice A6270 16 c6271) 16 [.int .i64 (fn6272 0), .int .i64 (fn6272 1), .int .i64 (fn6272 2), .int .i64 (fn6272 3), .int .i64 (fn6272 4), .int .i64 (fn6272 5), .int .i64 (fn6272 6), .int .i64 (fn6272 7), .int .i64 (fn6272 8), .int .i64 (fn6272 9), .int .i64 (fn6272 10), .int .i64 (fn6272 11), .int .i64 (fn6272 12), .int .i64 (fn6272 13), .int .i64 (fn6272 14), .int .i64 (fn6272 15)] :: Cl b6251 [.slice A6253 a6252.length c6254, .int .i64 a6256, .slice A6258 a6257.length c6259, .int .u64 a6261, .int .i64 a6262, .int .i64 a6263, .int .i64 a6264, .int .i64 a6265, .int .i64 a6266, .int .i64 a6267, .bool a6268, .slice A6270 16 c6271, .int .i64 a6273, .slice A6275 a6277.length c6276, .int .i64 (IntKind.i64.wrap (a6278 + 1))] 79 :: OSf E_api_Out 58 (.slice A6275 a6277.length c6276) a6277 :: l) hf := hS
            refine ⟨fun _ => hS, ?_⟩
            obtain ⟨⟨hq6584, hq6585⟩, h⟩ := h.req
            refine RP.v1 25 rfl (Vl.indexAddr (a'' := (ad A6270).add (((nth a6252 a6278).A).toNat * 1)) Tryd.underlying67 Tryd.sizeOf2 rfl rfl (hS.litAdr 1 rfl (by decide)) hq6584 hq6585 rfl) rfl rfl ?_
            refine RP.e0 26 rfl (OW.storeLitF (mk := (Value.int .i64)) (f := fn6272) (n := 16) (l' := Cl b6539 [.int .i64 ((nth a6252 a6278).Op), .int .i64 ((nth a6252 a6278).A), .int .i64 ((nth a6252 a6278).B), .int .i64 ((nth a6252 a6278).C)] 48 :: OSl 2 1 (.slice A6270 16 c6271) 16 [.int .i64 ((upd fn6272 (((nth a6252 a6278).A).toNat * 1) t6582) 0), .int .i64 ((upd fn6272 (((nth a6252 a6278).A).toNat * 1) t6582) 1), .int .i64 ((upd fn6272 (((nth a6252 a6278).A).toNat * 1) t6582) 2), .int .i64 ((upd fn6272 (((nth a6252 a6278).A).toNat * 1) t6582) 3), .int .i64 ((upd fn6272 (((nth a6252 a6278).A).toNat * 1) t6582) 4), .int .i64 ((upd fn6272 (((nth a6252 a6278).A).toNat * 1) t6582) 5), .int .i64 ((upd fn6272 (((nth a6252 a6278).A).toNat * 1) t6582) 6), .int .i64 ((upd fn6272 (((nth a6252 a6278).A).toNat * 1) t6582) 7), .int .i64 ((upd fn6272 (((nth a6252 a6278).A).toNat * 1) t6582) 8), .int .i64 ((upd fn6272 (((nth a6252 a6278).A).toNat * 1) t6582) 9), .int .i64 ((upd fn6272 (((nth a6252 a6278).A).toNat * 1) t6582) 10), .int .i64 ((upd fn6272 (((nth a6252 a6278).A).toNat * 1) t6582) 11), .int .i64 ((upd fn6272 (((nth a6252 a6278).A).toNat * 1) t6582) 12), .int .i64 ((upd fn6272 (((nth a6252 a6278).A).toNat * 1) t6582) 13), .int .i64 ((upd fn6272 (((nth a6252 a6278).A).toNat * 1) t6582) 14), .int .i64 ((upd fn6272 (((nth a6252 a6278).A).toNat * 1) t6582) 15)] :: Cl b6251 [.slice A6253 a6252.length c6254, .int .i64 a6256, .slice A6258 a6257.length c6259, .int .u64 a6261, .int .i64 a6262, .int .i64 a6263, .int .i64 a6264, .int .i64 a6265, .int .i64 a6266, .int .i64 a6267, .bool a6268, .slice A6270 16 c6271, .int .i64 a6273, .slice A6275 a6277.length c6276, .int .i64 (IntKind.i64.wrap (a6278 + 1))] 79 :: OSf E_api_Out 58 (.slice A6275 a6277.length c6276) a6277 :: l) 1 hS rfl rfl rfl Tryd.sizeOf2 (by omega) (fun _ => rfl) (fun _ => rfl) rfl) rfl ?_
            rintro _ w ⟨rfl, hS⟩
            have hS : St B w (Cl b6539 [.int .i64 ((nth a6252 a6278).Op), .int .i64 ((nth a6252 a6278).A), .int .i64 ((nth a6252 a6278).B), .int .i64 ((nth a6252 a6278).C)] 48 :: OSl 2 1 (.slice A6270 16 c6271) 16 [.int .i64 ((upd fn6272 (((nth a6252 a6278).A).toNat * 1) t6582) 0), .int .i64 ((upd fn6272 (((nth a6252 a6278).A).toNat * 1) t6582) 1), .int .i64 ((upd fn6272 (((nth a6252 a6278).A).toNat * 1) t6582) 2), .int .i64 ((upd fn6272 (((nth a6252 a6278).A).toNat * 1) t6582) 3), .int .i64 ((upd fn6272 (((nth a6252 a6278).A).toNat * 1) t6582) 4), .int .i64 ((upd fn6272 (((nth a6252 a6278).A).toNat * 1) t6582) 5), .int .i64 ((upd fn6272 (((nth a6252 a6278).A).toNat * 1) t6582) 6), .int .i64 ((upd fn6272 (((nth a6252 a6278).A).toNat * 1) t6582) 7), .int .i64 ((upd fn6272 (((nth a6252 a6278).A).toNat * 1) t6582) 8), .int .i64 ((upd fn6272 (((nth a6252 a6278).A).toNat * 1) t6582) 9), .int .i64 ((upd fn6272 (((nth a6252 a6278).A).toNat * 1) t6582) 10), .int .i64 ((upd fn6272 (((nth a6252 a6278).A).toNat * 1) t6582) 11), .int .i64 ((upd fn6272 (((nth a6252 a6278).A).toNat * 1) t6582) 12), .int .i64 ((upd fn6272 (((nth a6252 a6278).A).toNat * 1) t6582) 13), .int .i64 ((upd fn6272 (((nth a6252 a6278).A).toNat * 1) t6582) 14), .int .i64 ((upd fn6272 (((nth a6252 a6278).A).toNat * 1) t6582) 15)] :: Cl b6251 [.slice A6253 a6252.length c6254, .int .i64 a6256, .slice A6258 a6257.length c6259, .int .u64 a6261, .int .i64 a6262, .int .i64 a6263, .int .i64 a6264, .int .i64 a6265, .int .i64 a6266, .int .i64 a6267, .bool a6268, .slice A6270 16 c6271, .int .i64 a6273, .slice A6275 a6277.length c6276, .int .i64 (IntKind.i64.wrap (a6278 + 1))] 79 :: OSf E_api_Out 58 (.slice A6275 a6277.length c6276) a6277 :: l) hf := hS
            refine ⟨(by intro hx; cases hx), ?_⟩
            refine RP.nil ?_
            refine RQ.inB_n ?_
            refine RQ.then_n ?_
            refine RC.seq ?_
            refine RC.region ?_
            refine RL.s (Vl.assign rfl) rfl ?_
            refine RL.s (Vl.assign rfl) rfl ?_
            refine RL.nil ?_
            refine RQ.then_n ?_
            refine RC.ret ?_
            have e := h.some
            subst e
            refine RQ.ret0 (vs := [.int .i64 0, .bool true]) Tryd.results24 ⟨rfl, rfl, trivial⟩ ?_
            exact ⟨A6275, c6276, rfl, ((((hS.dropAt 0 rfl).pull 1 rfl rfl).pull 1 rfl rfl).pull 2 rfl rfl)⟩

end Go.Proofs.Gx
