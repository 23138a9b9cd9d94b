/-
  The walks of functions, each with what it computes: printed by wip/gx.py.
-/
import Derived.Test.YtihfmpohdadciaaDoorW0
import Derived.Test.YtihfmpohdadciaaDoorW1
import Derived.Test.YtihfmpohdadciaaDoorW2
import Derived.Test.YtihfmpohdadciaaDoorW3
set_option linter.unusedVariables false
namespace Go.Proofs.Gx
open Go.Sl
/-! ### isochron/isochronlaw13.ModelStarts: function 5 -/
noncomputable def isochronlaw13vModelStarts.l4b (t4056 : List api_Message) (t4061 : List api_Message) : Int → Option ((Int) ⊕ (Bool))
  | (x4101) => (if x4101 < (t4056.length : Int) then (if 0 ≤ x4101 then (if x4101 < (t4061.length : Int) then (if (⟨(nth t4056 x4101).Key, (nth t4056 x4101).To, (nth t4056 x4101).Value, (nth t4056 x4101).Uid, ((nth t4056 x4101).Anti)⟩ : api_Message) = (⟨(nth t4061 x4101).Key, (nth t4061 x4101).To, (nth t4061 x4101).Value, (nth t4061 x4101).Uid, ((nth t4061 x4101).Anti)⟩ : api_Message) then some (.inl (IntKind.i64.wrap (x4101 + 1))) else some (.inr false)) else none) else none) else (Option.map Sum.inr ((isochronlaw13vawake.f).bind fun t4120 => some t4120)))
noncomputable def isochronlaw13vModelStarts.l4 (t4056 : List api_Message) (t4061 : List api_Message) (s : Int) : Option (Bool) := loopR (isochronlaw13vModelStarts.l4b t4056 t4061) s
noncomputable def isochronlaw13vModelStarts.f (a3614 : api_Model) : Option (Bool) := ((model_Starts.f a3614).bind fun t4056 => ((isochronref13vStarts.f a3614).bind fun t4061 => (if (t4056.length : Int) = (t4061.length : Int) then isochronlaw13vModelStarts.l4 t4056 t4061 (0) else some false)))
set_option maxRecDepth 100000 in
set_option maxHeartbeats 4000000 in
theorem isochronlaw13vModelStarts.ok {B : Base} {w : World} {l : List HProp} {hf : Hp} (a3614 : api_Model) (A3615 : Option Addr) (c3616 : Nat) (A3618 : Option Addr) (c3619 : Nat) (A3621 : Option Addr) (c3622 : Nat) (hr3617 : SlR (Rep.sl E_api_Instr.rep) hf A3615 c3616 a3614.Progs) (hr3620 : SlR E_api_Link.rep hf A3618 c3619 a3614.Links) (hr3623 : SlR E_api_Start.rep hf A3621 c3622 a3614.Starts) (hG0 : GlobAt hf 0 (.iface 96 (.agg #[.pointer (some ⟨1, 66, none⟩)]))) (r : Bool) (h : isochronlaw13vModelStarts.f a3614 = some r) (hS : St B w (l) hf) :
    Calls Tryd.prog 5 #[.agg #[.slice A3615 a3614.Progs.length c3616, .slice A3618 a3614.Links.length c3619, .slice A3621 a3614.Starts.length c3622, .int .u64 a3614.Seed, .int .i64 a3614.End, .int .i64 a3614.Budget]] w (Ret fun v w => v = .bool r ∧ St B w (l) hf) := by
  have h := Holds.of h
  refine enter (args := [.agg #[.slice A3615 a3614.Progs.length c3616, .slice A3618 a3614.Links.length c3619, .slice A3621 a3614.Starts.length c3622, .int .u64 a3614.Seed, .int .i64 a3614.End, .int .i64 a3614.Budget]]) Tryd.func5 rfl Tryd.ntmps5 (Nat.le_of_ble_eq_true rfl) ?_
  refine RC.seq ?_
  refine RC.region ?_
  refine RL.e (OW.box (cs := [.slice A3615 a3614.Progs.length c3616, .slice A3618 a3614.Links.length c3619, .slice A3621 a3614.Starts.length c3622, .int .u64 a3614.Seed, .int .i64 a3614.End, .int .i64 a3614.Budget]) hS rfl rfl) rfl rfl ?_
  rintro _ w ⟨b4055, rfl, hS⟩
  have hS : St B w (Cl b4055 [.slice A3615 a3614.Progs.length c3616, .slice A3618 a3614.Links.length c3619, .slice A3621 a3614.Starts.length c3622, .int .u64 a3614.Seed, .int .i64 a3614.End, .int .i64 a3614.Budget] 27 :: l) hf := hS
  refine RL.s (Vl.assign rfl) rfl ?_
  refine RL.nil ?_
  refine RQ.then_n ?_
  refine RC.seq ?_
  refine RC.region ?_
  refine RL.s (Vl.loadA (vs := [.slice A3615 a3614.Progs.length c3616, .slice A3618 a3614.Links.length c3619, .slice A3621 a3614.Starts.length c3622, .int .u64 a3614.Seed, .int .i64 a3614.End, .int .i64 a3614.Budget]) Tryd.isAgg27 Tryd.sizeOf27 rfl rfl (hS.cellsAt 0 rfl rfl)) rfl ?_
  obtain ⟨t4056, hg4057, h⟩ := h.bind
  refine RL.e (OW.callF (ls := [.tmp 6]) rfl Tryd.call12 (model_Starts.ok a3614 A3615 c3616 A3618 c3619 A3621 c3622 hr3617 hr3620 hr3623 _ hg4057 hS)) rfl rfl ?_
  rintro _ w ⟨A4058, c4059, rfl, hS⟩
  have hS : St B w (OSf E_api_Message 46 (.slice A4058 t4056.length c4059) t4056 :: Cl b4055 [.slice A3615 a3614.Progs.length c3616, .slice A3618 a3614.Links.length c3619, .slice A3621 a3614.Starts.length c3622, .int .u64 a3614.Seed, .int .i64 a3614.End, .int .i64 a3614.Budget] 27 :: l) hf := hS
  refine RL.s (Vl.assign rfl) rfl ?_
  refine RL.nil ?_
  refine RQ.then_n ?_
  refine RC.seq ?_
  refine RC.region ?_
  refine RL.s (Vl.loadA (vs := [.slice A3615 a3614.Progs.length c3616, .slice A3618 a3614.Links.length c3619, .slice A3621 a3614.Starts.length c3622, .int .u64 a3614.Seed, .int .i64 a3614.End, .int .i64 a3614.Budget]) Tryd.isAgg27 Tryd.sizeOf27 rfl rfl (hS.cellsAt 1 rfl rfl)) rfl ?_
  obtain ⟨t4061, hg4062, h⟩ := h.bind
  refine RL.e (OW.callF (ls := [.tmp 8]) rfl Tryd.call13 (isochronref13vStarts.ok a3614 A3615 c3616 A3618 c3619 A3621 c3622 hr3617 hr3620 hr3623 _ hg4062 hS)) rfl rfl ?_
  rintro _ w ⟨A4063, c4064, rfl, hS⟩
  have hS : St B w (OSf E_api_Message 46 (.slice A4063 t4061.length c4064) t4061 :: OSf E_api_Message 46 (.slice A4058 t4056.length c4059) t4056 :: Cl b4055 [.slice A3615 a3614.Progs.length c3616, .slice A3618 a3614.Links.length c3619, .slice A3621 a3614.Starts.length c3622, .int .u64 a3614.Seed, .int .i64 a3614.End, .int .i64 a3614.Budget] 27 :: l) hf := hS
  refine RL.s (Vl.assign rfl) rfl ?_
  refine RL.nil ?_
  refine RQ.then_n ?_
  refine RC.seq ?_
  refine RC.seq ?_
  refine RC.region ?_
  refine RL.s (Vl.move rfl) rfl ?_
  refine RL.s (Vl.lenSl Tryd.underlying41 rfl) rfl ?_
  refine RL.s (Vl.move rfl) rfl ?_
  refine RL.s (Vl.lenSl Tryd.underlying41 rfl) rfl ?_
  refine RL.s (Vl.int rfl rfl rfl) rfl ?_
  refine RL.nil ?_
  refine RQ.then_n ?_
  by_cases hc4067 : (t4056.length : Int) = (t4061.length : Int)
  case pos =>
    have h := h.pos hc4067
    refine RC.re 14 rfl (congrArg Value.bool (notdec_pos hc4067)) ?_
    refine RC.condF rfl ?_
    refine RC.skip ?_
    refine RQ.then_n ?_
    refine RC.seq ?_
    refine RC.seq ?_
    refine RC.region ?_
    refine RL.s (Vl.assign rfl) rfl ?_
    refine RL.nil ?_
    refine RQ.then_n ?_
    refine RC.block ?_
    refine fun a ha => RC.loop (N := 31) (body := (isochronlaw13vModelStarts.l4b t4056 t4061)) (φ := (· = r)) (fun (s : Int) a w => ∃ (x4101 : Int), s = (x4101) ∧ Has 31 [(3, .slice A4058 t4056.length c4059), (4, .slice A4063 t4061.length c4064), (5, .int .i64 x4101)] a ∧ St B w (OSf E_api_Message 46 (.slice A4058 t4056.length c4059) t4056 :: OSf E_api_Message 46 (.slice A4063 t4061.length c4064) t4061 :: l) hf) ?_ (s0 := (0)) h ⟨0, rfl, ha.to ⟨rfl, rfl, rfl, trivial⟩, (((hS.dropAt 2 rfl).pull 0 rfl rfl).pull 1 rfl rfl)⟩
    rintro G4111 x4101 a w ⟨_, rfl, ha, hS⟩ h
    revert a
    show RC _ _ _ _ _ _
    refine RC.seq ?_
    refine RC.seq ?_
    refine RC.region ?_
    refine RL.s (Vl.move rfl) rfl ?_
    refine RL.s (Vl.move rfl) rfl ?_
    refine RL.s (Vl.lenSl Tryd.underlying41 rfl) rfl ?_
    refine RL.s (Vl.int rfl rfl rfl) rfl ?_
    refine RL.nil ?_
    refine RQ.then_n ?_
    by_cases hc4113 : x4101 < (t4056.length : Int)
    case pos =>
      have h := h.pos hc4113
      refine RC.re 18 rfl (congrArg Value.bool (decide_eq_true hc4113)) ?_
      refine RC.condT rfl ?_
      refine RC.skip ?_
      refine RQ.then_n ?_
      refine RC.seq ?_
      refine RC.block ?_
      refine RC.seq ?_
      refine RC.plan (.cons 0 true (.cons 1 true (.cons 2 true (.cons 3 true (.cons 4 true (.cons 5 false (.cons 6 false (.cons 7 false (.cons 8 false .nil))))))))) [] (fun w => St B w (OSf E_api_Message 46 (.slice A4058 t4056.length c4059) t4056 :: OSf E_api_Message 46 (.slice A4063 t4061.length c4064) t4061 :: l) hf) follows rfl (by kernel_rfl) (NoTmp.then (NoTmp.block (NoTmp.then (NoTmp.then (NoTmp.block (NoTmp.then NoTmp.body)))))) ?_
      have hS := hS.same (w' := { w with drawn := w.drawn + 1 }) rfl rfl
      revert hS
      generalize { w with drawn := w.drawn + 1 } = w
      intro hS
      refine RP.s 0 rfl rfl hS (fun w hS => Vl.move rfl) rfl ?_
      refine RP.s 1 rfl rfl hS (fun w hS => Vl.move rfl) rfl ?_
      obtain ⟨hq4117, h⟩ := h.req
      refine RP.s 2 rfl rfl hS (fun w hS => Vl.indexAddr Tryd.underlying41 Tryd.sizeOf46 rfl rfl ((hS.slW 0 rfl).2.2.adr hq4117 hc4113) hq4117 hc4113 rfl) rfl ?_
      refine RP.s 3 rfl rfl hS (fun w hS => Vl.loadA Tryd.isAgg46 Tryd.sizeOf46 rfl rfl ((hS.slW 0 rfl).2.2.cells hq4117 hc4113)) rfl ?_
      refine RP.s 4 rfl rfl hS (fun w hS => Vl.move rfl) rfl ?_
      refine RP.v1 5 rfl (fun _ => hS) (Vl.move rfl) rfl rfl ?_
      obtain ⟨hq4118, h⟩ := h.req
      refine RP.v1 6 rfl (fun _ => hS) (Vl.indexAddr Tryd.underlying41 Tryd.sizeOf46 rfl rfl ((hS.slW 1 rfl).2.2.adr hq4117 hq4118) hq4117 hq4118 rfl) rfl rfl ?_
      refine RP.v1 7 rfl (fun _ => hS) (Vl.loadA Tryd.isAgg46 Tryd.sizeOf46 rfl rfl ((hS.slW 1 rfl).2.2.cells hq4117 hq4118)) rfl rfl ?_
      refine RP.v1 8 rfl (fun _ => hS) (Vl.neqS (run_neq_api_Message _ _ (⟨(nth t4056 x4101).Key, (nth t4056 x4101).To, (nth t4056 x4101).Value, (nth t4056 x4101).Uid, ((nth t4056 x4101).Anti)⟩ : api_Message) (⟨(nth t4061 x4101).Key, (nth t4061 x4101).To, (nth t4061 x4101).Value, (nth t4061 x4101).Uid, ((nth t4061 x4101).Anti)⟩ : api_Message)) rfl rfl) rfl rfl ?_
      refine RP.nil ?_
      refine RQ.then_n ?_
      by_cases hc4119 : (⟨(nth t4056 x4101).Key, (nth t4056 x4101).To, (nth t4056 x4101).Value, (nth t4056 x4101).Uid, ((nth t4056 x4101).Anti)⟩ : api_Message) = (⟨(nth t4061 x4101).Key, (nth t4061 x4101).To, (nth t4061 x4101).Value, (nth t4061 x4101).Uid, ((nth t4061 x4101).Anti)⟩ : api_Message)
      case pos =>
        have h := h.pos hc4119
        refine RC.re 29 rfl (congrArg Value.bool (notdec_pos hc4119)) ?_
        refine RC.condF rfl ?_
        refine RC.skip ?_
        refine RQ.inB_n ?_
        refine RQ.then_n ?_
        refine RC.region ?_
        refine RL.s (Vl.move rfl) rfl ?_
        refine RL.s (Vl.int rfl rfl rfl) rfl ?_
        refine RL.s (Vl.assign rfl) rfl ?_
        refine RL.nil ?_
        exact fun a ha => ⟨(IntKind.i64.wrap (x4101 + 1)), ⟨(IntKind.i64.wrap (x4101 + 1)), rfl, ha.to ⟨rfl, rfl, rfl, trivial⟩, hS⟩, h.some⟩
      case neg =>
        have h := h.neg hc4119
        refine RC.re 29 rfl (congrArg Value.bool (notdec_neg hc4119)) ?_
        refine RC.condT rfl ?_
        refine RC.seq ?_
        refine RC.region ?_
        refine RL.s (Vl.assign rfl) rfl ?_
        refine RL.nil ?_
        refine RQ.then_n ?_
        refine RC.ret ?_
        refine RQ.inB_ret ?_
        refine RQ.ret ?_
        have h := h.inrS
        refine RQ.ret ?_
        refine RQ.inB_ret ?_
        refine RQ.ret ?_
        have e := h.some
        subst e
        refine RQ.ret0 (vs := [.bool false]) Tryd.results5 ⟨rfl, trivial⟩ ?_
        exact ⟨rfl, ((hS.dropAt 0 rfl).dropAt 0 rfl)⟩
    case neg =>
      have h := h.neg hc4113
      refine RC.re 18 rfl (congrArg Value.bool (decide_eq_false hc4113)) ?_
      refine RC.condF rfl ?_
      refine RC.exit ?_
      refine RQ.exitT ?_
      have h := h.inr
      refine RQ.exitT ?_
      refine RQ.inB_hit ?_
      refine RQ.then_n ?_
      refine RC.seq ?_
      refine RC.region ?_
      obtain ⟨t4120, hg4121, h⟩ := h.bind
      refine RL.e (OW.callF (ls := []) rfl Tryd.call11 (isochronlaw13vawake.ok hG0 _ hg4121 hS)) rfl rfl ?_
      rintro _ w ⟨rfl, hS⟩
      have hS : St B w (OSf E_api_Message 46 (.slice A4058 t4056.length c4059) t4056 :: OSf E_api_Message 46 (.slice A4063 t4061.length c4064) t4061 :: l) hf := hS
      refine RL.s (Vl.assign rfl) rfl ?_
      refine RL.nil ?_
      refine RQ.then_n ?_
      refine RC.ret ?_
      have e := h.some
      subst e
      refine RQ.ret0 (vs := [.bool t4120]) Tryd.results5 ⟨rfl, trivial⟩ ?_
      exact ⟨rfl, ((hS.dropAt 0 rfl).dropAt 0 rfl)⟩
  case neg =>
    have h := h.neg hc4067
    refine RC.re 14 rfl (congrArg Value.bool (notdec_neg hc4067)) ?_
    refine RC.condT rfl ?_
    refine RC.seq ?_
    refine RC.region ?_
    refine RL.s (Vl.assign rfl) rfl ?_
    refine RL.nil ?_
    refine RQ.then_n ?_
    refine RC.ret ?_
    refine RQ.ret ?_
    have e := h.some
    subst e
    refine RQ.ret0 (vs := [.bool false]) Tryd.results5 ⟨rfl, trivial⟩ ?_
    exact ⟨rfl, (((hS.dropAt 0 rfl).dropAt 0 rfl).dropAt 0 rfl)⟩

/-! ### isochron/model.Ways$1: function 27 -/
noncomputable def model_Ways_1.f (a4169 : api_Link) (a4172 : Int) : Option (Bool) := some (decide (a4169.From = a4172))
set_option maxRecDepth 100000 in
set_option maxHeartbeats 4000000 in
theorem model_Ways_1.ok {B : Base} {w : World} {l : List HProp} {hf : Hp} (a4169 : api_Link) (a4172 : Int) (b4171 : Nat) (r : Bool) (h : model_Ways_1.f a4169 a4172 = some r) (hS : St B w (Cl b4171 [.int .i64 a4172] 3 :: l) hf) :
    Calls Tryd.prog 27 #[.agg #[.int .i64 a4169.From, .int .i64 a4169.To, .int .i64 a4169.Look, .bool a4169.Loose], .pointer (some ⟨b4171, 0, none⟩)] w (Ret fun v w => v = .bool r ∧ St B w (Cl b4171 [.int .i64 a4172] 3 :: l) hf) := by
  have h := Holds.of h
  refine enter (args := [.agg #[.int .i64 a4169.From, .int .i64 a4169.To, .int .i64 a4169.Look, .bool a4169.Loose], .pointer (some ⟨b4171, 0, none⟩)]) Tryd.func27 rfl Tryd.ntmps27 (Nat.le_of_ble_eq_true rfl) ?_
  refine RC.seq ?_
  refine RC.region ?_
  refine RL.e (OW.box (cs := [.int .i64 a4169.From, .int .i64 a4169.To, .int .i64 a4169.Look, .bool a4169.Loose]) hS rfl rfl) rfl rfl ?_
  rintro _ w ⟨b4176, rfl, hS⟩
  have hS : St B w (Cl b4176 [.int .i64 a4169.From, .int .i64 a4169.To, .int .i64 a4169.Look, .bool a4169.Loose] 37 :: Cl b4171 [.int .i64 a4172] 3 :: l) hf := hS
  refine RL.s (Vl.assign rfl) rfl ?_
  refine RL.nil ?_
  refine RQ.then_n ?_
  refine RC.seq ?_
  refine RC.region ?_
  refine RL.s (Vl.fieldAddr (a'' := ⟨b4176, 0, none⟩) Tryd.underlying37 rfl Tryd.sizeOf3 rfl rfl) rfl ?_
  refine RL.s (Vl.load Tryd.isAgg3 rfl (hS.cell 0 rfl rfl)) rfl ?_
  refine RL.s (Vl.load Tryd.isAgg3 rfl (hS.cell 1 rfl rfl)) rfl ?_
  refine RL.s (Vl.int rfl rfl rfl) rfl ?_
  refine RL.s (Vl.assign rfl) rfl ?_
  refine RL.nil ?_
  refine RQ.then_n ?_
  refine RC.ret ?_
  have e := h.some
  subst e
  refine RQ.ret0 (vs := [.bool (decide (a4169.From = a4172))]) Tryd.results27 ⟨rfl, trivial⟩ ?_
  exact ⟨rfl, (hS.dropAt 0 rfl)⟩

/-! ### isochron/model.places: function 26 -/
noncomputable def model_places.j8 (x4331 : Int) (l4385 : List Int) : Option ((List Int × Int) ⊕ (List Int)) := some (.inl (l4385, IntKind.i64.wrap (x4331 + 1)))
noncomputable def model_places.l7b (a4150 : api_Model) (a4162 : Int) : List Int × Int → Option ((List Int × Int) ⊕ (List Int))
  | (l4327, x4331) => (if x4331 < (a4150.Links.length : Int) then (if 0 ≤ x4331 then ((model_Ways_1.f (⟨(nth a4150.Links x4331).From, (nth a4150.Links x4331).To, (nth a4150.Links x4331).Look, ((nth a4150.Links x4331).Loose)⟩ : api_Link) a4162).bind fun t4392 => (if t4392 = true then (if (l4327.length + 1) * 8 ≤ 140737488355328 then model_places.j8 x4331 (l4327 ++ ([x4331])) else none) else model_places.j8 x4331 l4327)) else none) else some (.inr l4327))
noncomputable def model_places.l7 (a4150 : api_Model) (a4162 : Int) (s : List Int × Int) : Option (List Int) := loopR (model_places.l7b a4150 a4162) s
noncomputable def model_places.f (a4150 : api_Model) (a4162 : Int) : Option (List Int) := model_places.l7 a4150 a4162 ([], 0)
set_option maxRecDepth 100000 in
set_option maxHeartbeats 4000000 in
theorem model_places.ok {B : Base} {w : World} {l : List HProp} {hf : Hp} (a4150 : api_Model) (a4162 : Int) (A4151 : Option Addr) (c4152 : Nat) (A4154 : Option Addr) (c4155 : Nat) (A4157 : Option Addr) (c4158 : Nat) (b4161 : Nat) (hr4153 : SlR (Rep.sl E_api_Instr.rep) hf A4151 c4152 a4150.Progs) (hr4156 : SlR E_api_Link.rep hf A4154 c4155 a4150.Links) (hr4159 : SlR E_api_Start.rep hf A4157 c4158 a4150.Starts) (r : List Int) (h : model_places.f a4150 a4162 = some r) (hS : St B w (Cl b4161 [.int .i64 a4162] 3 :: l) hf) :
    Calls Tryd.prog 26 #[.agg #[.slice A4151 a4150.Progs.length c4152, .slice A4154 a4150.Links.length c4155, .slice A4157 a4150.Starts.length c4158, .int .u64 a4150.Seed, .int .i64 a4150.End, .int .i64 a4150.Budget], .func (.func 27) #[] #[.pointer (some ⟨b4161, 0, none⟩)]] w (Ret fun v w => ∃ (A_1 : Option Addr) (c_2 : Nat), v = .slice A_1 r.length c_2 ∧ St B w (OSf (FI .i64) 3 (.slice A_1 r.length c_2) r :: Cl b4161 [.int .i64 a4162] 3 :: l) hf) := by
  have h := Holds.of h
  refine enter (args := [.agg #[.slice A4151 a4150.Progs.length c4152, .slice A4154 a4150.Links.length c4155, .slice A4157 a4150.Starts.length c4158, .int .u64 a4150.Seed, .int .i64 a4150.End, .int .i64 a4150.Budget], .func (.func 27) #[] #[.pointer (some ⟨b4161, 0, none⟩)]]) Tryd.func26 rfl Tryd.ntmps26 (Nat.le_of_ble_eq_true rfl) ?_
  refine RC.seq ?_
  refine RC.region ?_
  refine RL.e (OW.box (cs := [.slice A4151 a4150.Progs.length c4152, .slice A4154 a4150.Links.length c4155, .slice A4157 a4150.Starts.length c4158, .int .u64 a4150.Seed, .int .i64 a4150.End, .int .i64 a4150.Budget]) hS rfl rfl) rfl rfl ?_
  rintro _ w ⟨b4288, rfl, hS⟩
  have hS : St B w (Cl b4288 [.slice A4151 a4150.Progs.length c4152, .slice A4154 a4150.Links.length c4155, .slice A4157 a4150.Starts.length c4158, .int .u64 a4150.Seed, .int .i64 a4150.End, .int .i64 a4150.Budget] 27 :: Cl b4161 [.int .i64 a4162] 3 :: l) hf := hS
  refine RL.s (Vl.assign rfl) rfl ?_
  refine RL.nil ?_
  refine RQ.then_n ?_
  refine RC.seq ?_
  refine RC.region ?_
  refine RL.s (Vl.assign rfl) rfl ?_
  refine RL.nil ?_
  refine RQ.then_n ?_
  refine RC.seq ?_
  refine RC.seq ?_
  refine RC.region ?_
  refine RL.s (Vl.fieldAddr (a'' := ⟨b4288, 1, none⟩) Tryd.underlying27 rfl Tryd.sizeOf23 rfl rfl) rfl ?_
  refine RL.s (Vl.load Tryd.isAgg23 rfl (hS.cell 0 rfl rfl)) rfl ?_
  refine RL.s (Vl.lenSl Tryd.underlying23 rfl) rfl ?_
  refine RL.s (Vl.move rfl) rfl ?_
  refine RL.nil ?_
  refine RQ.then_n ?_
  refine RC.block ?_
  have hS := hS.nilSl (FI .i64) 3
  refine fun a ha => RC.loop (N := 25) (body := (model_places.l7b a4150 a4162)) (φ := (· = r)) (fun (s : List Int × Int) a w => ∃ (l4327 : List Int) (x4331 : Int), s = (l4327, x4331) ∧ ∃ (A4328 : Option Addr) (c4329 : Nat), Has 25 [(1, .func (.func 27) #[] #[.pointer (some ⟨b4161, 0, none⟩)]), (5, .slice A4328 l4327.length c4329), (9, .slice A4154 a4150.Links.length c4155), (10, .int .i64 (a4150.Links.length : Int)), (11, .int .i64 x4331)] a ∧ St B w (OSf (FI .i64) 3 (.slice A4328 l4327.length c4329) l4327 :: Cl b4161 [.int .i64 a4162] 3 :: l) hf) ?_ (s0 := ([], 0)) h ⟨([]), 0, rfl, none, 0, ha.to ⟨rfl, rfl, rfl, rfl, rfl, trivial⟩, (hS.dropAt 1 rfl)⟩
  rintro G4369 _ a w ⟨l4327, x4331, rfl, A4328, c4329, ha, hS⟩ h
  revert a
  show RC _ _ _ _ _ _
  refine RC.seq ?_
  refine RC.region ?_
  refine RL.s (Vl.int rfl rfl rfl) rfl ?_
  refine RL.nil ?_
  refine RQ.then_n ?_
  refine RC.seq ?_
  by_cases hc4371 : x4331 < (a4150.Links.length : Int)
  case pos =>
    have h := h.pos hc4371
    refine RC.re 12 rfl (congrArg Value.bool (decide_eq_true hc4371)) ?_
    refine RC.condT rfl ?_
    refine RC.skip ?_
    refine RQ.then_n ?_
    refine RC.join (fun (s : List Int) a w => ∃ (l4385 : List Int), s = (l4385) ∧ ∃ (A4386 : Option Addr) (c4387 : Nat), Has 25 [(1, .func (.func 27) #[] #[.pointer (some ⟨b4161, 0, none⟩)]), (5, .slice A4386 l4385.length c4387), (9, .slice A4154 a4150.Links.length c4155), (10, .int .i64 (a4150.Links.length : Int)), (11, .int .i64 x4331)] a ∧ St B w (OSf (FI .i64) 3 (.slice A4386 l4385.length c4387) l4385 :: Cl b4161 [.int .i64 a4162] 3 :: l) hf ∧ Holds (Sum.elim G4369 (· = r)) (model_places.j8 x4331 l4385)) ?_ ?_
    · rintro l4385 a w ⟨_, rfl, A4386, c4387, ha, hS, h⟩
      revert a
      show RC _ _ _ _ _ _
      refine RC.region ?_
      refine RL.s (Vl.int rfl rfl rfl) rfl ?_
      refine RL.s (Vl.move rfl) rfl ?_
      refine RL.nil ?_
      exact fun a ha => ⟨(l4385, IntKind.i64.wrap (x4331 + 1)), ⟨l4385, (IntKind.i64.wrap (x4331 + 1)), rfl, A4386, c4387, ha.to ⟨rfl, rfl, rfl, rfl, rfl, trivial⟩, hS⟩, h.some⟩
    · refine RC.block ?_
      refine RC.seq ?_
      refine RC.region ?_
      refine RL.s (Vl.move rfl) rfl ?_
      obtain ⟨hq4389, h⟩ := h.req
      refine RL.s (Vl.indexAddr Tryd.underlying23 Tryd.sizeOf37 rfl rfl ((hr4156.2.world hS.sub).adr hq4389 hc4371) hq4389 hc4371 rfl) rfl ?_
      refine RL.s (Vl.loadA Tryd.isAgg37 Tryd.sizeOf37 rfl rfl ((hr4156.2.world hS.sub).cells hq4389 hc4371)) rfl ?_
      refine RL.e (OW.alloc (cs := [.int .i64 0, .int .i64 0, .int .i64 0, .bool false]) hS Tryd.zeroValue37 rfl) rfl rfl ?_
      rintro _ w ⟨b4391, rfl, hS⟩
      have hS : St B w (Cl b4391 [.int .i64 0, .int .i64 0, .int .i64 0, .bool false] 37 :: OSf (FI .i64) 3 (.slice A4328 l4327.length c4329) l4327 :: Cl b4161 [.int .i64 a4162] 3 :: l) hf := hS
      refine RL.s (Vl.assign rfl) rfl ?_
      refine RL.e0 (OW.store (cs := [.int .i64 0, .int .i64 0, .int .i64 0, .bool false]) (vs := [.int .i64 ((nth a4150.Links x4331).From), .int .i64 ((nth a4150.Links x4331).To), .int .i64 ((nth a4150.Links x4331).Look), .bool ((nth a4150.Links x4331).Loose)]) (l' := Cl b4391 [.int .i64 ((nth a4150.Links x4331).From), .int .i64 ((nth a4150.Links x4331).To), .int .i64 ((nth a4150.Links x4331).Look), .bool ((nth a4150.Links x4331).Loose)] 37 :: OSf (FI .i64) 3 (.slice A4328 l4327.length c4329) l4327 :: Cl b4161 [.int .i64 a4162] 3 :: l) 0 hS rfl rfl rfl rfl Tryd.sizeOf37 rfl rfl rfl rfl) rfl ?_
      rintro _ w ⟨rfl, hS⟩
      have hS : St B w (Cl b4391 [.int .i64 ((nth a4150.Links x4331).From), .int .i64 ((nth a4150.Links x4331).To), .int .i64 ((nth a4150.Links x4331).Look), .bool ((nth a4150.Links x4331).Loose)] 37 :: OSf (FI .i64) 3 (.slice A4328 l4327.length c4329) l4327 :: Cl b4161 [.int .i64 a4162] 3 :: l) hf := hS
      refine RL.nil ?_
      refine RQ.then_n ?_
      refine RC.seq ?_
      refine RC.region ?_
      refine RL.s (Vl.move rfl) rfl ?_
      refine RL.s (Vl.loadA (vs := [.int .i64 ((nth a4150.Links x4331).From), .int .i64 ((nth a4150.Links x4331).To), .int .i64 ((nth a4150.Links x4331).Look), .bool ((nth a4150.Links x4331).Loose)]) Tryd.isAgg37 Tryd.sizeOf37 rfl rfl (hS.cellsAt 0 rfl rfl)) rfl ?_
      obtain ⟨t4392, hg4393, h⟩ := h.bind
      refine RL.e (OW.call (ls := [.tmp 17]) rfl rfl Tryd.call27 rfl (model_Ways_1.ok (⟨(nth a4150.Links x4331).From, (nth a4150.Links x4331).To, (nth a4150.Links x4331).Look, ((nth a4150.Links x4331).Loose)⟩ : api_Link) a4162 b4161 _ hg4393 (((hS.pull 1 rfl rfl).pull 1 rfl rfl).pull 2 rfl rfl))) rfl rfl ?_
      rintro _ w ⟨rfl, hS⟩
      have hS : St B w (Cl b4161 [.int .i64 a4162] 3 :: Cl b4391 [.int .i64 ((nth a4150.Links x4331).From), .int .i64 ((nth a4150.Links x4331).To), .int .i64 ((nth a4150.Links x4331).Look), .bool ((nth a4150.Links x4331).Loose)] 37 :: OSf (FI .i64) 3 (.slice A4328 l4327.length c4329) l4327 :: l) hf := hS
      refine RL.nil ?_
      refine RQ.then_n ?_
      by_cases hc4394 : t4392 = true
      case pos =>
        have h := h.pos hc4394
        refine RC.re 18 rfl (congrArg Value.bool (id hc4394)) ?_
        refine RC.condT rfl ?_
        refine RC.region ?_
        refine RL.s (Vl.move rfl) rfl ?_
        refine RL.s (Vl.move rfl) rfl ?_
        refine RL.e (OW.buildSlice (E := (FI .i64)) (xs := [x4331]) (cs := [.int .i64 x4331]) hS Tryd.underlying47 Tryd.zeroValue3 Tryd.sizeOf3 (parts := [(0, .tmp 20)]) rfl rfl (by decide) (by decide) (by kernel_rfl) rfl) rfl rfl ?_
        rintro _ w ⟨b4396, rfl, hS⟩
        have hS : St B w (OSf (FI .i64) 3 (.slice (some ⟨b4396, 0, none⟩) ([x4331]).length 1) ([x4331]) :: Cl b4161 [.int .i64 a4162] 3 :: Cl b4391 [.int .i64 ((nth a4150.Links x4331).From), .int .i64 ((nth a4150.Links x4331).To), .int .i64 ((nth a4150.Links x4331).Look), .bool ((nth a4150.Links x4331).Loose)] 37 :: OSf (FI .i64) 3 (.slice A4328 l4327.length c4329) l4327 :: l) hf := hS
        obtain ⟨hq4397, h⟩ := h.req
        refine RL.e (OW.append (E := (FI .i64)) (xs := l4327) (ys := [x4331]) 3 hS rfl Tryd.underlying47 Tryd.type3 rfl rfl rfl rfl (by decide) rfl rfl rfl (hS.slW 0 rfl).2.2.flat (by simp only [maxLen, List.length_cons, List.length_nil] at *; omega) hq4397 rfl) rfl rfl ?_
        rintro v4401 w hS
        obtain ⟨A4398, c4399, rfl, _⟩ := hS.osShape 0 rfl
        have hS : St B w (OSf (FI .i64) 3 (.slice A4398 (l4327 ++ ([x4331])).length c4399) (l4327 ++ ([x4331])) :: OSf (FI .i64) 3 (.slice (some ⟨b4396, 0, none⟩) ([x4331]).length 1) ([x4331]) :: Cl b4161 [.int .i64 a4162] 3 :: Cl b4391 [.int .i64 ((nth a4150.Links x4331).From), .int .i64 ((nth a4150.Links x4331).To), .int .i64 ((nth a4150.Links x4331).Look), .bool ((nth a4150.Links x4331).Loose)] 37 :: l) hf := hS
        refine RL.s (Vl.assign rfl) rfl ?_
        refine RL.nil ?_
        refine RQ.inB_n ?_
        exact fun a ha => ⟨((l4327 ++ ([x4331]))), (l4327 ++ ([x4331])), rfl, A4398, c4399, ha.to ⟨rfl, rfl, rfl, rfl, rfl, trivial⟩, ((hS.dropAt 1 rfl).dropAt 2 rfl), h⟩
      case neg =>
        have h := h.neg hc4394
        refine RC.re 18 rfl (congrArg Value.bool (eq_false_of hc4394)) ?_
        refine RC.condF rfl ?_
        refine RC.skip ?_
        refine RQ.inB_n ?_
        exact fun a ha => ⟨(l4327), l4327, rfl, A4328, c4329, ha.to ⟨rfl, rfl, rfl, rfl, rfl, trivial⟩, (((hS.dropAt 1 rfl).pull 0 rfl rfl).pull 1 rfl rfl), h⟩
  case neg =>
    have h := h.neg hc4371
    refine RC.re 12 rfl (congrArg Value.bool (decide_eq_false hc4371)) ?_
    refine RC.condF rfl ?_
    refine RC.exit ?_
    refine RQ.exitT ?_
    have h := h.inrS
    refine RQ.exitT ?_
    refine RQ.inB_hit ?_
    refine RQ.then_n ?_
    refine RC.seq ?_
    refine RC.region ?_
    refine RL.s (Vl.move rfl) rfl ?_
    refine RL.s (Vl.assign rfl) rfl ?_
    refine RL.nil ?_
    refine RQ.then_n ?_
    refine RC.ret ?_
    have e := h.some
    subst e
    refine RQ.ret0 (vs := [.slice A4328 l4327.length c4329]) Tryd.results26 ⟨rfl, trivial⟩ ?_
    exact ⟨A4328, c4329, rfl, hS⟩

/-! ### isochron/model.Ways: function 14 -/
noncomputable def model_Ways.f (a4135 : api_Model) (a4145 : Int) : Option (List Int) := ((model_places.f a4135 a4145).bind fun t4413 => some t4413)
set_option maxRecDepth 100000 in
set_option maxHeartbeats 4000000 in
theorem model_Ways.ok {B : Base} {w : World} {l : List HProp} {hf : Hp} (a4135 : api_Model) (a4145 : Int) (A4136 : Option Addr) (c4137 : Nat) (A4139 : Option Addr) (c4140 : Nat) (A4142 : Option Addr) (c4143 : Nat) (hr4138 : SlR (Rep.sl E_api_Instr.rep) hf A4136 c4137 a4135.Progs) (hr4141 : SlR E_api_Link.rep hf A4139 c4140 a4135.Links) (hr4144 : SlR E_api_Start.rep hf A4142 c4143 a4135.Starts) (r : List Int) (h : model_Ways.f a4135 a4145 = some r) (hS : St B w (l) hf) :
    Calls Tryd.prog 14 #[.agg #[.slice A4136 a4135.Progs.length c4137, .slice A4139 a4135.Links.length c4140, .slice A4142 a4135.Starts.length c4143, .int .u64 a4135.Seed, .int .i64 a4135.End, .int .i64 a4135.Budget], .int .i64 a4145] w (Ret fun v w => ∃ (A_1 : Option Addr) (c_2 : Nat), v = .slice A_1 r.length c_2 ∧ St B w (OSf (FI .i64) 3 (.slice A_1 r.length c_2) r :: l) hf) := by
  have h := Holds.of h
  refine enter (args := [.agg #[.slice A4136 a4135.Progs.length c4137, .slice A4139 a4135.Links.length c4140, .slice A4142 a4135.Starts.length c4143, .int .u64 a4135.Seed, .int .i64 a4135.End, .int .i64 a4135.Budget], .int .i64 a4145]) Tryd.func14 rfl Tryd.ntmps14 (Nat.le_of_ble_eq_true rfl) ?_
  refine RC.seq ?_
  refine RC.region ?_
  refine RL.e (OW.box (cs := [.slice A4136 a4135.Progs.length c4137, .slice A4139 a4135.Links.length c4140, .slice A4142 a4135.Starts.length c4143, .int .u64 a4135.Seed, .int .i64 a4135.End, .int .i64 a4135.Budget]) hS rfl rfl) rfl rfl ?_
  rintro _ w ⟨b4410, rfl, hS⟩
  have hS : St B w (Cl b4410 [.slice A4136 a4135.Progs.length c4137, .slice A4139 a4135.Links.length c4140, .slice A4142 a4135.Starts.length c4143, .int .u64 a4135.Seed, .int .i64 a4135.End, .int .i64 a4135.Budget] 27 :: l) hf := hS
  refine RL.e (OW.box (cs := [.int .i64 a4145]) hS rfl rfl) rfl rfl ?_
  rintro _ w ⟨b4412, rfl, hS⟩
  have hS : St B w (Cl b4412 [.int .i64 a4145] 3 :: Cl b4410 [.slice A4136 a4135.Progs.length c4137, .slice A4139 a4135.Links.length c4140, .slice A4142 a4135.Starts.length c4143, .int .u64 a4135.Seed, .int .i64 a4135.End, .int .i64 a4135.Budget] 27 :: l) hf := hS
  refine RL.s (Vl.assign rfl) rfl ?_
  refine RL.nil ?_
  refine RQ.then_n ?_
  refine RC.seq ?_
  refine RC.region ?_
  refine RL.s (Vl.loadA (vs := [.slice A4136 a4135.Progs.length c4137, .slice A4139 a4135.Links.length c4140, .slice A4142 a4135.Starts.length c4143, .int .u64 a4135.Seed, .int .i64 a4135.End, .int .i64 a4135.Budget]) Tryd.isAgg27 Tryd.sizeOf27 rfl rfl (hS.cellsAt 1 rfl rfl)) rfl ?_
  refine RL.s (Vl.makeFunc (fi := []) (ca := [.tmp 3]) rfl rfl) rfl ?_
  obtain ⟨t4413, hg4414, h⟩ := h.bind
  refine RL.e (OW.callF (ls := [.tmp 5, .tmp 6]) rfl Tryd.call26 (model_places.ok a4135 a4145 A4136 c4137 A4139 c4140 A4142 c4143 b4412 hr4138 hr4141 hr4144 _ hg4414 hS)) rfl rfl ?_
  rintro _ w ⟨A4415, c4416, rfl, hS⟩
  have hS : St B w (OSf (FI .i64) 3 (.slice A4415 t4413.length c4416) t4413 :: Cl b4412 [.int .i64 a4145] 3 :: Cl b4410 [.slice A4136 a4135.Progs.length c4137, .slice A4139 a4135.Links.length c4140, .slice A4142 a4135.Starts.length c4143, .int .u64 a4135.Seed, .int .i64 a4135.End, .int .i64 a4135.Budget] 27 :: l) hf := hS
  refine RL.s (Vl.assign rfl) rfl ?_
  refine RL.nil ?_
  refine RQ.then_n ?_
  refine RC.ret ?_
  have e := h.some
  subst e
  refine RQ.ret0 (vs := [.slice A4415 t4413.length c4416]) Tryd.results14 ⟨rfl, trivial⟩ ?_
  exact ⟨A4415, c4416, rfl, ((hS.dropAt 1 rfl).dropAt 1 rfl)⟩

/-! ### isochron/model.Into$1: function 28 -/
noncomputable def model_Into_1.f (a4458 : api_Link) (a4461 : Int) : Option (Bool) := some (decide (a4458.To = a4461))
set_option maxRecDepth 100000 in
set_option maxHeartbeats 4000000 in
theorem model_Into_1.ok {B : Base} {w : World} {l : List HProp} {hf : Hp} (a4458 : api_Link) (a4461 : Int) (b4460 : Nat) (r : Bool) (h : model_Into_1.f a4458 a4461 = some r) (hS : St B w (Cl b4460 [.int .i64 a4461] 3 :: l) hf) :
    Calls Tryd.prog 28 #[.agg #[.int .i64 a4458.From, .int .i64 a4458.To, .int .i64 a4458.Look, .bool a4458.Loose], .pointer (some ⟨b4460, 0, none⟩)] w (Ret fun v w => v = .bool r ∧ St B w (Cl b4460 [.int .i64 a4461] 3 :: l) hf) := by
  have h := Holds.of h
  refine enter (args := [.agg #[.int .i64 a4458.From, .int .i64 a4458.To, .int .i64 a4458.Look, .bool a4458.Loose], .pointer (some ⟨b4460, 0, none⟩)]) Tryd.func28 rfl Tryd.ntmps28 (Nat.le_of_ble_eq_true rfl) ?_
  refine RC.seq ?_
  refine RC.region ?_
  refine RL.e (OW.box (cs := [.int .i64 a4458.From, .int .i64 a4458.To, .int .i64 a4458.Look, .bool a4458.Loose]) hS rfl rfl) rfl rfl ?_
  rintro _ w ⟨b4465, rfl, hS⟩
  have hS : St B w (Cl b4465 [.int .i64 a4458.From, .int .i64 a4458.To, .int .i64 a4458.Look, .bool a4458.Loose] 37 :: Cl b4460 [.int .i64 a4461] 3 :: l) hf := hS
  refine RL.s (Vl.assign rfl) rfl ?_
  refine RL.nil ?_
  refine RQ.then_n ?_
  refine RC.seq ?_
  refine RC.region ?_
  refine RL.s (Vl.fieldAddr (a'' := ⟨b4465, 1, none⟩) Tryd.underlying37 rfl Tryd.sizeOf3 rfl rfl) rfl ?_
  refine RL.s (Vl.load Tryd.isAgg3 rfl (hS.cell 0 rfl rfl)) rfl ?_
  refine RL.s (Vl.load Tryd.isAgg3 rfl (hS.cell 1 rfl rfl)) rfl ?_
  refine RL.s (Vl.int rfl rfl rfl) rfl ?_
  refine RL.s (Vl.assign rfl) rfl ?_
  refine RL.nil ?_
  refine RQ.then_n ?_
  refine RC.ret ?_
  have e := h.some
  subst e
  refine RQ.ret0 (vs := [.bool (decide (a4458.To = a4461))]) Tryd.results28 ⟨rfl, trivial⟩ ?_
  exact ⟨rfl, (hS.dropAt 0 rfl)⟩

/-! ### isochron/model.places: function 26 -/
noncomputable def model_places_2.j8 (x4620 : Int) (l4674 : List Int) : Option ((List Int × Int) ⊕ (List Int)) := some (.inl (l4674, IntKind.i64.wrap (x4620 + 1)))
noncomputable def model_places_2.l7b (a4439 : api_Model) (a4451 : Int) : List Int × Int → Option ((List Int × Int) ⊕ (List Int))
  | (l4616, x4620) => (if x4620 < (a4439.Links.length : Int) then (if 0 ≤ x4620 then ((model_Into_1.f (⟨(nth a4439.Links x4620).From, (nth a4439.Links x4620).To, (nth a4439.Links x4620).Look, ((nth a4439.Links x4620).Loose)⟩ : api_Link) a4451).bind fun t4681 => (if t4681 = true then (if (l4616.length + 1) * 8 ≤ 140737488355328 then model_places_2.j8 x4620 (l4616 ++ ([x4620])) else none) else model_places_2.j8 x4620 l4616)) else none) else some (.inr l4616))
noncomputable def model_places_2.l7 (a4439 : api_Model) (a4451 : Int) (s : List Int × Int) : Option (List Int) := loopR (model_places_2.l7b a4439 a4451) s
noncomputable def model_places_2.f (a4439 : api_Model) (a4451 : Int) : Option (List Int) := model_places_2.l7 a4439 a4451 ([], 0)
set_option maxRecDepth 100000 in
set_option maxHeartbeats 4000000 in
theorem model_places_2.ok {B : Base} {w : World} {l : List HProp} {hf : Hp} (a4439 : api_Model) (a4451 : Int) (A4440 : Option Addr) (c4441 : Nat) (A4443 : Option Addr) (c4444 : Nat) (A4446 : Option Addr) (c4447 : Nat) (b4450 : Nat) (hr4442 : SlR (Rep.sl E_api_Instr.rep) hf A4440 c4441 a4439.Progs) (hr4445 : SlR E_api_Link.rep hf A4443 c4444 a4439.Links) (hr4448 : SlR E_api_Start.rep hf A4446 c4447 a4439.Starts) (r : List Int) (h : model_places_2.f a4439 a4451 = some r) (hS : St B w (Cl b4450 [.int .i64 a4451] 3 :: l) hf) :
    Calls Tryd.prog 26 #[.agg #[.slice A4440 a4439.Progs.length c4441, .slice A4443 a4439.Links.length c4444, .slice A4446 a4439.Starts.length c4447, .int .u64 a4439.Seed, .int .i64 a4439.End, .int .i64 a4439.Budget], .func (.func 28) #[] #[.pointer (some ⟨b4450, 0, none⟩)]] w (Ret fun v w => ∃ (A_1 : Option Addr) (c_2 : Nat), v = .slice A_1 r.length c_2 ∧ St B w (OSf (FI .i64) 3 (.slice A_1 r.length c_2) r :: Cl b4450 [.int .i64 a4451] 3 :: l) hf) := by
  have h := Holds.of h
  refine enter (args := [.agg #[.slice A4440 a4439.Progs.length c4441, .slice A4443 a4439.Links.length c4444, .slice A4446 a4439.Starts.length c4447, .int .u64 a4439.Seed, .int .i64 a4439.End, .int .i64 a4439.Budget], .func (.func 28) #[] #[.pointer (some ⟨b4450, 0, none⟩)]]) Tryd.func26 rfl Tryd.ntmps26 (Nat.le_of_ble_eq_true rfl) ?_
  refine RC.seq ?_
  refine RC.region ?_
  refine RL.e (OW.box (cs := [.slice A4440 a4439.Progs.length c4441, .slice A4443 a4439.Links.length c4444, .slice A4446 a4439.Starts.length c4447, .int .u64 a4439.Seed, .int .i64 a4439.End, .int .i64 a4439.Budget]) hS rfl rfl) rfl rfl ?_
  rintro _ w ⟨b4577, rfl, hS⟩
  have hS : St B w (Cl b4577 [.slice A4440 a4439.Progs.length c4441, .slice A4443 a4439.Links.length c4444, .slice A4446 a4439.Starts.length c4447, .int .u64 a4439.Seed, .int .i64 a4439.End, .int .i64 a4439.Budget] 27 :: Cl b4450 [.int .i64 a4451] 3 :: l) hf := hS
  refine RL.s (Vl.assign rfl) rfl ?_
  refine RL.nil ?_
  refine RQ.then_n ?_
  refine RC.seq ?_
  refine RC.region ?_
  refine RL.s (Vl.assign rfl) rfl ?_
  refine RL.nil ?_
  refine RQ.then_n ?_
  refine RC.seq ?_
  refine RC.seq ?_
  refine RC.region ?_
  refine RL.s (Vl.fieldAddr (a'' := ⟨b4577, 1, none⟩) Tryd.underlying27 rfl Tryd.sizeOf23 rfl rfl) rfl ?_
  refine RL.s (Vl.load Tryd.isAgg23 rfl (hS.cell 0 rfl rfl)) rfl ?_
  refine RL.s (Vl.lenSl Tryd.underlying23 rfl) rfl ?_
  refine RL.s (Vl.move rfl) rfl ?_
  refine RL.nil ?_
  refine RQ.then_n ?_
  refine RC.block ?_
  have hS := hS.nilSl (FI .i64) 3
  refine fun a ha => RC.loop (N := 25) (body := (model_places_2.l7b a4439 a4451)) (φ := (· = r)) (fun (s : List Int × Int) a w => ∃ (l4616 : List Int) (x4620 : Int), s = (l4616, x4620) ∧ ∃ (A4617 : Option Addr) (c4618 : Nat), Has 25 [(1, .func (.func 28) #[] #[.pointer (some ⟨b4450, 0, none⟩)]), (5, .slice A4617 l4616.length c4618), (9, .slice A4443 a4439.Links.length c4444), (10, .int .i64 (a4439.Links.length : Int)), (11, .int .i64 x4620)] a ∧ St B w (OSf (FI .i64) 3 (.slice A4617 l4616.length c4618) l4616 :: Cl b4450 [.int .i64 a4451] 3 :: l) hf) ?_ (s0 := ([], 0)) h ⟨([]), 0, rfl, none, 0, ha.to ⟨rfl, rfl, rfl, rfl, rfl, trivial⟩, (hS.dropAt 1 rfl)⟩
  rintro G4658 _ a w ⟨l4616, x4620, rfl, A4617, c4618, ha, hS⟩ h
  revert a
  show RC _ _ _ _ _ _
  refine RC.seq ?_
  refine RC.region ?_
  refine RL.s (Vl.int rfl rfl rfl) rfl ?_
  refine RL.nil ?_
  refine RQ.then_n ?_
  refine RC.seq ?_
  by_cases hc4660 : x4620 < (a4439.Links.length : Int)
  case pos =>
    have h := h.pos hc4660
    refine RC.re 12 rfl (congrArg Value.bool (decide_eq_true hc4660)) ?_
    refine RC.condT rfl ?_
    refine RC.skip ?_
    refine RQ.then_n ?_
    refine RC.join (fun (s : List Int) a w => ∃ (l4674 : List Int), s = (l4674) ∧ ∃ (A4675 : Option Addr) (c4676 : Nat), Has 25 [(1, .func (.func 28) #[] #[.pointer (some ⟨b4450, 0, none⟩)]), (5, .slice A4675 l4674.length c4676), (9, .slice A4443 a4439.Links.length c4444), (10, .int .i64 (a4439.Links.length : Int)), (11, .int .i64 x4620)] a ∧ St B w (OSf (FI .i64) 3 (.slice A4675 l4674.length c4676) l4674 :: Cl b4450 [.int .i64 a4451] 3 :: l) hf ∧ Holds (Sum.elim G4658 (· = r)) (model_places_2.j8 x4620 l4674)) ?_ ?_
    · rintro l4674 a w ⟨_, rfl, A4675, c4676, ha, hS, h⟩
      revert a
      show RC _ _ _ _ _ _
      refine RC.region ?_
      refine RL.s (Vl.int rfl rfl rfl) rfl ?_
      refine RL.s (Vl.move rfl) rfl ?_
      refine RL.nil ?_
      exact fun a ha => ⟨(l4674, IntKind.i64.wrap (x4620 + 1)), ⟨l4674, (IntKind.i64.wrap (x4620 + 1)), rfl, A4675, c4676, ha.to ⟨rfl, rfl, rfl, rfl, rfl, trivial⟩, hS⟩, h.some⟩
    · refine RC.block ?_
      refine RC.seq ?_
      refine RC.region ?_
      refine RL.s (Vl.move rfl) rfl ?_
      obtain ⟨hq4678, h⟩ := h.req
      refine RL.s (Vl.indexAddr Tryd.underlying23 Tryd.sizeOf37 rfl rfl ((hr4445.2.world hS.sub).adr hq4678 hc4660) hq4678 hc4660 rfl) rfl ?_
      refine RL.s (Vl.loadA Tryd.isAgg37 Tryd.sizeOf37 rfl rfl ((hr4445.2.world hS.sub).cells hq4678 hc4660)) rfl ?_
      refine RL.e (OW.alloc (cs := [.int .i64 0, .int .i64 0, .int .i64 0, .bool false]) hS Tryd.zeroValue37 rfl) rfl rfl ?_
      rintro _ w ⟨b4680, rfl, hS⟩
      have hS : St B w (Cl b4680 [.int .i64 0, .int .i64 0, .int .i64 0, .bool false] 37 :: OSf (FI .i64) 3 (.slice A4617 l4616.length c4618) l4616 :: Cl b4450 [.int .i64 a4451] 3 :: l) hf := hS
      refine RL.s (Vl.assign rfl) rfl ?_
      refine RL.e0 (OW.store (cs := [.int .i64 0, .int .i64 0, .int .i64 0, .bool false]) (vs := [.int .i64 ((nth a4439.Links x4620).From), .int .i64 ((nth a4439.Links x4620).To), .int .i64 ((nth a4439.Links x4620).Look), .bool ((nth a4439.Links x4620).Loose)]) (l' := Cl b4680 [.int .i64 ((nth a4439.Links x4620).From), .int .i64 ((nth a4439.Links x4620).To), .int .i64 ((nth a4439.Links x4620).Look), .bool ((nth a4439.Links x4620).Loose)] 37 :: OSf (FI .i64) 3 (.slice A4617 l4616.length c4618) l4616 :: Cl b4450 [.int .i64 a4451] 3 :: l) 0 hS rfl rfl rfl rfl Tryd.sizeOf37 rfl rfl rfl rfl) rfl ?_
      rintro _ w ⟨rfl, hS⟩
      have hS : St B w (Cl b4680 [.int .i64 ((nth a4439.Links x4620).From), .int .i64 ((nth a4439.Links x4620).To), .int .i64 ((nth a4439.Links x4620).Look), .bool ((nth a4439.Links x4620).Loose)] 37 :: OSf (FI .i64) 3 (.slice A4617 l4616.length c4618) l4616 :: Cl b4450 [.int .i64 a4451] 3 :: l) hf := hS
      refine RL.nil ?_
      refine RQ.then_n ?_
      refine RC.seq ?_
      refine RC.region ?_
      refine RL.s (Vl.move rfl) rfl ?_
      refine RL.s (Vl.loadA (vs := [.int .i64 ((nth a4439.Links x4620).From), .int .i64 ((nth a4439.Links x4620).To), .int .i64 ((nth a4439.Links x4620).Look), .bool ((nth a4439.Links x4620).Loose)]) Tryd.isAgg37 Tryd.sizeOf37 rfl rfl (hS.cellsAt 0 rfl rfl)) rfl ?_
      obtain ⟨t4681, hg4682, h⟩ := h.bind
      refine RL.e (OW.call (ls := [.tmp 17]) rfl rfl Tryd.call28 rfl (model_Into_1.ok (⟨(nth a4439.Links x4620).From, (nth a4439.Links x4620).To, (nth a4439.Links x4620).Look, ((nth a4439.Links x4620).Loose)⟩ : api_Link) a4451 b4450 _ hg4682 (((hS.pull 1 rfl rfl).pull 1 rfl rfl).pull 2 rfl rfl))) rfl rfl ?_
      rintro _ w ⟨rfl, hS⟩
      have hS : St B w (Cl b4450 [.int .i64 a4451] 3 :: Cl b4680 [.int .i64 ((nth a4439.Links x4620).From), .int .i64 ((nth a4439.Links x4620).To), .int .i64 ((nth a4439.Links x4620).Look), .bool ((nth a4439.Links x4620).Loose)] 37 :: OSf (FI .i64) 3 (.slice A4617 l4616.length c4618) l4616 :: l) hf := hS
      refine RL.nil ?_
      refine RQ.then_n ?_
      by_cases hc4683 : t4681 = true
      case pos =>
        have h := h.pos hc4683
        refine RC.re 18 rfl (congrArg Value.bool (id hc4683)) ?_
        refine RC.condT rfl ?_
        refine RC.region ?_
        refine RL.s (Vl.move rfl) rfl ?_
        refine RL.s (Vl.move rfl) rfl ?_
        refine RL.e (OW.buildSlice (E := (FI .i64)) (xs := [x4620]) (cs := [.int .i64 x4620]) hS Tryd.underlying47 Tryd.zeroValue3 Tryd.sizeOf3 (parts := [(0, .tmp 20)]) rfl rfl (by decide) (by decide) (by kernel_rfl) rfl) rfl rfl ?_
        rintro _ w ⟨b4685, rfl, hS⟩
        have hS : St B w (OSf (FI .i64) 3 (.slice (some ⟨b4685, 0, none⟩) ([x4620]).length 1) ([x4620]) :: Cl b4450 [.int .i64 a4451] 3 :: Cl b4680 [.int .i64 ((nth a4439.Links x4620).From), .int .i64 ((nth a4439.Links x4620).To), .int .i64 ((nth a4439.Links x4620).Look), .bool ((nth a4439.Links x4620).Loose)] 37 :: OSf (FI .i64) 3 (.slice A4617 l4616.length c4618) l4616 :: l) hf := hS
        obtain ⟨hq4686, h⟩ := h.req
        refine RL.e (OW.append (E := (FI .i64)) (xs := l4616) (ys := [x4620]) 3 hS rfl Tryd.underlying47 Tryd.type3 rfl rfl rfl rfl (by decide) rfl rfl rfl (hS.slW 0 rfl).2.2.flat (by simp only [maxLen, List.length_cons, List.length_nil] at *; omega) hq4686 rfl) rfl rfl ?_
        rintro v4690 w hS
        obtain ⟨A4687, c4688, rfl, _⟩ := hS.osShape 0 rfl
        have hS : St B w (OSf (FI .i64) 3 (.slice A4687 (l4616 ++ ([x4620])).length c4688) (l4616 ++ ([x4620])) :: OSf (FI .i64) 3 (.slice (some ⟨b4685, 0, none⟩) ([x4620]).length 1) ([x4620]) :: Cl b4450 [.int .i64 a4451] 3 :: Cl b4680 [.int .i64 ((nth a4439.Links x4620).From), .int .i64 ((nth a4439.Links x4620).To), .int .i64 ((nth a4439.Links x4620).Look), .bool ((nth a4439.Links x4620).Loose)] 37 :: l) hf := hS
        refine RL.s (Vl.assign rfl) rfl ?_
        refine RL.nil ?_
        refine RQ.inB_n ?_
        exact fun a ha => ⟨((l4616 ++ ([x4620]))), (l4616 ++ ([x4620])), rfl, A4687, c4688, ha.to ⟨rfl, rfl, rfl, rfl, rfl, trivial⟩, ((hS.dropAt 1 rfl).dropAt 2 rfl), h⟩
      case neg =>
        have h := h.neg hc4683
        refine RC.re 18 rfl (congrArg Value.bool (eq_false_of hc4683)) ?_
        refine RC.condF rfl ?_
        refine RC.skip ?_
        refine RQ.inB_n ?_
        exact fun a ha => ⟨(l4616), l4616, rfl, A4617, c4618, ha.to ⟨rfl, rfl, rfl, rfl, rfl, trivial⟩, (((hS.dropAt 1 rfl).pull 0 rfl rfl).pull 1 rfl rfl), h⟩
  case neg =>
    have h := h.neg hc4660
    refine RC.re 12 rfl (congrArg Value.bool (decide_eq_false hc4660)) ?_
    refine RC.condF rfl ?_
    refine RC.exit ?_
    refine RQ.exitT ?_
    have h := h.inrS
    refine RQ.exitT ?_
    refine RQ.inB_hit ?_
    refine RQ.then_n ?_
    refine RC.seq ?_
    refine RC.region ?_
    refine RL.s (Vl.move rfl) rfl ?_
    refine RL.s (Vl.assign rfl) rfl ?_
    refine RL.nil ?_
    refine RQ.then_n ?_
    refine RC.ret ?_
    have e := h.some
    subst e
    refine RQ.ret0 (vs := [.slice A4617 l4616.length c4618]) Tryd.results26 ⟨rfl, trivial⟩ ?_
    exact ⟨A4617, c4618, rfl, hS⟩

/-! ### isochron/model.Into: function 15 -/
noncomputable def model_Into.f (a4424 : api_Model) (a4434 : Int) : Option (List Int) := ((model_places_2.f a4424 a4434).bind fun t4702 => some t4702)
set_option maxRecDepth 100000 in
set_option maxHeartbeats 4000000 in
theorem model_Into.ok {B : Base} {w : World} {l : List HProp} {hf : Hp} (a4424 : api_Model) (a4434 : Int) (A4425 : Option Addr) (c4426 : Nat) (A4428 : Option Addr) (c4429 : Nat) (A4431 : Option Addr) (c4432 : Nat) (hr4427 : SlR (Rep.sl E_api_Instr.rep) hf A4425 c4426 a4424.Progs) (hr4430 : SlR E_api_Link.rep hf A4428 c4429 a4424.Links) (hr4433 : SlR E_api_Start.rep hf A4431 c4432 a4424.Starts) (r : List Int) (h : model_Into.f a4424 a4434 = some r) (hS : St B w (l) hf) :
    Calls Tryd.prog 15 #[.agg #[.slice A4425 a4424.Progs.length c4426, .slice A4428 a4424.Links.length c4429, .slice A4431 a4424.Starts.length c4432, .int .u64 a4424.Seed, .int .i64 a4424.End, .int .i64 a4424.Budget], .int .i64 a4434] w (Ret fun v w => ∃ (A_1 : Option Addr) (c_2 : Nat), v = .slice A_1 r.length c_2 ∧ St B w (OSf (FI .i64) 3 (.slice A_1 r.length c_2) r :: l) hf) := by
  have h := Holds.of h
  refine enter (args := [.agg #[.slice A4425 a4424.Progs.length c4426, .slice A4428 a4424.Links.length c4429, .slice A4431 a4424.Starts.length c4432, .int .u64 a4424.Seed, .int .i64 a4424.End, .int .i64 a4424.Budget], .int .i64 a4434]) Tryd.func15 rfl Tryd.ntmps15 (Nat.le_of_ble_eq_true rfl) ?_
  refine RC.seq ?_
  refine RC.region ?_
  refine RL.e (OW.box (cs := [.slice A4425 a4424.Progs.length c4426, .slice A4428 a4424.Links.length c4429, .slice A4431 a4424.Starts.length c4432, .int .u64 a4424.Seed, .int .i64 a4424.End, .int .i64 a4424.Budget]) hS rfl rfl) rfl rfl ?_
  rintro _ w ⟨b4699, rfl, hS⟩
  have hS : St B w (Cl b4699 [.slice A4425 a4424.Progs.length c4426, .slice A4428 a4424.Links.length c4429, .slice A4431 a4424.Starts.length c4432, .int .u64 a4424.Seed, .int .i64 a4424.End, .int .i64 a4424.Budget] 27 :: l) hf := hS
  refine RL.e (OW.box (cs := [.int .i64 a4434]) hS rfl rfl) rfl rfl ?_
  rintro _ w ⟨b4701, rfl, hS⟩
  have hS : St B w (Cl b4701 [.int .i64 a4434] 3 :: Cl b4699 [.slice A4425 a4424.Progs.length c4426, .slice A4428 a4424.Links.length c4429, .slice A4431 a4424.Starts.length c4432, .int .u64 a4424.Seed, .int .i64 a4424.End, .int .i64 a4424.Budget] 27 :: l) hf := hS
  refine RL.s (Vl.assign rfl) rfl ?_
  refine RL.nil ?_
  refine RQ.then_n ?_
  refine RC.seq ?_
  refine RC.region ?_
  refine RL.s (Vl.loadA (vs := [.slice A4425 a4424.Progs.length c4426, .slice A4428 a4424.Links.length c4429, .slice A4431 a4424.Starts.length c4432, .int .u64 a4424.Seed, .int .i64 a4424.End, .int .i64 a4424.Budget]) Tryd.isAgg27 Tryd.sizeOf27 rfl rfl (hS.cellsAt 1 rfl rfl)) rfl ?_
  refine RL.s (Vl.makeFunc (fi := []) (ca := [.tmp 3]) rfl rfl) rfl ?_
  obtain ⟨t4702, hg4703, h⟩ := h.bind
  refine RL.e (OW.callF (ls := [.tmp 5, .tmp 6]) rfl Tryd.call26 (model_places_2.ok a4424 a4434 A4425 c4426 A4428 c4429 A4431 c4432 b4701 hr4427 hr4430 hr4433 _ hg4703 hS)) rfl rfl ?_
  rintro _ w ⟨A4704, c4705, rfl, hS⟩
  have hS : St B w (OSf (FI .i64) 3 (.slice A4704 t4702.length c4705) t4702 :: Cl b4701 [.int .i64 a4434] 3 :: Cl b4699 [.slice A4425 a4424.Progs.length c4426, .slice A4428 a4424.Links.length c4429, .slice A4431 a4424.Starts.length c4432, .int .u64 a4424.Seed, .int .i64 a4424.End, .int .i64 a4424.Budget] 27 :: l) hf := hS
  refine RL.s (Vl.assign rfl) rfl ?_
  refine RL.nil ?_
  refine RQ.then_n ?_
  refine RC.ret ?_
  have e := h.some
  subst e
  refine RQ.ret0 (vs := [.slice A4704 t4702.length c4705]) Tryd.results15 ⟨rfl, trivial⟩ ?_
  exact ⟨A4704, c4705, rfl, ((hS.dropAt 1 rfl).dropAt 1 rfl)⟩

/-! ### isochron/isochronlaw13.ModelApart: function 6 -/
noncomputable def isochronlaw13vModelApart.j47 (x5570 : Int) (x5600 : Int) : Option ((Int × Int) ⊕ (Bool)) := some (.inl (x5600, IntKind.i64.wrap (x5570 + 1)))
noncomputable def isochronlaw13vModelApart.j48 (a4122 : api_Model) (a4132 : Int) (x5570 : Int) (x5603 : Int) : Option ((Int × Int) ⊕ (Bool)) := (if 0 ≤ x5570 then (if (nth a4122.Links x5570).To = a4132 then isochronlaw13vModelApart.j47 x5570 (IntKind.i64.wrap (x5603 + 1)) else isochronlaw13vModelApart.j47 x5570 x5603) else none)
noncomputable def isochronlaw13vModelApart.l45b (a4122 : api_Model) (a4132 : Int) (t5158 : List Int) (t5163 : List Int) : Int × Int → Option ((Int × Int) ⊕ (Bool))
  | (x5569, x5570) => (if x5570 < (a4122.Links.length : Int) then (if 0 ≤ x5570 then (if (nth a4122.Links x5570).From = a4132 then isochronlaw13vModelApart.j48 a4122 a4132 x5570 (IntKind.i64.wrap (x5569 + 1)) else isochronlaw13vModelApart.j48 a4122 a4132 x5570 x5569) else none) else (Option.map Sum.inr (if x5569 = IntKind.i64.wrap ((t5158.length : Int) + (t5163.length : Int)) then ((isochronlaw13vawake.f).bind fun t5609 => some t5609) else some false)))
noncomputable def isochronlaw13vModelApart.l45 (a4122 : api_Model) (a4132 : Int) (t5158 : List Int) (t5163 : List Int) (s : Int × Int) : Option (Bool) := loopR (isochronlaw13vModelApart.l45b a4122 a4132 t5158 t5163) s
noncomputable def isochronlaw13vModelApart.l28b (a4122 : api_Model) (a4132 : Int) (t5158 : List Int) (t5163 : List Int) : Int → Option ((Int) ⊕ (Bool))
  | (x5433) => (if x5433 < (t5163.length : Int) then (if 0 < x5433 then (if 0 ≤ IntKind.i64.wrap (x5433 - 1) ∧ IntKind.i64.wrap (x5433 - 1) < (t5163.length : Int) then (if 0 ≤ x5433 then (if nth t5163 x5433 ≤ nth t5163 (IntKind.i64.wrap (x5433 - 1)) then some (.inr false) else (if nth t5163 x5433 < 0 then some (.inr false) else (if (a4122.Links.length : Int) ≤ nth t5163 x5433 then some (.inr false) else (if 0 ≤ nth t5163 x5433 ∧ nth t5163 x5433 < (a4122.Links.length : Int) then (if (nth a4122.Links (nth t5163 x5433)).To = a4132 then some (.inl (IntKind.i64.wrap (x5433 + 1))) else some (.inr false)) else none)))) else none) else none) else (if 0 ≤ x5433 then (if nth t5163 x5433 < 0 then some (.inr false) else (if (a4122.Links.length : Int) ≤ nth t5163 x5433 then some (.inr false) else (if 0 ≤ nth t5163 x5433 ∧ nth t5163 x5433 < (a4122.Links.length : Int) then (if (nth a4122.Links (nth t5163 x5433)).To = a4132 then some (.inl (IntKind.i64.wrap (x5433 + 1))) else some (.inr false)) else none))) else none)) else (Option.map Sum.inr (isochronlaw13vModelApart.l45 a4122 a4132 t5158 t5163 (0, 0))))
noncomputable def isochronlaw13vModelApart.l28 (a4122 : api_Model) (a4132 : Int) (t5158 : List Int) (t5163 : List Int) (s : Int) : Option (Bool) := loopR (isochronlaw13vModelApart.l28b a4122 a4132 t5158 t5163) s
noncomputable def isochronlaw13vModelApart.l26b (a4122 : api_Model) (a4132 : Int) (t5158 : List Int) (t5163 : List Int) : Int → Option ((Int) ⊕ (Bool))
  | (x5265) => (if x5265 < (t5158.length : Int) then (if 0 < x5265 then (if 0 ≤ IntKind.i64.wrap (x5265 - 1) ∧ IntKind.i64.wrap (x5265 - 1) < (t5158.length : Int) then (if 0 ≤ x5265 then (if nth t5158 x5265 ≤ nth t5158 (IntKind.i64.wrap (x5265 - 1)) then some (.inr false) else (if nth t5158 x5265 < 0 then some (.inr false) else (if (a4122.Links.length : Int) ≤ nth t5158 x5265 then some (.inr false) else (if 0 ≤ nth t5158 x5265 ∧ nth t5158 x5265 < (a4122.Links.length : Int) then (if (nth a4122.Links (nth t5158 x5265)).From = a4132 then some (.inl (IntKind.i64.wrap (x5265 + 1))) else some (.inr false)) else none)))) else none) else none) else (if 0 ≤ x5265 then (if nth t5158 x5265 < 0 then some (.inr false) else (if (a4122.Links.length : Int) ≤ nth t5158 x5265 then some (.inr false) else (if 0 ≤ nth t5158 x5265 ∧ nth t5158 x5265 < (a4122.Links.length : Int) then (if (nth a4122.Links (nth t5158 x5265)).From = a4132 then some (.inl (IntKind.i64.wrap (x5265 + 1))) else some (.inr false)) else none))) else none)) else (Option.map Sum.inr (isochronlaw13vModelApart.l28 a4122 a4132 t5158 t5163 (0))))
noncomputable def isochronlaw13vModelApart.l26 (a4122 : api_Model) (a4132 : Int) (t5158 : List Int) (t5163 : List Int) (s : Int) : Option (Bool) := loopR (isochronlaw13vModelApart.l26b a4122 a4132 t5158 t5163) s
noncomputable def isochronlaw13vModelApart.f (a4122 : api_Model) (a4132 : Int) : Option (Bool) := ((model_Ways.f a4122 a4132).bind fun t5158 => ((model_Into.f a4122 a4132).bind fun t5163 => isochronlaw13vModelApart.l26 a4122 a4132 t5158 t5163 (0)))
set_option maxRecDepth 100000 in
set_option maxHeartbeats 4000000 in
theorem isochronlaw13vModelApart.ok {B : Base} {w : World} {l : List HProp} {hf : Hp} (a4122 : api_Model) (a4132 : Int) (A4123 : Option Addr) (c4124 : Nat) (A4126 : Option Addr) (c4127 : Nat) (A4129 : Option Addr) (c4130 : Nat) (hr4125 : SlR (Rep.sl E_api_Instr.rep) hf A4123 c4124 a4122.Progs) (hr4128 : SlR E_api_Link.rep hf A4126 c4127 a4122.Links) (hr4131 : SlR E_api_Start.rep hf A4129 c4130 a4122.Starts) (hG0 : GlobAt hf 0 (.iface 96 (.agg #[.pointer (some ⟨1, 66, none⟩)]))) (r : Bool) (h : isochronlaw13vModelApart.f a4122 a4132 = some r) (hS : St B w (l) hf) :
    Calls Tryd.prog 6 #[.agg #[.slice A4123 a4122.Progs.length c4124, .slice A4126 a4122.Links.length c4127, .slice A4129 a4122.Starts.length c4130, .int .u64 a4122.Seed, .int .i64 a4122.End, .int .i64 a4122.Budget], .int .i64 a4132] w (Ret fun v w => v = .bool r ∧ St B w (l) hf) := by
  have h := Holds.of h
  refine enter (args := [.agg #[.slice A4123 a4122.Progs.length c4124, .slice A4126 a4122.Links.length c4127, .slice A4129 a4122.Starts.length c4130, .int .u64 a4122.Seed, .int .i64 a4122.End, .int .i64 a4122.Budget], .int .i64 a4132]) Tryd.func6 rfl Tryd.ntmps6 (Nat.le_of_ble_eq_true rfl) ?_
  refine RC.seq ?_
  refine RC.region ?_
  refine RL.e (OW.box (cs := [.slice A4123 a4122.Progs.length c4124, .slice A4126 a4122.Links.length c4127, .slice A4129 a4122.Starts.length c4130, .int .u64 a4122.Seed, .int .i64 a4122.End, .int .i64 a4122.Budget]) hS rfl rfl) rfl rfl ?_
  rintro _ w ⟨b5157, rfl, hS⟩
  have hS : St B w (Cl b5157 [.slice A4123 a4122.Progs.length c4124, .slice A4126 a4122.Links.length c4127, .slice A4129 a4122.Starts.length c4130, .int .u64 a4122.Seed, .int .i64 a4122.End, .int .i64 a4122.Budget] 27 :: l) hf := hS
  refine RL.s (Vl.assign rfl) rfl ?_
  refine RL.nil ?_
  refine RQ.then_n ?_
  refine RC.seq ?_
  refine RC.region ?_
  refine RL.s (Vl.loadA (vs := [.slice A4123 a4122.Progs.length c4124, .slice A4126 a4122.Links.length c4127, .slice A4129 a4122.Starts.length c4130, .int .u64 a4122.Seed, .int .i64 a4122.End, .int .i64 a4122.Budget]) Tryd.isAgg27 Tryd.sizeOf27 rfl rfl (hS.cellsAt 0 rfl rfl)) rfl ?_
  refine RL.s (Vl.move rfl) rfl ?_
  obtain ⟨t5158, hg5159, h⟩ := h.bind
  refine RL.e (OW.callF (ls := [.tmp 11, .tmp 12]) rfl Tryd.call14 (model_Ways.ok a4122 a4132 A4123 c4124 A4126 c4127 A4129 c4130 hr4125 hr4128 hr4131 _ hg5159 hS)) rfl rfl ?_
  rintro _ w ⟨A5160, c5161, rfl, hS⟩
  have hS : St B w (OSf (FI .i64) 3 (.slice A5160 t5158.length c5161) t5158 :: Cl b5157 [.slice A4123 a4122.Progs.length c4124, .slice A4126 a4122.Links.length c4127, .slice A4129 a4122.Starts.length c4130, .int .u64 a4122.Seed, .int .i64 a4122.End, .int .i64 a4122.Budget] 27 :: l) hf := hS
  refine RL.s (Vl.assign rfl) rfl ?_
  refine RL.nil ?_
  refine RQ.then_n ?_
  refine RC.seq ?_
  refine RC.region ?_
  refine RL.s (Vl.loadA (vs := [.slice A4123 a4122.Progs.length c4124, .slice A4126 a4122.Links.length c4127, .slice A4129 a4122.Starts.length c4130, .int .u64 a4122.Seed, .int .i64 a4122.End, .int .i64 a4122.Budget]) Tryd.isAgg27 Tryd.sizeOf27 rfl rfl (hS.cellsAt 1 rfl rfl)) rfl ?_
  refine RL.s (Vl.move rfl) rfl ?_
  obtain ⟨t5163, hg5164, h⟩ := h.bind
  refine RL.e (OW.callF (ls := [.tmp 14, .tmp 15]) rfl Tryd.call15 (model_Into.ok a4122 a4132 A4123 c4124 A4126 c4127 A4129 c4130 hr4125 hr4128 hr4131 _ hg5164 hS)) rfl rfl ?_
  rintro _ w ⟨A5165, c5166, rfl, hS⟩
  have hS : St B w (OSf (FI .i64) 3 (.slice A5165 t5163.length c5166) t5163 :: OSf (FI .i64) 3 (.slice A5160 t5158.length c5161) t5158 :: Cl b5157 [.slice A4123 a4122.Progs.length c4124, .slice A4126 a4122.Links.length c4127, .slice A4129 a4122.Starts.length c4130, .int .u64 a4122.Seed, .int .i64 a4122.End, .int .i64 a4122.Budget] 27 :: l) hf := hS
  refine RL.s (Vl.assign rfl) rfl ?_
  refine RL.nil ?_
  refine RQ.then_n ?_
  refine RC.seq ?_
  refine RC.seq ?_
  refine RC.region ?_
  refine RL.s (Vl.assign rfl) rfl ?_
  refine RL.nil ?_
  refine RQ.then_n ?_
  refine RC.block ?_
  refine fun a ha => RC.loop (N := 154) (body := (isochronlaw13vModelApart.l26b a4122 a4132 t5158 t5163)) (φ := (· = r)) (fun (s : Int) a w => ∃ (x5265 : Int), s = (x5265) ∧ Has 154 [(1, .int .i64 a4132), (2, .pointer (some ⟨b5157, 0, none⟩)), (5, .slice A5160 t5158.length c5161), (6, .slice A5165 t5163.length c5166), (7, .int .i64 x5265)] a ∧ St B w (OSf (FI .i64) 3 (.slice A5160 t5158.length c5161) t5158 :: OSf (FI .i64) 3 (.slice A5165 t5163.length c5166) t5163 :: Cl b5157 [.slice A4123 a4122.Progs.length c4124, .slice A4126 a4122.Links.length c4127, .slice A4129 a4122.Starts.length c4130, .int .u64 a4122.Seed, .int .i64 a4122.End, .int .i64 a4122.Budget] 27 :: l) hf) ?_ (s0 := (0)) h ⟨0, rfl, ha.to ⟨rfl, rfl, rfl, rfl, rfl, trivial⟩, (((hS.pull 2 rfl rfl).pull 1 rfl rfl).pull 2 rfl rfl)⟩
  rintro G5301 x5265 a w ⟨_, rfl, ha, hS⟩ h
  revert a
  show RC _ _ _ _ _ _
  refine RC.seq ?_
  refine RC.seq ?_
  refine RC.region ?_
  refine RL.s (Vl.move rfl) rfl ?_
  refine RL.s (Vl.move rfl) rfl ?_
  refine RL.s (Vl.lenSl Tryd.underlying47 rfl) rfl ?_
  refine RL.s (Vl.int rfl rfl rfl) rfl ?_
  refine RL.nil ?_
  refine RQ.then_n ?_
  by_cases hc5303 : x5265 < (t5158.length : Int)
  case pos =>
    have h := h.pos hc5303
    refine RC.re 20 rfl (congrArg Value.bool (decide_eq_true hc5303)) ?_
    refine RC.condT rfl ?_
    refine RC.skip ?_
    refine RQ.then_n ?_
    refine RC.seq ?_
    refine RC.block ?_
    refine RC.seq ?_
    refine RC.plan (.cons 0 true (.cons 1 true (.cons 2 true (.cons 3 true (.cons 4 true (.cons 5 true (.cons 6 true (.cons 7 true (.cons 8 true (.cons 9 true (.cons 10 true (.cons 11 true (.cons 12 true (.cons 13 true (.cons 14 true (.cons 15 true (.cons 16 true (.cons 17 true (.cons 18 true (.cons 19 true (.cons 20 true (.cons 21 true (.cons 22 true (.cons 23 true (.cons 24 true (.cons 25 true (.cons 26 true (.cons 27 true (.cons 28 true (.cons 29 true (.cons 30 true (.cons 31 true (.cons 32 true (.cons 33 true (.cons 34 true (.cons 35 true (.cons 36 true (.cons 37 true (.cons 38 true (.cons 39 true (.cons 40 true (.cons 41 false (.cons 42 false (.cons 43 false .nil)))))))))))))))))))))))))))))))))))))))))))) [] (fun w => St B w (OSf (FI .i64) 3 (.slice A5160 t5158.length c5161) t5158 :: OSf (FI .i64) 3 (.slice A5165 t5163.length c5166) t5163 :: Cl b5157 [.slice A4123 a4122.Progs.length c4124, .slice A4126 a4122.Links.length c4127, .slice A4129 a4122.Starts.length c4130, .int .u64 a4122.Seed, .int .i64 a4122.End, .int .i64 a4122.Budget] 27 :: l) hf) follows rfl (by kernel_rfl) (NoTmp.then (NoTmp.block (NoTmp.then (NoTmp.then (NoTmp.block (NoTmp.then NoTmp.body)))))) ?_
    have hS := hS.same (w' := { w with drawn := w.drawn + 1 }) rfl rfl
    revert hS
    generalize { w with drawn := w.drawn + 1 } = w
    intro hS
    refine RP.s 0 rfl rfl hS (fun w hS => Vl.move rfl) rfl ?_
    refine RP.s 1 rfl rfl hS (fun w hS => Vl.int rfl rfl rfl) rfl ?_
    refine RP.s 2 rfl rfl hS (fun w hS => Vl.move rfl) rfl ?_
    by_cases hc5320 : 0 < x5265
    case pos =>
      have h := h.pos hc5320
      refine RP.re 25 rfl (congrArg Value.bool (decide_eq_true hc5320)) ?_
      refine RP.sg 3 rfl rfl hS (fun w hS => Vl.move rfl) rfl rfl ?_
      refine RP.sg 4 rfl rfl hS (fun w hS => Vl.move rfl) rfl rfl ?_
      refine RP.sg 5 rfl rfl hS (fun w hS => Vl.int rfl rfl rfl) rfl rfl ?_
      obtain ⟨⟨hq5321, hq5322⟩, h⟩ := h.req
      refine RP.sg 6 rfl rfl hS (fun w hS => Vl.indexAddr Tryd.underlying47 Tryd.sizeOf3 rfl rfl ((hS.slW 0 rfl).2.2.adr hq5321 hq5322) hq5321 hq5322 rfl) rfl rfl ?_
      refine RP.sg 7 rfl rfl hS (fun w hS => Vl.load Tryd.isAgg3 rfl ((hS.slW 0 rfl).2.2.cell (j := 0) hq5321 hq5322 rfl)) rfl rfl ?_
      refine RP.sg 8 rfl rfl hS (fun w hS => Vl.move rfl) rfl rfl ?_
      refine RP.sg 9 rfl rfl hS (fun w hS => Vl.move rfl) rfl rfl ?_
      obtain ⟨hq5323, h⟩ := h.req
      refine RP.sg 10 rfl rfl hS (fun w hS => Vl.indexAddr Tryd.underlying47 Tryd.sizeOf3 rfl rfl ((hS.slW 0 rfl).2.2.adr hq5323 hc5303) hq5323 hc5303 rfl) rfl rfl ?_
      refine RP.sg 11 rfl rfl hS (fun w hS => Vl.load Tryd.isAgg3 rfl ((hS.slW 0 rfl).2.2.cell (j := 0) hq5323 hc5303 rfl)) rfl rfl ?_
      refine RP.sg 12 rfl rfl hS (fun w hS => Vl.int rfl rfl rfl) rfl rfl ?_
      refine RP.s 13 rfl rfl hS (fun w hS => Vl.pickT rfl rfl) rfl ?_
      refine RP.s 14 rfl rfl hS (fun w hS => Vl.move rfl) rfl ?_
      by_cases hc5324 : nth t5158 x5265 ≤ nth t5158 (IntKind.i64.wrap (x5265 - 1))
      case pos =>
        have h := h.pos hc5324
        refine RP.re 37 rfl (congrArg Value.bool (decide_eq_true hc5324)) ?_
        refine RP.nn 15 rfl rfl hS rfl rfl ?_
        refine RP.nn 16 rfl rfl hS rfl rfl ?_
        refine RP.nn 17 rfl rfl hS rfl rfl ?_
        refine RP.nn 18 rfl rfl hS rfl rfl ?_
        refine RP.nn 19 rfl rfl hS rfl rfl ?_
        refine RP.s 20 rfl rfl hS (fun w hS => Vl.pickT rfl rfl) rfl ?_
        refine RP.s 21 rfl rfl hS (fun w hS => Vl.move rfl) rfl ?_
        refine RP.nn 22 rfl rfl hS rfl rfl ?_
        refine RP.nn 23 rfl rfl hS rfl rfl ?_
        refine RP.nn 24 rfl rfl hS rfl rfl ?_
        refine RP.nn 25 rfl rfl hS rfl rfl ?_
        refine RP.nn 26 rfl rfl hS rfl rfl ?_
        refine RP.nn 27 rfl rfl hS rfl rfl ?_
        refine RP.nn 28 rfl rfl hS rfl rfl ?_
        refine RP.nn 29 rfl rfl hS rfl rfl ?_
        refine RP.s 30 rfl rfl hS (fun w hS => Vl.pickT rfl rfl) rfl ?_
        refine RP.s 31 rfl rfl hS (fun w hS => Vl.move rfl) rfl ?_
        refine RP.nn 32 rfl rfl hS rfl rfl ?_
        refine RP.nn 33 rfl rfl hS rfl rfl ?_
        refine RP.nn 34 rfl rfl hS rfl rfl ?_
        refine RP.nn 35 rfl rfl hS rfl rfl ?_
        refine RP.nn 36 rfl rfl hS rfl rfl ?_
        refine RP.nn 37 rfl rfl hS rfl rfl ?_
        refine RP.nn 38 rfl rfl hS rfl rfl ?_
        refine RP.nn 39 rfl rfl hS rfl rfl ?_
        refine RP.nn 40 rfl rfl hS rfl rfl ?_
        refine RP.n1 41 rfl (fun _ => hS) rfl rfl ?_
        refine RP.n1 42 rfl (fun _ => hS) rfl rfl ?_
        refine RP.v1 43 rfl (fun _ => hS) (Vl.pickT rfl rfl) rfl rfl ?_
        refine RP.nil ?_
        refine RQ.then_n ?_
        refine RC.condT rfl ?_
        refine RC.seq ?_
        refine RC.region ?_
        refine RL.s (Vl.assign rfl) rfl ?_
        refine RL.nil ?_
        refine RQ.then_n ?_
        refine RC.ret ?_
        refine RQ.inB_ret ?_
        refine RQ.ret ?_
        have h := h.inrS
        refine RQ.ret ?_
        refine RQ.inB_ret ?_
        refine RQ.ret ?_
        have e := h.some
        subst e
        refine RQ.ret0 (vs := [.bool false]) Tryd.results6 ⟨rfl, trivial⟩ ?_
        exact ⟨rfl, (((hS.dropAt 0 rfl).dropAt 0 rfl).dropAt 0 rfl)⟩
      case neg =>
        have h := h.neg hc5324
        refine RP.re 37 rfl (congrArg Value.bool (decide_eq_false hc5324)) ?_
        refine RP.sg 15 rfl rfl hS (fun w hS => Vl.move rfl) rfl rfl ?_
        refine RP.sg 16 rfl rfl hS (fun w hS => Vl.move rfl) rfl rfl ?_
        refine RP.sg 17 rfl rfl hS (fun w hS => Vl.indexAddr Tryd.underlying47 Tryd.sizeOf3 rfl rfl ((hS.slW 0 rfl).2.2.adr hq5323 hc5303) hq5323 hc5303 rfl) rfl rfl ?_
        refine RP.sg 18 rfl rfl hS (fun w hS => Vl.load Tryd.isAgg3 rfl ((hS.slW 0 rfl).2.2.cell (j := 0) hq5323 hc5303 rfl)) rfl rfl ?_
        refine RP.sg 19 rfl rfl hS (fun w hS => Vl.int rfl rfl rfl) rfl rfl ?_
        refine RP.s 20 rfl rfl hS (fun w hS => Vl.pickF rfl rfl) rfl ?_
        refine RP.s 21 rfl rfl hS (fun w hS => Vl.move rfl) rfl ?_
        by_cases hc5325 : nth t5158 x5265 < 0
        case pos =>
          have h := h.pos hc5325
          refine RP.re 44 rfl (congrArg Value.bool (decide_eq_true hc5325)) ?_
          refine RP.nn 22 rfl rfl hS rfl rfl ?_
          refine RP.nn 23 rfl rfl hS rfl rfl ?_
          refine RP.nn 24 rfl rfl hS rfl rfl ?_
          refine RP.nn 25 rfl rfl hS rfl rfl ?_
          refine RP.nn 26 rfl rfl hS rfl rfl ?_
          refine RP.nn 27 rfl rfl hS rfl rfl ?_
          refine RP.nn 28 rfl rfl hS rfl rfl ?_
          refine RP.nn 29 rfl rfl hS rfl rfl ?_
          refine RP.s 30 rfl rfl hS (fun w hS => Vl.pickT rfl rfl) rfl ?_
          refine RP.s 31 rfl rfl hS (fun w hS => Vl.move rfl) rfl ?_
          refine RP.nn 32 rfl rfl hS rfl rfl ?_
          refine RP.nn 33 rfl rfl hS rfl rfl ?_
          refine RP.nn 34 rfl rfl hS rfl rfl ?_
          refine RP.nn 35 rfl rfl hS rfl rfl ?_
          refine RP.nn 36 rfl rfl hS rfl rfl ?_
          refine RP.nn 37 rfl rfl hS rfl rfl ?_
          refine RP.nn 38 rfl rfl hS rfl rfl ?_
          refine RP.nn 39 rfl rfl hS rfl rfl ?_
          refine RP.nn 40 rfl rfl hS rfl rfl ?_
          refine RP.n1 41 rfl (fun _ => hS) rfl rfl ?_
          refine RP.n1 42 rfl (fun _ => hS) rfl rfl ?_
          refine RP.v1 43 rfl (fun _ => hS) (Vl.pickT rfl rfl) rfl rfl ?_
          refine RP.nil ?_
          refine RQ.then_n ?_
          refine RC.condT rfl ?_
          refine RC.seq ?_
          refine RC.region ?_
          refine RL.s (Vl.assign rfl) rfl ?_
          refine RL.nil ?_
          refine RQ.then_n ?_
          refine RC.ret ?_
          refine RQ.inB_ret ?_
          refine RQ.ret ?_
          have h := h.inrS
          refine RQ.ret ?_
          refine RQ.inB_ret ?_
          refine RQ.ret ?_
          have e := h.some
          subst e
          refine RQ.ret0 (vs := [.bool false]) Tryd.results6 ⟨rfl, trivial⟩ ?_
          exact ⟨rfl, (((hS.dropAt 0 rfl).dropAt 0 rfl).dropAt 0 rfl)⟩
        case neg =>
          have h := h.neg hc5325
          refine RP.re 44 rfl (congrArg Value.bool (decide_eq_false hc5325)) ?_
          refine RP.sg 22 rfl rfl hS (fun w hS => Vl.move rfl) rfl rfl ?_
          refine RP.sg 23 rfl rfl hS (fun w hS => Vl.move rfl) rfl rfl ?_
          refine RP.sg 24 rfl rfl hS (fun w hS => Vl.indexAddr Tryd.underlying47 Tryd.sizeOf3 rfl rfl ((hS.slW 0 rfl).2.2.adr hq5323 hc5303) hq5323 hc5303 rfl) rfl rfl ?_
          refine RP.sg 25 rfl rfl hS (fun w hS => Vl.load Tryd.isAgg3 rfl ((hS.slW 0 rfl).2.2.cell (j := 0) hq5323 hc5303 rfl)) rfl rfl ?_
          refine RP.sg 26 rfl rfl hS (fun w hS => Vl.fieldAddr (a'' := ⟨b5157, 1, none⟩) Tryd.underlying27 rfl Tryd.sizeOf23 rfl rfl) rfl rfl ?_
          refine RP.sg 27 rfl rfl hS (fun w hS => Vl.load Tryd.isAgg23 rfl (hS.cell 2 rfl rfl)) rfl rfl ?_
          refine RP.sg 28 rfl rfl hS (fun w hS => Vl.lenSl Tryd.underlying23 rfl) rfl rfl ?_
          refine RP.sg 29 rfl rfl hS (fun w hS => Vl.int rfl rfl rfl) rfl rfl ?_
          refine RP.s 30 rfl rfl hS (fun w hS => Vl.pickF rfl rfl) rfl ?_
          refine RP.s 31 rfl rfl hS (fun w hS => Vl.move rfl) rfl ?_
          by_cases hc5326 : (a4122.Links.length : Int) ≤ nth t5158 x5265
          case pos =>
            have h := h.pos hc5326
            refine RP.re 54 rfl (congrArg Value.bool (decide_eq_true hc5326)) ?_
            refine RP.nn 32 rfl rfl hS rfl rfl ?_
            refine RP.nn 33 rfl rfl hS rfl rfl ?_
            refine RP.nn 34 rfl rfl hS rfl rfl ?_
            refine RP.nn 35 rfl rfl hS rfl rfl ?_
            refine RP.nn 36 rfl rfl hS rfl rfl ?_
            refine RP.nn 37 rfl rfl hS rfl rfl ?_
            refine RP.nn 38 rfl rfl hS rfl rfl ?_
            refine RP.nn 39 rfl rfl hS rfl rfl ?_
            refine RP.nn 40 rfl rfl hS rfl rfl ?_
            refine RP.n1 41 rfl (fun _ => hS) rfl rfl ?_
            refine RP.n1 42 rfl (fun _ => hS) rfl rfl ?_
            refine RP.v1 43 rfl (fun _ => hS) (Vl.pickT rfl rfl) rfl rfl ?_
            refine RP.nil ?_
            refine RQ.then_n ?_
            refine RC.condT rfl ?_
            refine RC.seq ?_
            refine RC.region ?_
            refine RL.s (Vl.assign rfl) rfl ?_
            refine RL.nil ?_
            refine RQ.then_n ?_
            refine RC.ret ?_
            refine RQ.inB_ret ?_
            refine RQ.ret ?_
            have h := h.inrS
            refine RQ.ret ?_
            refine RQ.inB_ret ?_
            refine RQ.ret ?_
            have e := h.some
            subst e
            refine RQ.ret0 (vs := [.bool false]) Tryd.results6 ⟨rfl, trivial⟩ ?_
            exact ⟨rfl, (((hS.dropAt 0 rfl).dropAt 0 rfl).dropAt 0 rfl)⟩
          case neg =>
            have h := h.neg hc5326
            refine RP.re 54 rfl (congrArg Value.bool (decide_eq_false hc5326)) ?_
            refine RP.sg 32 rfl rfl hS (fun w hS => Vl.fieldAddr (a'' := ⟨b5157, 1, none⟩) Tryd.underlying27 rfl Tryd.sizeOf23 rfl rfl) rfl rfl ?_
            refine RP.sg 33 rfl rfl hS (fun w hS => Vl.load Tryd.isAgg23 rfl (hS.cell 2 rfl rfl)) rfl rfl ?_
            refine RP.sg 34 rfl rfl hS (fun w hS => Vl.move rfl) rfl rfl ?_
            refine RP.sg 35 rfl rfl hS (fun w hS => Vl.move rfl) rfl rfl ?_
            refine RP.sg 36 rfl rfl hS (fun w hS => Vl.indexAddr Tryd.underlying47 Tryd.sizeOf3 rfl rfl ((hS.slW 0 rfl).2.2.adr hq5323 hc5303) hq5323 hc5303 rfl) rfl rfl ?_
            refine RP.sg 37 rfl rfl hS (fun w hS => Vl.load Tryd.isAgg3 rfl ((hS.slW 0 rfl).2.2.cell (j := 0) hq5323 hc5303 rfl)) rfl rfl ?_
            obtain ⟨⟨hq5327, hq5328⟩, h⟩ := h.req
            refine RP.sg 38 rfl rfl hS (fun w hS => Vl.indexAddr Tryd.underlying23 Tryd.sizeOf37 rfl rfl ((hr4128.2.world hS.sub).adr hq5327 hq5328) hq5327 hq5328 rfl) rfl rfl ?_
            refine RP.sg 39 rfl rfl hS (fun w hS => Vl.fieldAddr (a'' := (ad A4126).add ((nth t5158 x5265).toNat * 4 + 0)) Tryd.underlying37 rfl Tryd.sizeOf3 rfl (add_add _ _ _)) rfl rfl ?_
            refine RP.sg 40 rfl rfl hS (fun w hS => Vl.load Tryd.isAgg3 rfl ((hr4128.2.world hS.sub).cell (j := 0) hq5327 hq5328 rfl)) rfl rfl ?_
            refine RP.v1 41 rfl (fun _ => hS) (Vl.move rfl) rfl rfl ?_
            refine RP.v1 42 rfl (fun _ => hS) (Vl.int rfl rfl rfl) rfl rfl ?_
            refine RP.v1 43 rfl (fun _ => hS) (Vl.pickF rfl rfl) rfl rfl ?_
            refine RP.nil ?_
            refine RQ.then_n ?_
            by_cases hc5329 : (nth a4122.Links (nth t5158 x5265)).From = a4132
            case pos =>
              have h := h.pos hc5329
              refine RC.re 66 rfl (congrArg Value.bool (notdec_pos hc5329)) ?_
              refine RC.condF rfl ?_
              refine RC.skip ?_
              refine RQ.inB_n ?_
              refine RQ.then_n ?_
              refine RC.region ?_
              refine RL.s (Vl.move rfl) rfl ?_
              refine RL.s (Vl.int rfl rfl rfl) rfl ?_
              refine RL.s (Vl.assign rfl) rfl ?_
              refine RL.nil ?_
              exact fun a ha => ⟨(IntKind.i64.wrap (x5265 + 1)), ⟨(IntKind.i64.wrap (x5265 + 1)), rfl, ha.to ⟨rfl, rfl, rfl, rfl, rfl, trivial⟩, hS⟩, h.some⟩
            case neg =>
              have h := h.neg hc5329
              refine RC.re 66 rfl (congrArg Value.bool (notdec_neg hc5329)) ?_
              refine RC.condT rfl ?_
              refine RC.seq ?_
              refine RC.region ?_
              refine RL.s (Vl.assign rfl) rfl ?_
              refine RL.nil ?_
              refine RQ.then_n ?_
              refine RC.ret ?_
              refine RQ.inB_ret ?_
              refine RQ.ret ?_
              have h := h.inrS
              refine RQ.ret ?_
              refine RQ.inB_ret ?_
              refine RQ.ret ?_
              have e := h.some
              subst e
              refine RQ.ret0 (vs := [.bool false]) Tryd.results6 ⟨rfl, trivial⟩ ?_
              exact ⟨rfl, (((hS.dropAt 0 rfl).dropAt 0 rfl).dropAt 0 rfl)⟩
    case neg =>
      have h := h.neg hc5320
      refine RP.re 25 rfl (congrArg Value.bool (decide_eq_false hc5320)) ?_
      refine RP.nn 3 rfl rfl hS rfl rfl ?_
      refine RP.nn 4 rfl rfl hS rfl rfl ?_
      refine RP.nn 5 rfl rfl hS rfl rfl ?_
      refine RP.nn 6 rfl rfl hS rfl rfl ?_
      refine RP.nn 7 rfl rfl hS rfl rfl ?_
      refine RP.nn 8 rfl rfl hS rfl rfl ?_
      refine RP.nn 9 rfl rfl hS rfl rfl ?_
      refine RP.nn 10 rfl rfl hS rfl rfl ?_
      refine RP.nn 11 rfl rfl hS rfl rfl ?_
      refine RP.nn 12 rfl rfl hS rfl rfl ?_
      refine RP.s 13 rfl rfl hS (fun w hS => Vl.pickF rfl rfl) rfl ?_
      refine RP.s 14 rfl rfl hS (fun w hS => Vl.move rfl) rfl ?_
      refine RP.sg 15 rfl rfl hS (fun w hS => Vl.move rfl) rfl rfl ?_
      refine RP.sg 16 rfl rfl hS (fun w hS => Vl.move rfl) rfl rfl ?_
      obtain ⟨hq5330, h⟩ := h.req
      refine RP.sg 17 rfl rfl hS (fun w hS => Vl.indexAddr Tryd.underlying47 Tryd.sizeOf3 rfl rfl ((hS.slW 0 rfl).2.2.adr hq5330 hc5303) hq5330 hc5303 rfl) rfl rfl ?_
      refine RP.sg 18 rfl rfl hS (fun w hS => Vl.load Tryd.isAgg3 rfl ((hS.slW 0 rfl).2.2.cell (j := 0) hq5330 hc5303 rfl)) rfl rfl ?_
      refine RP.sg 19 rfl rfl hS (fun w hS => Vl.int rfl rfl rfl) rfl rfl ?_
      refine RP.s 20 rfl rfl hS (fun w hS => Vl.pickF rfl rfl) rfl ?_
      refine RP.s 21 rfl rfl hS (fun w hS => Vl.move rfl) rfl ?_
      by_cases hc5331 : nth t5158 x5265 < 0
      case pos =>
        have h := h.pos hc5331
        refine RP.re 44 rfl (congrArg Value.bool (decide_eq_true hc5331)) ?_
        refine RP.nn 22 rfl rfl hS rfl rfl ?_
        refine RP.nn 23 rfl rfl hS rfl rfl ?_
        refine RP.nn 24 rfl rfl hS rfl rfl ?_
        refine RP.nn 25 rfl rfl hS rfl rfl ?_
        refine RP.nn 26 rfl rfl hS rfl rfl ?_
        refine RP.nn 27 rfl rfl hS rfl rfl ?_
        refine RP.nn 28 rfl rfl hS rfl rfl ?_
        refine RP.nn 29 rfl rfl hS rfl rfl ?_
        refine RP.s 30 rfl rfl hS (fun w hS => Vl.pickT rfl rfl) rfl ?_
        refine RP.s 31 rfl rfl hS (fun w hS => Vl.move rfl) rfl ?_
        refine RP.nn 32 rfl rfl hS rfl rfl ?_
        refine RP.nn 33 rfl rfl hS rfl rfl ?_
        refine RP.nn 34 rfl rfl hS rfl rfl ?_
        refine RP.nn 35 rfl rfl hS rfl rfl ?_
        refine RP.nn 36 rfl rfl hS rfl rfl ?_
        refine RP.nn 37 rfl rfl hS rfl rfl ?_
        refine RP.nn 38 rfl rfl hS rfl rfl ?_
        refine RP.nn 39 rfl rfl hS rfl rfl ?_
        refine RP.nn 40 rfl rfl hS rfl rfl ?_
        refine RP.n1 41 rfl (fun _ => hS) rfl rfl ?_
        refine RP.n1 42 rfl (fun _ => hS) rfl rfl ?_
        refine RP.v1 43 rfl (fun _ => hS) (Vl.pickT rfl rfl) rfl rfl ?_
        refine RP.nil ?_
        refine RQ.then_n ?_
        refine RC.condT rfl ?_
        refine RC.seq ?_
        refine RC.region ?_
        refine RL.s (Vl.assign rfl) rfl ?_
        refine RL.nil ?_
        refine RQ.then_n ?_
        refine RC.ret ?_
        refine RQ.inB_ret ?_
        refine RQ.ret ?_
        have h := h.inrS
        refine RQ.ret ?_
        refine RQ.inB_ret ?_
        refine RQ.ret ?_
        have e := h.some
        subst e
        refine RQ.ret0 (vs := [.bool false]) Tryd.results6 ⟨rfl, trivial⟩ ?_
        exact ⟨rfl, (((hS.dropAt 0 rfl).dropAt 0 rfl).dropAt 0 rfl)⟩
      case neg =>
        have h := h.neg hc5331
        refine RP.re 44 rfl (congrArg Value.bool (decide_eq_false hc5331)) ?_
        refine RP.sg 22 rfl rfl hS (fun w hS => Vl.move rfl) rfl rfl ?_
        refine RP.sg 23 rfl rfl hS (fun w hS => Vl.move rfl) rfl rfl ?_
        refine RP.sg 24 rfl rfl hS (fun w hS => Vl.indexAddr Tryd.underlying47 Tryd.sizeOf3 rfl rfl ((hS.slW 0 rfl).2.2.adr hq5330 hc5303) hq5330 hc5303 rfl) rfl rfl ?_
        refine RP.sg 25 rfl rfl hS (fun w hS => Vl.load Tryd.isAgg3 rfl ((hS.slW 0 rfl).2.2.cell (j := 0) hq5330 hc5303 rfl)) rfl rfl ?_
        refine RP.sg 26 rfl rfl hS (fun w hS => Vl.fieldAddr (a'' := ⟨b5157, 1, none⟩) Tryd.underlying27 rfl Tryd.sizeOf23 rfl rfl) rfl rfl ?_
        refine RP.sg 27 rfl rfl hS (fun w hS => Vl.load Tryd.isAgg23 rfl (hS.cell 2 rfl rfl)) rfl rfl ?_
        refine RP.sg 28 rfl rfl hS (fun w hS => Vl.lenSl Tryd.underlying23 rfl) rfl rfl ?_
        refine RP.sg 29 rfl rfl hS (fun w hS => Vl.int rfl rfl rfl) rfl rfl ?_
        refine RP.s 30 rfl rfl hS (fun w hS => Vl.pickF rfl rfl) rfl ?_
        refine RP.s 31 rfl rfl hS (fun w hS => Vl.move rfl) rfl ?_
        by_cases hc5332 : (a4122.Links.length : Int) ≤ nth t5158 x5265
        case pos =>
          have h := h.pos hc5332
          refine RP.re 54 rfl (congrArg Value.bool (decide_eq_true hc5332)) ?_
          refine RP.nn 32 rfl rfl hS rfl rfl ?_
          refine RP.nn 33 rfl rfl hS rfl rfl ?_
          refine RP.nn 34 rfl rfl hS rfl rfl ?_
          refine RP.nn 35 rfl rfl hS rfl rfl ?_
          refine RP.nn 36 rfl rfl hS rfl rfl ?_
          refine RP.nn 37 rfl rfl hS rfl rfl ?_
          refine RP.nn 38 rfl rfl hS rfl rfl ?_
          refine RP.nn 39 rfl rfl hS rfl rfl ?_
          refine RP.nn 40 rfl rfl hS rfl rfl ?_
          refine RP.n1 41 rfl (fun _ => hS) rfl rfl ?_
          refine RP.n1 42 rfl (fun _ => hS) rfl rfl ?_
          refine RP.v1 43 rfl (fun _ => hS) (Vl.pickT rfl rfl) rfl rfl ?_
          refine RP.nil ?_
          refine RQ.then_n ?_
          refine RC.condT rfl ?_
          refine RC.seq ?_
          refine RC.region ?_
          refine RL.s (Vl.assign rfl) rfl ?_
          refine RL.nil ?_
          refine RQ.then_n ?_
          refine RC.ret ?_
          refine RQ.inB_ret ?_
          refine RQ.ret ?_
          have h := h.inrS
          refine RQ.ret ?_
          refine RQ.inB_ret ?_
          refine RQ.ret ?_
          have e := h.some
          subst e
          refine RQ.ret0 (vs := [.bool false]) Tryd.results6 ⟨rfl, trivial⟩ ?_
          exact ⟨rfl, (((hS.dropAt 0 rfl).dropAt 0 rfl).dropAt 0 rfl)⟩
        case neg =>
          have h := h.neg hc5332
          refine RP.re 54 rfl (congrArg Value.bool (decide_eq_false hc5332)) ?_
          refine RP.sg 32 rfl rfl hS (fun w hS => Vl.fieldAddr (a'' := ⟨b5157, 1, none⟩) Tryd.underlying27 rfl Tryd.sizeOf23 rfl rfl) rfl rfl ?_
          refine RP.sg 33 rfl rfl hS (fun w hS => Vl.load Tryd.isAgg23 rfl (hS.cell 2 rfl rfl)) rfl rfl ?_
          refine RP.sg 34 rfl rfl hS (fun w hS => Vl.move rfl) rfl rfl ?_
          refine RP.sg 35 rfl rfl hS (fun w hS => Vl.move rfl) rfl rfl ?_
          refine RP.sg 36 rfl rfl hS (fun w hS => Vl.indexAddr Tryd.underlying47 Tryd.sizeOf3 rfl rfl ((hS.slW 0 rfl).2.2.adr hq5330 hc5303) hq5330 hc5303 rfl) rfl rfl ?_
          refine RP.sg 37 rfl rfl hS (fun w hS => Vl.load Tryd.isAgg3 rfl ((hS.slW 0 rfl).2.2.cell (j := 0) hq5330 hc5303 rfl)) rfl rfl ?_
          obtain ⟨⟨hq5333, hq5334⟩, h⟩ := h.req
          refine RP.sg 38 rfl rfl hS (fun w hS => Vl.indexAddr Tryd.underlying23 Tryd.sizeOf37 rfl rfl ((hr4128.2.world hS.sub).adr hq5333 hq5334) hq5333 hq5334 rfl) rfl rfl ?_
          refine RP.sg 39 rfl rfl hS (fun w hS => Vl.fieldAddr (a'' := (ad A4126).add ((nth t5158 x5265).toNat * 4 + 0)) Tryd.underlying37 rfl Tryd.sizeOf3 rfl (add_add _ _ _)) rfl rfl ?_
          refine RP.sg 40 rfl rfl hS (fun w hS => Vl.load Tryd.isAgg3 rfl ((hr4128.2.world hS.sub).cell (j := 0) hq5333 hq5334 rfl)) rfl rfl ?_
          refine RP.v1 41 rfl (fun _ => hS) (Vl.move rfl) rfl rfl ?_
          refine RP.v1 42 rfl (fun _ => hS) (Vl.int rfl rfl rfl) rfl rfl ?_
          refine RP.v1 43 rfl (fun _ => hS) (Vl.pickF rfl rfl) rfl rfl ?_
          refine RP.nil ?_
          refine RQ.then_n ?_
          by_cases hc5335 : (nth a4122.Links (nth t5158 x5265)).From = a4132
          case pos =>
            have h := h.pos hc5335
            refine RC.re 66 rfl (congrArg Value.bool (notdec_pos hc5335)) ?_
            refine RC.condF rfl ?_
            refine RC.skip ?_
            refine RQ.inB_n ?_
            refine RQ.then_n ?_
            refine RC.region ?_
            refine RL.s (Vl.move rfl) rfl ?_
            refine RL.s (Vl.int rfl rfl rfl) rfl ?_
            refine RL.s (Vl.assign rfl) rfl ?_
            refine RL.nil ?_
            exact fun a ha => ⟨(IntKind.i64.wrap (x5265 + 1)), ⟨(IntKind.i64.wrap (x5265 + 1)), rfl, ha.to ⟨rfl, rfl, rfl, rfl, rfl, trivial⟩, hS⟩, h.some⟩
          case neg =>
            have h := h.neg hc5335
            refine RC.re 66 rfl (congrArg Value.bool (notdec_neg hc5335)) ?_
            refine RC.condT rfl ?_
            refine RC.seq ?_
            refine RC.region ?_
            refine RL.s (Vl.assign rfl) rfl ?_
            refine RL.nil ?_
            refine RQ.then_n ?_
            refine RC.ret ?_
            refine RQ.inB_ret ?_
            refine RQ.ret ?_
            have h := h.inrS
            refine RQ.ret ?_
            refine RQ.inB_ret ?_
            refine RQ.ret ?_
            have e := h.some
            subst e
            refine RQ.ret0 (vs := [.bool false]) Tryd.results6 ⟨rfl, trivial⟩ ?_
            exact ⟨rfl, (((hS.dropAt 0 rfl).dropAt 0 rfl).dropAt 0 rfl)⟩
  case neg =>
    have h := h.neg hc5303
    refine RC.re 20 rfl (congrArg Value.bool (decide_eq_false hc5303)) ?_
    refine RC.condF rfl ?_
    refine RC.exit ?_
    refine RQ.exitT ?_
    have h := h.inr
    refine RQ.exitT ?_
    refine RQ.inB_hit ?_
    refine RQ.then_n ?_
    refine RC.seq ?_
    refine RC.seq ?_
    refine RC.region ?_
    refine RL.s (Vl.assign rfl) rfl ?_
    refine RL.nil ?_
    refine RQ.then_n ?_
    refine RC.block ?_
    refine fun a ha => RC.loop (N := 154) (body := (isochronlaw13vModelApart.l28b a4122 a4132 t5158 t5163)) (φ := (· = r)) (fun (s : Int) a w => ∃ (x5433 : Int), s = (x5433) ∧ Has 154 [(1, .int .i64 a4132), (2, .pointer (some ⟨b5157, 0, none⟩)), (5, .slice A5160 t5158.length c5161), (6, .slice A5165 t5163.length c5166), (8, .int .i64 x5433)] a ∧ St B w (OSf (FI .i64) 3 (.slice A5160 t5158.length c5161) t5158 :: OSf (FI .i64) 3 (.slice A5165 t5163.length c5166) t5163 :: Cl b5157 [.slice A4123 a4122.Progs.length c4124, .slice A4126 a4122.Links.length c4127, .slice A4129 a4122.Starts.length c4130, .int .u64 a4122.Seed, .int .i64 a4122.End, .int .i64 a4122.Budget] 27 :: l) hf) ?_ (s0 := (0)) h ⟨0, rfl, ha.to ⟨rfl, rfl, rfl, rfl, rfl, trivial⟩, hS⟩
    rintro G5469 x5433 a w ⟨_, rfl, ha, hS⟩ h
    revert a
    show RC _ _ _ _ _ _
    refine RC.seq ?_
    refine RC.seq ?_
    refine RC.region ?_
    refine RL.s (Vl.move rfl) rfl ?_
    refine RL.s (Vl.move rfl) rfl ?_
    refine RL.s (Vl.lenSl Tryd.underlying47 rfl) rfl ?_
    refine RL.s (Vl.int rfl rfl rfl) rfl ?_
    refine RL.nil ?_
    refine RQ.then_n ?_
    by_cases hc5471 : x5433 < (t5163.length : Int)
    case pos =>
      have h := h.pos hc5471
      refine RC.re 70 rfl (congrArg Value.bool (decide_eq_true hc5471)) ?_
      refine RC.condT rfl ?_
      refine RC.skip ?_
      refine RQ.then_n ?_
      refine RC.seq ?_
      refine RC.block ?_
      refine RC.seq ?_
      refine RC.plan (.cons 0 true (.cons 1 true (.cons 2 true (.cons 3 true (.cons 4 true (.cons 5 true (.cons 6 true (.cons 7 true (.cons 8 true (.cons 9 true (.cons 10 true (.cons 11 true (.cons 12 true (.cons 13 true (.cons 14 true (.cons 15 true (.cons 16 true (.cons 17 true (.cons 18 true (.cons 19 true (.cons 20 true (.cons 21 true (.cons 22 true (.cons 23 true (.cons 24 true (.cons 25 true (.cons 26 true (.cons 27 true (.cons 28 true (.cons 29 true (.cons 30 true (.cons 31 true (.cons 32 true (.cons 33 true (.cons 34 true (.cons 35 true (.cons 36 true (.cons 37 true (.cons 38 true (.cons 39 true (.cons 40 true (.cons 41 false (.cons 42 false (.cons 43 false .nil)))))))))))))))))))))))))))))))))))))))))))) [] (fun w => St B w (OSf (FI .i64) 3 (.slice A5160 t5158.length c5161) t5158 :: OSf (FI .i64) 3 (.slice A5165 t5163.length c5166) t5163 :: Cl b5157 [.slice A4123 a4122.Progs.length c4124, .slice A4126 a4122.Links.length c4127, .slice A4129 a4122.Starts.length c4130, .int .u64 a4122.Seed, .int .i64 a4122.End, .int .i64 a4122.Budget] 27 :: l) hf) follows rfl (by kernel_rfl) (NoTmp.then (NoTmp.block (NoTmp.then (NoTmp.then (NoTmp.block (NoTmp.then NoTmp.body)))))) ?_
      have hS := hS.same (w' := { w with drawn := w.drawn + 1 }) rfl rfl
      revert hS
      generalize { w with drawn := w.drawn + 1 } = w
      intro hS
      refine RP.s 0 rfl rfl hS (fun w hS => Vl.move rfl) rfl ?_
      refine RP.s 1 rfl rfl hS (fun w hS => Vl.int rfl rfl rfl) rfl ?_
      refine RP.s 2 rfl rfl hS (fun w hS => Vl.move rfl) rfl ?_
      by_cases hc5488 : 0 < x5433
      case pos =>
        have h := h.pos hc5488
        refine RP.re 75 rfl (congrArg Value.bool (decide_eq_true hc5488)) ?_
        refine RP.sg 3 rfl rfl hS (fun w hS => Vl.move rfl) rfl rfl ?_
        refine RP.sg 4 rfl rfl hS (fun w hS => Vl.move rfl) rfl rfl ?_
        refine RP.sg 5 rfl rfl hS (fun w hS => Vl.int rfl rfl rfl) rfl rfl ?_
        obtain ⟨⟨hq5489, hq5490⟩, h⟩ := h.req
        refine RP.sg 6 rfl rfl hS (fun w hS => Vl.indexAddr Tryd.underlying47 Tryd.sizeOf3 rfl rfl ((hS.slW 1 rfl).2.2.adr hq5489 hq5490) hq5489 hq5490 rfl) rfl rfl ?_
        refine RP.sg 7 rfl rfl hS (fun w hS => Vl.load Tryd.isAgg3 rfl ((hS.slW 1 rfl).2.2.cell (j := 0) hq5489 hq5490 rfl)) rfl rfl ?_
        refine RP.sg 8 rfl rfl hS (fun w hS => Vl.move rfl) rfl rfl ?_
        refine RP.sg 9 rfl rfl hS (fun w hS => Vl.move rfl) rfl rfl ?_
        obtain ⟨hq5491, h⟩ := h.req
        refine RP.sg 10 rfl rfl hS (fun w hS => Vl.indexAddr Tryd.underlying47 Tryd.sizeOf3 rfl rfl ((hS.slW 1 rfl).2.2.adr hq5491 hc5471) hq5491 hc5471 rfl) rfl rfl ?_
        refine RP.sg 11 rfl rfl hS (fun w hS => Vl.load Tryd.isAgg3 rfl ((hS.slW 1 rfl).2.2.cell (j := 0) hq5491 hc5471 rfl)) rfl rfl ?_
        refine RP.sg 12 rfl rfl hS (fun w hS => Vl.int rfl rfl rfl) rfl rfl ?_
        refine RP.s 13 rfl rfl hS (fun w hS => Vl.pickT rfl rfl) rfl ?_
        refine RP.s 14 rfl rfl hS (fun w hS => Vl.move rfl) rfl ?_
        by_cases hc5492 : nth t5163 x5433 ≤ nth t5163 (IntKind.i64.wrap (x5433 - 1))
        case pos =>
          have h := h.pos hc5492
          refine RP.re 87 rfl (congrArg Value.bool (decide_eq_true hc5492)) ?_
          refine RP.nn 15 rfl rfl hS rfl rfl ?_
          refine RP.nn 16 rfl rfl hS rfl rfl ?_
          refine RP.nn 17 rfl rfl hS rfl rfl ?_
          refine RP.nn 18 rfl rfl hS rfl rfl ?_
          refine RP.nn 19 rfl rfl hS rfl rfl ?_
          refine RP.s 20 rfl rfl hS (fun w hS => Vl.pickT rfl rfl) rfl ?_
          refine RP.s 21 rfl rfl hS (fun w hS => Vl.move rfl) rfl ?_
          refine RP.nn 22 rfl rfl hS rfl rfl ?_
          refine RP.nn 23 rfl rfl hS rfl rfl ?_
          refine RP.nn 24 rfl rfl hS rfl rfl ?_
          refine RP.nn 25 rfl rfl hS rfl rfl ?_
          refine RP.nn 26 rfl rfl hS rfl rfl ?_
          refine RP.nn 27 rfl rfl hS rfl rfl ?_
          refine RP.nn 28 rfl rfl hS rfl rfl ?_
          refine RP.nn 29 rfl rfl hS rfl rfl ?_
          refine RP.s 30 rfl rfl hS (fun w hS => Vl.pickT rfl rfl) rfl ?_
          refine RP.s 31 rfl rfl hS (fun w hS => Vl.move rfl) rfl ?_
          refine RP.nn 32 rfl rfl hS rfl rfl ?_
          refine RP.nn 33 rfl rfl hS rfl rfl ?_
          refine RP.nn 34 rfl rfl hS rfl rfl ?_
          refine RP.nn 35 rfl rfl hS rfl rfl ?_
          refine RP.nn 36 rfl rfl hS rfl rfl ?_
          refine RP.nn 37 rfl rfl hS rfl rfl ?_
          refine RP.nn 38 rfl rfl hS rfl rfl ?_
          refine RP.nn 39 rfl rfl hS rfl rfl ?_
          refine RP.nn 40 rfl rfl hS rfl rfl ?_
          refine RP.n1 41 rfl (fun _ => hS) rfl rfl ?_
          refine RP.n1 42 rfl (fun _ => hS) rfl rfl ?_
          refine RP.v1 43 rfl (fun _ => hS) (Vl.pickT rfl rfl) rfl rfl ?_
          refine RP.nil ?_
          refine RQ.then_n ?_
          refine RC.condT rfl ?_
          refine RC.seq ?_
          refine RC.region ?_
          refine RL.s (Vl.assign rfl) rfl ?_
          refine RL.nil ?_
          refine RQ.then_n ?_
          refine RC.ret ?_
          refine RQ.inB_ret ?_
          refine RQ.ret ?_
          have h := h.inrS
          refine RQ.ret ?_
          refine RQ.inB_ret ?_
          refine RQ.ret ?_
          have e := h.some
          subst e
          refine RQ.ret0 (vs := [.bool false]) Tryd.results6 ⟨rfl, trivial⟩ ?_
          exact ⟨rfl, (((hS.dropAt 0 rfl).dropAt 0 rfl).dropAt 0 rfl)⟩
        case neg =>
          have h := h.neg hc5492
          refine RP.re 87 rfl (congrArg Value.bool (decide_eq_false hc5492)) ?_
          refine RP.sg 15 rfl rfl hS (fun w hS => Vl.move rfl) rfl rfl ?_
          refine RP.sg 16 rfl rfl hS (fun w hS => Vl.move rfl) rfl rfl ?_
          refine RP.sg 17 rfl rfl hS (fun w hS => Vl.indexAddr Tryd.underlying47 Tryd.sizeOf3 rfl rfl ((hS.slW 1 rfl).2.2.adr hq5491 hc5471) hq5491 hc5471 rfl) rfl rfl ?_
          refine RP.sg 18 rfl rfl hS (fun w hS => Vl.load Tryd.isAgg3 rfl ((hS.slW 1 rfl).2.2.cell (j := 0) hq5491 hc5471 rfl)) rfl rfl ?_
          refine RP.sg 19 rfl rfl hS (fun w hS => Vl.int rfl rfl rfl) rfl rfl ?_
          refine RP.s 20 rfl rfl hS (fun w hS => Vl.pickF rfl rfl) rfl ?_
          refine RP.s 21 rfl rfl hS (fun w hS => Vl.move rfl) rfl ?_
          by_cases hc5493 : nth t5163 x5433 < 0
          case pos =>
            have h := h.pos hc5493
            refine RP.re 94 rfl (congrArg Value.bool (decide_eq_true hc5493)) ?_
            refine RP.nn 22 rfl rfl hS rfl rfl ?_
            refine RP.nn 23 rfl rfl hS rfl rfl ?_
            refine RP.nn 24 rfl rfl hS rfl rfl ?_
            refine RP.nn 25 rfl rfl hS rfl rfl ?_
            refine RP.nn 26 rfl rfl hS rfl rfl ?_
            refine RP.nn 27 rfl rfl hS rfl rfl ?_
            refine RP.nn 28 rfl rfl hS rfl rfl ?_
            refine RP.nn 29 rfl rfl hS rfl rfl ?_
            refine RP.s 30 rfl rfl hS (fun w hS => Vl.pickT rfl rfl) rfl ?_
            refine RP.s 31 rfl rfl hS (fun w hS => Vl.move rfl) rfl ?_
            refine RP.nn 32 rfl rfl hS rfl rfl ?_
            refine RP.nn 33 rfl rfl hS rfl rfl ?_
            refine RP.nn 34 rfl rfl hS rfl rfl ?_
            refine RP.nn 35 rfl rfl hS rfl rfl ?_
            refine RP.nn 36 rfl rfl hS rfl rfl ?_
            refine RP.nn 37 rfl rfl hS rfl rfl ?_
            refine RP.nn 38 rfl rfl hS rfl rfl ?_
            refine RP.nn 39 rfl rfl hS rfl rfl ?_
            refine RP.nn 40 rfl rfl hS rfl rfl ?_
            refine RP.n1 41 rfl (fun _ => hS) rfl rfl ?_
            refine RP.n1 42 rfl (fun _ => hS) rfl rfl ?_
            refine RP.v1 43 rfl (fun _ => hS) (Vl.pickT rfl rfl) rfl rfl ?_
            refine RP.nil ?_
            refine RQ.then_n ?_
            refine RC.condT rfl ?_
            refine RC.seq ?_
            refine RC.region ?_
            refine RL.s (Vl.assign rfl) rfl ?_
            refine RL.nil ?_
            refine RQ.then_n ?_
            refine RC.ret ?_
            refine RQ.inB_ret ?_
            refine RQ.ret ?_
            have h := h.inrS
            refine RQ.ret ?_
            refine RQ.inB_ret ?_
            refine RQ.ret ?_
            have e := h.some
            subst e
            refine RQ.ret0 (vs := [.bool false]) Tryd.results6 ⟨rfl, trivial⟩ ?_
            exact ⟨rfl, (((hS.dropAt 0 rfl).dropAt 0 rfl).dropAt 0 rfl)⟩
          case neg =>
            have h := h.neg hc5493
            refine RP.re 94 rfl (congrArg Value.bool (decide_eq_false hc5493)) ?_
            refine RP.sg 22 rfl rfl hS (fun w hS => Vl.move rfl) rfl rfl ?_
            refine RP.sg 23 rfl rfl hS (fun w hS => Vl.move rfl) rfl rfl ?_
            refine RP.sg 24 rfl rfl hS (fun w hS => Vl.indexAddr Tryd.underlying47 Tryd.sizeOf3 rfl rfl ((hS.slW 1 rfl).2.2.adr hq5491 hc5471) hq5491 hc5471 rfl) rfl rfl ?_
            refine RP.sg 25 rfl rfl hS (fun w hS => Vl.load Tryd.isAgg3 rfl ((hS.slW 1 rfl).2.2.cell (j := 0) hq5491 hc5471 rfl)) rfl rfl ?_
            refine RP.sg 26 rfl rfl hS (fun w hS => Vl.fieldAddr (a'' := ⟨b5157, 1, none⟩) Tryd.underlying27 rfl Tryd.sizeOf23 rfl rfl) rfl rfl ?_
            refine RP.sg 27 rfl rfl hS (fun w hS => Vl.load Tryd.isAgg23 rfl (hS.cell 2 rfl rfl)) rfl rfl ?_
            refine RP.sg 28 rfl rfl hS (fun w hS => Vl.lenSl Tryd.underlying23 rfl) rfl rfl ?_
            refine RP.sg 29 rfl rfl hS (fun w hS => Vl.int rfl rfl rfl) rfl rfl ?_
            refine RP.s 30 rfl rfl hS (fun w hS => Vl.pickF rfl rfl) rfl ?_
            refine RP.s 31 rfl rfl hS (fun w hS => Vl.move rfl) rfl ?_
            by_cases hc5494 : (a4122.Links.length : Int) ≤ nth t5163 x5433
            case pos =>
              have h := h.pos hc5494
              refine RP.re 104 rfl (congrArg Value.bool (decide_eq_true hc5494)) ?_
              refine RP.nn 32 rfl rfl hS rfl rfl ?_
              refine RP.nn 33 rfl rfl hS rfl rfl ?_
              refine RP.nn 34 rfl rfl hS rfl rfl ?_
              refine RP.nn 35 rfl rfl hS rfl rfl ?_
              refine RP.nn 36 rfl rfl hS rfl rfl ?_
              refine RP.nn 37 rfl rfl hS rfl rfl ?_
              refine RP.nn 38 rfl rfl hS rfl rfl ?_
              refine RP.nn 39 rfl rfl hS rfl rfl ?_
              refine RP.nn 40 rfl rfl hS rfl rfl ?_
              refine RP.n1 41 rfl (fun _ => hS) rfl rfl ?_
              refine RP.n1 42 rfl (fun _ => hS) rfl rfl ?_
              refine RP.v1 43 rfl (fun _ => hS) (Vl.pickT rfl rfl) rfl rfl ?_
              refine RP.nil ?_
              refine RQ.then_n ?_
              refine RC.condT rfl ?_
              refine RC.seq ?_
              refine RC.region ?_
              refine RL.s (Vl.assign rfl) rfl ?_
              refine RL.nil ?_
              refine RQ.then_n ?_
              refine RC.ret ?_
              refine RQ.inB_ret ?_
              refine RQ.ret ?_
              have h := h.inrS
              refine RQ.ret ?_
              refine RQ.inB_ret ?_
              refine RQ.ret ?_
              have e := h.some
              subst e
              refine RQ.ret0 (vs := [.bool false]) Tryd.results6 ⟨rfl, trivial⟩ ?_
              exact ⟨rfl, (((hS.dropAt 0 rfl).dropAt 0 rfl).dropAt 0 rfl)⟩
            case neg =>
              have h := h.neg hc5494
              refine RP.re 104 rfl (congrArg Value.bool (decide_eq_false hc5494)) ?_
              refine RP.sg 32 rfl rfl hS (fun w hS => Vl.fieldAddr (a'' := ⟨b5157, 1, none⟩) Tryd.underlying27 rfl Tryd.sizeOf23 rfl rfl) rfl rfl ?_
              refine RP.sg 33 rfl rfl hS (fun w hS => Vl.load Tryd.isAgg23 rfl (hS.cell 2 rfl rfl)) rfl rfl ?_
              refine RP.sg 34 rfl rfl hS (fun w hS => Vl.move rfl) rfl rfl ?_
              refine RP.sg 35 rfl rfl hS (fun w hS => Vl.move rfl) rfl rfl ?_
              refine RP.sg 36 rfl rfl hS (fun w hS => Vl.indexAddr Tryd.underlying47 Tryd.sizeOf3 rfl rfl ((hS.slW 1 rfl).2.2.adr hq5491 hc5471) hq5491 hc5471 rfl) rfl rfl ?_
              refine RP.sg 37 rfl rfl hS (fun w hS => Vl.load Tryd.isAgg3 rfl ((hS.slW 1 rfl).2.2.cell (j := 0) hq5491 hc5471 rfl)) rfl rfl ?_
              obtain ⟨⟨hq5495, hq5496⟩, h⟩ := h.req
              refine RP.sg 38 rfl rfl hS (fun w hS => Vl.indexAddr Tryd.underlying23 Tryd.sizeOf37 rfl rfl ((hr4128.2.world hS.sub).adr hq5495 hq5496) hq5495 hq5496 rfl) rfl rfl ?_
              refine RP.sg 39 rfl rfl hS (fun w hS => Vl.fieldAddr (a'' := (ad A4126).add ((nth t5163 x5433).toNat * 4 + 1)) Tryd.underlying37 rfl Tryd.sizeOf3 rfl (add_add _ _ _)) rfl rfl ?_
              refine RP.sg 40 rfl rfl hS (fun w hS => Vl.load Tryd.isAgg3 rfl ((hr4128.2.world hS.sub).cell (j := 1) hq5495 hq5496 rfl)) rfl rfl ?_
              refine RP.v1 41 rfl (fun _ => hS) (Vl.move rfl) rfl rfl ?_
              refine RP.v1 42 rfl (fun _ => hS) (Vl.int rfl rfl rfl) rfl rfl ?_
              refine RP.v1 43 rfl (fun _ => hS) (Vl.pickF rfl rfl) rfl rfl ?_
              refine RP.nil ?_
              refine RQ.then_n ?_
              by_cases hc5497 : (nth a4122.Links (nth t5163 x5433)).To = a4132
              case pos =>
                have h := h.pos hc5497
                refine RC.re 116 rfl (congrArg Value.bool (notdec_pos hc5497)) ?_
                refine RC.condF rfl ?_
                refine RC.skip ?_
                refine RQ.inB_n ?_
                refine RQ.then_n ?_
                refine RC.region ?_
                refine RL.s (Vl.move rfl) rfl ?_
                refine RL.s (Vl.int rfl rfl rfl) rfl ?_
                refine RL.s (Vl.assign rfl) rfl ?_
                refine RL.nil ?_
                exact fun a ha => ⟨(IntKind.i64.wrap (x5433 + 1)), ⟨(IntKind.i64.wrap (x5433 + 1)), rfl, ha.to ⟨rfl, rfl, rfl, rfl, rfl, trivial⟩, hS⟩, h.some⟩
              case neg =>
                have h := h.neg hc5497
                refine RC.re 116 rfl (congrArg Value.bool (notdec_neg hc5497)) ?_
                refine RC.condT rfl ?_
                refine RC.seq ?_
                refine RC.region ?_
                refine RL.s (Vl.assign rfl) rfl ?_
                refine RL.nil ?_
                refine RQ.then_n ?_
                refine RC.ret ?_
                refine RQ.inB_ret ?_
                refine RQ.ret ?_
                have h := h.inrS
                refine RQ.ret ?_
                refine RQ.inB_ret ?_
                refine RQ.ret ?_
                have e := h.some
                subst e
                refine RQ.ret0 (vs := [.bool false]) Tryd.results6 ⟨rfl, trivial⟩ ?_
                exact ⟨rfl, (((hS.dropAt 0 rfl).dropAt 0 rfl).dropAt 0 rfl)⟩
      case neg =>
        have h := h.neg hc5488
        refine RP.re 75 rfl (congrArg Value.bool (decide_eq_false hc5488)) ?_
        refine RP.nn 3 rfl rfl hS rfl rfl ?_
        refine RP.nn 4 rfl rfl hS rfl rfl ?_
        refine RP.nn 5 rfl rfl hS rfl rfl ?_
        refine RP.nn 6 rfl rfl hS rfl rfl ?_
        refine RP.nn 7 rfl rfl hS rfl rfl ?_
        refine RP.nn 8 rfl rfl hS rfl rfl ?_
        refine RP.nn 9 rfl rfl hS rfl rfl ?_
        refine RP.nn 10 rfl rfl hS rfl rfl ?_
        refine RP.nn 11 rfl rfl hS rfl rfl ?_
        refine RP.nn 12 rfl rfl hS rfl rfl ?_
        refine RP.s 13 rfl rfl hS (fun w hS => Vl.pickF rfl rfl) rfl ?_
        refine RP.s 14 rfl rfl hS (fun w hS => Vl.move rfl) rfl ?_
        refine RP.sg 15 rfl rfl hS (fun w hS => Vl.move rfl) rfl rfl ?_
        refine RP.sg 16 rfl rfl hS (fun w hS => Vl.move rfl) rfl rfl ?_
        obtain ⟨hq5498, h⟩ := h.req
        refine RP.sg 17 rfl rfl hS (fun w hS => Vl.indexAddr Tryd.underlying47 Tryd.sizeOf3 rfl rfl ((hS.slW 1 rfl).2.2.adr hq5498 hc5471) hq5498 hc5471 rfl) rfl rfl ?_
        refine RP.sg 18 rfl rfl hS (fun w hS => Vl.load Tryd.isAgg3 rfl ((hS.slW 1 rfl).2.2.cell (j := 0) hq5498 hc5471 rfl)) rfl rfl ?_
        refine RP.sg 19 rfl rfl hS (fun w hS => Vl.int rfl rfl rfl) rfl rfl ?_
        refine RP.s 20 rfl rfl hS (fun w hS => Vl.pickF rfl rfl) rfl ?_
        refine RP.s 21 rfl rfl hS (fun w hS => Vl.move rfl) rfl ?_
        by_cases hc5499 : nth t5163 x5433 < 0
        case pos =>
          have h := h.pos hc5499
          refine RP.re 94 rfl (congrArg Value.bool (decide_eq_true hc5499)) ?_
          refine RP.nn 22 rfl rfl hS rfl rfl ?_
          refine RP.nn 23 rfl rfl hS rfl rfl ?_
          refine RP.nn 24 rfl rfl hS rfl rfl ?_
          refine RP.nn 25 rfl rfl hS rfl rfl ?_
          refine RP.nn 26 rfl rfl hS rfl rfl ?_
          refine RP.nn 27 rfl rfl hS rfl rfl ?_
          refine RP.nn 28 rfl rfl hS rfl rfl ?_
          refine RP.nn 29 rfl rfl hS rfl rfl ?_
          refine RP.s 30 rfl rfl hS (fun w hS => Vl.pickT rfl rfl) rfl ?_
          refine RP.s 31 rfl rfl hS (fun w hS => Vl.move rfl) rfl ?_
          refine RP.nn 32 rfl rfl hS rfl rfl ?_
          refine RP.nn 33 rfl rfl hS rfl rfl ?_
          refine RP.nn 34 rfl rfl hS rfl rfl ?_
          refine RP.nn 35 rfl rfl hS rfl rfl ?_
          refine RP.nn 36 rfl rfl hS rfl rfl ?_
          refine RP.nn 37 rfl rfl hS rfl rfl ?_
          refine RP.nn 38 rfl rfl hS rfl rfl ?_
          refine RP.nn 39 rfl rfl hS rfl rfl ?_
          refine RP.nn 40 rfl rfl hS rfl rfl ?_
          refine RP.n1 41 rfl (fun _ => hS) rfl rfl ?_
          refine RP.n1 42 rfl (fun _ => hS) rfl rfl ?_
          refine RP.v1 43 rfl (fun _ => hS) (Vl.pickT rfl rfl) rfl rfl ?_
          refine RP.nil ?_
          refine RQ.then_n ?_
          refine RC.condT rfl ?_
          refine RC.seq ?_
          refine RC.region ?_
          refine RL.s (Vl.assign rfl) rfl ?_
          refine RL.nil ?_
          refine RQ.then_n ?_
          refine RC.ret ?_
          refine RQ.inB_ret ?_
          refine RQ.ret ?_
          have h := h.inrS
          refine RQ.ret ?_
          refine RQ.inB_ret ?_
          refine RQ.ret ?_
          have e := h.some
          subst e
          refine RQ.ret0 (vs := [.bool false]) Tryd.results6 ⟨rfl, trivial⟩ ?_
          exact ⟨rfl, (((hS.dropAt 0 rfl).dropAt 0 rfl).dropAt 0 rfl)⟩
        case neg =>
          have h := h.neg hc5499
          refine RP.re 94 rfl (congrArg Value.bool (decide_eq_false hc5499)) ?_
          refine RP.sg 22 rfl rfl hS (fun w hS => Vl.move rfl) rfl rfl ?_
          refine RP.sg 23 rfl rfl hS (fun w hS => Vl.move rfl) rfl rfl ?_
          refine RP.sg 24 rfl rfl hS (fun w hS => Vl.indexAddr Tryd.underlying47 Tryd.sizeOf3 rfl rfl ((hS.slW 1 rfl).2.2.adr hq5498 hc5471) hq5498 hc5471 rfl) rfl rfl ?_
          refine RP.sg 25 rfl rfl hS (fun w hS => Vl.load Tryd.isAgg3 rfl ((hS.slW 1 rfl).2.2.cell (j := 0) hq5498 hc5471 rfl)) rfl rfl ?_
          refine RP.sg 26 rfl rfl hS (fun w hS => Vl.fieldAddr (a'' := ⟨b5157, 1, none⟩) Tryd.underlying27 rfl Tryd.sizeOf23 rfl rfl) rfl rfl ?_
          refine RP.sg 27 rfl rfl hS (fun w hS => Vl.load Tryd.isAgg23 rfl (hS.cell 2 rfl rfl)) rfl rfl ?_
          refine RP.sg 28 rfl rfl hS (fun w hS => Vl.lenSl Tryd.underlying23 rfl) rfl rfl ?_
          refine RP.sg 29 rfl rfl hS (fun w hS => Vl.int rfl rfl rfl) rfl rfl ?_
          refine RP.s 30 rfl rfl hS (fun w hS => Vl.pickF rfl rfl) rfl ?_
          refine RP.s 31 rfl rfl hS (fun w hS => Vl.move rfl) rfl ?_
          by_cases hc5500 : (a4122.Links.length : Int) ≤ nth t5163 x5433
          case pos =>
            have h := h.pos hc5500
            refine RP.re 104 rfl (congrArg Value.bool (decide_eq_true hc5500)) ?_
            refine RP.nn 32 rfl rfl hS rfl rfl ?_
            refine RP.nn 33 rfl rfl hS rfl rfl ?_
            refine RP.nn 34 rfl rfl hS rfl rfl ?_
            refine RP.nn 35 rfl rfl hS rfl rfl ?_
            refine RP.nn 36 rfl rfl hS rfl rfl ?_
            refine RP.nn 37 rfl rfl hS rfl rfl ?_
            refine RP.nn 38 rfl rfl hS rfl rfl ?_
            refine RP.nn 39 rfl rfl hS rfl rfl ?_
            refine RP.nn 40 rfl rfl hS rfl rfl ?_
            refine RP.n1 41 rfl (fun _ => hS) rfl rfl ?_
            refine RP.n1 42 rfl (fun _ => hS) rfl rfl ?_
            refine RP.v1 43 rfl (fun _ => hS) (Vl.pickT rfl rfl) rfl rfl ?_
            refine RP.nil ?_
            refine RQ.then_n ?_
            refine RC.condT rfl ?_
            refine RC.seq ?_
            refine RC.region ?_
            refine RL.s (Vl.assign rfl) rfl ?_
            refine RL.nil ?_
            refine RQ.then_n ?_
            refine RC.ret ?_
            refine RQ.inB_ret ?_
            refine RQ.ret ?_
            have h := h.inrS
            refine RQ.ret ?_
            refine RQ.inB_ret ?_
            refine RQ.ret ?_
            have e := h.some
            subst e
            refine RQ.ret0 (vs := [.bool false]) Tryd.results6 ⟨rfl, trivial⟩ ?_
            exact ⟨rfl, (((hS.dropAt 0 rfl).dropAt 0 rfl).dropAt 0 rfl)⟩
          case neg =>
            have h := h.neg hc5500
            refine RP.re 104 rfl (congrArg Value.bool (decide_eq_false hc5500)) ?_
            refine RP.sg 32 rfl rfl hS (fun w hS => Vl.fieldAddr (a'' := ⟨b5157, 1, none⟩) Tryd.underlying27 rfl Tryd.sizeOf23 rfl rfl) rfl rfl ?_
            refine RP.sg 33 rfl rfl hS (fun w hS => Vl.load Tryd.isAgg23 rfl (hS.cell 2 rfl rfl)) rfl rfl ?_
            refine RP.sg 34 rfl rfl hS (fun w hS => Vl.move rfl) rfl rfl ?_
            refine RP.sg 35 rfl rfl hS (fun w hS => Vl.move rfl) rfl rfl ?_
            refine RP.sg 36 rfl rfl hS (fun w hS => Vl.indexAddr Tryd.underlying47 Tryd.sizeOf3 rfl rfl ((hS.slW 1 rfl).2.2.adr hq5498 hc5471) hq5498 hc5471 rfl) rfl rfl ?_
            refine RP.sg 37 rfl rfl hS (fun w hS => Vl.load Tryd.isAgg3 rfl ((hS.slW 1 rfl).2.2.cell (j := 0) hq5498 hc5471 rfl)) rfl rfl ?_
            obtain ⟨⟨hq5501, hq5502⟩, h⟩ := h.req
            refine RP.sg 38 rfl rfl hS (fun w hS => Vl.indexAddr Tryd.underlying23 Tryd.sizeOf37 rfl rfl ((hr4128.2.world hS.sub).adr hq5501 hq5502) hq5501 hq5502 rfl) rfl rfl ?_
            refine RP.sg 39 rfl rfl hS (fun w hS => Vl.fieldAddr (a'' := (ad A4126).add ((nth t5163 x5433).toNat * 4 + 1)) Tryd.underlying37 rfl Tryd.sizeOf3 rfl (add_add _ _ _)) rfl rfl ?_
            refine RP.sg 40 rfl rfl hS (fun w hS => Vl.load Tryd.isAgg3 rfl ((hr4128.2.world hS.sub).cell (j := 1) hq5501 hq5502 rfl)) rfl rfl ?_
            refine RP.v1 41 rfl (fun _ => hS) (Vl.move rfl) rfl rfl ?_
            refine RP.v1 42 rfl (fun _ => hS) (Vl.int rfl rfl rfl) rfl rfl ?_
            refine RP.v1 43 rfl (fun _ => hS) (Vl.pickF rfl rfl) rfl rfl ?_
            refine RP.nil ?_
            refine RQ.then_n ?_
            by_cases hc5503 : (nth a4122.Links (nth t5163 x5433)).To = a4132
            case pos =>
              have h := h.pos hc5503
              refine RC.re 116 rfl (congrArg Value.bool (notdec_pos hc5503)) ?_
              refine RC.condF rfl ?_
              refine RC.skip ?_
              refine RQ.inB_n ?_
              refine RQ.then_n ?_
              refine RC.region ?_
              refine RL.s (Vl.move rfl) rfl ?_
              refine RL.s (Vl.int rfl rfl rfl) rfl ?_
              refine RL.s (Vl.assign rfl) rfl ?_
              refine RL.nil ?_
              exact fun a ha => ⟨(IntKind.i64.wrap (x5433 + 1)), ⟨(IntKind.i64.wrap (x5433 + 1)), rfl, ha.to ⟨rfl, rfl, rfl, rfl, rfl, trivial⟩, hS⟩, h.some⟩
            case neg =>
              have h := h.neg hc5503
              refine RC.re 116 rfl (congrArg Value.bool (notdec_neg hc5503)) ?_
              refine RC.condT rfl ?_
              refine RC.seq ?_
              refine RC.region ?_
              refine RL.s (Vl.assign rfl) rfl ?_
              refine RL.nil ?_
              refine RQ.then_n ?_
              refine RC.ret ?_
              refine RQ.inB_ret ?_
              refine RQ.ret ?_
              have h := h.inrS
              refine RQ.ret ?_
              refine RQ.inB_ret ?_
              refine RQ.ret ?_
              have e := h.some
              subst e
              refine RQ.ret0 (vs := [.bool false]) Tryd.results6 ⟨rfl, trivial⟩ ?_
              exact ⟨rfl, (((hS.dropAt 0 rfl).dropAt 0 rfl).dropAt 0 rfl)⟩
    case neg =>
      have h := h.neg hc5471
      refine RC.re 70 rfl (congrArg Value.bool (decide_eq_false hc5471)) ?_
      refine RC.condF rfl ?_
      refine RC.exit ?_
      refine RQ.exitT ?_
      have h := h.inr
      refine RQ.exitT ?_
      refine RQ.inB_hit ?_
      refine RQ.then_n ?_
      refine RC.seq ?_
      refine RC.region ?_
      refine RL.s (Vl.assign rfl) rfl ?_
      refine RL.nil ?_
      refine RQ.then_n ?_
      refine RC.seq ?_
      refine RC.seq ?_
      refine RC.region ?_
      refine RL.s (Vl.assign rfl) rfl ?_
      refine RL.nil ?_
      refine RQ.then_n ?_
      refine RC.block ?_
      refine fun a ha => RC.loop (N := 154) (body := (isochronlaw13vModelApart.l45b a4122 a4132 t5158 t5163)) (φ := (· = r)) (fun (s : Int × Int) a w => ∃ (x5569 : Int) (x5570 : Int), s = (x5569, x5570) ∧ Has 154 [(1, .int .i64 a4132), (2, .pointer (some ⟨b5157, 0, none⟩)), (5, .slice A5160 t5158.length c5161), (6, .slice A5165 t5163.length c5166), (9, .int .i64 x5569), (10, .int .i64 x5570)] a ∧ St B w (OSf (FI .i64) 3 (.slice A5160 t5158.length c5161) t5158 :: OSf (FI .i64) 3 (.slice A5165 t5163.length c5166) t5163 :: Cl b5157 [.slice A4123 a4122.Progs.length c4124, .slice A4126 a4122.Links.length c4127, .slice A4129 a4122.Starts.length c4130, .int .u64 a4122.Seed, .int .i64 a4122.End, .int .i64 a4122.Budget] 27 :: l) hf) ?_ (s0 := (0, 0)) h ⟨0, 0, rfl, ha.to ⟨rfl, rfl, rfl, rfl, rfl, rfl, trivial⟩, hS⟩
      rintro G5590 _ a w ⟨x5569, x5570, rfl, ha, hS⟩ h
      revert a
      show RC _ _ _ _ _ _
      refine RC.seq ?_
      refine RC.seq ?_
      refine RC.region ?_
      refine RL.s (Vl.move rfl) rfl ?_
      refine RL.s (Vl.fieldAddr (a'' := ⟨b5157, 1, none⟩) Tryd.underlying27 rfl Tryd.sizeOf23 rfl rfl) rfl ?_
      refine RL.s (Vl.load Tryd.isAgg23 rfl (hS.cell 2 rfl rfl)) rfl ?_
      refine RL.s (Vl.lenSl Tryd.underlying23 rfl) rfl ?_
      refine RL.s (Vl.int rfl rfl rfl) rfl ?_
      refine RL.nil ?_
      refine RQ.then_n ?_
      by_cases hc5592 : x5570 < (a4122.Links.length : Int)
      case pos =>
        have h := h.pos hc5592
        refine RC.re 121 rfl (congrArg Value.bool (decide_eq_true hc5592)) ?_
        refine RC.condT rfl ?_
        refine RC.skip ?_
        refine RQ.then_n ?_
        refine RC.join (fun (s : Int) a w => ∃ (x5600 : Int), s = (x5600) ∧ Has 154 [(1, .int .i64 a4132), (2, .pointer (some ⟨b5157, 0, none⟩)), (5, .slice A5160 t5158.length c5161), (6, .slice A5165 t5163.length c5166), (9, .int .i64 x5600), (10, .int .i64 x5570)] a ∧ St B w (OSf (FI .i64) 3 (.slice A5160 t5158.length c5161) t5158 :: OSf (FI .i64) 3 (.slice A5165 t5163.length c5166) t5163 :: Cl b5157 [.slice A4123 a4122.Progs.length c4124, .slice A4126 a4122.Links.length c4127, .slice A4129 a4122.Starts.length c4130, .int .u64 a4122.Seed, .int .i64 a4122.End, .int .i64 a4122.Budget] 27 :: l) hf ∧ Holds (Sum.elim G5590 (· = r)) (isochronlaw13vModelApart.j47 x5570 x5600)) ?_ ?_
        · rintro x5600 a w ⟨_, rfl, ha, hS, h⟩
          revert a
          show RC _ _ _ _ _ _
          refine RC.region ?_
          refine RL.s (Vl.move rfl) rfl ?_
          refine RL.s (Vl.int rfl rfl rfl) rfl ?_
          refine RL.s (Vl.assign rfl) rfl ?_
          refine RL.nil ?_
          exact fun a ha => ⟨(x5600, IntKind.i64.wrap (x5570 + 1)), ⟨x5600, (IntKind.i64.wrap (x5570 + 1)), rfl, ha.to ⟨rfl, rfl, rfl, rfl, rfl, rfl, trivial⟩, hS⟩, h.some⟩
        · refine RC.block ?_
          refine RC.join (fun (s : Int) a w => ∃ (x5603 : Int), s = (x5603) ∧ Has 154 [(1, .int .i64 a4132), (2, .pointer (some ⟨b5157, 0, none⟩)), (5, .slice A5160 t5158.length c5161), (6, .slice A5165 t5163.length c5166), (9, .int .i64 x5603), (10, .int .i64 x5570)] a ∧ St B w (OSf (FI .i64) 3 (.slice A5160 t5158.length c5161) t5158 :: OSf (FI .i64) 3 (.slice A5165 t5163.length c5166) t5163 :: Cl b5157 [.slice A4123 a4122.Progs.length c4124, .slice A4126 a4122.Links.length c4127, .slice A4129 a4122.Starts.length c4130, .int .u64 a4122.Seed, .int .i64 a4122.End, .int .i64 a4122.Budget] 27 :: l) hf ∧ Holds (Sum.elim G5590 (· = r)) (isochronlaw13vModelApart.j48 a4122 a4132 x5570 x5603)) ?_ ?_
          · rintro x5603 a w ⟨_, rfl, ha, hS, h⟩
            revert a
            show RC _ _ _ _ _ _
            refine RC.seq ?_
            refine RC.region ?_
            refine RL.s (Vl.fieldAddr (a'' := ⟨b5157, 1, none⟩) Tryd.underlying27 rfl Tryd.sizeOf23 rfl rfl) rfl ?_
            refine RL.s (Vl.load Tryd.isAgg23 rfl (hS.cell 2 rfl rfl)) rfl ?_
            refine RL.s (Vl.move rfl) rfl ?_
            obtain ⟨hq5604, h⟩ := h.req
            refine RL.s (Vl.indexAddr Tryd.underlying23 Tryd.sizeOf37 rfl rfl ((hr4128.2.world hS.sub).adr hq5604 hc5592) hq5604 hc5592 rfl) rfl ?_
            refine RL.s (Vl.fieldAddr (a'' := (ad A4126).add (x5570.toNat * 4 + 1)) Tryd.underlying37 rfl Tryd.sizeOf3 rfl (add_add _ _ _)) rfl ?_
            refine RL.s (Vl.load Tryd.isAgg3 rfl ((hr4128.2.world hS.sub).cell (j := 1) hq5604 hc5592 rfl)) rfl ?_
            refine RL.s (Vl.move rfl) rfl ?_
            refine RL.s (Vl.int rfl rfl rfl) rfl ?_
            refine RL.nil ?_
            refine RQ.then_n ?_
            by_cases hc5605 : (nth a4122.Links x5570).To = a4132
            case pos =>
              have h := h.pos hc5605
              refine RC.re 141 rfl (congrArg Value.bool (decide_eq_true hc5605)) ?_
              refine RC.condT rfl ?_
              refine RC.region ?_
              refine RL.s (Vl.move rfl) rfl ?_
              refine RL.s (Vl.int rfl rfl rfl) rfl ?_
              refine RL.s (Vl.assign rfl) rfl ?_
              refine RL.nil ?_
              refine RQ.inB_n ?_
              exact fun a ha => ⟨(IntKind.i64.wrap (x5603 + 1)), (IntKind.i64.wrap (x5603 + 1)), rfl, ha.to ⟨rfl, rfl, rfl, rfl, rfl, rfl, trivial⟩, hS, h⟩
            case neg =>
              have h := h.neg hc5605
              refine RC.re 141 rfl (congrArg Value.bool (decide_eq_false hc5605)) ?_
              refine RC.condF rfl ?_
              refine RC.skip ?_
              refine RQ.inB_n ?_
              exact fun a ha => ⟨(x5603), x5603, rfl, ha.to ⟨rfl, rfl, rfl, rfl, rfl, rfl, trivial⟩, hS, h⟩
          · refine RC.seq ?_
            refine RC.region ?_
            refine RL.s (Vl.fieldAddr (a'' := ⟨b5157, 1, none⟩) Tryd.underlying27 rfl Tryd.sizeOf23 rfl rfl) rfl ?_
            refine RL.s (Vl.load Tryd.isAgg23 rfl (hS.cell 2 rfl rfl)) rfl ?_
            refine RL.s (Vl.move rfl) rfl ?_
            obtain ⟨hq5606, h⟩ := h.req
            refine RL.s (Vl.indexAddr Tryd.underlying23 Tryd.sizeOf37 rfl rfl ((hr4128.2.world hS.sub).adr hq5606 hc5592) hq5606 hc5592 rfl) rfl ?_
            refine RL.s (Vl.fieldAddr (a'' := (ad A4126).add (x5570.toNat * 4 + 0)) Tryd.underlying37 rfl Tryd.sizeOf3 rfl (add_add _ _ _)) rfl ?_
            refine RL.s (Vl.load Tryd.isAgg3 rfl ((hr4128.2.world hS.sub).cell (j := 0) hq5606 hc5592 rfl)) rfl ?_
            refine RL.s (Vl.move rfl) rfl ?_
            refine RL.s (Vl.int rfl rfl rfl) rfl ?_
            refine RL.nil ?_
            refine RQ.then_n ?_
            by_cases hc5607 : (nth a4122.Links x5570).From = a4132
            case pos =>
              have h := h.pos hc5607
              refine RC.re 131 rfl (congrArg Value.bool (decide_eq_true hc5607)) ?_
              refine RC.condT rfl ?_
              refine RC.region ?_
              refine RL.s (Vl.move rfl) rfl ?_
              refine RL.s (Vl.int rfl rfl rfl) rfl ?_
              refine RL.s (Vl.assign rfl) rfl ?_
              refine RL.nil ?_
              exact fun a ha => ⟨(IntKind.i64.wrap (x5569 + 1)), (IntKind.i64.wrap (x5569 + 1)), rfl, ha.to ⟨rfl, rfl, rfl, rfl, rfl, rfl, trivial⟩, hS, h⟩
            case neg =>
              have h := h.neg hc5607
              refine RC.re 131 rfl (congrArg Value.bool (decide_eq_false hc5607)) ?_
              refine RC.condF rfl ?_
              refine RC.skip ?_
              exact fun a ha => ⟨(x5569), x5569, rfl, ha.to ⟨rfl, rfl, rfl, rfl, rfl, rfl, trivial⟩, hS, h⟩
      case neg =>
        have h := h.neg hc5592
        refine RC.re 121 rfl (congrArg Value.bool (decide_eq_false hc5592)) ?_
        refine RC.condF rfl ?_
        refine RC.exit ?_
        refine RQ.exitT ?_
        have h := h.inr
        refine RQ.exitT ?_
        refine RQ.inB_hit ?_
        refine RQ.then_n ?_
        refine RC.seq ?_
        refine RC.region ?_
        refine RL.s (Vl.move rfl) rfl ?_
        refine RL.s (Vl.move rfl) rfl ?_
        refine RL.s (Vl.lenSl Tryd.underlying47 rfl) rfl ?_
        refine RL.s (Vl.move rfl) rfl ?_
        refine RL.s (Vl.lenSl Tryd.underlying47 rfl) rfl ?_
        refine RL.s (Vl.int rfl rfl rfl) rfl ?_
        refine RL.s (Vl.int rfl rfl rfl) rfl ?_
        refine RL.s (Vl.move rfl) rfl ?_
        by_cases hc5608 : x5569 = IntKind.i64.wrap ((t5158.length : Int) + (t5163.length : Int))
        case pos =>
          have h := h.pos hc5608
          refine RL.re 151 rfl (congrArg Value.bool (decide_eq_true hc5608)) ?_
          obtain ⟨t5609, hg5610, h⟩ := h.bind
          refine RL.e (OW.callF (ls := []) rfl Tryd.call11 (isochronlaw13vawake.ok hG0 _ hg5610 hS)) rfl rfl ?_
          rintro _ w ⟨rfl, hS⟩
          have hS : St B w (OSf (FI .i64) 3 (.slice A5160 t5158.length c5161) t5158 :: OSf (FI .i64) 3 (.slice A5165 t5163.length c5166) t5163 :: Cl b5157 [.slice A4123 a4122.Progs.length c4124, .slice A4126 a4122.Links.length c4127, .slice A4129 a4122.Starts.length c4130, .int .u64 a4122.Seed, .int .i64 a4122.End, .int .i64 a4122.Budget] 27 :: l) hf := hS
          refine RL.s (Vl.pickT rfl rfl) rfl ?_
          refine RL.s (Vl.assign rfl) rfl ?_
          refine RL.nil ?_
          refine RQ.then_n ?_
          refine RC.ret ?_
          have e := h.some
          subst e
          refine RQ.ret0 (vs := [.bool t5609]) Tryd.results6 ⟨rfl, trivial⟩ ?_
          exact ⟨rfl, (((hS.dropAt 0 rfl).dropAt 0 rfl).dropAt 0 rfl)⟩
        case neg =>
          have h := h.neg hc5608
          refine RL.re 151 rfl (congrArg Value.bool (decide_eq_false hc5608)) ?_
          refine RL.nn rfl rfl ?_
          refine RL.s (Vl.pickF rfl rfl) rfl ?_
          refine RL.s (Vl.assign rfl) rfl ?_
          refine RL.nil ?_
          refine RQ.then_n ?_
          refine RC.ret ?_
          have e := h.some
          subst e
          refine RQ.ret0 (vs := [.bool false]) Tryd.results6 ⟨rfl, trivial⟩ ?_
          exact ⟨rfl, (((hS.dropAt 0 rfl).dropAt 0 rfl).dropAt 0 rfl)⟩

/-! ### isochron/model.World: function 16 -/
noncomputable def model_World.l6b (a5624 : api_Model) (a5634 : Int) (l5981 : List api_Instr) (t6105 : List Int) : List api_Link × Int → Option ((List api_Link × Int) ⊕ (List api_Instr × Int × List api_Link × Int × Int))
  | (l6137, x6141) => (if x6141 < (t6105.length : Int) then (if 0 ≤ x6141 then (if 0 ≤ nth t6105 x6141 ∧ nth t6105 x6141 < (a5624.Links.length : Int) then (if (l6137.length + 1) * 32 ≤ 140737488355328 then some (.inl ((l6137 ++ ([(⟨(nth a5624.Links (nth t6105 x6141)).From, (nth a5624.Links (nth t6105 x6141)).To, (nth a5624.Links (nth t6105 x6141)).Look, ((nth a5624.Links (nth t6105 x6141)).Loose)⟩ : api_Link)])), IntKind.i64.wrap (x6141 + 1))) else none) else none) else none) else some (.inr (l5981, a5634, l6137, a5624.Seed, 0)))
noncomputable def model_World.l6 (a5624 : api_Model) (a5634 : Int) (l5981 : List api_Instr) (t6105 : List Int) (s : List api_Link × Int) : Option (List api_Instr × Int × List api_Link × Int × Int) := loopR (model_World.l6b a5624 a5634 l5981 t6105) s
noncomputable def model_World.j4 (a5624 : api_Model) (a5634 : Int) (l5981 : List api_Instr) : Option (List api_Instr × Int × List api_Link × Int × Int) := ((model_Ways.f a5624 a5634).bind fun t6105 => model_World.l6 a5624 a5634 l5981 t6105 ([], 0))
noncomputable def model_World.f (a5624 : api_Model) (a5634 : Int) : Option (List api_Instr × Int × List api_Link × Int × Int) := ((model_Check.f a5624).bind fun t5948 => (if t5948 = 0 then ((model_lane.f a5624 a5634).bind fun t5954 => (if t5954 = true then (if 0 ≤ a5634 ∧ a5634 < (a5624.Progs.length : Int) then (if (([] : List api_Instr).length + (nth a5624.Progs a5634).length) * 32 ≤ 140737488355328 then model_World.j4 a5624 a5634 (([] : List api_Instr) ++ (nth a5624.Progs a5634)) else none) else none) else some (([] : List api_Instr), 0, ([] : List api_Link), 0, 1))) else some (([] : List api_Instr), 0, ([] : List api_Link), 0, t5948)))
set_option maxRecDepth 100000 in
set_option maxHeartbeats 4000000 in
theorem model_World.ok {B : Base} {w : World} {l : List HProp} {hf : Hp} (a5624 : api_Model) (a5634 : Int) (A5625 : Option Addr) (c5626 : Nat) (A5628 : Option Addr) (c5629 : Nat) (A5631 : Option Addr) (c5632 : Nat) (hr5627 : SlR (Rep.sl E_api_Instr.rep) hf A5625 c5626 a5624.Progs) (hr5630 : SlR E_api_Link.rep hf A5628 c5629 a5624.Links) (hr5633 : SlR E_api_Start.rep hf A5631 c5632 a5624.Starts) (hG0 : GlobAt hf 0 (.iface 96 (.agg #[.pointer (some ⟨1, 66, none⟩)]))) (r : List api_Instr × Int × List api_Link × Int × Int) (h : model_World.f a5624 a5634 = some r) (hS : St B w (l) hf) :
    Calls Tryd.prog 16 #[.agg #[.slice A5625 a5624.Progs.length c5626, .slice A5628 a5624.Links.length c5629, .slice A5631 a5624.Starts.length c5632, .int .u64 a5624.Seed, .int .i64 a5624.End, .int .i64 a5624.Budget], .int .i64 a5634] w (Ret fun v w => ∃ (A_1 : Option Addr) (c_2 : Nat) (A_3 : Option Addr) (c_4 : Nat), v = .tuple #[.agg #[.slice A_1 r.1.length c_2, .int .i64 r.2.1, .slice A_3 r.2.2.1.length c_4, .int .u64 r.2.2.2.1], .int .i64 r.2.2.2.2] ∧ St B w (OSf E_api_Instr 34 (.slice A_1 r.1.length c_2) r.1 :: OSf E_api_Link 37 (.slice A_3 r.2.2.1.length c_4) r.2.2.1 :: l) hf) := by
  have h := Holds.of h
  refine enter (args := [.agg #[.slice A5625 a5624.Progs.length c5626, .slice A5628 a5624.Links.length c5629, .slice A5631 a5624.Starts.length c5632, .int .u64 a5624.Seed, .int .i64 a5624.End, .int .i64 a5624.Budget], .int .i64 a5634]) Tryd.func16 rfl Tryd.ntmps16 (Nat.le_of_ble_eq_true rfl) ?_
  refine RC.seq ?_
  refine RC.region ?_
  refine RL.e (OW.box (cs := [.slice A5625 a5624.Progs.length c5626, .slice A5628 a5624.Links.length c5629, .slice A5631 a5624.Starts.length c5632, .int .u64 a5624.Seed, .int .i64 a5624.End, .int .i64 a5624.Budget]) hS rfl rfl) rfl rfl ?_
  rintro _ w ⟨b5942, rfl, hS⟩
  have hS : St B w (Cl b5942 [.slice A5625 a5624.Progs.length c5626, .slice A5628 a5624.Links.length c5629, .slice A5631 a5624.Starts.length c5632, .int .u64 a5624.Seed, .int .i64 a5624.End, .int .i64 a5624.Budget] 27 :: l) hf := hS
  refine RL.e (OW.alloc (cs := [.slice none 0 0, .int .i64 0, .slice none 0 0, .int .u64 0]) hS Tryd.zeroValue51 rfl) rfl rfl ?_
  rintro _ w ⟨b5944, rfl, hS⟩
  have hS : St B w (Cl b5944 [.slice none 0 0, .int .i64 0, .slice none 0 0, .int .u64 0] 51 :: Cl b5942 [.slice A5625 a5624.Progs.length c5626, .slice A5628 a5624.Links.length c5629, .slice A5631 a5624.Starts.length c5632, .int .u64 a5624.Seed, .int .i64 a5624.End, .int .i64 a5624.Budget] 27 :: l) hf := hS
  refine RL.s (Vl.assign rfl) rfl ?_
  refine RL.nil ?_
  refine RQ.then_n ?_
  refine RC.seq ?_
  refine RC.seq ?_
  refine RC.region ?_
  refine RL.s (Vl.loadA (vs := [.slice A5625 a5624.Progs.length c5626, .slice A5628 a5624.Links.length c5629, .slice A5631 a5624.Starts.length c5632, .int .u64 a5624.Seed, .int .i64 a5624.End, .int .i64 a5624.Budget]) Tryd.isAgg27 Tryd.sizeOf27 rfl rfl (hS.cellsAt 1 rfl rfl)) rfl ?_
  obtain ⟨t5948, hg5949, h⟩ := h.bind
  refine RL.e (OW.callF (ls := [.tmp 10]) rfl Tryd.call9 (model_Check.ok a5624 A5625 c5626 A5628 c5629 A5631 c5632 hr5627 hr5630 hr5633 hG0 _ hg5949 hS)) rfl rfl ?_
  rintro _ w ⟨rfl, hS⟩
  have hS : St B w (Cl b5944 [.slice none 0 0, .int .i64 0, .slice none 0 0, .int .u64 0] 51 :: Cl b5942 [.slice A5625 a5624.Progs.length c5626, .slice A5628 a5624.Links.length c5629, .slice A5631 a5624.Starts.length c5632, .int .u64 a5624.Seed, .int .i64 a5624.End, .int .i64 a5624.Budget] 27 :: l) hf := hS
  refine RL.s (Vl.assign rfl) rfl ?_
  refine RL.nil ?_
  refine RQ.then_n ?_
  refine RC.seq ?_
  refine RC.region ?_
  refine RL.s (Vl.move rfl) rfl ?_
  refine RL.s (Vl.int rfl rfl rfl) rfl ?_
  refine RL.nil ?_
  refine RQ.then_n ?_
  by_cases hc5950 : t5948 = 0
  case pos =>
    have h := h.pos hc5950
    refine RC.re 13 rfl (congrArg Value.bool (notdec_pos hc5950)) ?_
    refine RC.condF rfl ?_
    refine RC.skip ?_
    refine RQ.then_n ?_
    refine RC.seq ?_
    refine RC.seq ?_
    refine RC.region ?_
    refine RL.s (Vl.loadA (vs := [.slice A5625 a5624.Progs.length c5626, .slice A5628 a5624.Links.length c5629, .slice A5631 a5624.Starts.length c5632, .int .u64 a5624.Seed, .int .i64 a5624.End, .int .i64 a5624.Budget]) Tryd.isAgg27 Tryd.sizeOf27 rfl rfl (hS.cellsAt 1 rfl rfl)) rfl ?_
    refine RL.s (Vl.move rfl) rfl ?_
    obtain ⟨t5954, hg5955, h⟩ := h.bind
    refine RL.e (OW.callF (ls := [.tmp 16, .tmp 17]) rfl Tryd.call29 (model_lane.ok a5624 a5634 A5625 c5626 A5628 c5629 A5631 c5632 hr5627 hr5630 hr5633 _ hg5955 hS)) rfl rfl ?_
    rintro _ w ⟨rfl, hS⟩
    have hS : St B w (Cl b5944 [.slice none 0 0, .int .i64 0, .slice none 0 0, .int .u64 0] 51 :: Cl b5942 [.slice A5625 a5624.Progs.length c5626, .slice A5628 a5624.Links.length c5629, .slice A5631 a5624.Starts.length c5632, .int .u64 a5624.Seed, .int .i64 a5624.End, .int .i64 a5624.Budget] 27 :: l) hf := hS
    refine RL.s (Vl.not rfl) rfl ?_
    refine RL.nil ?_
    refine RQ.then_n ?_
    by_cases hc5956 : t5954 = true
    case pos =>
      have h := h.pos hc5956
      refine RC.re 19 rfl (congrArg Value.bool (notb_pos hc5956)) ?_
      refine RC.condF rfl ?_
      refine RC.skip ?_
      refine RQ.then_n ?_
      refine RC.join (fun (s : List api_Instr) a w => ∃ (l5981 : List api_Instr), s = (l5981) ∧ ∃ (b5980 : Nat) (A5982 : Option Addr) (c5983 : Nat), Has 51 [(1, .int .i64 a5634), (2, .pointer (some ⟨b5942, 0, none⟩)), (4, .pointer (some ⟨b5944, 0, none⟩)), (7, .pointer (some ⟨b5980, 0, none⟩))] a ∧ St B w (OSf E_api_Instr 34 (.slice A5982 l5981.length c5983) l5981 :: Cl b5944 [.slice none 0 0, .int .i64 0, .slice none 0 0, .int .u64 0] 51 :: Cl b5942 [.slice A5625 a5624.Progs.length c5626, .slice A5628 a5624.Links.length c5629, .slice A5631 a5624.Starts.length c5632, .int .u64 a5624.Seed, .int .i64 a5624.End, .int .i64 a5624.Budget] 27 :: Cl b5980 [.slice A5982 l5981.length c5983, .int .i64 a5634, .slice none 0 0, .int .u64 a5624.Seed] 51 :: l) hf ∧ Holds (· = r) (model_World.j4 a5624 a5634 l5981)) ?_ ?_
      · rintro l5981 a w ⟨_, rfl, b5980, A5982, c5983, ha, hS, h⟩
        revert a
        show RC _ _ _ _ _ _
        refine RC.seq ?_
        refine RC.seq ?_
        refine RC.region ?_
        refine RL.s (Vl.loadA (vs := [.slice A5625 a5624.Progs.length c5626, .slice A5628 a5624.Links.length c5629, .slice A5631 a5624.Starts.length c5632, .int .u64 a5624.Seed, .int .i64 a5624.End, .int .i64 a5624.Budget]) Tryd.isAgg27 Tryd.sizeOf27 rfl rfl (hS.cellsAt 2 rfl rfl)) rfl ?_
        refine RL.s (Vl.move rfl) rfl ?_
        obtain ⟨t6105, hg6106, h⟩ := h.bind
        refine RL.e (OW.callF (ls := [.tmp 31, .tmp 32]) rfl Tryd.call14 (model_Ways.ok a5624 a5634 A5625 c5626 A5628 c5629 A5631 c5632 hr5627 hr5630 hr5633 _ hg6106 hS)) rfl rfl ?_
        rintro _ w ⟨A6107, c6108, rfl, hS⟩
        have hS : St B w (OSf (FI .i64) 3 (.slice A6107 t6105.length c6108) t6105 :: OSf E_api_Instr 34 (.slice A5982 l5981.length c5983) l5981 :: Cl b5944 [.slice none 0 0, .int .i64 0, .slice none 0 0, .int .u64 0] 51 :: Cl b5942 [.slice A5625 a5624.Progs.length c5626, .slice A5628 a5624.Links.length c5629, .slice A5631 a5624.Starts.length c5632, .int .u64 a5624.Seed, .int .i64 a5624.End, .int .i64 a5624.Budget] 27 :: Cl b5980 [.slice A5982 l5981.length c5983, .int .i64 a5634, .slice none 0 0, .int .u64 a5624.Seed] 51 :: l) hf := hS
        refine RL.s (Vl.lenSl Tryd.underlying47 rfl) rfl ?_
        refine RL.s (Vl.move rfl) rfl ?_
        refine RL.nil ?_
        refine RQ.then_n ?_
        refine RC.block ?_
        have hS := hS.nilSl E_api_Link 37
        refine fun a ha => RC.loop (N := 51) (body := (model_World.l6b a5624 a5634 l5981 t6105)) (φ := (· = r)) (fun (s : List api_Link × Int) a w => ∃ (l6137 : List api_Link) (x6141 : Int), s = (l6137, x6141) ∧ ∃ (A6138 : Option Addr) (c6139 : Nat), Has 51 [(2, .pointer (some ⟨b5942, 0, none⟩)), (4, .pointer (some ⟨b5944, 0, none⟩)), (7, .pointer (some ⟨b5980, 0, none⟩)), (33, .slice A6107 t6105.length c6108), (34, .int .i64 (t6105.length : Int)), (35, .int .i64 x6141)] a ∧ St B w (OSf E_api_Instr 34 (.slice A5982 l5981.length c5983) l5981 :: OSf E_api_Link 37 (.slice A6138 l6137.length c6139) l6137 :: OSf (FI .i64) 3 (.slice A6107 t6105.length c6108) t6105 :: Cl b5944 [.slice none 0 0, .int .i64 0, .slice none 0 0, .int .u64 0] 51 :: Cl b5942 [.slice A5625 a5624.Progs.length c5626, .slice A5628 a5624.Links.length c5629, .slice A5631 a5624.Starts.length c5632, .int .u64 a5624.Seed, .int .i64 a5624.End, .int .i64 a5624.Budget] 27 :: Cl b5980 [.slice A5982 l5981.length c5983, .int .i64 a5634, .slice A6138 l6137.length c6139, .int .u64 a5624.Seed] 51 :: l) hf) ?_ (s0 := ([], 0)) h ⟨([]), 0, rfl, none, 0, ha.to ⟨rfl, rfl, rfl, rfl, rfl, rfl, trivial⟩, ((((((hS.pull 5 rfl rfl).pull 5 rfl rfl).pull 5 rfl rfl).pull 4 rfl rfl).pull 4 rfl rfl).pull 5 rfl rfl)⟩
        rintro G6185 _ a w ⟨l6137, x6141, rfl, A6138, c6139, ha, hS⟩ h
        revert a
        show RC _ _ _ _ _ _
        refine RC.seq ?_
        refine RC.region ?_
        refine RL.s (Vl.int rfl rfl rfl) rfl ?_
        refine RL.nil ?_
        refine RQ.then_n ?_
        refine RC.seq ?_
        by_cases hc6187 : x6141 < (t6105.length : Int)
        case pos =>
          have h := h.pos hc6187
          refine RC.re 36 rfl (congrArg Value.bool (decide_eq_true hc6187)) ?_
          refine RC.condT rfl ?_
          refine RC.skip ?_
          refine RQ.then_n ?_
          refine RC.seq ?_
          refine RC.block ?_
          refine RC.seq ?_
          refine RC.region ?_
          obtain ⟨hq6206, h⟩ := h.req
          refine RL.s (Vl.indexAddr Tryd.underlying47 Tryd.sizeOf3 rfl rfl ((hS.slW 2 rfl).2.2.adr hq6206 hc6187) hq6206 hc6187 rfl) rfl ?_
          refine RL.s (Vl.load Tryd.isAgg3 rfl ((hS.slW 2 rfl).2.2.cell (j := 0) hq6206 hc6187 rfl)) rfl ?_
          refine RL.s (Vl.assign rfl) rfl ?_
          refine RL.nil ?_
          refine RQ.then_n ?_
          refine RC.plan (.cons 0 true (.cons 1 true (.cons 2 true (.cons 3 true (.cons 4 false (.cons 5 false (.cons 6 false (.cons 7 false (.cons 8 false (.cons 9 false (.cons 10 false .nil))))))))))) [9, 10] (fun w => St B w (OSf E_api_Instr 34 (.slice A5982 l5981.length c5983) l5981 :: OSf (FI .i64) 3 (.slice A6107 t6105.length c6108) t6105 :: Cl b5944 [.slice none 0 0, .int .i64 0, .slice none 0 0, .int .u64 0] 51 :: Cl b5942 [.slice A5625 a5624.Progs.length c5626, .slice A5628 a5624.Links.length c5629, .slice A5631 a5624.Starts.length c5632, .int .u64 a5624.Seed, .int .i64 a5624.End, .int .i64 a5624.Budget] 27 :: Cl b5980 [.slice A5982 l5981.length c5983, .int .i64 a5634, .slice A6138 l6137.length c6139, .int .u64 a5624.Seed] 51 :: l) hf) follows rfl (by kernel_rfl) (NoTmp.block (NoTmp.then (NoTmp.then (NoTmp.block (NoTmp.then NoTmp.body))))) ?_
          have hS := hS.same (w' := { w with drawn := w.drawn + 1 }) rfl rfl
          revert hS
          generalize { w with drawn := w.drawn + 1 } = w
          intro hS
          refine RP.s 0 rfl rfl (hS.dropAt 1 rfl) (fun w hS => Vl.fieldAddr (a'' := ⟨b5980, 2, none⟩) Tryd.underlying51 rfl Tryd.sizeOf23 rfl rfl) rfl ?_
          refine RP.s 1 rfl rfl (hS.dropAt 1 rfl) (fun w hS => Vl.load Tryd.isAgg23 rfl (hS.cell 4 rfl rfl)) rfl ?_
          refine RP.s 2 rfl rfl (hS.dropAt 1 rfl) (fun w hS => Vl.fieldAddr (a'' := ⟨b5942, 1, none⟩) Tryd.underlying27 rfl Tryd.sizeOf23 rfl rfl) rfl ?_
          refine RP.s 3 rfl rfl (hS.dropAt 1 rfl) (fun w hS => Vl.load Tryd.isAgg23 rfl (hS.cell 3 rfl rfl)) rfl ?_
          refine RP.v1 4 rfl (fun _ => (hS.dropAt 1 rfl)) (Vl.move rfl) rfl rfl ?_
          obtain ⟨⟨hq6215, hq6216⟩, h⟩ := h.req
          refine RP.v1 5 rfl (fun _ => (hS.dropAt 1 rfl)) (Vl.indexAddr Tryd.underlying23 Tryd.sizeOf37 rfl rfl ((hr5630.2.world hS.sub).adr hq6215 hq6216) hq6215 hq6216 rfl) rfl rfl ?_
          refine RP.v1 6 rfl (fun _ => (hS.dropAt 1 rfl)) (Vl.loadA Tryd.isAgg37 Tryd.sizeOf37 rfl rfl ((hr5630.2.world hS.sub).cells hq6215 hq6216)) rfl rfl ?_
          refine RP.e 7 rfl (OW.buildSlice (E := E_api_Link) (xs := [(⟨(nth a5624.Links (nth t6105 x6141)).From, (nth a5624.Links (nth t6105 x6141)).To, (nth a5624.Links (nth t6105 x6141)).Look, ((nth a5624.Links (nth t6105 x6141)).Loose)⟩ : api_Link)]) (cs := [.int .i64 ((nth a5624.Links (nth t6105 x6141)).From), .int .i64 ((nth a5624.Links (nth t6105 x6141)).To), .int .i64 ((nth a5624.Links (nth t6105 x6141)).Look), .bool ((nth a5624.Links (nth t6105 x6141)).Loose)]) hS Tryd.underlying23 Tryd.zeroValue37 Tryd.sizeOf37 (parts := [(0, .tmp 45)]) rfl rfl (by decide) (by decide) (by kernel_rfl) rfl) rfl rfl ?_
          rintro _ w ⟨b6218, rfl, hS⟩
          have hS : St B w (OSf E_api_Link 37 (.slice (some ⟨b6218, 0, none⟩) ([(⟨(nth a5624.Links (nth t6105 x6141)).From, (nth a5624.Links (nth t6105 x6141)).To, (nth a5624.Links (nth t6105 x6141)).Look, ((nth a5624.Links (nth t6105 x6141)).Loose)⟩ : api_Link)]).length 1) ([(⟨(nth a5624.Links (nth t6105 x6141)).From, (nth a5624.Links (nth t6105 x6141)).To, (nth a5624.Links (nth t6105 x6141)).Look, ((nth a5624.Links (nth t6105 x6141)).Loose)⟩ : api_Link)]) :: OSf E_api_Instr 34 (.slice A5982 l5981.length c5983) l5981 :: OSf E_api_Link 37 (.slice A6138 l6137.length c6139) l6137 :: OSf (FI .i64) 3 (.slice A6107 t6105.length c6108) t6105 :: Cl b5944 [.slice none 0 0, .int .i64 0, .slice none 0 0, .int .u64 0] 51 :: Cl b5942 [.slice A5625 a5624.Progs.length c5626, .slice A5628 a5624.Links.length c5629, .slice A5631 a5624.Starts.length c5632, .int .u64 a5624.Seed, .int .i64 a5624.End, .int .i64 a5624.Budget] 27 :: Cl b5980 [.slice A5982 l5981.length c5983, .int .i64 a5634, .slice A6138 l6137.length c6139, .int .u64 a5624.Seed] 51 :: l) hf := hS
          refine ⟨fun _ => ((hS.dropAt 0 rfl).dropAt 1 rfl), ?_⟩
          obtain ⟨hq6219, h⟩ := h.req
          refine RP.e 8 rfl (OW.append (E := E_api_Link) (xs := l6137) (ys := [(⟨(nth a5624.Links (nth t6105 x6141)).From, (nth a5624.Links (nth t6105 x6141)).To, (nth a5624.Links (nth t6105 x6141)).Look, ((nth a5624.Links (nth t6105 x6141)).Loose)⟩ : api_Link)]) 2 hS rfl Tryd.underlying23 Tryd.type37 rfl rfl rfl rfl (by decide) rfl rfl rfl (hS.slW 0 rfl).2.2.flat (by simp only [maxLen, List.length_cons, List.length_nil] at *; omega) hq6219 rfl) rfl rfl ?_
          rintro v6223 w hS
          obtain ⟨A6220, c6221, rfl, _⟩ := hS.osShape 0 rfl
          have hS : St B w (OSf E_api_Link 37 (.slice A6220 (l6137 ++ ([(⟨(nth a5624.Links (nth t6105 x6141)).From, (nth a5624.Links (nth t6105 x6141)).To, (nth a5624.Links (nth t6105 x6141)).Look, ((nth a5624.Links (nth t6105 x6141)).Loose)⟩ : api_Link)])).length c6221) (l6137 ++ ([(⟨(nth a5624.Links (nth t6105 x6141)).From, (nth a5624.Links (nth t6105 x6141)).To, (nth a5624.Links (nth t6105 x6141)).Look, ((nth a5624.Links (nth t6105 x6141)).Loose)⟩ : api_Link)])) :: OSf E_api_Link 37 (.slice (some ⟨b6218, 0, none⟩) ([(⟨(nth a5624.Links (nth t6105 x6141)).From, (nth a5624.Links (nth t6105 x6141)).To, (nth a5624.Links (nth t6105 x6141)).Look, ((nth a5624.Links (nth t6105 x6141)).Loose)⟩ : api_Link)]).length 1) ([(⟨(nth a5624.Links (nth t6105 x6141)).From, (nth a5624.Links (nth t6105 x6141)).To, (nth a5624.Links (nth t6105 x6141)).Look, ((nth a5624.Links (nth t6105 x6141)).Loose)⟩ : api_Link)]) :: OSf E_api_Instr 34 (.slice A5982 l5981.length c5983) l5981 :: OSf (FI .i64) 3 (.slice A6107 t6105.length c6108) t6105 :: Cl b5944 [.slice none 0 0, .int .i64 0, .slice none 0 0, .int .u64 0] 51 :: Cl b5942 [.slice A5625 a5624.Progs.length c5626, .slice A5628 a5624.Links.length c5629, .slice A5631 a5624.Starts.length c5632, .int .u64 a5624.Seed, .int .i64 a5624.End, .int .i64 a5624.Budget] 27 :: Cl b5980 [.slice A5982 l5981.length c5983, .int .i64 a5634, .slice A6138 l6137.length c6139, .int .u64 a5624.Seed] 51 :: l) hf := hS
          refine ⟨fun _ => ((hS.dropAt 0 rfl).dropAt 0 rfl), ?_⟩
          refine RP.v1 9 rfl (by intro hx; cases hx) (Vl.fieldAddr (a'' := ⟨b5980, 2, none⟩) Tryd.underlying51 rfl Tryd.sizeOf23 rfl rfl) rfl rfl ?_
          refine RP.e0 10 rfl (OW.store (cs := [.slice A5982 l5981.length c5983, .int .i64 a5634, .slice A6138 l6137.length c6139, .int .u64 a5624.Seed]) (vs := [.slice A6220 (l6137 ++ ([(⟨(nth a5624.Links (nth t6105 x6141)).From, (nth a5624.Links (nth t6105 x6141)).To, (nth a5624.Links (nth t6105 x6141)).Look, ((nth a5624.Links (nth t6105 x6141)).Loose)⟩ : api_Link)])).length c6221]) (l' := OSf E_api_Link 37 (.slice A6220 (l6137 ++ ([(⟨(nth a5624.Links (nth t6105 x6141)).From, (nth a5624.Links (nth t6105 x6141)).To, (nth a5624.Links (nth t6105 x6141)).Look, ((nth a5624.Links (nth t6105 x6141)).Loose)⟩ : api_Link)])).length c6221) (l6137 ++ ([(⟨(nth a5624.Links (nth t6105 x6141)).From, (nth a5624.Links (nth t6105 x6141)).To, (nth a5624.Links (nth t6105 x6141)).Look, ((nth a5624.Links (nth t6105 x6141)).Loose)⟩ : api_Link)])) :: OSf E_api_Link 37 (.slice (some ⟨b6218, 0, none⟩) ([(⟨(nth a5624.Links (nth t6105 x6141)).From, (nth a5624.Links (nth t6105 x6141)).To, (nth a5624.Links (nth t6105 x6141)).Look, ((nth a5624.Links (nth t6105 x6141)).Loose)⟩ : api_Link)]).length 1) ([(⟨(nth a5624.Links (nth t6105 x6141)).From, (nth a5624.Links (nth t6105 x6141)).To, (nth a5624.Links (nth t6105 x6141)).Look, ((nth a5624.Links (nth t6105 x6141)).Loose)⟩ : api_Link)]) :: OSf E_api_Instr 34 (.slice A5982 l5981.length c5983) l5981 :: OSf (FI .i64) 3 (.slice A6107 t6105.length c6108) t6105 :: Cl b5944 [.slice none 0 0, .int .i64 0, .slice none 0 0, .int .u64 0] 51 :: Cl b5942 [.slice A5625 a5624.Progs.length c5626, .slice A5628 a5624.Links.length c5629, .slice A5631 a5624.Starts.length c5632, .int .u64 a5624.Seed, .int .i64 a5624.End, .int .i64 a5624.Budget] 27 :: Cl b5980 [.slice A5982 l5981.length c5983, .int .i64 a5634, .slice A6220 (l6137 ++ ([(⟨(nth a5624.Links (nth t6105 x6141)).From, (nth a5624.Links (nth t6105 x6141)).To, (nth a5624.Links (nth t6105 x6141)).Look, ((nth a5624.Links (nth t6105 x6141)).Loose)⟩ : api_Link)])).length c6221, .int .u64 a5624.Seed] 51 :: l) 6 hS rfl rfl rfl rfl Tryd.sizeOf23 rfl rfl rfl rfl) rfl ?_
          rintro _ w ⟨rfl, hS⟩
          have hS : St B w (OSf E_api_Link 37 (.slice A6220 (l6137 ++ ([(⟨(nth a5624.Links (nth t6105 x6141)).From, (nth a5624.Links (nth t6105 x6141)).To, (nth a5624.Links (nth t6105 x6141)).Look, ((nth a5624.Links (nth t6105 x6141)).Loose)⟩ : api_Link)])).length c6221) (l6137 ++ ([(⟨(nth a5624.Links (nth t6105 x6141)).From, (nth a5624.Links (nth t6105 x6141)).To, (nth a5624.Links (nth t6105 x6141)).Look, ((nth a5624.Links (nth t6105 x6141)).Loose)⟩ : api_Link)])) :: OSf E_api_Link 37 (.slice (some ⟨b6218, 0, none⟩) ([(⟨(nth a5624.Links (nth t6105 x6141)).From, (nth a5624.Links (nth t6105 x6141)).To, (nth a5624.Links (nth t6105 x6141)).Look, ((nth a5624.Links (nth t6105 x6141)).Loose)⟩ : api_Link)]).length 1) ([(⟨(nth a5624.Links (nth t6105 x6141)).From, (nth a5624.Links (nth t6105 x6141)).To, (nth a5624.Links (nth t6105 x6141)).Look, ((nth a5624.Links (nth t6105 x6141)).Loose)⟩ : api_Link)]) :: OSf E_api_Instr 34 (.slice A5982 l5981.length c5983) l5981 :: OSf (FI .i64) 3 (.slice A6107 t6105.length c6108) t6105 :: Cl b5944 [.slice none 0 0, .int .i64 0, .slice none 0 0, .int .u64 0] 51 :: Cl b5942 [.slice A5625 a5624.Progs.length c5626, .slice A5628 a5624.Links.length c5629, .slice A5631 a5624.Starts.length c5632, .int .u64 a5624.Seed, .int .i64 a5624.End, .int .i64 a5624.Budget] 27 :: Cl b5980 [.slice A5982 l5981.length c5983, .int .i64 a5634, .slice A6220 (l6137 ++ ([(⟨(nth a5624.Links (nth t6105 x6141)).From, (nth a5624.Links (nth t6105 x6141)).To, (nth a5624.Links (nth t6105 x6141)).Look, ((nth a5624.Links (nth t6105 x6141)).Loose)⟩ : api_Link)])).length c6221, .int .u64 a5624.Seed] 51 :: l) hf := hS
          refine ⟨(by intro hx; cases hx), ?_⟩
          refine RP.nil ?_
          refine RQ.inB_n ?_
          refine RQ.then_n ?_
          refine RC.region ?_
          refine RL.s (Vl.int rfl rfl rfl) rfl ?_
          refine RL.s (Vl.move rfl) rfl ?_
          refine RL.nil ?_
          exact fun a ha => ⟨((l6137 ++ ([(⟨(nth a5624.Links (nth t6105 x6141)).From, (nth a5624.Links (nth t6105 x6141)).To, (nth a5624.Links (nth t6105 x6141)).Look, ((nth a5624.Links (nth t6105 x6141)).Loose)⟩ : api_Link)])), IntKind.i64.wrap (x6141 + 1)), ⟨(l6137 ++ ([(⟨(nth a5624.Links (nth t6105 x6141)).From, (nth a5624.Links (nth t6105 x6141)).To, (nth a5624.Links (nth t6105 x6141)).Look, ((nth a5624.Links (nth t6105 x6141)).Loose)⟩ : api_Link)])), (IntKind.i64.wrap (x6141 + 1)), rfl, A6220, c6221, ha.to ⟨rfl, rfl, rfl, rfl, rfl, rfl, trivial⟩, (((((((hS.dropAt 1 rfl).pull 5 rfl rfl).pull 5 rfl rfl).pull 5 rfl rfl).pull 5 rfl rfl).pull 4 rfl rfl).pull 5 rfl rfl)⟩, h.some⟩
        case neg =>
          have h := h.neg hc6187
          refine RC.re 36 rfl (congrArg Value.bool (decide_eq_false hc6187)) ?_
          refine RC.condF rfl ?_
          refine RC.exit ?_
          refine RQ.exitT ?_
          have h := h.inrS
          refine RQ.exitT ?_
          refine RQ.inB_hit ?_
          refine RQ.then_n ?_
          refine RC.seq ?_
          refine RC.region ?_
          refine RL.s (Vl.loadA (vs := [.slice A5982 l5981.length c5983, .int .i64 a5634, .slice A6138 l6137.length c6139, .int .u64 a5624.Seed]) Tryd.isAgg51 Tryd.sizeOf51 rfl rfl (hS.cellsAt 5 rfl rfl)) rfl ?_
          refine RL.e0 (OW.store (cs := [.slice none 0 0, .int .i64 0, .slice none 0 0, .int .u64 0]) (vs := [.slice A5982 l5981.length c5983, .int .i64 a5634, .slice A6138 l6137.length c6139, .int .u64 a5624.Seed]) (l' := OSf E_api_Instr 34 (.slice A5982 l5981.length c5983) l5981 :: OSf E_api_Link 37 (.slice A6138 l6137.length c6139) l6137 :: OSf (FI .i64) 3 (.slice A6107 t6105.length c6108) t6105 :: Cl b5944 [.slice A5982 l5981.length c5983, .int .i64 a5634, .slice A6138 l6137.length c6139, .int .u64 a5624.Seed] 51 :: Cl b5942 [.slice A5625 a5624.Progs.length c5626, .slice A5628 a5624.Links.length c5629, .slice A5631 a5624.Starts.length c5632, .int .u64 a5624.Seed, .int .i64 a5624.End, .int .i64 a5624.Budget] 27 :: Cl b5980 [.slice A5982 l5981.length c5983, .int .i64 a5634, .slice A6138 l6137.length c6139, .int .u64 a5624.Seed] 51 :: l) 3 hS rfl rfl rfl rfl Tryd.sizeOf51 rfl rfl rfl rfl) rfl ?_
          rintro _ w ⟨rfl, hS⟩
          have hS : St B w (OSf E_api_Instr 34 (.slice A5982 l5981.length c5983) l5981 :: OSf E_api_Link 37 (.slice A6138 l6137.length c6139) l6137 :: OSf (FI .i64) 3 (.slice A6107 t6105.length c6108) t6105 :: Cl b5944 [.slice A5982 l5981.length c5983, .int .i64 a5634, .slice A6138 l6137.length c6139, .int .u64 a5624.Seed] 51 :: Cl b5942 [.slice A5625 a5624.Progs.length c5626, .slice A5628 a5624.Links.length c5629, .slice A5631 a5624.Starts.length c5632, .int .u64 a5624.Seed, .int .i64 a5624.End, .int .i64 a5624.Budget] 27 :: Cl b5980 [.slice A5982 l5981.length c5983, .int .i64 a5634, .slice A6138 l6137.length c6139, .int .u64 a5624.Seed] 51 :: l) hf := hS
          refine RL.s (Vl.assign rfl) rfl ?_
          refine RL.nil ?_
          refine RQ.then_n ?_
          refine RC.ret ?_
          have e := h.some
          subst e
          refine RQ.ret0 (vs := [.agg #[.slice A5982 l5981.length c5983, .int .i64 a5634, .slice A6138 l6137.length c6139, .int .u64 a5624.Seed], .int .i64 0]) Tryd.results16 ⟨⟨_, rfl, run_loadVarA (vs := [.slice A5982 l5981.length c5983, .int .i64 a5634, .slice A6138 l6137.length c6139, .int .u64 a5624.Seed]) Tryd.isAgg51 Tryd.sizeOf51 rfl (hS.cellsAt 3 rfl rfl)⟩, rfl, trivial⟩ ?_
          exact ⟨A5982, c5983, A6138, c6139, rfl, ((((hS.dropAt 2 rfl).dropAt 2 rfl).dropAt 2 rfl).dropAt 2 rfl)⟩
      · refine RC.plan (.cons 0 true (.cons 1 true (.cons 2 true (.cons 3 true (.cons 4 true (.cons 6 true (.cons 7 true (.cons 8 true (.fork 5 10 (.cons 9 true (.cons 10 false (.cons 11 false .nil))) (.cons 5 false (.cons 9 false (.cons 11 false .nil)))))))))))) [11] (fun w => St B w (Cl b5944 [.slice none 0 0, .int .i64 0, .slice none 0 0, .int .u64 0] 51 :: Cl b5942 [.slice A5625 a5624.Progs.length c5626, .slice A5628 a5624.Links.length c5629, .slice A5631 a5624.Starts.length c5632, .int .u64 a5624.Seed, .int .i64 a5624.End, .int .i64 a5624.Budget] 27 :: l) hf) follows rfl (by kernel_rfl) (NoTmp.then NoTmp.body) ?_
        have hS := hS.same (w' := { w with drawn := w.drawn + 1 }) rfl rfl
        revert hS
        generalize { w with drawn := w.drawn + 1 } = w
        intro hS
        refine RP.s 0 rfl rfl hS (fun w hS => Vl.fieldAddr (a'' := ⟨b5942, 0, none⟩) Tryd.underlying27 rfl Tryd.sizeOf22 rfl rfl) rfl ?_
        refine RP.s 1 rfl rfl hS (fun w hS => Vl.load Tryd.isAgg22 rfl (hS.cell 1 rfl rfl)) rfl ?_
        refine RP.s 2 rfl rfl hS (fun w hS => Vl.move rfl) rfl ?_
        obtain ⟨⟨hq6225, hq6226⟩, h⟩ := h.req
        refine RP.s 3 rfl rfl hS (fun w hS => Vl.indexAddr Tryd.underlying22 Tryd.sizeOf35 rfl rfl (hr5627.2.adr hq6225 hq6226) hq6225 hq6226 rfl) rfl ?_
        obtain ⟨_, _, ⟨A6227, c6228, rfl, hr6229⟩, hl6230⟩ := hr5627.2.elem hq6225 hq6226
        refine RP.s 4 rfl rfl hS (fun w hS => Vl.load Tryd.isAgg35 rfl (cellH_world hS.sub (hl6230 0 _ rfl))) rfl ?_
        refine RP.s 6 rfl rfl hS (fun w hS => Vl.move rfl) rfl ?_
        refine RP.s 7 rfl rfl hS (fun w hS => Vl.fieldAddr (a'' := ⟨b5942, 3, none⟩) Tryd.underlying27 rfl Tryd.sizeOf25 rfl rfl) rfl ?_
        refine RP.s 8 rfl rfl hS (fun w hS => Vl.load Tryd.isAgg25 rfl (hS.cell 1 rfl rfl)) rfl ?_
        refine RP.fork ?_ ?_
        · obtain ⟨hq6232, h⟩ := h.req
          have hS := hS.nilSl E_api_Instr 34
          refine RPW.e 5 rfl (OW.appendV (E := E_api_Instr) (xs := ([] : List api_Instr)) (ys := nth a5624.Progs a5634) 0 hS rfl Tryd.underlying35 Tryd.type34 rfl rfl rfl rfl (by decide) (by decide) rfl rfl (hr6229.2.world hS.sub) hq6232 rfl) rfl rfl ?_
          rintro v6236 w hS
          obtain ⟨A6233, c6234, rfl, _⟩ := hS.osShape 0 rfl
          have hS : St B w (OSf E_api_Instr 34 (.slice A6233 (([] : List api_Instr) ++ (nth a5624.Progs a5634)).length c6234) (([] : List api_Instr) ++ (nth a5624.Progs a5634)) :: Cl b5944 [.slice none 0 0, .int .i64 0, .slice none 0 0, .int .u64 0] 51 :: Cl b5942 [.slice A5625 a5624.Progs.length c5626, .slice A5628 a5624.Links.length c5629, .slice A5631 a5624.Starts.length c5632, .int .u64 a5624.Seed, .int .i64 a5624.End, .int .i64 a5624.Budget] 27 :: l) hf := hS
          refine ⟨fun _ => (hS.dropAt 0 rfl), ?_⟩
          refine RP.s 9 rfl rfl (hS.dropAt 0 rfl) (fun w hS => Vl.build (v := .agg #[.slice A6233 (([] : List api_Instr) ++ (nth a5624.Progs a5634)).length c6234, .int .i64 a5634, .slice none 0 0, .int .u64 a5624.Seed]) (parts := [(0, .tmp 26), (1, .tmp 27), (3, .tmp 29)]) rfl (by kernel_rfl)) rfl ?_
          refine RP.e 10 rfl (OW.alloc (cs := [.slice none 0 0, .int .i64 0, .slice none 0 0, .int .u64 0]) hS Tryd.zeroValue51 rfl) rfl rfl ?_
          rintro _ w ⟨b6238, rfl, hS⟩
          have hS : St B w (Cl b6238 [.slice none 0 0, .int .i64 0, .slice none 0 0, .int .u64 0] 51 :: OSf E_api_Instr 34 (.slice A6233 (([] : List api_Instr) ++ (nth a5624.Progs a5634)).length c6234) (([] : List api_Instr) ++ (nth a5624.Progs a5634)) :: Cl b5944 [.slice none 0 0, .int .i64 0, .slice none 0 0, .int .u64 0] 51 :: Cl b5942 [.slice A5625 a5624.Progs.length c5626, .slice A5628 a5624.Links.length c5629, .slice A5631 a5624.Starts.length c5632, .int .u64 a5624.Seed, .int .i64 a5624.End, .int .i64 a5624.Budget] 27 :: l) hf := hS
          refine ⟨fun _ => ((hS.dropAt 0 rfl).dropAt 0 rfl), ?_⟩
          refine RP.e0 11 rfl (OW.store (cs := [.slice none 0 0, .int .i64 0, .slice none 0 0, .int .u64 0]) (vs := [.slice A6233 (([] : List api_Instr) ++ (nth a5624.Progs a5634)).length c6234, .int .i64 a5634, .slice none 0 0, .int .u64 a5624.Seed]) (l' := Cl b6238 [.slice A6233 (([] : List api_Instr) ++ (nth a5624.Progs a5634)).length c6234, .int .i64 a5634, .slice none 0 0, .int .u64 a5624.Seed] 51 :: OSf E_api_Instr 34 (.slice A6233 (([] : List api_Instr) ++ (nth a5624.Progs a5634)).length c6234) (([] : List api_Instr) ++ (nth a5624.Progs a5634)) :: Cl b5944 [.slice none 0 0, .int .i64 0, .slice none 0 0, .int .u64 0] 51 :: Cl b5942 [.slice A5625 a5624.Progs.length c5626, .slice A5628 a5624.Links.length c5629, .slice A5631 a5624.Starts.length c5632, .int .u64 a5624.Seed, .int .i64 a5624.End, .int .i64 a5624.Budget] 27 :: l) 0 hS rfl rfl rfl rfl Tryd.sizeOf51 rfl rfl rfl rfl) rfl ?_
          rintro _ w ⟨rfl, hS⟩
          have hS : St B w (Cl b6238 [.slice A6233 (([] : List api_Instr) ++ (nth a5624.Progs a5634)).length c6234, .int .i64 a5634, .slice none 0 0, .int .u64 a5624.Seed] 51 :: OSf E_api_Instr 34 (.slice A6233 (([] : List api_Instr) ++ (nth a5624.Progs a5634)).length c6234) (([] : List api_Instr) ++ (nth a5624.Progs a5634)) :: Cl b5944 [.slice none 0 0, .int .i64 0, .slice none 0 0, .int .u64 0] 51 :: Cl b5942 [.slice A5625 a5624.Progs.length c5626, .slice A5628 a5624.Links.length c5629, .slice A5631 a5624.Starts.length c5632, .int .u64 a5624.Seed, .int .i64 a5624.End, .int .i64 a5624.Budget] 27 :: l) hf := hS
          refine ⟨(by intro hx; cases hx), ?_⟩
          refine RP.nil ?_
          exact fun a ha => ⟨((([] : List api_Instr) ++ (nth a5624.Progs a5634))), (([] : List api_Instr) ++ (nth a5624.Progs a5634)), rfl, b6238, A6233, c6234, ha.to ⟨rfl, rfl, rfl, rfl, trivial⟩, ((((hS.pull 0 rfl rfl).pull 3 rfl rfl).pull 3 rfl rfl).pull 3 rfl rfl), h⟩
        · refine RPW.e 10 rfl (OW.alloc (cs := [.slice none 0 0, .int .i64 0, .slice none 0 0, .int .u64 0]) hS Tryd.zeroValue51 rfl) rfl rfl ?_
          rintro _ w ⟨b6240, rfl, hS⟩
          have hS : St B w (Cl b6240 [.slice none 0 0, .int .i64 0, .slice none 0 0, .int .u64 0] 51 :: Cl b5944 [.slice none 0 0, .int .i64 0, .slice none 0 0, .int .u64 0] 51 :: Cl b5942 [.slice A5625 a5624.Progs.length c5626, .slice A5628 a5624.Links.length c5629, .slice A5631 a5624.Starts.length c5632, .int .u64 a5624.Seed, .int .i64 a5624.End, .int .i64 a5624.Budget] 27 :: l) hf := hS
          refine ⟨fun _ => (hS.dropAt 0 rfl), ?_⟩
          obtain ⟨hq6242, h⟩ := h.req
          have hS := hS.nilSl E_api_Instr 34
          refine RP.e 5 rfl (OW.appendV (E := E_api_Instr) (xs := ([] : List api_Instr)) (ys := nth a5624.Progs a5634) 0 hS rfl Tryd.underlying35 Tryd.type34 rfl rfl rfl rfl (by decide) (by decide) rfl rfl (hr6229.2.world hS.sub) hq6242 rfl) rfl rfl ?_
          rintro v6246 w hS
          obtain ⟨A6243, c6244, rfl, _⟩ := hS.osShape 0 rfl
          have hS : St B w (OSf E_api_Instr 34 (.slice A6243 (([] : List api_Instr) ++ (nth a5624.Progs a5634)).length c6244) (([] : List api_Instr) ++ (nth a5624.Progs a5634)) :: Cl b6240 [.slice none 0 0, .int .i64 0, .slice none 0 0, .int .u64 0] 51 :: Cl b5944 [.slice none 0 0, .int .i64 0, .slice none 0 0, .int .u64 0] 51 :: Cl b5942 [.slice A5625 a5624.Progs.length c5626, .slice A5628 a5624.Links.length c5629, .slice A5631 a5624.Starts.length c5632, .int .u64 a5624.Seed, .int .i64 a5624.End, .int .i64 a5624.Budget] 27 :: l) hf := hS
          refine ⟨fun _ => ((hS.dropAt 0 rfl).dropAt 0 rfl), ?_⟩
          refine RP.v1 9 rfl (fun _ => ((hS.dropAt 0 rfl).dropAt 0 rfl)) (Vl.build (v := .agg #[.slice A6243 (([] : List api_Instr) ++ (nth a5624.Progs a5634)).length c6244, .int .i64 a5634, .slice none 0 0, .int .u64 a5624.Seed]) (parts := [(0, .tmp 26), (1, .tmp 27), (3, .tmp 29)]) rfl (by kernel_rfl)) rfl rfl ?_
          refine RP.e0 11 rfl (OW.store (cs := [.slice none 0 0, .int .i64 0, .slice none 0 0, .int .u64 0]) (vs := [.slice A6243 (([] : List api_Instr) ++ (nth a5624.Progs a5634)).length c6244, .int .i64 a5634, .slice none 0 0, .int .u64 a5624.Seed]) (l' := OSf E_api_Instr 34 (.slice A6243 (([] : List api_Instr) ++ (nth a5624.Progs a5634)).length c6244) (([] : List api_Instr) ++ (nth a5624.Progs a5634)) :: Cl b6240 [.slice A6243 (([] : List api_Instr) ++ (nth a5624.Progs a5634)).length c6244, .int .i64 a5634, .slice none 0 0, .int .u64 a5624.Seed] 51 :: Cl b5944 [.slice none 0 0, .int .i64 0, .slice none 0 0, .int .u64 0] 51 :: Cl b5942 [.slice A5625 a5624.Progs.length c5626, .slice A5628 a5624.Links.length c5629, .slice A5631 a5624.Starts.length c5632, .int .u64 a5624.Seed, .int .i64 a5624.End, .int .i64 a5624.Budget] 27 :: l) 1 hS rfl rfl rfl rfl Tryd.sizeOf51 rfl rfl rfl rfl) rfl ?_
          rintro _ w ⟨rfl, hS⟩
          have hS : St B w (OSf E_api_Instr 34 (.slice A6243 (([] : List api_Instr) ++ (nth a5624.Progs a5634)).length c6244) (([] : List api_Instr) ++ (nth a5624.Progs a5634)) :: Cl b6240 [.slice A6243 (([] : List api_Instr) ++ (nth a5624.Progs a5634)).length c6244, .int .i64 a5634, .slice none 0 0, .int .u64 a5624.Seed] 51 :: Cl b5944 [.slice none 0 0, .int .i64 0, .slice none 0 0, .int .u64 0] 51 :: Cl b5942 [.slice A5625 a5624.Progs.length c5626, .slice A5628 a5624.Links.length c5629, .slice A5631 a5624.Starts.length c5632, .int .u64 a5624.Seed, .int .i64 a5624.End, .int .i64 a5624.Budget] 27 :: l) hf := hS
          refine ⟨(by intro hx; cases hx), ?_⟩
          refine RP.nil ?_
          exact fun a ha => ⟨((([] : List api_Instr) ++ (nth a5624.Progs a5634))), (([] : List api_Instr) ++ (nth a5624.Progs a5634)), rfl, b6240, A6243, c6244, ha.to ⟨rfl, rfl, rfl, rfl, trivial⟩, ((((hS.pull 1 rfl rfl).pull 3 rfl rfl).pull 3 rfl rfl).pull 3 rfl rfl), h⟩
    case neg =>
      have h := h.neg hc5956
      refine RC.re 19 rfl (congrArg Value.bool (notb_neg hc5956)) ?_
      refine RC.condT rfl ?_
      refine RC.seq ?_
      refine RC.region ?_
      refine RL.s (Vl.build (v := .agg #[.slice none 0 0, .int .i64 0, .slice none 0 0, .int .u64 0]) (parts := []) rfl (by kernel_rfl)) rfl ?_
      refine RL.e0 (OW.store (cs := [.slice none 0 0, .int .i64 0, .slice none 0 0, .int .u64 0]) (vs := [.slice none 0 0, .int .i64 0, .slice none 0 0, .int .u64 0]) (l' := Cl b5944 [.slice none 0 0, .int .i64 0, .slice none 0 0, .int .u64 0] 51 :: Cl b5942 [.slice A5625 a5624.Progs.length c5626, .slice A5628 a5624.Links.length c5629, .slice A5631 a5624.Starts.length c5632, .int .u64 a5624.Seed, .int .i64 a5624.End, .int .i64 a5624.Budget] 27 :: l) 0 hS rfl rfl rfl rfl Tryd.sizeOf51 rfl rfl rfl rfl) rfl ?_
      rintro _ w ⟨rfl, hS⟩
      have hS : St B w (Cl b5944 [.slice none 0 0, .int .i64 0, .slice none 0 0, .int .u64 0] 51 :: Cl b5942 [.slice A5625 a5624.Progs.length c5626, .slice A5628 a5624.Links.length c5629, .slice A5631 a5624.Starts.length c5632, .int .u64 a5624.Seed, .int .i64 a5624.End, .int .i64 a5624.Budget] 27 :: l) hf := hS
      refine RL.s (Vl.assign rfl) rfl ?_
      refine RL.nil ?_
      refine RQ.then_n ?_
      refine RC.ret ?_
      refine RQ.ret ?_
      have hS := hS.nilSl E_api_Instr 34
      have hS := hS.nilSl E_api_Link 37
      have e := h.some
      subst e
      refine RQ.ret0 (vs := [.agg #[.slice none 0 0, .int .i64 0, .slice none 0 0, .int .u64 0], .int .i64 1]) Tryd.results16 ⟨⟨_, rfl, run_loadVarA (vs := [.slice none 0 0, .int .i64 0, .slice none 0 0, .int .u64 0]) Tryd.isAgg51 Tryd.sizeOf51 rfl (hS.cellsAt 2 rfl rfl)⟩, rfl, trivial⟩ ?_
      exact ⟨none, 0, none, 0, rfl, ((((hS.dropAt 2 rfl).dropAt 2 rfl).pull 0 rfl rfl).pull 1 rfl rfl)⟩
  case neg =>
    have h := h.neg hc5950
    refine RC.re 13 rfl (congrArg Value.bool (notdec_neg hc5950)) ?_
    refine RC.condT rfl ?_
    refine RC.seq ?_
    refine RC.region ?_
    refine RL.s (Vl.build (v := .agg #[.slice none 0 0, .int .i64 0, .slice none 0 0, .int .u64 0]) (parts := []) rfl (by kernel_rfl)) rfl ?_
    refine RL.s (Vl.move rfl) rfl ?_
    refine RL.e0 (OW.store (cs := [.slice none 0 0, .int .i64 0, .slice none 0 0, .int .u64 0]) (vs := [.slice none 0 0, .int .i64 0, .slice none 0 0, .int .u64 0]) (l' := Cl b5944 [.slice none 0 0, .int .i64 0, .slice none 0 0, .int .u64 0] 51 :: Cl b5942 [.slice A5625 a5624.Progs.length c5626, .slice A5628 a5624.Links.length c5629, .slice A5631 a5624.Starts.length c5632, .int .u64 a5624.Seed, .int .i64 a5624.End, .int .i64 a5624.Budget] 27 :: l) 0 hS rfl rfl rfl rfl Tryd.sizeOf51 rfl rfl rfl rfl) rfl ?_
    rintro _ w ⟨rfl, hS⟩
    have hS : St B w (Cl b5944 [.slice none 0 0, .int .i64 0, .slice none 0 0, .int .u64 0] 51 :: Cl b5942 [.slice A5625 a5624.Progs.length c5626, .slice A5628 a5624.Links.length c5629, .slice A5631 a5624.Starts.length c5632, .int .u64 a5624.Seed, .int .i64 a5624.End, .int .i64 a5624.Budget] 27 :: l) hf := hS
    refine RL.s (Vl.assign rfl) rfl ?_
    refine RL.nil ?_
    refine RQ.then_n ?_
    refine RC.ret ?_
    refine RQ.ret ?_
    have hS := hS.nilSl E_api_Instr 34
    have hS := hS.nilSl E_api_Link 37
    have e := h.some
    subst e
    refine RQ.ret0 (vs := [.agg #[.slice none 0 0, .int .i64 0, .slice none 0 0, .int .u64 0], .int .i64 t5948]) Tryd.results16 ⟨⟨_, rfl, run_loadVarA (vs := [.slice none 0 0, .int .i64 0, .slice none 0 0, .int .u64 0]) Tryd.isAgg51 Tryd.sizeOf51 rfl (hS.cellsAt 2 rfl rfl)⟩, rfl, trivial⟩ ?_
    exact ⟨none, 0, none, 0, rfl, ((((hS.dropAt 2 rfl).dropAt 2 rfl).pull 0 rfl rfl).pull 1 rfl rfl)⟩

/-! ### isochron/isochronref13.Ways: function 30 -/
noncomputable def isochronref13vWays.j8 (x6438 : Int) (l6480 : List Int) : Option ((List Int × Int) ⊕ (List Int)) := some (.inl (l6480, IntKind.i64.wrap (x6438 + 1)))
noncomputable def isochronref13vWays.l7b (a6299 : api_Model) (a6309 : Int) : List Int × Int → Option ((List Int × Int) ⊕ (List Int))
  | (l6434, x6438) => (if x6438 < (a6299.Links.length : Int) then (if 0 ≤ x6438 then (if (nth a6299.Links x6438).From = a6309 then (if (l6434.length + 1) * 8 ≤ 140737488355328 then isochronref13vWays.j8 x6438 (l6434 ++ ([x6438])) else none) else isochronref13vWays.j8 x6438 l6434) else none) else some (.inr l6434))
noncomputable def isochronref13vWays.l7 (a6299 : api_Model) (a6309 : Int) (s : List Int × Int) : Option (List Int) := loopR (isochronref13vWays.l7b a6299 a6309) s
noncomputable def isochronref13vWays.f (a6299 : api_Model) (a6309 : Int) : Option (List Int) := isochronref13vWays.l7 a6299 a6309 ([], 0)
set_option maxRecDepth 100000 in
set_option maxHeartbeats 4000000 in
theorem isochronref13vWays.ok {B : Base} {w : World} {l : List HProp} {hf : Hp} (a6299 : api_Model) (a6309 : Int) (A6300 : Option Addr) (c6301 : Nat) (A6303 : Option Addr) (c6304 : Nat) (A6306 : Option Addr) (c6307 : Nat) (hr6302 : SlR (Rep.sl E_api_Instr.rep) hf A6300 c6301 a6299.Progs) (hr6305 : SlR E_api_Link.rep hf A6303 c6304 a6299.Links) (hr6308 : SlR E_api_Start.rep hf A6306 c6307 a6299.Starts) (r : List Int) (h : isochronref13vWays.f a6299 a6309 = some r) (hS : St B w (l) hf) :
    Calls Tryd.prog 30 #[.agg #[.slice A6300 a6299.Progs.length c6301, .slice A6303 a6299.Links.length c6304, .slice A6306 a6299.Starts.length c6307, .int .u64 a6299.Seed, .int .i64 a6299.End, .int .i64 a6299.Budget], .int .i64 a6309] w (Ret fun v w => ∃ (A_1 : Option Addr) (c_2 : Nat), v = .slice A_1 r.length c_2 ∧ St B w (OSf (FI .i64) 3 (.slice A_1 r.length c_2) r :: l) hf) := by
  have h := Holds.of h
  refine enter (args := [.agg #[.slice A6300 a6299.Progs.length c6301, .slice A6303 a6299.Links.length c6304, .slice A6306 a6299.Starts.length c6307, .int .u64 a6299.Seed, .int .i64 a6299.End, .int .i64 a6299.Budget], .int .i64 a6309]) Tryd.func30 rfl Tryd.ntmps30 (Nat.le_of_ble_eq_true rfl) ?_
  refine RC.seq ?_
  refine RC.region ?_
  refine RL.e (OW.box (cs := [.slice A6300 a6299.Progs.length c6301, .slice A6303 a6299.Links.length c6304, .slice A6306 a6299.Starts.length c6307, .int .u64 a6299.Seed, .int .i64 a6299.End, .int .i64 a6299.Budget]) hS rfl rfl) rfl rfl ?_
  rintro _ w ⟨b6403, rfl, hS⟩
  have hS : St B w (Cl b6403 [.slice A6300 a6299.Progs.length c6301, .slice A6303 a6299.Links.length c6304, .slice A6306 a6299.Starts.length c6307, .int .u64 a6299.Seed, .int .i64 a6299.End, .int .i64 a6299.Budget] 27 :: l) hf := hS
  refine RL.s (Vl.assign rfl) rfl ?_
  refine RL.nil ?_
  refine RQ.then_n ?_
  refine RC.seq ?_
  refine RC.region ?_
  refine RL.s (Vl.assign rfl) rfl ?_
  refine RL.nil ?_
  refine RQ.then_n ?_
  refine RC.seq ?_
  refine RC.seq ?_
  refine RC.region ?_
  refine RL.s (Vl.assign rfl) rfl ?_
  refine RL.nil ?_
  refine RQ.then_n ?_
  refine RC.block ?_
  have hS := hS.nilSl (FI .i64) 3
  refine fun a ha => RC.loop (N := 27) (body := (isochronref13vWays.l7b a6299 a6309)) (φ := (· = r)) (fun (s : List Int × Int) a w => ∃ (l6434 : List Int) (x6438 : Int), s = (l6434, x6438) ∧ ∃ (A6435 : Option Addr) (c6436 : Nat), Has 27 [(1, .int .i64 a6309), (2, .pointer (some ⟨b6403, 0, none⟩)), (5, .slice A6435 l6434.length c6436), (6, .int .i64 x6438)] a ∧ St B w (OSf (FI .i64) 3 (.slice A6435 l6434.length c6436) l6434 :: Cl b6403 [.slice A6300 a6299.Progs.length c6301, .slice A6303 a6299.Links.length c6304, .slice A6306 a6299.Starts.length c6307, .int .u64 a6299.Seed, .int .i64 a6299.End, .int .i64 a6299.Budget] 27 :: l) hf) ?_ (s0 := ([], 0)) h ⟨([]), 0, rfl, none, 0, ha.to ⟨rfl, rfl, rfl, rfl, trivial⟩, hS⟩
  rintro G6468 _ a w ⟨l6434, x6438, rfl, A6435, c6436, ha, hS⟩ h
  revert a
  show RC _ _ _ _ _ _
  refine RC.seq ?_
  refine RC.seq ?_
  refine RC.region ?_
  refine RL.s (Vl.move rfl) rfl ?_
  refine RL.s (Vl.fieldAddr (a'' := ⟨b6403, 1, none⟩) Tryd.underlying27 rfl Tryd.sizeOf23 rfl rfl) rfl ?_
  refine RL.s (Vl.load Tryd.isAgg23 rfl (hS.cell 1 rfl rfl)) rfl ?_
  refine RL.s (Vl.lenSl Tryd.underlying23 rfl) rfl ?_
  refine RL.s (Vl.int rfl rfl rfl) rfl ?_
  refine RL.nil ?_
  refine RQ.then_n ?_
  by_cases hc6470 : x6438 < (a6299.Links.length : Int)
  case pos =>
    have h := h.pos hc6470
    refine RC.re 11 rfl (congrArg Value.bool (decide_eq_true hc6470)) ?_
    refine RC.condT rfl ?_
    refine RC.skip ?_
    refine RQ.then_n ?_
    refine RC.join (fun (s : List Int) a w => ∃ (l6480 : List Int), s = (l6480) ∧ ∃ (A6481 : Option Addr) (c6482 : Nat), Has 27 [(1, .int .i64 a6309), (2, .pointer (some ⟨b6403, 0, none⟩)), (5, .slice A6481 l6480.length c6482), (6, .int .i64 x6438)] a ∧ St B w (OSf (FI .i64) 3 (.slice A6481 l6480.length c6482) l6480 :: Cl b6403 [.slice A6300 a6299.Progs.length c6301, .slice A6303 a6299.Links.length c6304, .slice A6306 a6299.Starts.length c6307, .int .u64 a6299.Seed, .int .i64 a6299.End, .int .i64 a6299.Budget] 27 :: l) hf ∧ Holds (Sum.elim G6468 (· = r)) (isochronref13vWays.j8 x6438 l6480)) ?_ ?_
    · rintro l6480 a w ⟨_, rfl, A6481, c6482, ha, hS, h⟩
      revert a
      show RC _ _ _ _ _ _
      refine RC.region ?_
      refine RL.s (Vl.move rfl) rfl ?_
      refine RL.s (Vl.int rfl rfl rfl) rfl ?_
      refine RL.s (Vl.assign rfl) rfl ?_
      refine RL.nil ?_
      exact fun a ha => ⟨(l6480, IntKind.i64.wrap (x6438 + 1)), ⟨l6480, (IntKind.i64.wrap (x6438 + 1)), rfl, A6481, c6482, ha.to ⟨rfl, rfl, rfl, rfl, trivial⟩, hS⟩, h.some⟩
    · refine RC.block ?_
      refine RC.seq ?_
      refine RC.region ?_
      refine RL.s (Vl.fieldAddr (a'' := ⟨b6403, 1, none⟩) Tryd.underlying27 rfl Tryd.sizeOf23 rfl rfl) rfl ?_
      refine RL.s (Vl.load Tryd.isAgg23 rfl (hS.cell 1 rfl rfl)) rfl ?_
      refine RL.s (Vl.move rfl) rfl ?_
      obtain ⟨hq6484, h⟩ := h.req
      refine RL.s (Vl.indexAddr Tryd.underlying23 Tryd.sizeOf37 rfl rfl ((hr6305.2.world hS.sub).adr hq6484 hc6470) hq6484 hc6470 rfl) rfl ?_
      refine RL.s (Vl.fieldAddr (a'' := (ad A6303).add (x6438.toNat * 4 + 0)) Tryd.underlying37 rfl Tryd.sizeOf3 rfl (add_add _ _ _)) rfl ?_
      refine RL.s (Vl.load Tryd.isAgg3 rfl ((hr6305.2.world hS.sub).cell (j := 0) hq6484 hc6470 rfl)) rfl ?_
      refine RL.s (Vl.move rfl) rfl ?_
      refine RL.s (Vl.int rfl rfl rfl) rfl ?_
      refine RL.nil ?_
      refine RQ.then_n ?_
      by_cases hc6485 : (nth a6299.Links x6438).From = a6309
      case pos =>
        have h := h.pos hc6485
        refine RC.re 21 rfl (congrArg Value.bool (decide_eq_true hc6485)) ?_
        refine RC.condT rfl ?_
        refine RC.region ?_
        refine RL.s (Vl.move rfl) rfl ?_
        refine RL.s (Vl.move rfl) rfl ?_
        refine RL.e (OW.buildSlice (E := (FI .i64)) (xs := [x6438]) (cs := [.int .i64 x6438]) hS Tryd.underlying47 Tryd.zeroValue3 Tryd.sizeOf3 (parts := [(0, .tmp 23)]) rfl rfl (by decide) (by decide) (by kernel_rfl) rfl) rfl rfl ?_
        rintro _ w ⟨b6487, rfl, hS⟩
        have hS : St B w (OSf (FI .i64) 3 (.slice (some ⟨b6487, 0, none⟩) ([x6438]).length 1) ([x6438]) :: OSf (FI .i64) 3 (.slice A6435 l6434.length c6436) l6434 :: Cl b6403 [.slice A6300 a6299.Progs.length c6301, .slice A6303 a6299.Links.length c6304, .slice A6306 a6299.Starts.length c6307, .int .u64 a6299.Seed, .int .i64 a6299.End, .int .i64 a6299.Budget] 27 :: l) hf := hS
        obtain ⟨hq6488, h⟩ := h.req
        refine RL.e (OW.append (E := (FI .i64)) (xs := l6434) (ys := [x6438]) 1 hS rfl Tryd.underlying47 Tryd.type3 rfl rfl rfl rfl (by decide) rfl rfl rfl (hS.slW 0 rfl).2.2.flat (by simp only [maxLen, List.length_cons, List.length_nil] at *; omega) hq6488 rfl) rfl rfl ?_
        rintro v6492 w hS
        obtain ⟨A6489, c6490, rfl, _⟩ := hS.osShape 0 rfl
        have hS : St B w (OSf (FI .i64) 3 (.slice A6489 (l6434 ++ ([x6438])).length c6490) (l6434 ++ ([x6438])) :: OSf (FI .i64) 3 (.slice (some ⟨b6487, 0, none⟩) ([x6438]).length 1) ([x6438]) :: Cl b6403 [.slice A6300 a6299.Progs.length c6301, .slice A6303 a6299.Links.length c6304, .slice A6306 a6299.Starts.length c6307, .int .u64 a6299.Seed, .int .i64 a6299.End, .int .i64 a6299.Budget] 27 :: l) hf := hS
        refine RL.s (Vl.assign rfl) rfl ?_
        refine RL.nil ?_
        refine RQ.inB_n ?_
        exact fun a ha => ⟨((l6434 ++ ([x6438]))), (l6434 ++ ([x6438])), rfl, A6489, c6490, ha.to ⟨rfl, rfl, rfl, rfl, trivial⟩, (hS.dropAt 1 rfl), h⟩
      case neg =>
        have h := h.neg hc6485
        refine RC.re 21 rfl (congrArg Value.bool (decide_eq_false hc6485)) ?_
        refine RC.condF rfl ?_
        refine RC.skip ?_
        refine RQ.inB_n ?_
        exact fun a ha => ⟨(l6434), l6434, rfl, A6435, c6436, ha.to ⟨rfl, rfl, rfl, rfl, trivial⟩, hS, h⟩
  case neg =>
    have h := h.neg hc6470
    refine RC.re 11 rfl (congrArg Value.bool (decide_eq_false hc6470)) ?_
    refine RC.condF rfl ?_
    refine RC.exit ?_
    refine RQ.exitT ?_
    have h := h.inrS
    refine RQ.exitT ?_
    refine RQ.inB_hit ?_
    refine RQ.then_n ?_
    refine RC.seq ?_
    refine RC.region ?_
    refine RL.s (Vl.move rfl) rfl ?_
    refine RL.s (Vl.assign rfl) rfl ?_
    refine RL.nil ?_
    refine RQ.then_n ?_
    refine RC.ret ?_
    have e := h.some
    subst e
    refine RQ.ret0 (vs := [.slice A6435 l6434.length c6436]) Tryd.results30 ⟨rfl, trivial⟩ ?_
    exact ⟨A6435, c6436, rfl, (hS.dropAt 1 rfl)⟩

/-! ### isochron/isochronref13.World: function 17 -/
noncomputable def isochronref13vWorld.l4b (a6268 : api_Model) (a6278 : Int) (t6760 : List Int) : List api_Link × Int → Option ((List api_Link × Int) ⊕ (List api_Instr × Int × List api_Link × Int × Int))
  | (l6911, x6915) => (if x6915 < (t6760.length : Int) then (if 0 ≤ x6915 then (if 0 ≤ nth t6760 x6915 ∧ nth t6760 x6915 < (a6268.Links.length : Int) then (if (l6911.length + 1) * 32 ≤ 140737488355328 then some (.inl ((l6911 ++ ([(⟨(nth a6268.Links (nth t6760 x6915)).From, (nth a6268.Links (nth t6760 x6915)).To, (nth a6268.Links (nth t6760 x6915)).Look, ((nth a6268.Links (nth t6760 x6915)).Loose)⟩ : api_Link)])), IntKind.i64.wrap (x6915 + 1))) else none) else none) else none) else some (.inr (nth a6268.Progs a6278, a6278, l6911, a6268.Seed, 0)))
noncomputable def isochronref13vWorld.l4 (a6268 : api_Model) (a6278 : Int) (t6760 : List Int) (s : List api_Link × Int) : Option (List api_Instr × Int × List api_Link × Int × Int) := loopR (isochronref13vWorld.l4b a6268 a6278 t6760) s
noncomputable def isochronref13vWorld.f (a6268 : api_Model) (a6278 : Int) : Option (List api_Instr × Int × List api_Link × Int × Int) := ((isochronref13vCheck.f a6268).bind fun t6742 => (if t6742 = 0 then (if a6278 < 0 then some (([] : List api_Instr), 0, ([] : List api_Link), 0, 1) else (if (a6268.Progs.length : Int) ≤ a6278 then some (([] : List api_Instr), 0, ([] : List api_Link), 0, 1) else (if 0 ≤ a6278 ∧ a6278 < (a6268.Progs.length : Int) then ((isochronref13vWays.f a6268 a6278).bind fun t6760 => isochronref13vWorld.l4 a6268 a6278 t6760 ([], 0)) else none))) else some (([] : List api_Instr), 0, ([] : List api_Link), 0, t6742)))
set_option maxRecDepth 100000 in
set_option maxHeartbeats 4000000 in
theorem isochronref13vWorld.ok {B : Base} {w : World} {l : List HProp} {hf : Hp} (a6268 : api_Model) (a6278 : Int) (A6269 : Option Addr) (c6270 : Nat) (A6272 : Option Addr) (c6273 : Nat) (A6275 : Option Addr) (c6276 : Nat) (hr6271 : SlR (Rep.sl E_api_Instr.rep) hf A6269 c6270 a6268.Progs) (hr6274 : SlR E_api_Link.rep hf A6272 c6273 a6268.Links) (hr6277 : SlR E_api_Start.rep hf A6275 c6276 a6268.Starts) (r : List api_Instr × Int × List api_Link × Int × Int) (h : isochronref13vWorld.f a6268 a6278 = some r) (hS : St B w (l) hf) :
    Calls Tryd.prog 17 #[.agg #[.slice A6269 a6268.Progs.length c6270, .slice A6272 a6268.Links.length c6273, .slice A6275 a6268.Starts.length c6276, .int .u64 a6268.Seed, .int .i64 a6268.End, .int .i64 a6268.Budget], .int .i64 a6278] w (Ret fun v w => ∃ (A_1 : Option Addr) (c_2 : Nat) (A_4 : Option Addr) (c_5 : Nat), v = .tuple #[.agg #[.slice A_1 r.1.length c_2, .int .i64 r.2.1, .slice A_4 r.2.2.1.length c_5, .int .u64 r.2.2.2.1], .int .i64 r.2.2.2.2] ∧ St B w (OSf E_api_Link 37 (.slice A_4 r.2.2.1.length c_5) r.2.2.1 :: l) hf ∧ SlR E_api_Instr.rep hf A_1 c_2 r.1) := by
  have h := Holds.of h
  refine enter (args := [.agg #[.slice A6269 a6268.Progs.length c6270, .slice A6272 a6268.Links.length c6273, .slice A6275 a6268.Starts.length c6276, .int .u64 a6268.Seed, .int .i64 a6268.End, .int .i64 a6268.Budget], .int .i64 a6278]) Tryd.func17 rfl Tryd.ntmps17 (Nat.le_of_ble_eq_true rfl) ?_
  refine RC.seq ?_
  refine RC.region ?_
  refine RL.e (OW.box (cs := [.slice A6269 a6268.Progs.length c6270, .slice A6272 a6268.Links.length c6273, .slice A6275 a6268.Starts.length c6276, .int .u64 a6268.Seed, .int .i64 a6268.End, .int .i64 a6268.Budget]) hS rfl rfl) rfl rfl ?_
  rintro _ w ⟨b6739, rfl, hS⟩
  have hS : St B w (Cl b6739 [.slice A6269 a6268.Progs.length c6270, .slice A6272 a6268.Links.length c6273, .slice A6275 a6268.Starts.length c6276, .int .u64 a6268.Seed, .int .i64 a6268.End, .int .i64 a6268.Budget] 27 :: l) hf := hS
  refine RL.e (OW.alloc (cs := [.slice none 0 0, .int .i64 0, .slice none 0 0, .int .u64 0]) hS Tryd.zeroValue51 rfl) rfl rfl ?_
  rintro _ w ⟨b6741, rfl, hS⟩
  have hS : St B w (Cl b6741 [.slice none 0 0, .int .i64 0, .slice none 0 0, .int .u64 0] 51 :: Cl b6739 [.slice A6269 a6268.Progs.length c6270, .slice A6272 a6268.Links.length c6273, .slice A6275 a6268.Starts.length c6276, .int .u64 a6268.Seed, .int .i64 a6268.End, .int .i64 a6268.Budget] 27 :: l) hf := hS
  refine RL.s (Vl.assign rfl) rfl ?_
  refine RL.nil ?_
  refine RQ.then_n ?_
  refine RC.seq ?_
  refine RC.region ?_
  refine RL.s (Vl.loadA (vs := [.slice A6269 a6268.Progs.length c6270, .slice A6272 a6268.Links.length c6273, .slice A6275 a6268.Starts.length c6276, .int .u64 a6268.Seed, .int .i64 a6268.End, .int .i64 a6268.Budget]) Tryd.isAgg27 Tryd.sizeOf27 rfl rfl (hS.cellsAt 1 rfl rfl)) rfl ?_
  obtain ⟨t6742, hg6743, h⟩ := h.bind
  refine RL.e (OW.callF (ls := [.tmp 10]) rfl Tryd.call10 (isochronref13vCheck.ok a6268 A6269 c6270 A6272 c6273 A6275 c6276 hr6271 hr6274 hr6277 _ hg6743 hS)) rfl rfl ?_
  rintro _ w ⟨rfl, hS⟩
  have hS : St B w (Cl b6741 [.slice none 0 0, .int .i64 0, .slice none 0 0, .int .u64 0] 51 :: Cl b6739 [.slice A6269 a6268.Progs.length c6270, .slice A6272 a6268.Links.length c6273, .slice A6275 a6268.Starts.length c6276, .int .u64 a6268.Seed, .int .i64 a6268.End, .int .i64 a6268.Budget] 27 :: l) hf := hS
  refine RL.s (Vl.assign rfl) rfl ?_
  refine RL.nil ?_
  refine RQ.then_n ?_
  refine RC.seq ?_
  refine RC.seq ?_
  refine RC.region ?_
  refine RL.s (Vl.move rfl) rfl ?_
  refine RL.s (Vl.int rfl rfl rfl) rfl ?_
  refine RL.nil ?_
  refine RQ.then_n ?_
  by_cases hc6745 : t6742 = 0
  case pos =>
    have h := h.pos hc6745
    refine RC.re 13 rfl (congrArg Value.bool (notdec_pos hc6745)) ?_
    refine RC.condF rfl ?_
    refine RC.skip ?_
    refine RQ.then_n ?_
    refine RC.seq ?_
    refine RC.seq ?_
    refine RC.region ?_
    refine RL.s (Vl.move rfl) rfl ?_
    refine RL.s (Vl.int rfl rfl rfl) rfl ?_
    refine RL.s (Vl.move rfl) rfl ?_
    by_cases hc6748 : a6278 < 0
    case pos =>
      have h := h.pos hc6748
      refine RL.re 18 rfl (congrArg Value.bool (decide_eq_true hc6748)) ?_
      refine RL.nn rfl rfl ?_
      refine RL.nn rfl rfl ?_
      refine RL.nn rfl rfl ?_
      refine RL.nn rfl rfl ?_
      refine RL.nn rfl rfl ?_
      refine RL.s (Vl.pickT rfl rfl) rfl ?_
      refine RL.nil ?_
      refine RQ.then_n ?_
      refine RC.condT rfl ?_
      refine RC.seq ?_
      refine RC.region ?_
      refine RL.s (Vl.build (v := .agg #[.slice none 0 0, .int .i64 0, .slice none 0 0, .int .u64 0]) (parts := []) rfl (by kernel_rfl)) rfl ?_
      refine RL.e0 (OW.store (cs := [.slice none 0 0, .int .i64 0, .slice none 0 0, .int .u64 0]) (vs := [.slice none 0 0, .int .i64 0, .slice none 0 0, .int .u64 0]) (l' := Cl b6741 [.slice none 0 0, .int .i64 0, .slice none 0 0, .int .u64 0] 51 :: Cl b6739 [.slice A6269 a6268.Progs.length c6270, .slice A6272 a6268.Links.length c6273, .slice A6275 a6268.Starts.length c6276, .int .u64 a6268.Seed, .int .i64 a6268.End, .int .i64 a6268.Budget] 27 :: l) 0 hS rfl rfl rfl rfl Tryd.sizeOf51 rfl rfl rfl rfl) rfl ?_
      rintro _ w ⟨rfl, hS⟩
      have hS : St B w (Cl b6741 [.slice none 0 0, .int .i64 0, .slice none 0 0, .int .u64 0] 51 :: Cl b6739 [.slice A6269 a6268.Progs.length c6270, .slice A6272 a6268.Links.length c6273, .slice A6275 a6268.Starts.length c6276, .int .u64 a6268.Seed, .int .i64 a6268.End, .int .i64 a6268.Budget] 27 :: l) hf := hS
      refine RL.s (Vl.assign rfl) rfl ?_
      refine RL.nil ?_
      refine RQ.then_n ?_
      refine RC.ret ?_
      refine RQ.ret ?_
      have hS := hS.nilSl E_api_Link 37
      have e := h.some
      subst e
      refine RQ.ret0 (vs := [.agg #[.slice none 0 0, .int .i64 0, .slice none 0 0, .int .u64 0], .int .i64 1]) Tryd.results17 ⟨⟨_, rfl, run_loadVarA (vs := [.slice none 0 0, .int .i64 0, .slice none 0 0, .int .u64 0]) Tryd.isAgg51 Tryd.sizeOf51 rfl (hS.cellsAt 1 rfl rfl)⟩, rfl, trivial⟩ ?_
      exact ⟨none, 0, none, 0, rfl, ((hS.dropAt 1 rfl).dropAt 1 rfl), SlR.nil⟩
    case neg =>
      have h := h.neg hc6748
      refine RL.re 18 rfl (congrArg Value.bool (decide_eq_false hc6748)) ?_
      refine RL.sg (Vl.move rfl) rfl rfl ?_
      refine RL.sg (Vl.fieldAddr (a'' := ⟨b6739, 0, none⟩) Tryd.underlying27 rfl Tryd.sizeOf22 rfl rfl) rfl rfl ?_
      refine RL.sg (Vl.load Tryd.isAgg22 rfl (hS.cell 1 rfl rfl)) rfl rfl ?_
      refine RL.sg (Vl.lenSl Tryd.underlying22 rfl) rfl rfl ?_
      refine RL.sg (Vl.int rfl rfl rfl) rfl rfl ?_
      refine RL.s (Vl.pickF rfl rfl) rfl ?_
      refine RL.nil ?_
      refine RQ.then_n ?_
      by_cases hc6750 : (a6268.Progs.length : Int) ≤ a6278
      case pos =>
        have h := h.pos hc6750
        refine RC.re 24 rfl (congrArg Value.bool (decide_eq_true hc6750)) ?_
        refine RC.condT rfl ?_
        refine RC.seq ?_
        refine RC.region ?_
        refine RL.s (Vl.build (v := .agg #[.slice none 0 0, .int .i64 0, .slice none 0 0, .int .u64 0]) (parts := []) rfl (by kernel_rfl)) rfl ?_
        refine RL.e0 (OW.store (cs := [.slice none 0 0, .int .i64 0, .slice none 0 0, .int .u64 0]) (vs := [.slice none 0 0, .int .i64 0, .slice none 0 0, .int .u64 0]) (l' := Cl b6741 [.slice none 0 0, .int .i64 0, .slice none 0 0, .int .u64 0] 51 :: Cl b6739 [.slice A6269 a6268.Progs.length c6270, .slice A6272 a6268.Links.length c6273, .slice A6275 a6268.Starts.length c6276, .int .u64 a6268.Seed, .int .i64 a6268.End, .int .i64 a6268.Budget] 27 :: l) 0 hS rfl rfl rfl rfl Tryd.sizeOf51 rfl rfl rfl rfl) rfl ?_
        rintro _ w ⟨rfl, hS⟩
        have hS : St B w (Cl b6741 [.slice none 0 0, .int .i64 0, .slice none 0 0, .int .u64 0] 51 :: Cl b6739 [.slice A6269 a6268.Progs.length c6270, .slice A6272 a6268.Links.length c6273, .slice A6275 a6268.Starts.length c6276, .int .u64 a6268.Seed, .int .i64 a6268.End, .int .i64 a6268.Budget] 27 :: l) hf := hS
        refine RL.s (Vl.assign rfl) rfl ?_
        refine RL.nil ?_
        refine RQ.then_n ?_
        refine RC.ret ?_
        refine RQ.ret ?_
        have hS := hS.nilSl E_api_Link 37
        have e := h.some
        subst e
        refine RQ.ret0 (vs := [.agg #[.slice none 0 0, .int .i64 0, .slice none 0 0, .int .u64 0], .int .i64 1]) Tryd.results17 ⟨⟨_, rfl, run_loadVarA (vs := [.slice none 0 0, .int .i64 0, .slice none 0 0, .int .u64 0]) Tryd.isAgg51 Tryd.sizeOf51 rfl (hS.cellsAt 1 rfl rfl)⟩, rfl, trivial⟩ ?_
        exact ⟨none, 0, none, 0, rfl, ((hS.dropAt 1 rfl).dropAt 1 rfl), SlR.nil⟩
      case neg =>
        have h := h.neg hc6750
        refine RC.re 24 rfl (congrArg Value.bool (decide_eq_false hc6750)) ?_
        refine RC.condF rfl ?_
        refine RC.skip ?_
        refine RQ.then_n ?_
        refine RC.seq ?_
        refine RC.plan (.cons 0 true (.cons 1 true (.cons 2 true (.cons 3 true (.cons 4 true (.cons 5 true (.cons 6 true (.cons 7 true (.cons 8 true (.cons 9 false (.cons 10 false .nil))))))))))) [10] (fun w => St B w (Cl b6741 [.slice none 0 0, .int .i64 0, .slice none 0 0, .int .u64 0] 51 :: Cl b6739 [.slice A6269 a6268.Progs.length c6270, .slice A6272 a6268.Links.length c6273, .slice A6275 a6268.Starts.length c6276, .int .u64 a6268.Seed, .int .i64 a6268.End, .int .i64 a6268.Budget] 27 :: l) hf) follows rfl (by kernel_rfl) (NoTmp.then NoTmp.body) ?_
        have hS := hS.same (w' := { w with drawn := w.drawn + 1 }) rfl rfl
        revert hS
        generalize { w with drawn := w.drawn + 1 } = w
        intro hS
        refine RP.s 0 rfl rfl hS (fun w hS => Vl.fieldAddr (a'' := ⟨b6739, 0, none⟩) Tryd.underlying27 rfl Tryd.sizeOf22 rfl rfl) rfl ?_
        refine RP.s 1 rfl rfl hS (fun w hS => Vl.load Tryd.isAgg22 rfl (hS.cell 1 rfl rfl)) rfl ?_
        refine RP.s 2 rfl rfl hS (fun w hS => Vl.move rfl) rfl ?_
        obtain ⟨⟨hq6752, hq6753⟩, h⟩ := h.req
        refine RP.s 3 rfl rfl hS (fun w hS => Vl.indexAddr Tryd.underlying22 Tryd.sizeOf35 rfl rfl (hr6271.2.adr hq6752 hq6753) hq6752 hq6753 rfl) rfl ?_
        obtain ⟨_, _, ⟨A6754, c6755, rfl, hr6756⟩, hl6757⟩ := hr6271.2.elem hq6752 hq6753
        refine RP.s 4 rfl rfl hS (fun w hS => Vl.load Tryd.isAgg35 rfl (cellH_world hS.sub (hl6757 0 _ rfl))) rfl ?_
        refine RP.s 5 rfl rfl hS (fun w hS => Vl.move rfl) rfl ?_
        refine RP.s 6 rfl rfl hS (fun w hS => Vl.fieldAddr (a'' := ⟨b6739, 3, none⟩) Tryd.underlying27 rfl Tryd.sizeOf25 rfl rfl) rfl ?_
        refine RP.s 7 rfl rfl hS (fun w hS => Vl.load Tryd.isAgg25 rfl (hS.cell 1 rfl rfl)) rfl ?_
        refine RP.s 8 rfl rfl hS (fun w hS => Vl.build (v := .agg #[.slice A6754 (nth a6268.Progs a6278).length c6755, .int .i64 a6278, .slice none 0 0, .int .u64 a6268.Seed]) (parts := [(0, .tmp 30), (1, .tmp 31), (3, .tmp 33)]) rfl (by kernel_rfl)) rfl ?_
        refine RP.e 9 rfl (OW.alloc (cs := [.slice none 0 0, .int .i64 0, .slice none 0 0, .int .u64 0]) hS Tryd.zeroValue51 rfl) rfl rfl ?_
        rintro _ w ⟨b6759, rfl, hS⟩
        have hS : St B w (Cl b6759 [.slice none 0 0, .int .i64 0, .slice none 0 0, .int .u64 0] 51 :: Cl b6741 [.slice none 0 0, .int .i64 0, .slice none 0 0, .int .u64 0] 51 :: Cl b6739 [.slice A6269 a6268.Progs.length c6270, .slice A6272 a6268.Links.length c6273, .slice A6275 a6268.Starts.length c6276, .int .u64 a6268.Seed, .int .i64 a6268.End, .int .i64 a6268.Budget] 27 :: l) hf := hS
        refine ⟨fun _ => (hS.dropAt 0 rfl), ?_⟩
        refine RP.e0 10 rfl (OW.store (cs := [.slice none 0 0, .int .i64 0, .slice none 0 0, .int .u64 0]) (vs := [.slice A6754 (nth a6268.Progs a6278).length c6755, .int .i64 a6278, .slice none 0 0, .int .u64 a6268.Seed]) (l' := Cl b6759 [.slice A6754 (nth a6268.Progs a6278).length c6755, .int .i64 a6278, .slice none 0 0, .int .u64 a6268.Seed] 51 :: Cl b6741 [.slice none 0 0, .int .i64 0, .slice none 0 0, .int .u64 0] 51 :: Cl b6739 [.slice A6269 a6268.Progs.length c6270, .slice A6272 a6268.Links.length c6273, .slice A6275 a6268.Starts.length c6276, .int .u64 a6268.Seed, .int .i64 a6268.End, .int .i64 a6268.Budget] 27 :: l) 0 hS rfl rfl rfl rfl Tryd.sizeOf51 rfl rfl rfl rfl) rfl ?_
        rintro _ w ⟨rfl, hS⟩
        have hS : St B w (Cl b6759 [.slice A6754 (nth a6268.Progs a6278).length c6755, .int .i64 a6278, .slice none 0 0, .int .u64 a6268.Seed] 51 :: Cl b6741 [.slice none 0 0, .int .i64 0, .slice none 0 0, .int .u64 0] 51 :: Cl b6739 [.slice A6269 a6268.Progs.length c6270, .slice A6272 a6268.Links.length c6273, .slice A6275 a6268.Starts.length c6276, .int .u64 a6268.Seed, .int .i64 a6268.End, .int .i64 a6268.Budget] 27 :: l) hf := hS
        refine ⟨(by intro hx; cases hx), ?_⟩
        refine RP.nil ?_
        refine RQ.then_n ?_
        refine RC.seq ?_
        refine RC.region ?_
        refine RL.s (Vl.loadA (vs := [.slice A6269 a6268.Progs.length c6270, .slice A6272 a6268.Links.length c6273, .slice A6275 a6268.Starts.length c6276, .int .u64 a6268.Seed, .int .i64 a6268.End, .int .i64 a6268.Budget]) Tryd.isAgg27 Tryd.sizeOf27 rfl rfl (hS.cellsAt 2 rfl rfl)) rfl ?_
        refine RL.s (Vl.move rfl) rfl ?_
        obtain ⟨t6760, hg6761, h⟩ := h.bind
        refine RL.e (OW.callF (ls := [.tmp 35, .tmp 36]) rfl Tryd.call30 (isochronref13vWays.ok a6268 a6278 A6269 c6270 A6272 c6273 A6275 c6276 hr6271 hr6274 hr6277 _ hg6761 hS)) rfl rfl ?_
        rintro _ w ⟨A6762, c6763, rfl, hS⟩
        have hS : St B w (OSf (FI .i64) 3 (.slice A6762 t6760.length c6763) t6760 :: Cl b6759 [.slice A6754 (nth a6268.Progs a6278).length c6755, .int .i64 a6278, .slice none 0 0, .int .u64 a6268.Seed] 51 :: Cl b6741 [.slice none 0 0, .int .i64 0, .slice none 0 0, .int .u64 0] 51 :: Cl b6739 [.slice A6269 a6268.Progs.length c6270, .slice A6272 a6268.Links.length c6273, .slice A6275 a6268.Starts.length c6276, .int .u64 a6268.Seed, .int .i64 a6268.End, .int .i64 a6268.Budget] 27 :: l) hf := hS
        refine RL.s (Vl.assign rfl) rfl ?_
        refine RL.nil ?_
        refine RQ.then_n ?_
        refine RC.seq ?_
        refine RC.seq ?_
        refine RC.region ?_
        refine RL.s (Vl.assign rfl) rfl ?_
        refine RL.nil ?_
        refine RQ.then_n ?_
        refine RC.block ?_
        have hS := hS.nilSl E_api_Link 37
        refine fun a ha => RC.loop (N := 58) (body := (isochronref13vWorld.l4b a6268 a6278 t6760)) (φ := (· = r)) (fun (s : List api_Link × Int) a w => ∃ (l6911 : List api_Link) (x6915 : Int), s = (l6911, x6915) ∧ ∃ (A6912 : Option Addr) (c6913 : Nat), Has 58 [(2, .pointer (some ⟨b6739, 0, none⟩)), (4, .pointer (some ⟨b6741, 0, none⟩)), (7, .pointer (some ⟨b6759, 0, none⟩)), (8, .slice A6762 t6760.length c6763), (9, .int .i64 x6915)] a ∧ St B w (OSf E_api_Link 37 (.slice A6912 l6911.length c6913) l6911 :: OSf (FI .i64) 3 (.slice A6762 t6760.length c6763) t6760 :: Cl b6759 [.slice A6754 (nth a6268.Progs a6278).length c6755, .int .i64 a6278, .slice A6912 l6911.length c6913, .int .u64 a6268.Seed] 51 :: Cl b6741 [.slice none 0 0, .int .i64 0, .slice none 0 0, .int .u64 0] 51 :: Cl b6739 [.slice A6269 a6268.Progs.length c6270, .slice A6272 a6268.Links.length c6273, .slice A6275 a6268.Starts.length c6276, .int .u64 a6268.Seed, .int .i64 a6268.End, .int .i64 a6268.Budget] 27 :: l) hf) ?_ (s0 := ([], 0)) h ⟨([]), 0, rfl, none, 0, ha.to ⟨rfl, rfl, rfl, rfl, rfl, trivial⟩, hS⟩
        rintro G6961 _ a w ⟨l6911, x6915, rfl, A6912, c6913, ha, hS⟩ h
        revert a
        show RC _ _ _ _ _ _
        refine RC.seq ?_
        refine RC.seq ?_
        refine RC.region ?_
        refine RL.s (Vl.move rfl) rfl ?_
        refine RL.s (Vl.move rfl) rfl ?_
        refine RL.s (Vl.lenSl Tryd.underlying47 rfl) rfl ?_
        refine RL.s (Vl.int rfl rfl rfl) rfl ?_
        refine RL.nil ?_
        refine RQ.then_n ?_
        by_cases hc6963 : x6915 < (t6760.length : Int)
        case pos =>
          have h := h.pos hc6963
          refine RC.re 41 rfl (congrArg Value.bool (decide_eq_true hc6963)) ?_
          refine RC.condT rfl ?_
          refine RC.skip ?_
          refine RQ.then_n ?_
          refine RC.seq ?_
          refine RC.block ?_
          refine RC.plan (.cons 0 true (.cons 1 true (.cons 2 true (.cons 3 true (.cons 4 true (.cons 5 false (.cons 6 false (.cons 7 false (.cons 8 false (.cons 9 false (.cons 10 false (.cons 11 false (.cons 12 false (.cons 13 false .nil)))))))))))))) [12, 13] (fun w => St B w (OSf (FI .i64) 3 (.slice A6762 t6760.length c6763) t6760 :: Cl b6759 [.slice A6754 (nth a6268.Progs a6278).length c6755, .int .i64 a6278, .slice A6912 l6911.length c6913, .int .u64 a6268.Seed] 51 :: Cl b6741 [.slice none 0 0, .int .i64 0, .slice none 0 0, .int .u64 0] 51 :: Cl b6739 [.slice A6269 a6268.Progs.length c6270, .slice A6272 a6268.Links.length c6273, .slice A6275 a6268.Starts.length c6276, .int .u64 a6268.Seed, .int .i64 a6268.End, .int .i64 a6268.Budget] 27 :: l) hf) follows rfl (by kernel_rfl) (NoTmp.block (NoTmp.then (NoTmp.then (NoTmp.block (NoTmp.then NoTmp.body))))) ?_
          have hS := hS.same (w' := { w with drawn := w.drawn + 1 }) rfl rfl
          revert hS
          generalize { w with drawn := w.drawn + 1 } = w
          intro hS
          refine RP.s 0 rfl rfl (hS.dropAt 0 rfl) (fun w hS => Vl.fieldAddr (a'' := ⟨b6759, 2, none⟩) Tryd.underlying51 rfl Tryd.sizeOf23 rfl rfl) rfl ?_
          refine RP.s 1 rfl rfl (hS.dropAt 0 rfl) (fun w hS => Vl.load Tryd.isAgg23 rfl (hS.cell 1 rfl rfl)) rfl ?_
          refine RP.s 2 rfl rfl (hS.dropAt 0 rfl) (fun w hS => Vl.fieldAddr (a'' := ⟨b6739, 1, none⟩) Tryd.underlying27 rfl Tryd.sizeOf23 rfl rfl) rfl ?_
          refine RP.s 3 rfl rfl (hS.dropAt 0 rfl) (fun w hS => Vl.load Tryd.isAgg23 rfl (hS.cell 3 rfl rfl)) rfl ?_
          refine RP.s 4 rfl rfl (hS.dropAt 0 rfl) (fun w hS => Vl.move rfl) rfl ?_
          refine RP.v1 5 rfl (fun _ => (hS.dropAt 0 rfl)) (Vl.move rfl) rfl rfl ?_
          obtain ⟨hq6992, h⟩ := h.req
          refine RP.v1 6 rfl (fun _ => (hS.dropAt 0 rfl)) (Vl.indexAddr Tryd.underlying47 Tryd.sizeOf3 rfl rfl ((hS.slW 1 rfl).2.2.adr hq6992 hc6963) hq6992 hc6963 rfl) rfl rfl ?_
          refine RP.v1 7 rfl (fun _ => (hS.dropAt 0 rfl)) (Vl.load Tryd.isAgg3 rfl ((hS.slW 1 rfl).2.2.cell (j := 0) hq6992 hc6963 rfl)) rfl rfl ?_
          obtain ⟨⟨hq6993, hq6994⟩, h⟩ := h.req
          refine RP.v1 8 rfl (fun _ => (hS.dropAt 0 rfl)) (Vl.indexAddr Tryd.underlying23 Tryd.sizeOf37 rfl rfl ((hr6274.2.world hS.sub).adr hq6993 hq6994) hq6993 hq6994 rfl) rfl rfl ?_
          refine RP.v1 9 rfl (fun _ => (hS.dropAt 0 rfl)) (Vl.loadA Tryd.isAgg37 Tryd.sizeOf37 rfl rfl ((hr6274.2.world hS.sub).cells hq6993 hq6994)) rfl rfl ?_
          refine RP.e 10 rfl (OW.buildSlice (E := E_api_Link) (xs := [(⟨(nth a6268.Links (nth t6760 x6915)).From, (nth a6268.Links (nth t6760 x6915)).To, (nth a6268.Links (nth t6760 x6915)).Look, ((nth a6268.Links (nth t6760 x6915)).Loose)⟩ : api_Link)]) (cs := [.int .i64 ((nth a6268.Links (nth t6760 x6915)).From), .int .i64 ((nth a6268.Links (nth t6760 x6915)).To), .int .i64 ((nth a6268.Links (nth t6760 x6915)).Look), .bool ((nth a6268.Links (nth t6760 x6915)).Loose)]) hS Tryd.underlying23 Tryd.zeroValue37 Tryd.sizeOf37 (parts := [(0, .tmp 53)]) rfl rfl (by decide) (by decide) (by kernel_rfl) rfl) rfl rfl ?_
          rintro _ w ⟨b6996, rfl, hS⟩
          have hS : St B w (OSf E_api_Link 37 (.slice (some ⟨b6996, 0, none⟩) ([(⟨(nth a6268.Links (nth t6760 x6915)).From, (nth a6268.Links (nth t6760 x6915)).To, (nth a6268.Links (nth t6760 x6915)).Look, ((nth a6268.Links (nth t6760 x6915)).Loose)⟩ : api_Link)]).length 1) ([(⟨(nth a6268.Links (nth t6760 x6915)).From, (nth a6268.Links (nth t6760 x6915)).To, (nth a6268.Links (nth t6760 x6915)).Look, ((nth a6268.Links (nth t6760 x6915)).Loose)⟩ : api_Link)]) :: OSf E_api_Link 37 (.slice A6912 l6911.length c6913) l6911 :: OSf (FI .i64) 3 (.slice A6762 t6760.length c6763) t6760 :: Cl b6759 [.slice A6754 (nth a6268.Progs a6278).length c6755, .int .i64 a6278, .slice A6912 l6911.length c6913, .int .u64 a6268.Seed] 51 :: Cl b6741 [.slice none 0 0, .int .i64 0, .slice none 0 0, .int .u64 0] 51 :: Cl b6739 [.slice A6269 a6268.Progs.length c6270, .slice A6272 a6268.Links.length c6273, .slice A6275 a6268.Starts.length c6276, .int .u64 a6268.Seed, .int .i64 a6268.End, .int .i64 a6268.Budget] 27 :: l) hf := hS
          refine ⟨fun _ => ((hS.dropAt 0 rfl).dropAt 0 rfl), ?_⟩
          obtain ⟨hq6997, h⟩ := h.req
          refine RP.e 11 rfl (OW.append (E := E_api_Link) (xs := l6911) (ys := [(⟨(nth a6268.Links (nth t6760 x6915)).From, (nth a6268.Links (nth t6760 x6915)).To, (nth a6268.Links (nth t6760 x6915)).Look, ((nth a6268.Links (nth t6760 x6915)).Loose)⟩ : api_Link)]) 1 hS rfl Tryd.underlying23 Tryd.type37 rfl rfl rfl rfl (by decide) rfl rfl rfl (hS.slW 0 rfl).2.2.flat (by simp only [maxLen, List.length_cons, List.length_nil] at *; omega) hq6997 rfl) rfl rfl ?_
          rintro v7001 w hS
          obtain ⟨A6998, c6999, rfl, _⟩ := hS.osShape 0 rfl
          have hS : St B w (OSf E_api_Link 37 (.slice A6998 (l6911 ++ ([(⟨(nth a6268.Links (nth t6760 x6915)).From, (nth a6268.Links (nth t6760 x6915)).To, (nth a6268.Links (nth t6760 x6915)).Look, ((nth a6268.Links (nth t6760 x6915)).Loose)⟩ : api_Link)])).length c6999) (l6911 ++ ([(⟨(nth a6268.Links (nth t6760 x6915)).From, (nth a6268.Links (nth t6760 x6915)).To, (nth a6268.Links (nth t6760 x6915)).Look, ((nth a6268.Links (nth t6760 x6915)).Loose)⟩ : api_Link)])) :: OSf E_api_Link 37 (.slice (some ⟨b6996, 0, none⟩) ([(⟨(nth a6268.Links (nth t6760 x6915)).From, (nth a6268.Links (nth t6760 x6915)).To, (nth a6268.Links (nth t6760 x6915)).Look, ((nth a6268.Links (nth t6760 x6915)).Loose)⟩ : api_Link)]).length 1) ([(⟨(nth a6268.Links (nth t6760 x6915)).From, (nth a6268.Links (nth t6760 x6915)).To, (nth a6268.Links (nth t6760 x6915)).Look, ((nth a6268.Links (nth t6760 x6915)).Loose)⟩ : api_Link)]) :: OSf (FI .i64) 3 (.slice A6762 t6760.length c6763) t6760 :: Cl b6759 [.slice A6754 (nth a6268.Progs a6278).length c6755, .int .i64 a6278, .slice A6912 l6911.length c6913, .int .u64 a6268.Seed] 51 :: Cl b6741 [.slice none 0 0, .int .i64 0, .slice none 0 0, .int .u64 0] 51 :: Cl b6739 [.slice A6269 a6268.Progs.length c6270, .slice A6272 a6268.Links.length c6273, .slice A6275 a6268.Starts.length c6276, .int .u64 a6268.Seed, .int .i64 a6268.End, .int .i64 a6268.Budget] 27 :: l) hf := hS
          refine ⟨fun _ => ((hS.dropAt 0 rfl).dropAt 0 rfl), ?_⟩
          refine RP.v1 12 rfl (by intro hx; cases hx) (Vl.fieldAddr (a'' := ⟨b6759, 2, none⟩) Tryd.underlying51 rfl Tryd.sizeOf23 rfl rfl) rfl rfl ?_
          refine RP.e0 13 rfl (OW.store (cs := [.slice A6754 (nth a6268.Progs a6278).length c6755, .int .i64 a6278, .slice A6912 l6911.length c6913, .int .u64 a6268.Seed]) (vs := [.slice A6998 (l6911 ++ ([(⟨(nth a6268.Links (nth t6760 x6915)).From, (nth a6268.Links (nth t6760 x6915)).To, (nth a6268.Links (nth t6760 x6915)).Look, ((nth a6268.Links (nth t6760 x6915)).Loose)⟩ : api_Link)])).length c6999]) (l' := OSf E_api_Link 37 (.slice A6998 (l6911 ++ ([(⟨(nth a6268.Links (nth t6760 x6915)).From, (nth a6268.Links (nth t6760 x6915)).To, (nth a6268.Links (nth t6760 x6915)).Look, ((nth a6268.Links (nth t6760 x6915)).Loose)⟩ : api_Link)])).length c6999) (l6911 ++ ([(⟨(nth a6268.Links (nth t6760 x6915)).From, (nth a6268.Links (nth t6760 x6915)).To, (nth a6268.Links (nth t6760 x6915)).Look, ((nth a6268.Links (nth t6760 x6915)).Loose)⟩ : api_Link)])) :: OSf E_api_Link 37 (.slice (some ⟨b6996, 0, none⟩) ([(⟨(nth a6268.Links (nth t6760 x6915)).From, (nth a6268.Links (nth t6760 x6915)).To, (nth a6268.Links (nth t6760 x6915)).Look, ((nth a6268.Links (nth t6760 x6915)).Loose)⟩ : api_Link)]).length 1) ([(⟨(nth a6268.Links (nth t6760 x6915)).From, (nth a6268.Links (nth t6760 x6915)).To, (nth a6268.Links (nth t6760 x6915)).Look, ((nth a6268.Links (nth t6760 x6915)).Loose)⟩ : api_Link)]) :: OSf (FI .i64) 3 (.slice A6762 t6760.length c6763) t6760 :: Cl b6759 [.slice A6754 (nth a6268.Progs a6278).length c6755, .int .i64 a6278, .slice A6998 (l6911 ++ ([(⟨(nth a6268.Links (nth t6760 x6915)).From, (nth a6268.Links (nth t6760 x6915)).To, (nth a6268.Links (nth t6760 x6915)).Look, ((nth a6268.Links (nth t6760 x6915)).Loose)⟩ : api_Link)])).length c6999, .int .u64 a6268.Seed] 51 :: Cl b6741 [.slice none 0 0, .int .i64 0, .slice none 0 0, .int .u64 0] 51 :: Cl b6739 [.slice A6269 a6268.Progs.length c6270, .slice A6272 a6268.Links.length c6273, .slice A6275 a6268.Starts.length c6276, .int .u64 a6268.Seed, .int .i64 a6268.End, .int .i64 a6268.Budget] 27 :: l) 3 hS rfl rfl rfl rfl Tryd.sizeOf23 rfl rfl rfl rfl) rfl ?_
          rintro _ w ⟨rfl, hS⟩
          have hS : St B w (OSf E_api_Link 37 (.slice A6998 (l6911 ++ ([(⟨(nth a6268.Links (nth t6760 x6915)).From, (nth a6268.Links (nth t6760 x6915)).To, (nth a6268.Links (nth t6760 x6915)).Look, ((nth a6268.Links (nth t6760 x6915)).Loose)⟩ : api_Link)])).length c6999) (l6911 ++ ([(⟨(nth a6268.Links (nth t6760 x6915)).From, (nth a6268.Links (nth t6760 x6915)).To, (nth a6268.Links (nth t6760 x6915)).Look, ((nth a6268.Links (nth t6760 x6915)).Loose)⟩ : api_Link)])) :: OSf E_api_Link 37 (.slice (some ⟨b6996, 0, none⟩) ([(⟨(nth a6268.Links (nth t6760 x6915)).From, (nth a6268.Links (nth t6760 x6915)).To, (nth a6268.Links (nth t6760 x6915)).Look, ((nth a6268.Links (nth t6760 x6915)).Loose)⟩ : api_Link)]).length 1) ([(⟨(nth a6268.Links (nth t6760 x6915)).From, (nth a6268.Links (nth t6760 x6915)).To, (nth a6268.Links (nth t6760 x6915)).Look, ((nth a6268.Links (nth t6760 x6915)).Loose)⟩ : api_Link)]) :: OSf (FI .i64) 3 (.slice A6762 t6760.length c6763) t6760 :: Cl b6759 [.slice A6754 (nth a6268.Progs a6278).length c6755, .int .i64 a6278, .slice A6998 (l6911 ++ ([(⟨(nth a6268.Links (nth t6760 x6915)).From, (nth a6268.Links (nth t6760 x6915)).To, (nth a6268.Links (nth t6760 x6915)).Look, ((nth a6268.Links (nth t6760 x6915)).Loose)⟩ : api_Link)])).length c6999, .int .u64 a6268.Seed] 51 :: Cl b6741 [.slice none 0 0, .int .i64 0, .slice none 0 0, .int .u64 0] 51 :: Cl b6739 [.slice A6269 a6268.Progs.length c6270, .slice A6272 a6268.Links.length c6273, .slice A6275 a6268.Starts.length c6276, .int .u64 a6268.Seed, .int .i64 a6268.End, .int .i64 a6268.Budget] 27 :: l) hf := hS
          refine ⟨(by intro hx; cases hx), ?_⟩
          refine RP.nil ?_
          refine RQ.inB_n ?_
          refine RQ.then_n ?_
          refine RC.region ?_
          refine RL.s (Vl.move rfl) rfl ?_
          refine RL.s (Vl.int rfl rfl rfl) rfl ?_
          refine RL.s (Vl.assign rfl) rfl ?_
          refine RL.nil ?_
          exact fun a ha => ⟨((l6911 ++ ([(⟨(nth a6268.Links (nth t6760 x6915)).From, (nth a6268.Links (nth t6760 x6915)).To, (nth a6268.Links (nth t6760 x6915)).Look, ((nth a6268.Links (nth t6760 x6915)).Loose)⟩ : api_Link)])), IntKind.i64.wrap (x6915 + 1)), ⟨(l6911 ++ ([(⟨(nth a6268.Links (nth t6760 x6915)).From, (nth a6268.Links (nth t6760 x6915)).To, (nth a6268.Links (nth t6760 x6915)).Look, ((nth a6268.Links (nth t6760 x6915)).Loose)⟩ : api_Link)])), (IntKind.i64.wrap (x6915 + 1)), rfl, A6998, c6999, ha.to ⟨rfl, rfl, rfl, rfl, rfl, trivial⟩, (hS.dropAt 1 rfl)⟩, h.some⟩
        case neg =>
          have h := h.neg hc6963
          refine RC.re 41 rfl (congrArg Value.bool (decide_eq_false hc6963)) ?_
          refine RC.condF rfl ?_
          refine RC.exit ?_
          refine RQ.exitT ?_
          have h := h.inrS
          refine RQ.exitT ?_
          refine RQ.inB_hit ?_
          refine RQ.then_n ?_
          refine RC.seq ?_
          refine RC.region ?_
          refine RL.s (Vl.loadA (vs := [.slice A6754 (nth a6268.Progs a6278).length c6755, .int .i64 a6278, .slice A6912 l6911.length c6913, .int .u64 a6268.Seed]) Tryd.isAgg51 Tryd.sizeOf51 rfl rfl (hS.cellsAt 2 rfl rfl)) rfl ?_
          refine RL.e0 (OW.store (cs := [.slice none 0 0, .int .i64 0, .slice none 0 0, .int .u64 0]) (vs := [.slice A6754 (nth a6268.Progs a6278).length c6755, .int .i64 a6278, .slice A6912 l6911.length c6913, .int .u64 a6268.Seed]) (l' := OSf E_api_Link 37 (.slice A6912 l6911.length c6913) l6911 :: OSf (FI .i64) 3 (.slice A6762 t6760.length c6763) t6760 :: Cl b6759 [.slice A6754 (nth a6268.Progs a6278).length c6755, .int .i64 a6278, .slice A6912 l6911.length c6913, .int .u64 a6268.Seed] 51 :: Cl b6741 [.slice A6754 (nth a6268.Progs a6278).length c6755, .int .i64 a6278, .slice A6912 l6911.length c6913, .int .u64 a6268.Seed] 51 :: Cl b6739 [.slice A6269 a6268.Progs.length c6270, .slice A6272 a6268.Links.length c6273, .slice A6275 a6268.Starts.length c6276, .int .u64 a6268.Seed, .int .i64 a6268.End, .int .i64 a6268.Budget] 27 :: l) 3 hS rfl rfl rfl rfl Tryd.sizeOf51 rfl rfl rfl rfl) rfl ?_
          rintro _ w ⟨rfl, hS⟩
          have hS : St B w (OSf E_api_Link 37 (.slice A6912 l6911.length c6913) l6911 :: OSf (FI .i64) 3 (.slice A6762 t6760.length c6763) t6760 :: Cl b6759 [.slice A6754 (nth a6268.Progs a6278).length c6755, .int .i64 a6278, .slice A6912 l6911.length c6913, .int .u64 a6268.Seed] 51 :: Cl b6741 [.slice A6754 (nth a6268.Progs a6278).length c6755, .int .i64 a6278, .slice A6912 l6911.length c6913, .int .u64 a6268.Seed] 51 :: Cl b6739 [.slice A6269 a6268.Progs.length c6270, .slice A6272 a6268.Links.length c6273, .slice A6275 a6268.Starts.length c6276, .int .u64 a6268.Seed, .int .i64 a6268.End, .int .i64 a6268.Budget] 27 :: l) hf := hS
          refine RL.s (Vl.assign rfl) rfl ?_
          refine RL.nil ?_
          refine RQ.then_n ?_
          refine RC.ret ?_
          have e := h.some
          subst e
          refine RQ.ret0 (vs := [.agg #[.slice A6754 (nth a6268.Progs a6278).length c6755, .int .i64 a6278, .slice A6912 l6911.length c6913, .int .u64 a6268.Seed], .int .i64 0]) Tryd.results17 ⟨⟨_, rfl, run_loadVarA (vs := [.slice A6754 (nth a6268.Progs a6278).length c6755, .int .i64 a6278, .slice A6912 l6911.length c6913, .int .u64 a6268.Seed]) Tryd.isAgg51 Tryd.sizeOf51 rfl (hS.cellsAt 3 rfl rfl)⟩, rfl, trivial⟩ ?_
          exact ⟨A6754, c6755, A6912, c6913, rfl, ((((hS.dropAt 1 rfl).dropAt 1 rfl).dropAt 1 rfl).dropAt 1 rfl), hr6756⟩
  case neg =>
    have h := h.neg hc6745
    refine RC.re 13 rfl (congrArg Value.bool (notdec_neg hc6745)) ?_
    refine RC.condT rfl ?_
    refine RC.seq ?_
    refine RC.region ?_
    refine RL.s (Vl.build (v := .agg #[.slice none 0 0, .int .i64 0, .slice none 0 0, .int .u64 0]) (parts := []) rfl (by kernel_rfl)) rfl ?_
    refine RL.s (Vl.move rfl) rfl ?_
    refine RL.e0 (OW.store (cs := [.slice none 0 0, .int .i64 0, .slice none 0 0, .int .u64 0]) (vs := [.slice none 0 0, .int .i64 0, .slice none 0 0, .int .u64 0]) (l' := Cl b6741 [.slice none 0 0, .int .i64 0, .slice none 0 0, .int .u64 0] 51 :: Cl b6739 [.slice A6269 a6268.Progs.length c6270, .slice A6272 a6268.Links.length c6273, .slice A6275 a6268.Starts.length c6276, .int .u64 a6268.Seed, .int .i64 a6268.End, .int .i64 a6268.Budget] 27 :: l) 0 hS rfl rfl rfl rfl Tryd.sizeOf51 rfl rfl rfl rfl) rfl ?_
    rintro _ w ⟨rfl, hS⟩
    have hS : St B w (Cl b6741 [.slice none 0 0, .int .i64 0, .slice none 0 0, .int .u64 0] 51 :: Cl b6739 [.slice A6269 a6268.Progs.length c6270, .slice A6272 a6268.Links.length c6273, .slice A6275 a6268.Starts.length c6276, .int .u64 a6268.Seed, .int .i64 a6268.End, .int .i64 a6268.Budget] 27 :: l) hf := hS
    refine RL.s (Vl.assign rfl) rfl ?_
    refine RL.nil ?_
    refine RQ.then_n ?_
    refine RC.ret ?_
    refine RQ.ret ?_
    have hS := hS.nilSl E_api_Link 37
    have e := h.some
    subst e
    refine RQ.ret0 (vs := [.agg #[.slice none 0 0, .int .i64 0, .slice none 0 0, .int .u64 0], .int .i64 t6742]) Tryd.results17 ⟨⟨_, rfl, run_loadVarA (vs := [.slice none 0 0, .int .i64 0, .slice none 0 0, .int .u64 0]) Tryd.isAgg51 Tryd.sizeOf51 rfl (hS.cellsAt 1 rfl rfl)⟩, rfl, trivial⟩ ?_
    exact ⟨none, 0, none, 0, rfl, ((hS.dropAt 1 rfl).dropAt 1 rfl), SlR.nil⟩

end Go.Proofs.Gx
