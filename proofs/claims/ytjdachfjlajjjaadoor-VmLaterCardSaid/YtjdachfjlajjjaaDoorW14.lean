/-
  The walks of functions, each with what it computes: printed by wip/gx.py.
-/
import Derived.Test.YtjdachfjlajjjaaDoorW0
import Derived.Test.YtjdachfjlajjjaaDoorW1
import Derived.Test.YtjdachfjlajjjaaDoorW13
import Derived.Test.YtjdachfjlajjjaaDoorW4
import Derived.Test.YtjdachfjlajjjaaDoorW6
set_option linter.unusedVariables false
namespace Go.Proofs.Gx
open Go.Sl
/-! ### isochron/isochronlaw05.VmLater: function 10 -/
noncomputable def isochronlaw05vVmLater.l8b (a5079 : api_State) (a5080 : api_Message) (y5828 : api_State) (y5829 : List api_Out) (t5954 : List api_Message) : Int → Option ((Int) ⊕ (Bool))
  | (x6048) => (if x6048 < (t5954.length : Int) then (if 0 ≤ x6048 then ((event_Check.f (⟨(nth t5954 x6048).Key, (nth t5954 x6048).To, (nth t5954 x6048).Value, (nth t5954 x6048).Uid, ((nth t5954 x6048).Anti)⟩ : api_Message)).bind fun t6086 => (if t6086 = 0 then ((event_Compare.f a5080.Key ((nth t5954 x6048).Key)).bind fun t6089 => (if t6089 = (-1) then (if ((nth t5954 x6048).Key).Seq = IntKind.i64.wrap (a5079.Sent + x6048) then (if (nth t5954 x6048).Uid = IntKind.i64.wrap (5 + x6048) then (if (nth t5954 x6048).Anti = true then some (.inr false) else some (.inl (IntKind.i64.wrap (x6048 + 1)))) else some (.inr false)) else some (.inr false)) else some (.inr false))) else some (.inr false))) else none) else (Option.map Sum.inr (if (y5829.length : Int) ≤ 8 then (if y5828.Sent = IntKind.i64.wrap (a5079.Sent + (y5829.length : Int)) then (if a5079.Draws ≤ y5828.Draws then (if y5828.Draws ≤ IntKind.i64.wrap (a5079.Draws + 4096) then (if (t5954.length : Int) = (y5829.length : Int) then ((isochronlaw05vawake.f).bind fun t6100 => some t6100) else some false) else some false) else some false) else some false) else some false)))
noncomputable def isochronlaw05vVmLater.l8 (a5079 : api_State) (a5080 : api_Message) (y5828 : api_State) (y5829 : List api_Out) (t5954 : List api_Message) (s : Int) : Option (Bool) := loopR (isochronlaw05vVmLater.l8b a5079 a5080 y5828 y5829 t5954) s
noncomputable def isochronlaw05vVmLater.l6b (a5072 : api_World) (a5079 : api_State) (a5080 : api_Message) (y5828 : api_State) (y5829 : List api_Out) : Int → Option ((Int) ⊕ (Bool))
  | (x5915) => (if x5915 < (y5829.length : Int) then (if 0 ≤ x5915 then (if (nth y5829 x5915).Link < 0 then some (.inr false) else (if (a5072.Links.length : Int) ≤ (nth y5829 x5915).Link then some (.inr false) else (if 0 ≤ (nth y5829 x5915).Link ∧ (nth y5829 x5915).Link < (a5072.Links.length : Int) then (if (nth y5829 x5915).Delay < (nth a5072.Links ((nth y5829 x5915).Link)).Look then some (.inr false) else (if IntKind.i64.wrap (4611686018427387903 - a5080.Key.Time) < (nth y5829 x5915).Delay then some (.inr false) else some (.inl (IntKind.i64.wrap (x5915 + 1))))) else none))) else none) else (Option.map Sum.inr ((vm_Sends.f a5072 a5079 a5080 y5829 5).bind fun t5954 => isochronlaw05vVmLater.l8 a5079 a5080 y5828 y5829 t5954 (0))))
noncomputable def isochronlaw05vVmLater.l6 (a5072 : api_World) (a5079 : api_State) (a5080 : api_Message) (y5828 : api_State) (y5829 : List api_Out) (s : Int) : Option (Bool) := loopR (isochronlaw05vVmLater.l6b a5072 a5079 a5080 y5828 y5829) s
noncomputable def isochronlaw05vVmLater.f (a5072 : api_World) (a5079 : api_State) (a5080 : api_Message) : Option (Bool) := ((vm_Run.f a5072 a5079 a5080).bind fun (y5828, y5829, y5830) => (if y5830 = 50 then (if y5828 = a5079 then some (decide ((y5829.length : Int) = 0)) else some false) else (if y5830 = 10 then (if y5828 = a5079 then some (decide ((y5829.length : Int) = 0)) else some false) else (if y5830 = 0 then isochronlaw05vVmLater.l6 a5072 a5079 a5080 y5828 y5829 (0) else (if (y5829.length : Int) = 0 then (if y5828 = (⟨(⟨0, 0, 0, 0, 0, 0, 0, 0⟩ : Arr8xInti64), 0, 0⟩ : api_State) then ((isochronlaw05vawake.f).bind fun t6104 => some t6104) else some false) else some false)))))
set_option maxRecDepth 100000 in
set_option maxHeartbeats 4000000 in
theorem isochronlaw05vVmLater.ok {B : Base} {w : World} {l : List HProp} {hf : Hp} (a5072 : api_World) (a5079 : api_State) (a5080 : api_Message) (A5073 : Option Addr) (c5074 : Nat) (A5076 : Option Addr) (c5077 : Nat) (hr5075 : SlR E_api_Instr.rep hf A5073 c5074 a5072.Prog) (hr5078 : SlR E_api_Link.rep hf A5076 c5077 a5072.Links) (hG0 : GlobAt hf 0 (.iface 118 (.agg #[.pointer (some ⟨1, 71, none⟩)]))) (r : Bool) (h : isochronlaw05vVmLater.f a5072 a5079 a5080 = some r) (hS : St B w (l) hf) :
    Calls Tryd.prog 10 #[.agg #[.slice A5073 a5072.Prog.length c5074, .int .i64 a5072.Self, .slice A5076 a5072.Links.length c5077, .int .u64 a5072.Seed], .agg #[.int .i64 a5079.Regs.c0, .int .i64 a5079.Regs.c1, .int .i64 a5079.Regs.c2, .int .i64 a5079.Regs.c3, .int .i64 a5079.Regs.c4, .int .i64 a5079.Regs.c5, .int .i64 a5079.Regs.c6, .int .i64 a5079.Regs.c7, .int .i64 a5079.Draws, .int .i64 a5079.Sent], .agg #[.int .i64 a5080.Key.Time, .int .i64 a5080.Key.From, .int .i64 a5080.Key.Seq, .int .i64 a5080.To, .int .i64 a5080.Value, .int .i64 a5080.Uid, .bool a5080.Anti]] w (Ret fun v w => v = .bool r ∧ St B w (l) hf) := by
  have h := Holds.of h
  refine enter (args := [.agg #[.slice A5073 a5072.Prog.length c5074, .int .i64 a5072.Self, .slice A5076 a5072.Links.length c5077, .int .u64 a5072.Seed], .agg #[.int .i64 a5079.Regs.c0, .int .i64 a5079.Regs.c1, .int .i64 a5079.Regs.c2, .int .i64 a5079.Regs.c3, .int .i64 a5079.Regs.c4, .int .i64 a5079.Regs.c5, .int .i64 a5079.Regs.c6, .int .i64 a5079.Regs.c7, .int .i64 a5079.Draws, .int .i64 a5079.Sent], .agg #[.int .i64 a5080.Key.Time, .int .i64 a5080.Key.From, .int .i64 a5080.Key.Seq, .int .i64 a5080.To, .int .i64 a5080.Value, .int .i64 a5080.Uid, .bool a5080.Anti]]) Tryd.func10 rfl Tryd.ntmps10 (Nat.le_of_ble_eq_true rfl) ?_
  refine RC.seq ?_
  refine RC.region ?_
  refine RL.e (OW.box (cs := [.slice A5073 a5072.Prog.length c5074, .int .i64 a5072.Self, .slice A5076 a5072.Links.length c5077, .int .u64 a5072.Seed]) hS rfl rfl) rfl rfl ?_
  rintro _ w ⟨b5821, rfl, hS⟩
  have hS : St B w (Cl b5821 [.slice A5073 a5072.Prog.length c5074, .int .i64 a5072.Self, .slice A5076 a5072.Links.length c5077, .int .u64 a5072.Seed] 26 :: l) hf := hS
  refine RL.e (OW.box (cs := [.int .i64 a5079.Regs.c0, .int .i64 a5079.Regs.c1, .int .i64 a5079.Regs.c2, .int .i64 a5079.Regs.c3, .int .i64 a5079.Regs.c4, .int .i64 a5079.Regs.c5, .int .i64 a5079.Regs.c6, .int .i64 a5079.Regs.c7, .int .i64 a5079.Draws, .int .i64 a5079.Sent]) hS rfl rfl) rfl rfl ?_
  rintro _ w ⟨b5823, rfl, hS⟩
  have hS : St B w (Cl b5823 [.int .i64 a5079.Regs.c0, .int .i64 a5079.Regs.c1, .int .i64 a5079.Regs.c2, .int .i64 a5079.Regs.c3, .int .i64 a5079.Regs.c4, .int .i64 a5079.Regs.c5, .int .i64 a5079.Regs.c6, .int .i64 a5079.Regs.c7, .int .i64 a5079.Draws, .int .i64 a5079.Sent] 29 :: Cl b5821 [.slice A5073 a5072.Prog.length c5074, .int .i64 a5072.Self, .slice A5076 a5072.Links.length c5077, .int .u64 a5072.Seed] 26 :: l) hf := hS
  refine RL.e (OW.box (cs := [.int .i64 a5080.Key.Time, .int .i64 a5080.Key.From, .int .i64 a5080.Key.Seq, .int .i64 a5080.To, .int .i64 a5080.Value, .int .i64 a5080.Uid, .bool a5080.Anti]) hS rfl rfl) rfl rfl ?_
  rintro _ w ⟨b5825, rfl, hS⟩
  have hS : St B w (Cl b5825 [.int .i64 a5080.Key.Time, .int .i64 a5080.Key.From, .int .i64 a5080.Key.Seq, .int .i64 a5080.To, .int .i64 a5080.Value, .int .i64 a5080.Uid, .bool a5080.Anti] 33 :: Cl b5823 [.int .i64 a5079.Regs.c0, .int .i64 a5079.Regs.c1, .int .i64 a5079.Regs.c2, .int .i64 a5079.Regs.c3, .int .i64 a5079.Regs.c4, .int .i64 a5079.Regs.c5, .int .i64 a5079.Regs.c6, .int .i64 a5079.Regs.c7, .int .i64 a5079.Draws, .int .i64 a5079.Sent] 29 :: Cl b5821 [.slice A5073 a5072.Prog.length c5074, .int .i64 a5072.Self, .slice A5076 a5072.Links.length c5077, .int .u64 a5072.Seed] 26 :: l) hf := hS
  refine RL.s (Vl.assign rfl) rfl ?_
  refine RL.nil ?_
  refine RQ.then_n ?_
  refine RC.seq ?_
  refine RC.region ?_
  refine RL.s (Vl.loadA (vs := [.slice A5073 a5072.Prog.length c5074, .int .i64 a5072.Self, .slice A5076 a5072.Links.length c5077, .int .u64 a5072.Seed]) Tryd.isAgg26 Tryd.sizeOf26 rfl rfl (hS.cellsAt 2 rfl rfl)) rfl ?_
  refine RL.s (Vl.loadA (vs := [.int .i64 a5079.Regs.c0, .int .i64 a5079.Regs.c1, .int .i64 a5079.Regs.c2, .int .i64 a5079.Regs.c3, .int .i64 a5079.Regs.c4, .int .i64 a5079.Regs.c5, .int .i64 a5079.Regs.c6, .int .i64 a5079.Regs.c7, .int .i64 a5079.Draws, .int .i64 a5079.Sent]) Tryd.isAgg29 Tryd.sizeOf29 rfl rfl (hS.cellsAt 1 rfl rfl)) rfl ?_
  refine RL.s (Vl.loadA (vs := [.int .i64 a5080.Key.Time, .int .i64 a5080.Key.From, .int .i64 a5080.Key.Seq, .int .i64 a5080.To, .int .i64 a5080.Value, .int .i64 a5080.Uid, .bool a5080.Anti]) Tryd.isAgg33 Tryd.sizeOf33 rfl rfl (hS.cellsAt 0 rfl rfl)) rfl ?_
  obtain ⟨t5826, hg5827, h⟩ := h.bind
  obtain ⟨y5828, y5829, y5830⟩ := t5826
  refine RL.e (OW.callF (ls := [.tmp 14, .tmp 15, .tmp 16]) rfl Tryd.call11 (vm_Run.ok a5072 a5079 a5080 A5073 c5074 A5076 c5077 hr5075 hr5078 hG0 _ hg5827 hS)) rfl rfl ?_
  rintro _ w ⟨A5831, c5832, rfl, hS⟩
  have hS : St B w (OSf E_api_Out 58 (.slice A5831 y5829.length c5832) y5829 :: Cl b5825 [.int .i64 a5080.Key.Time, .int .i64 a5080.Key.From, .int .i64 a5080.Key.Seq, .int .i64 a5080.To, .int .i64 a5080.Value, .int .i64 a5080.Uid, .bool a5080.Anti] 33 :: Cl b5823 [.int .i64 a5079.Regs.c0, .int .i64 a5079.Regs.c1, .int .i64 a5079.Regs.c2, .int .i64 a5079.Regs.c3, .int .i64 a5079.Regs.c4, .int .i64 a5079.Regs.c5, .int .i64 a5079.Regs.c6, .int .i64 a5079.Regs.c7, .int .i64 a5079.Draws, .int .i64 a5079.Sent] 29 :: Cl b5821 [.slice A5073 a5072.Prog.length c5074, .int .i64 a5072.Self, .slice A5076 a5072.Links.length c5077, .int .u64 a5072.Seed] 26 :: l) hf := hS
  refine RL.s (Vl.move rfl) rfl ?_
  refine RL.s (Vl.extract rfl rfl) rfl ?_
  refine RL.s (Vl.extract rfl rfl) rfl ?_
  refine RL.s (Vl.extract rfl rfl) rfl ?_
  refine RL.e (OW.alloc (cs := [.int .i64 0, .int .i64 0, .int .i64 0, .int .i64 0, .int .i64 0, .int .i64 0, .int .i64 0, .int .i64 0, .int .i64 0, .int .i64 0]) hS Tryd.zeroValue29 rfl) rfl rfl ?_
  rintro _ w ⟨b5835, rfl, hS⟩
  have hS : St B w (Cl b5835 [.int .i64 0, .int .i64 0, .int .i64 0, .int .i64 0, .int .i64 0, .int .i64 0, .int .i64 0, .int .i64 0, .int .i64 0, .int .i64 0] 29 :: OSf E_api_Out 58 (.slice A5831 y5829.length c5832) y5829 :: Cl b5825 [.int .i64 a5080.Key.Time, .int .i64 a5080.Key.From, .int .i64 a5080.Key.Seq, .int .i64 a5080.To, .int .i64 a5080.Value, .int .i64 a5080.Uid, .bool a5080.Anti] 33 :: Cl b5823 [.int .i64 a5079.Regs.c0, .int .i64 a5079.Regs.c1, .int .i64 a5079.Regs.c2, .int .i64 a5079.Regs.c3, .int .i64 a5079.Regs.c4, .int .i64 a5079.Regs.c5, .int .i64 a5079.Regs.c6, .int .i64 a5079.Regs.c7, .int .i64 a5079.Draws, .int .i64 a5079.Sent] 29 :: Cl b5821 [.slice A5073 a5072.Prog.length c5074, .int .i64 a5072.Self, .slice A5076 a5072.Links.length c5077, .int .u64 a5072.Seed] 26 :: l) hf := hS
  refine RL.e0 (OW.store (cs := [.int .i64 0, .int .i64 0, .int .i64 0, .int .i64 0, .int .i64 0, .int .i64 0, .int .i64 0, .int .i64 0, .int .i64 0, .int .i64 0]) (vs := [.int .i64 y5828.Regs.c0, .int .i64 y5828.Regs.c1, .int .i64 y5828.Regs.c2, .int .i64 y5828.Regs.c3, .int .i64 y5828.Regs.c4, .int .i64 y5828.Regs.c5, .int .i64 y5828.Regs.c6, .int .i64 y5828.Regs.c7, .int .i64 y5828.Draws, .int .i64 y5828.Sent]) (l' := Cl b5835 [.int .i64 y5828.Regs.c0, .int .i64 y5828.Regs.c1, .int .i64 y5828.Regs.c2, .int .i64 y5828.Regs.c3, .int .i64 y5828.Regs.c4, .int .i64 y5828.Regs.c5, .int .i64 y5828.Regs.c6, .int .i64 y5828.Regs.c7, .int .i64 y5828.Draws, .int .i64 y5828.Sent] 29 :: OSf E_api_Out 58 (.slice A5831 y5829.length c5832) y5829 :: Cl b5825 [.int .i64 a5080.Key.Time, .int .i64 a5080.Key.From, .int .i64 a5080.Key.Seq, .int .i64 a5080.To, .int .i64 a5080.Value, .int .i64 a5080.Uid, .bool a5080.Anti] 33 :: Cl b5823 [.int .i64 a5079.Regs.c0, .int .i64 a5079.Regs.c1, .int .i64 a5079.Regs.c2, .int .i64 a5079.Regs.c3, .int .i64 a5079.Regs.c4, .int .i64 a5079.Regs.c5, .int .i64 a5079.Regs.c6, .int .i64 a5079.Regs.c7, .int .i64 a5079.Draws, .int .i64 a5079.Sent] 29 :: Cl b5821 [.slice A5073 a5072.Prog.length c5074, .int .i64 a5072.Self, .slice A5076 a5072.Links.length c5077, .int .u64 a5072.Seed] 26 :: l) 0 hS rfl rfl rfl rfl Tryd.sizeOf29 rfl rfl rfl rfl) rfl ?_
  rintro _ w ⟨rfl, hS⟩
  have hS : St B w (Cl b5835 [.int .i64 y5828.Regs.c0, .int .i64 y5828.Regs.c1, .int .i64 y5828.Regs.c2, .int .i64 y5828.Regs.c3, .int .i64 y5828.Regs.c4, .int .i64 y5828.Regs.c5, .int .i64 y5828.Regs.c6, .int .i64 y5828.Regs.c7, .int .i64 y5828.Draws, .int .i64 y5828.Sent] 29 :: OSf E_api_Out 58 (.slice A5831 y5829.length c5832) y5829 :: Cl b5825 [.int .i64 a5080.Key.Time, .int .i64 a5080.Key.From, .int .i64 a5080.Key.Seq, .int .i64 a5080.To, .int .i64 a5080.Value, .int .i64 a5080.Uid, .bool a5080.Anti] 33 :: Cl b5823 [.int .i64 a5079.Regs.c0, .int .i64 a5079.Regs.c1, .int .i64 a5079.Regs.c2, .int .i64 a5079.Regs.c3, .int .i64 a5079.Regs.c4, .int .i64 a5079.Regs.c5, .int .i64 a5079.Regs.c6, .int .i64 a5079.Regs.c7, .int .i64 a5079.Draws, .int .i64 a5079.Sent] 29 :: Cl b5821 [.slice A5073 a5072.Prog.length c5074, .int .i64 a5072.Self, .slice A5076 a5072.Links.length c5077, .int .u64 a5072.Seed] 26 :: l) hf := hS
  refine RL.s (Vl.assign rfl) rfl ?_
  refine RL.s (Vl.assign rfl) rfl ?_
  refine RL.nil ?_
  refine RQ.then_n ?_
  refine RC.seq ?_
  refine RC.seq ?_
  refine RC.region ?_
  refine RL.s (Vl.move rfl) rfl ?_
  refine RL.s (Vl.int rfl rfl rfl) rfl ?_
  refine RL.s (Vl.move rfl) rfl ?_
  by_cases hc5840 : y5830 = 50
  case pos =>
   have h := h.pos hc5840
   refine RL.re 23 rfl (congrArg Value.bool (decide_eq_true hc5840)) ?_
   refine RL.nn rfl rfl ?_
   refine RL.nn rfl rfl ?_
   refine RL.s (Vl.pickT rfl rfl) rfl ?_
   refine RL.nil ?_
   refine RQ.then_n ?_
   refine RC.condT rfl ?_
   refine RC.seq ?_
   refine RC.region ?_
   refine RL.s (Vl.loadA (vs := [.int .i64 y5828.Regs.c0, .int .i64 y5828.Regs.c1, .int .i64 y5828.Regs.c2, .int .i64 y5828.Regs.c3, .int .i64 y5828.Regs.c4, .int .i64 y5828.Regs.c5, .int .i64 y5828.Regs.c6, .int .i64 y5828.Regs.c7, .int .i64 y5828.Draws, .int .i64 y5828.Sent]) Tryd.isAgg29 Tryd.sizeOf29 rfl rfl (hS.cellsAt 0 rfl rfl)) rfl ?_
   refine RL.s (Vl.loadA (vs := [.int .i64 a5079.Regs.c0, .int .i64 a5079.Regs.c1, .int .i64 a5079.Regs.c2, .int .i64 a5079.Regs.c3, .int .i64 a5079.Regs.c4, .int .i64 a5079.Regs.c5, .int .i64 a5079.Regs.c6, .int .i64 a5079.Regs.c7, .int .i64 a5079.Draws, .int .i64 a5079.Sent]) Tryd.isAgg29 Tryd.sizeOf29 rfl rfl (hS.cellsAt 3 rfl rfl)) rfl ?_
   refine RL.s (Vl.eqlS (run_eql_api_State _ _ y5828 a5079) rfl rfl) rfl ?_
   refine RL.s (Vl.move rfl) rfl ?_
   by_cases hc5841 : y5828 = a5079
   case pos =>
    have h := h.pos hc5841
    refine RL.re 30 rfl (congrArg Value.bool (decide_eq_true hc5841)) ?_
    refine RL.sg (Vl.move rfl) rfl rfl ?_
    refine RL.sg (Vl.lenSl Tryd.underlying34 rfl) rfl rfl ?_
    refine RL.sg (Vl.int rfl rfl rfl) rfl rfl ?_
    refine RL.s (Vl.pickT rfl rfl) rfl ?_
    refine RL.s (Vl.assign rfl) rfl ?_
    refine RL.nil ?_
    refine RQ.then_n ?_
    refine RC.ret ?_
    refine RQ.ret ?_
    have e := h.some
    subst e
    refine RQ.ret0 (vs := [.bool (decide ((y5829.length : Int) = 0))]) Tryd.results10 ⟨rfl, trivial⟩ ?_
    exact ⟨rfl, (((((hS.dropAt 0 rfl).dropAt 0 rfl).dropAt 0 rfl).dropAt 0 rfl).dropAt 0 rfl)⟩
   case neg =>
    have h := h.neg hc5841
    refine RL.re 30 rfl (congrArg Value.bool (decide_eq_false hc5841)) ?_
    refine RL.nn rfl rfl ?_
    refine RL.nn rfl rfl ?_
    refine RL.nn rfl rfl ?_
    refine RL.s (Vl.pickF rfl rfl) rfl ?_
    refine RL.s (Vl.assign rfl) rfl ?_
    refine RL.nil ?_
    refine RQ.then_n ?_
    refine RC.ret ?_
    refine RQ.ret ?_
    have e := h.some
    subst e
    refine RQ.ret0 (vs := [.bool false]) Tryd.results10 ⟨rfl, trivial⟩ ?_
    exact ⟨rfl, (((((hS.dropAt 0 rfl).dropAt 0 rfl).dropAt 0 rfl).dropAt 0 rfl).dropAt 0 rfl)⟩
  case neg =>
   have h := h.neg hc5840
   refine RL.re 23 rfl (congrArg Value.bool (decide_eq_false hc5840)) ?_
   refine RL.sg (Vl.move rfl) rfl rfl ?_
   refine RL.sg (Vl.int rfl rfl rfl) rfl rfl ?_
   refine RL.s (Vl.pickF rfl rfl) rfl ?_
   refine RL.nil ?_
   refine RQ.then_n ?_
   by_cases hc5842 : y5830 = 10
   case pos =>
    have h := h.pos hc5842
    refine RC.re 26 rfl (congrArg Value.bool (decide_eq_true hc5842)) ?_
    refine RC.condT rfl ?_
    refine RC.seq ?_
    refine RC.region ?_
    refine RL.s (Vl.loadA (vs := [.int .i64 y5828.Regs.c0, .int .i64 y5828.Regs.c1, .int .i64 y5828.Regs.c2, .int .i64 y5828.Regs.c3, .int .i64 y5828.Regs.c4, .int .i64 y5828.Regs.c5, .int .i64 y5828.Regs.c6, .int .i64 y5828.Regs.c7, .int .i64 y5828.Draws, .int .i64 y5828.Sent]) Tryd.isAgg29 Tryd.sizeOf29 rfl rfl (hS.cellsAt 0 rfl rfl)) rfl ?_
    refine RL.s (Vl.loadA (vs := [.int .i64 a5079.Regs.c0, .int .i64 a5079.Regs.c1, .int .i64 a5079.Regs.c2, .int .i64 a5079.Regs.c3, .int .i64 a5079.Regs.c4, .int .i64 a5079.Regs.c5, .int .i64 a5079.Regs.c6, .int .i64 a5079.Regs.c7, .int .i64 a5079.Draws, .int .i64 a5079.Sent]) Tryd.isAgg29 Tryd.sizeOf29 rfl rfl (hS.cellsAt 3 rfl rfl)) rfl ?_
    refine RL.s (Vl.eqlS (run_eql_api_State _ _ y5828 a5079) rfl rfl) rfl ?_
    refine RL.s (Vl.move rfl) rfl ?_
    by_cases hc5843 : y5828 = a5079
    case pos =>
     have h := h.pos hc5843
     refine RL.re 30 rfl (congrArg Value.bool (decide_eq_true hc5843)) ?_
     refine RL.sg (Vl.move rfl) rfl rfl ?_
     refine RL.sg (Vl.lenSl Tryd.underlying34 rfl) rfl rfl ?_
     refine RL.sg (Vl.int rfl rfl rfl) rfl rfl ?_
     refine RL.s (Vl.pickT rfl rfl) rfl ?_
     refine RL.s (Vl.assign rfl) rfl ?_
     refine RL.nil ?_
     refine RQ.then_n ?_
     refine RC.ret ?_
     refine RQ.ret ?_
     have e := h.some
     subst e
     refine RQ.ret0 (vs := [.bool (decide ((y5829.length : Int) = 0))]) Tryd.results10 ⟨rfl, trivial⟩ ?_
     exact ⟨rfl, (((((hS.dropAt 0 rfl).dropAt 0 rfl).dropAt 0 rfl).dropAt 0 rfl).dropAt 0 rfl)⟩
    case neg =>
     have h := h.neg hc5843
     refine RL.re 30 rfl (congrArg Value.bool (decide_eq_false hc5843)) ?_
     refine RL.nn rfl rfl ?_
     refine RL.nn rfl rfl ?_
     refine RL.nn rfl rfl ?_
     refine RL.s (Vl.pickF rfl rfl) rfl ?_
     refine RL.s (Vl.assign rfl) rfl ?_
     refine RL.nil ?_
     refine RQ.then_n ?_
     refine RC.ret ?_
     refine RQ.ret ?_
     have e := h.some
     subst e
     refine RQ.ret0 (vs := [.bool false]) Tryd.results10 ⟨rfl, trivial⟩ ?_
     exact ⟨rfl, (((((hS.dropAt 0 rfl).dropAt 0 rfl).dropAt 0 rfl).dropAt 0 rfl).dropAt 0 rfl)⟩
   case neg =>
    have h := h.neg hc5842
    refine RC.re 26 rfl (congrArg Value.bool (decide_eq_false hc5842)) ?_
    refine RC.condF rfl ?_
    refine RC.skip ?_
    refine RQ.then_n ?_
    refine RC.seq ?_
    refine RC.seq ?_
    refine RC.region ?_
    refine RL.s (Vl.move rfl) rfl ?_
    refine RL.s (Vl.int rfl rfl rfl) rfl ?_
    refine RL.nil ?_
    refine RQ.then_n ?_
    by_cases hc5849 : y5830 = 0
    case pos =>
     have h := h.pos hc5849
     refine RC.re 36 rfl (congrArg Value.bool (notdec_pos hc5849)) ?_
     refine RC.condF rfl ?_
     refine RC.skip ?_
     refine RQ.then_n ?_
     refine RC.seq ?_
     refine RC.seq ?_
     refine RC.region ?_
     refine RL.s (Vl.assign rfl) rfl ?_
     refine RL.nil ?_
     refine RQ.then_n ?_
     refine RC.block ?_
     refine fun a ha => RC.loop (N := 197) (body := (isochronlaw05vVmLater.l6b a5072 a5079 a5080 y5828 y5829)) (φ := (· = r)) (fun (s : Int) a w => ∃ (x5915 : Int), s = (x5915) ∧ Has 197 [(3, .pointer (some ⟨b5821, 0, none⟩)), (4, .pointer (some ⟨b5823, 0, none⟩)), (5, .pointer (some ⟨b5825, 0, none⟩)), (7, .pointer (some ⟨b5835, 0, none⟩)), (8, .slice A5831 y5829.length c5832), (10, .int .i64 x5915)] a ∧ St B w (OSf E_api_Out 58 (.slice A5831 y5829.length c5832) y5829 :: Cl b5835 [.int .i64 y5828.Regs.c0, .int .i64 y5828.Regs.c1, .int .i64 y5828.Regs.c2, .int .i64 y5828.Regs.c3, .int .i64 y5828.Regs.c4, .int .i64 y5828.Regs.c5, .int .i64 y5828.Regs.c6, .int .i64 y5828.Regs.c7, .int .i64 y5828.Draws, .int .i64 y5828.Sent] 29 :: Cl b5825 [.int .i64 a5080.Key.Time, .int .i64 a5080.Key.From, .int .i64 a5080.Key.Seq, .int .i64 a5080.To, .int .i64 a5080.Value, .int .i64 a5080.Uid, .bool a5080.Anti] 33 :: Cl b5823 [.int .i64 a5079.Regs.c0, .int .i64 a5079.Regs.c1, .int .i64 a5079.Regs.c2, .int .i64 a5079.Regs.c3, .int .i64 a5079.Regs.c4, .int .i64 a5079.Regs.c5, .int .i64 a5079.Regs.c6, .int .i64 a5079.Regs.c7, .int .i64 a5079.Draws, .int .i64 a5079.Sent] 29 :: Cl b5821 [.slice A5073 a5072.Prog.length c5074, .int .i64 a5072.Self, .slice A5076 a5072.Links.length c5077, .int .u64 a5072.Seed] 26 :: l) hf) ?_ (s0 := (0)) h ⟨0, rfl, ha.to ⟨rfl, rfl, rfl, rfl, rfl, rfl, trivial⟩, (((((hS.pull 4 rfl rfl).pull 4 rfl rfl).pull 4 rfl rfl).pull 3 rfl rfl).pull 4 rfl rfl)⟩
     rintro G5933 x5915 a w ⟨_, rfl, ha, hS⟩ h
     revert a
     show RC _ _ _ _ _ _
     refine RC.seq ?_
     refine RC.seq ?_
     refine RC.region ?_
     refine RL.s (Vl.move rfl) rfl ?_
     refine RL.s (Vl.move rfl) rfl ?_
     refine RL.s (Vl.lenSl Tryd.underlying34 rfl) rfl ?_
     refine RL.s (Vl.int rfl rfl rfl) rfl ?_
     refine RL.nil ?_
     refine RQ.then_n ?_
     by_cases hc5935 : x5915 < (y5829.length : Int)
     case pos =>
      have h := h.pos hc5935
      refine RC.re 51 rfl (congrArg Value.bool (decide_eq_true hc5935)) ?_
      refine RC.condT rfl ?_
      refine RC.skip ?_
      refine RQ.then_n ?_
      refine RC.seq ?_
      refine RC.block ?_
      refine RC.seq ?_
      refine RC.plan (.pure 0 (.pure 1 (.cons 2 true (.pure 3 (.cons 4 true (.pure 5 (.pure 6 (.pure 7 (.pure 8 (.cons 9 true (.pure 10 (.cons 11 true (.pure 12 (.cons 13 true (.pure 14 (.pure 15 (.pure 16 (.pure 17 (.pure 18 (.pure 19 (.cons 20 true (.pure 21 (.cons 22 true (.pure 23 (.cons 24 true (.pure 25 (.pure 26 (.cons 27 true (.pure 28 (.cons 29 true (.cons 30 true (.pure 31 (.cons 32 true (.pure 33 (.pure 34 (.pure 35 (.pure 36 (.pure 37 (.cons 38 true (.pure 39 (.cons 40 true (.cons 41 false (.cons 42 false (.cons 43 false (.cons 44 false (.cons 45 false (.cons 46 false .nil))))))))))))))))))))))))))))))))))))))))))))))) [] (fun w => St B w (OSf E_api_Out 58 (.slice A5831 y5829.length c5832) y5829 :: Cl b5835 [.int .i64 y5828.Regs.c0, .int .i64 y5828.Regs.c1, .int .i64 y5828.Regs.c2, .int .i64 y5828.Regs.c3, .int .i64 y5828.Regs.c4, .int .i64 y5828.Regs.c5, .int .i64 y5828.Regs.c6, .int .i64 y5828.Regs.c7, .int .i64 y5828.Draws, .int .i64 y5828.Sent] 29 :: Cl b5825 [.int .i64 a5080.Key.Time, .int .i64 a5080.Key.From, .int .i64 a5080.Key.Seq, .int .i64 a5080.To, .int .i64 a5080.Value, .int .i64 a5080.Uid, .bool a5080.Anti] 33 :: Cl b5823 [.int .i64 a5079.Regs.c0, .int .i64 a5079.Regs.c1, .int .i64 a5079.Regs.c2, .int .i64 a5079.Regs.c3, .int .i64 a5079.Regs.c4, .int .i64 a5079.Regs.c5, .int .i64 a5079.Regs.c6, .int .i64 a5079.Regs.c7, .int .i64 a5079.Draws, .int .i64 a5079.Sent] 29 :: Cl b5821 [.slice A5073 a5072.Prog.length c5074, .int .i64 a5072.Self, .slice A5076 a5072.Links.length c5077, .int .u64 a5072.Seed] 26 :: l) hf) follows rfl (by kernel_rfl) (NoTmp.then (NoTmp.block (NoTmp.then (NoTmp.then (NoTmp.block (NoTmp.then NoTmp.body)))))) ?_
      have hS := hS.same (w' := { w with drawn := w.drawn + 1 }) rfl rfl
      revert hS
      generalize { w with drawn := w.drawn + 1 } = w
      intro hS
      refine RP.s0 0 rfl (fun w => Vl.move rfl) rfl ?_
      refine RP.s0 1 rfl (fun w => Vl.move rfl) rfl ?_
      obtain ⟨hq5943, h⟩ := h.req
      refine RP.s 2 rfl rfl hS (fun w hS => Vl.indexAddr Tryd.underlying34 Tryd.sizeOf58 rfl rfl ((hS.slW 0 rfl).2.2.adr hq5943 hc5935) hq5943 hc5935 rfl) rfl ?_
      refine RP.s0 3 rfl (fun w => Vl.fieldAddr (a'' := (ad A5831).add (x5915.toNat * 3 + 0)) Tryd.underlying58 rfl Tryd.sizeOf3 rfl (add_add _ _ _)) rfl ?_
      refine RP.s 4 rfl rfl hS (fun w hS => Vl.load Tryd.isAgg3 rfl ((hS.slW 0 rfl).2.2.cell (j := 0) hq5943 hc5935 rfl)) rfl ?_
      refine RP.s0 5 rfl (fun w => Vl.int rfl rfl rfl) rfl ?_
      refine RP.s0 6 rfl (fun w => Vl.move rfl) rfl ?_
      by_cases hc5944 : (nth y5829 x5915).Link < 0
      case pos =>
       have h := h.pos hc5944
       refine RP.re 60 rfl (congrArg Value.bool (decide_eq_true hc5944)) ?_
       refine RP.nn0 7 rfl rfl rfl ?_
       refine RP.nn0 8 rfl rfl rfl ?_
       refine RP.nn 9 rfl rfl rfl ?_
       refine RP.nn0 10 rfl rfl rfl ?_
       refine RP.nn 11 rfl rfl rfl ?_
       refine RP.nn0 12 rfl rfl rfl ?_
       refine RP.nn 13 rfl rfl rfl ?_
       refine RP.nn0 14 rfl rfl rfl ?_
       refine RP.nn0 15 rfl rfl rfl ?_
       refine RP.s0 16 rfl (fun w => Vl.pickT rfl rfl) rfl ?_
       refine RP.s0 17 rfl (fun w => Vl.move rfl) rfl ?_
       refine RP.nn0 18 rfl rfl rfl ?_
       refine RP.nn0 19 rfl rfl rfl ?_
       refine RP.nn 20 rfl rfl rfl ?_
       refine RP.nn0 21 rfl rfl rfl ?_
       refine RP.nn 22 rfl rfl rfl ?_
       refine RP.nn0 23 rfl rfl rfl ?_
       refine RP.nn 24 rfl rfl rfl ?_
       refine RP.nn0 25 rfl rfl rfl ?_
       refine RP.nn0 26 rfl rfl rfl ?_
       refine RP.nn 27 rfl rfl rfl ?_
       refine RP.nn0 28 rfl rfl rfl ?_
       refine RP.nn 29 rfl rfl rfl ?_
       refine RP.nn 30 rfl rfl rfl ?_
       refine RP.nn0 31 rfl rfl rfl ?_
       refine RP.nn 32 rfl rfl rfl ?_
       refine RP.nn0 33 rfl rfl rfl ?_
       refine RP.s0 34 rfl (fun w => Vl.pickT rfl rfl) rfl ?_
       refine RP.s0 35 rfl (fun w => Vl.move rfl) rfl ?_
       refine RP.nn0 36 rfl rfl rfl ?_
       refine RP.nn0 37 rfl rfl rfl ?_
       refine RP.nn 38 rfl rfl rfl ?_
       refine RP.nn0 39 rfl rfl rfl ?_
       refine RP.nn 40 rfl rfl rfl ?_
       refine RP.n1 41 rfl rfl rfl ?_
       refine RP.n1 42 rfl rfl rfl ?_
       refine RP.n1 43 rfl rfl rfl ?_
       refine RP.n1 44 rfl rfl rfl ?_
       refine RP.n1 45 rfl rfl rfl ?_
       refine RP.v1 46 rfl (Vl.pickT rfl rfl) rfl rfl ?_
       refine RP.nil ?_
       refine RQ.then_n ?_
       refine RC.condT rfl ?_
       refine RC.seq ?_
       refine RC.region ?_
       refine RL.s (Vl.assign rfl) rfl ?_
       refine RL.nil ?_
       refine RQ.then_n ?_
       refine RC.ret ?_
       refine RQ.inB_ret ?_
       refine RQ.ret ?_
       have h := h.inrS
       refine RQ.ret ?_
       refine RQ.inB_ret ?_
       refine RQ.ret ?_
       have e := h.some
       subst e
       refine RQ.ret0 (vs := [.bool false]) Tryd.results10 ⟨rfl, trivial⟩ ?_
       exact ⟨rfl, (((((hS.dropAt 0 rfl).dropAt 0 rfl).dropAt 0 rfl).dropAt 0 rfl).dropAt 0 rfl)⟩
      case neg =>
       have h := h.neg hc5944
       refine RP.re 60 rfl (congrArg Value.bool (decide_eq_false hc5944)) ?_
       refine RP.sg0 7 rfl (fun w => Vl.move rfl) rfl rfl ?_
       refine RP.sg0 8 rfl (fun w => Vl.move rfl) rfl rfl ?_
       refine RP.sg 9 rfl rfl hS (fun w hS => Vl.indexAddr Tryd.underlying34 Tryd.sizeOf58 rfl rfl ((hS.slW 0 rfl).2.2.adr hq5943 hc5935) hq5943 hc5935 rfl) rfl rfl ?_
       refine RP.sg0 10 rfl (fun w => Vl.fieldAddr (a'' := (ad A5831).add (x5915.toNat * 3 + 0)) Tryd.underlying58 rfl Tryd.sizeOf3 rfl (add_add _ _ _)) rfl rfl ?_
       refine RP.sg 11 rfl rfl hS (fun w hS => Vl.load Tryd.isAgg3 rfl ((hS.slW 0 rfl).2.2.cell (j := 0) hq5943 hc5935 rfl)) rfl rfl ?_
       refine RP.sg0 12 rfl (fun w => Vl.fieldAddr (a'' := ⟨b5821, 2, none⟩) Tryd.underlying26 rfl Tryd.sizeOf23 rfl rfl) rfl rfl ?_
       refine RP.sg 13 rfl rfl hS (fun w hS => Vl.load Tryd.isAgg23 rfl (hS.cell 4 rfl rfl)) rfl rfl ?_
       refine RP.sg0 14 rfl (fun w => Vl.lenSl Tryd.underlying23 rfl) rfl rfl ?_
       refine RP.sg0 15 rfl (fun w => Vl.int rfl rfl rfl) rfl rfl ?_
       refine RP.s0 16 rfl (fun w => Vl.pickF rfl rfl) rfl ?_
       refine RP.s0 17 rfl (fun w => Vl.move rfl) rfl ?_
       by_cases hc5945 : (a5072.Links.length : Int) ≤ (nth y5829 x5915).Link
       case pos =>
        have h := h.pos hc5945
        refine RP.re 71 rfl (congrArg Value.bool (decide_eq_true hc5945)) ?_
        refine RP.nn0 18 rfl rfl rfl ?_
        refine RP.nn0 19 rfl rfl rfl ?_
        refine RP.nn 20 rfl rfl rfl ?_
        refine RP.nn0 21 rfl rfl rfl ?_
        refine RP.nn 22 rfl rfl rfl ?_
        refine RP.nn0 23 rfl rfl rfl ?_
        refine RP.nn 24 rfl rfl rfl ?_
        refine RP.nn0 25 rfl rfl rfl ?_
        refine RP.nn0 26 rfl rfl rfl ?_
        refine RP.nn 27 rfl rfl rfl ?_
        refine RP.nn0 28 rfl rfl rfl ?_
        refine RP.nn 29 rfl rfl rfl ?_
        refine RP.nn 30 rfl rfl rfl ?_
        refine RP.nn0 31 rfl rfl rfl ?_
        refine RP.nn 32 rfl rfl rfl ?_
        refine RP.nn0 33 rfl rfl rfl ?_
        refine RP.s0 34 rfl (fun w => Vl.pickT rfl rfl) rfl ?_
        refine RP.s0 35 rfl (fun w => Vl.move rfl) rfl ?_
        refine RP.nn0 36 rfl rfl rfl ?_
        refine RP.nn0 37 rfl rfl rfl ?_
        refine RP.nn 38 rfl rfl rfl ?_
        refine RP.nn0 39 rfl rfl rfl ?_
        refine RP.nn 40 rfl rfl rfl ?_
        refine RP.n1 41 rfl rfl rfl ?_
        refine RP.n1 42 rfl rfl rfl ?_
        refine RP.n1 43 rfl rfl rfl ?_
        refine RP.n1 44 rfl rfl rfl ?_
        refine RP.n1 45 rfl rfl rfl ?_
        refine RP.v1 46 rfl (Vl.pickT rfl rfl) rfl rfl ?_
        refine RP.nil ?_
        refine RQ.then_n ?_
        refine RC.condT rfl ?_
        refine RC.seq ?_
        refine RC.region ?_
        refine RL.s (Vl.assign rfl) rfl ?_
        refine RL.nil ?_
        refine RQ.then_n ?_
        refine RC.ret ?_
        refine RQ.inB_ret ?_
        refine RQ.ret ?_
        have h := h.inrS
        refine RQ.ret ?_
        refine RQ.inB_ret ?_
        refine RQ.ret ?_
        have e := h.some
        subst e
        refine RQ.ret0 (vs := [.bool false]) Tryd.results10 ⟨rfl, trivial⟩ ?_
        exact ⟨rfl, (((((hS.dropAt 0 rfl).dropAt 0 rfl).dropAt 0 rfl).dropAt 0 rfl).dropAt 0 rfl)⟩
       case neg =>
        have h := h.neg hc5945
        refine RP.re 71 rfl (congrArg Value.bool (decide_eq_false hc5945)) ?_
        refine RP.sg0 18 rfl (fun w => Vl.move rfl) rfl rfl ?_
        refine RP.sg0 19 rfl (fun w => Vl.move rfl) rfl rfl ?_
        refine RP.sg 20 rfl rfl hS (fun w hS => Vl.indexAddr Tryd.underlying34 Tryd.sizeOf58 rfl rfl ((hS.slW 0 rfl).2.2.adr hq5943 hc5935) hq5943 hc5935 rfl) rfl rfl ?_
        refine RP.sg0 21 rfl (fun w => Vl.fieldAddr (a'' := (ad A5831).add (x5915.toNat * 3 + 1)) Tryd.underlying58 rfl Tryd.sizeOf2 rfl (add_add _ _ _)) rfl rfl ?_
        refine RP.sg 22 rfl rfl hS (fun w hS => Vl.load Tryd.isAgg2 rfl ((hS.slW 0 rfl).2.2.cell (j := 1) hq5943 hc5935 rfl)) rfl rfl ?_
        refine RP.sg0 23 rfl (fun w => Vl.fieldAddr (a'' := ⟨b5821, 2, none⟩) Tryd.underlying26 rfl Tryd.sizeOf23 rfl rfl) rfl rfl ?_
        refine RP.sg 24 rfl rfl hS (fun w hS => Vl.load Tryd.isAgg23 rfl (hS.cell 4 rfl rfl)) rfl rfl ?_
        refine RP.sg0 25 rfl (fun w => Vl.move rfl) rfl rfl ?_
        refine RP.sg0 26 rfl (fun w => Vl.move rfl) rfl rfl ?_
        refine RP.sg 27 rfl rfl hS (fun w hS => Vl.indexAddr Tryd.underlying34 Tryd.sizeOf58 rfl rfl ((hS.slW 0 rfl).2.2.adr hq5943 hc5935) hq5943 hc5935 rfl) rfl rfl ?_
        refine RP.sg0 28 rfl (fun w => Vl.fieldAddr (a'' := (ad A5831).add (x5915.toNat * 3 + 0)) Tryd.underlying58 rfl Tryd.sizeOf3 rfl (add_add _ _ _)) rfl rfl ?_
        refine RP.sg 29 rfl rfl hS (fun w hS => Vl.load Tryd.isAgg3 rfl ((hS.slW 0 rfl).2.2.cell (j := 0) hq5943 hc5935 rfl)) rfl rfl ?_
        obtain ⟨⟨hq5946, hq5947⟩, h⟩ := h.req
        refine RP.sg 30 rfl rfl hS (fun w hS => Vl.indexAddr Tryd.underlying23 Tryd.sizeOf56 rfl rfl ((hr5078.2.world hS.sub).adr hq5946 hq5947) hq5946 hq5947 rfl) rfl rfl ?_
        refine RP.sg0 31 rfl (fun w => Vl.fieldAddr (a'' := (ad A5076).add (((nth y5829 x5915).Link).toNat * 4 + 2)) Tryd.underlying56 rfl Tryd.sizeOf2 rfl (add_add _ _ _)) rfl rfl ?_
        refine RP.sg 32 rfl rfl hS (fun w hS => Vl.load Tryd.isAgg2 rfl ((hr5078.2.world hS.sub).cell (j := 2) hq5946 hq5947 rfl)) rfl rfl ?_
        refine RP.sg0 33 rfl (fun w => Vl.int rfl rfl rfl) rfl rfl ?_
        refine RP.s0 34 rfl (fun w => Vl.pickF rfl rfl) rfl ?_
        refine RP.s0 35 rfl (fun w => Vl.move rfl) rfl ?_
        by_cases hc5948 : (nth y5829 x5915).Delay < (nth a5072.Links ((nth y5829 x5915).Link)).Look
        case pos =>
         have h := h.pos hc5948
         refine RP.re 89 rfl (congrArg Value.bool (decide_eq_true hc5948)) ?_
         refine RP.nn0 36 rfl rfl rfl ?_
         refine RP.nn0 37 rfl rfl rfl ?_
         refine RP.nn 38 rfl rfl rfl ?_
         refine RP.nn0 39 rfl rfl rfl ?_
         refine RP.nn 40 rfl rfl rfl ?_
         refine RP.n1 41 rfl rfl rfl ?_
         refine RP.n1 42 rfl rfl rfl ?_
         refine RP.n1 43 rfl rfl rfl ?_
         refine RP.n1 44 rfl rfl rfl ?_
         refine RP.n1 45 rfl rfl rfl ?_
         refine RP.v1 46 rfl (Vl.pickT rfl rfl) rfl rfl ?_
         refine RP.nil ?_
         refine RQ.then_n ?_
         refine RC.condT rfl ?_
         refine RC.seq ?_
         refine RC.region ?_
         refine RL.s (Vl.assign rfl) rfl ?_
         refine RL.nil ?_
         refine RQ.then_n ?_
         refine RC.ret ?_
         refine RQ.inB_ret ?_
         refine RQ.ret ?_
         have h := h.inrS
         refine RQ.ret ?_
         refine RQ.inB_ret ?_
         refine RQ.ret ?_
         have e := h.some
         subst e
         refine RQ.ret0 (vs := [.bool false]) Tryd.results10 ⟨rfl, trivial⟩ ?_
         exact ⟨rfl, (((((hS.dropAt 0 rfl).dropAt 0 rfl).dropAt 0 rfl).dropAt 0 rfl).dropAt 0 rfl)⟩
        case neg =>
         have h := h.neg hc5948
         refine RP.re 89 rfl (congrArg Value.bool (decide_eq_false hc5948)) ?_
         refine RP.sg0 36 rfl (fun w => Vl.move rfl) rfl rfl ?_
         refine RP.sg0 37 rfl (fun w => Vl.move rfl) rfl rfl ?_
         refine RP.sg 38 rfl rfl hS (fun w hS => Vl.indexAddr Tryd.underlying34 Tryd.sizeOf58 rfl rfl ((hS.slW 0 rfl).2.2.adr hq5943 hc5935) hq5943 hc5935 rfl) rfl rfl ?_
         refine RP.sg0 39 rfl (fun w => Vl.fieldAddr (a'' := (ad A5831).add (x5915.toNat * 3 + 1)) Tryd.underlying58 rfl Tryd.sizeOf2 rfl (add_add _ _ _)) rfl rfl ?_
         refine RP.sg 40 rfl rfl hS (fun w hS => Vl.load Tryd.isAgg2 rfl ((hS.slW 0 rfl).2.2.cell (j := 1) hq5943 hc5935 rfl)) rfl rfl ?_
         refine RP.v1 41 rfl (Vl.fieldAddr (a'' := ⟨b5825, 0, none⟩) Tryd.underlying33 rfl Tryd.sizeOf31 rfl rfl) rfl rfl ?_
         refine RP.v1 42 rfl (Vl.fieldAddr (a'' := ⟨b5825, 0, none⟩) Tryd.underlying31 rfl Tryd.sizeOf2 rfl rfl) rfl rfl ?_
         refine RP.v1 43 rfl (Vl.load Tryd.isAgg2 rfl (hS.cell 2 rfl rfl)) rfl rfl ?_
         refine RP.v1 44 rfl (Vl.int rfl rfl rfl) rfl rfl ?_
         refine RP.v1 45 rfl (Vl.int rfl rfl rfl) rfl rfl ?_
         refine RP.v1 46 rfl (Vl.pickF rfl rfl) rfl rfl ?_
         refine RP.nil ?_
         refine RQ.then_n ?_
         by_cases hc5949 : IntKind.i64.wrap (4611686018427387903 - a5080.Key.Time) < (nth y5829 x5915).Delay
         case pos =>
          have h := h.pos hc5949
          refine RC.re 100 rfl (congrArg Value.bool (decide_eq_true hc5949)) ?_
          refine RC.condT rfl ?_
          refine RC.seq ?_
          refine RC.region ?_
          refine RL.s (Vl.assign rfl) rfl ?_
          refine RL.nil ?_
          refine RQ.then_n ?_
          refine RC.ret ?_
          refine RQ.inB_ret ?_
          refine RQ.ret ?_
          have h := h.inrS
          refine RQ.ret ?_
          refine RQ.inB_ret ?_
          refine RQ.ret ?_
          have e := h.some
          subst e
          refine RQ.ret0 (vs := [.bool false]) Tryd.results10 ⟨rfl, trivial⟩ ?_
          exact ⟨rfl, (((((hS.dropAt 0 rfl).dropAt 0 rfl).dropAt 0 rfl).dropAt 0 rfl).dropAt 0 rfl)⟩
         case neg =>
          have h := h.neg hc5949
          refine RC.re 100 rfl (congrArg Value.bool (decide_eq_false hc5949)) ?_
          refine RC.condF rfl ?_
          refine RC.skip ?_
          refine RQ.inB_n ?_
          refine RQ.then_n ?_
          refine RC.region ?_
          refine RL.s (Vl.move rfl) rfl ?_
          refine RL.s (Vl.int rfl rfl rfl) rfl ?_
          refine RL.s (Vl.assign rfl) rfl ?_
          refine RL.nil ?_
          exact fun a ha => ⟨(IntKind.i64.wrap (x5915 + 1)), ⟨(IntKind.i64.wrap (x5915 + 1)), rfl, ha.to ⟨rfl, rfl, rfl, rfl, rfl, rfl, trivial⟩, hS⟩, h.some⟩
     case neg =>
      have h := h.neg hc5935
      refine RC.re 51 rfl (congrArg Value.bool (decide_eq_false hc5935)) ?_
      refine RC.condF rfl ?_
      refine RC.exit ?_
      refine RQ.exitT ?_
      have h := h.inr
      refine RQ.exitT ?_
      refine RQ.inB_hit ?_
      refine RQ.then_n ?_
      refine RC.seq ?_
      refine RC.region ?_
      refine RL.s (Vl.loadA (vs := [.slice A5073 a5072.Prog.length c5074, .int .i64 a5072.Self, .slice A5076 a5072.Links.length c5077, .int .u64 a5072.Seed]) Tryd.isAgg26 Tryd.sizeOf26 rfl rfl (hS.cellsAt 4 rfl rfl)) rfl ?_
      refine RL.s (Vl.loadA (vs := [.int .i64 a5079.Regs.c0, .int .i64 a5079.Regs.c1, .int .i64 a5079.Regs.c2, .int .i64 a5079.Regs.c3, .int .i64 a5079.Regs.c4, .int .i64 a5079.Regs.c5, .int .i64 a5079.Regs.c6, .int .i64 a5079.Regs.c7, .int .i64 a5079.Draws, .int .i64 a5079.Sent]) Tryd.isAgg29 Tryd.sizeOf29 rfl rfl (hS.cellsAt 3 rfl rfl)) rfl ?_
      refine RL.s (Vl.loadA (vs := [.int .i64 a5080.Key.Time, .int .i64 a5080.Key.From, .int .i64 a5080.Key.Seq, .int .i64 a5080.To, .int .i64 a5080.Value, .int .i64 a5080.Uid, .bool a5080.Anti]) Tryd.isAgg33 Tryd.sizeOf33 rfl rfl (hS.cellsAt 2 rfl rfl)) rfl ?_
      refine RL.s (Vl.move rfl) rfl ?_
      obtain ⟨hf5953, hs5951, hS, hr5950, hb5952⟩ := St.lendSl hS
      obtain ⟨t5954, hg5955, h⟩ := h.bind
      refine RL.e (OW.callF (ls := [.tmp 101, .tmp 102, .tmp 103, .tmp 104, .const (.int .i64 5)]) rfl Tryd.call18 (vm_Sends.ok a5072 a5079 a5080 y5829 5 A5073 c5074 A5076 c5077 A5831 c5832 (hr5075.mono hs5951) (hr5078.mono hs5951) hr5950 _ hg5955 hS)) rfl rfl ?_
      rintro _ w ⟨A5956, c5957, rfl, hS⟩
      have hS := hb5952 _ _ hS
      have hS : St B w (OSf E_api_Out 58 (.slice A5831 y5829.length c5832) y5829 :: OSf E_api_Message 33 (.slice A5956 t5954.length c5957) t5954 :: Cl b5835 [.int .i64 y5828.Regs.c0, .int .i64 y5828.Regs.c1, .int .i64 y5828.Regs.c2, .int .i64 y5828.Regs.c3, .int .i64 y5828.Regs.c4, .int .i64 y5828.Regs.c5, .int .i64 y5828.Regs.c6, .int .i64 y5828.Regs.c7, .int .i64 y5828.Draws, .int .i64 y5828.Sent] 29 :: Cl b5825 [.int .i64 a5080.Key.Time, .int .i64 a5080.Key.From, .int .i64 a5080.Key.Seq, .int .i64 a5080.To, .int .i64 a5080.Value, .int .i64 a5080.Uid, .bool a5080.Anti] 33 :: Cl b5823 [.int .i64 a5079.Regs.c0, .int .i64 a5079.Regs.c1, .int .i64 a5079.Regs.c2, .int .i64 a5079.Regs.c3, .int .i64 a5079.Regs.c4, .int .i64 a5079.Regs.c5, .int .i64 a5079.Regs.c6, .int .i64 a5079.Regs.c7, .int .i64 a5079.Draws, .int .i64 a5079.Sent] 29 :: Cl b5821 [.slice A5073 a5072.Prog.length c5074, .int .i64 a5072.Self, .slice A5076 a5072.Links.length c5077, .int .u64 a5072.Seed] 26 :: l) hf := hS
      refine RL.s (Vl.assign rfl) rfl ?_
      refine RL.nil ?_
      refine RQ.then_n ?_
      refine RC.seq ?_
      refine RC.seq ?_
      refine RC.region ?_
      refine RL.s (Vl.assign rfl) rfl ?_
      refine RL.nil ?_
      refine RQ.then_n ?_
      refine RC.block ?_
      refine fun a ha => RC.loop (N := 197) (body := (isochronlaw05vVmLater.l8b a5079 a5080 y5828 y5829 t5954)) (φ := (· = r)) (fun (s : Int) a w => ∃ (x6048 : Int), s = (x6048) ∧ Has 197 [(4, .pointer (some ⟨b5823, 0, none⟩)), (5, .pointer (some ⟨b5825, 0, none⟩)), (7, .pointer (some ⟨b5835, 0, none⟩)), (8, .slice A5831 y5829.length c5832), (11, .slice A5956 t5954.length c5957), (12, .int .i64 x6048)] a ∧ St B w (OSf E_api_Out 58 (.slice A5831 y5829.length c5832) y5829 :: OSf E_api_Message 33 (.slice A5956 t5954.length c5957) t5954 :: Cl b5835 [.int .i64 y5828.Regs.c0, .int .i64 y5828.Regs.c1, .int .i64 y5828.Regs.c2, .int .i64 y5828.Regs.c3, .int .i64 y5828.Regs.c4, .int .i64 y5828.Regs.c5, .int .i64 y5828.Regs.c6, .int .i64 y5828.Regs.c7, .int .i64 y5828.Draws, .int .i64 y5828.Sent] 29 :: Cl b5825 [.int .i64 a5080.Key.Time, .int .i64 a5080.Key.From, .int .i64 a5080.Key.Seq, .int .i64 a5080.To, .int .i64 a5080.Value, .int .i64 a5080.Uid, .bool a5080.Anti] 33 :: Cl b5823 [.int .i64 a5079.Regs.c0, .int .i64 a5079.Regs.c1, .int .i64 a5079.Regs.c2, .int .i64 a5079.Regs.c3, .int .i64 a5079.Regs.c4, .int .i64 a5079.Regs.c5, .int .i64 a5079.Regs.c6, .int .i64 a5079.Regs.c7, .int .i64 a5079.Draws, .int .i64 a5079.Sent] 29 :: l) hf) ?_ (s0 := (0)) h ⟨0, rfl, ha.to ⟨rfl, rfl, rfl, rfl, rfl, rfl, trivial⟩, (hS.dropAt 5 rfl)⟩
      rintro G6072 x6048 a w ⟨_, rfl, ha, hS⟩ h
      revert a
      show RC _ _ _ _ _ _
      refine RC.seq ?_
      refine RC.seq ?_
      refine RC.region ?_
      refine RL.s (Vl.move rfl) rfl ?_
      refine RL.s (Vl.move rfl) rfl ?_
      refine RL.s (Vl.lenSl Tryd.underlying60 rfl) rfl ?_
      refine RL.s (Vl.int rfl rfl rfl) rfl ?_
      refine RL.nil ?_
      refine RQ.then_n ?_
      by_cases hc6074 : x6048 < (t5954.length : Int)
      case pos =>
       have h := h.pos hc6074
       refine RC.re 109 rfl (congrArg Value.bool (decide_eq_true hc6074)) ?_
       refine RC.condT rfl ?_
       refine RC.skip ?_
       refine RQ.then_n ?_
       refine RC.seq ?_
       refine RC.block ?_
       refine RC.seq ?_
       refine RC.plan (.pure 0 (.pure 1 (.cons 2 true (.cons 3 true (.cons 4 false (.pure 5 (.pure 6 (.pure 7 (.cons 8 true (.pure 9 (.pure 10 (.cons 11 true (.pure 12 (.cons 13 true (.cons 14 false (.pure 15 (.pure 16 (.pure 17 (.pure 18 (.pure 19 (.cons 20 true (.pure 21 (.pure 22 (.cons 23 true (.pure 24 (.cons 25 true (.pure 26 (.pure 27 (.pure 28 (.pure 29 (.pure 30 (.pure 31 (.pure 32 (.cons 33 true (.pure 34 (.cons 35 true (.pure 36 (.pure 37 (.pure 38 (.pure 39 (.pure 40 (.pure 41 (.cons 42 false (.cons 43 false (.cons 44 false (.cons 45 false (.cons 46 false .nil))))))))))))))))))))))))))))))))))))))))))))))) [] (fun w => St B w (OSf E_api_Out 58 (.slice A5831 y5829.length c5832) y5829 :: OSf E_api_Message 33 (.slice A5956 t5954.length c5957) t5954 :: Cl b5835 [.int .i64 y5828.Regs.c0, .int .i64 y5828.Regs.c1, .int .i64 y5828.Regs.c2, .int .i64 y5828.Regs.c3, .int .i64 y5828.Regs.c4, .int .i64 y5828.Regs.c5, .int .i64 y5828.Regs.c6, .int .i64 y5828.Regs.c7, .int .i64 y5828.Draws, .int .i64 y5828.Sent] 29 :: Cl b5825 [.int .i64 a5080.Key.Time, .int .i64 a5080.Key.From, .int .i64 a5080.Key.Seq, .int .i64 a5080.To, .int .i64 a5080.Value, .int .i64 a5080.Uid, .bool a5080.Anti] 33 :: Cl b5823 [.int .i64 a5079.Regs.c0, .int .i64 a5079.Regs.c1, .int .i64 a5079.Regs.c2, .int .i64 a5079.Regs.c3, .int .i64 a5079.Regs.c4, .int .i64 a5079.Regs.c5, .int .i64 a5079.Regs.c6, .int .i64 a5079.Regs.c7, .int .i64 a5079.Draws, .int .i64 a5079.Sent] 29 :: l) hf) follows rfl (by kernel_rfl) (NoTmp.then (NoTmp.block (NoTmp.then (NoTmp.then (NoTmp.block (NoTmp.then NoTmp.body)))))) ?_
       have hS := hS.same (w' := { w with drawn := w.drawn + 1 }) rfl rfl
       revert hS
       generalize { w with drawn := w.drawn + 1 } = w
       intro hS
       refine RP.s0 0 rfl (fun w => Vl.move rfl) rfl ?_
       refine RP.s0 1 rfl (fun w => Vl.move rfl) rfl ?_
       obtain ⟨hq6085, h⟩ := h.req
       refine RP.s 2 rfl rfl hS (fun w hS => Vl.indexAddr Tryd.underlying60 Tryd.sizeOf33 rfl rfl ((hS.slW 1 rfl).2.2.adr hq6085 hc6074) hq6085 hc6074 rfl) rfl ?_
       refine RP.s 3 rfl rfl hS (fun w hS => Vl.loadA Tryd.isAgg33 Tryd.sizeOf33 rfl rfl ((hS.slW 1 rfl).2.2.cells hq6085 hc6074)) rfl ?_
       obtain ⟨t6086, hg6087, h⟩ := h.bind
       refine RP.e 4 rfl (OW.callF (ls := [.tmp 115]) rfl Tryd.call17 (event_Check.ok (⟨(nth t5954 x6048).Key, (nth t5954 x6048).To, (nth t5954 x6048).Value, (nth t5954 x6048).Uid, ((nth t5954 x6048).Anti)⟩ : api_Message) _ hg6087 hS)) rfl rfl ?_
       rintro _ w ⟨rfl, hS⟩
       have hS : St B w (OSf E_api_Out 58 (.slice A5831 y5829.length c5832) y5829 :: OSf E_api_Message 33 (.slice A5956 t5954.length c5957) t5954 :: Cl b5835 [.int .i64 y5828.Regs.c0, .int .i64 y5828.Regs.c1, .int .i64 y5828.Regs.c2, .int .i64 y5828.Regs.c3, .int .i64 y5828.Regs.c4, .int .i64 y5828.Regs.c5, .int .i64 y5828.Regs.c6, .int .i64 y5828.Regs.c7, .int .i64 y5828.Draws, .int .i64 y5828.Sent] 29 :: Cl b5825 [.int .i64 a5080.Key.Time, .int .i64 a5080.Key.From, .int .i64 a5080.Key.Seq, .int .i64 a5080.To, .int .i64 a5080.Value, .int .i64 a5080.Uid, .bool a5080.Anti] 33 :: Cl b5823 [.int .i64 a5079.Regs.c0, .int .i64 a5079.Regs.c1, .int .i64 a5079.Regs.c2, .int .i64 a5079.Regs.c3, .int .i64 a5079.Regs.c4, .int .i64 a5079.Regs.c5, .int .i64 a5079.Regs.c6, .int .i64 a5079.Regs.c7, .int .i64 a5079.Draws, .int .i64 a5079.Sent] 29 :: l) hf := hS
       refine ⟨fun _ => hS, ?_⟩
       refine RP.s0 5 rfl (fun w => Vl.int rfl rfl rfl) rfl ?_
       refine RP.s0 6 rfl (fun w => Vl.move rfl) rfl ?_
       by_cases hc6088 : t6086 = 0
       case pos =>
        have h := h.pos hc6088
        refine RP.re 118 rfl (congrArg Value.bool (notdec_pos hc6088)) ?_
        refine RP.sg0 7 rfl (fun w => Vl.fieldAddr (a'' := ⟨b5825, 0, none⟩) Tryd.underlying33 rfl Tryd.sizeOf31 rfl rfl) rfl rfl ?_
        refine RP.sg 8 rfl rfl hS (fun w hS => Vl.loadA (vs := [.int .i64 a5080.Key.Time, .int .i64 a5080.Key.From, .int .i64 a5080.Key.Seq]) Tryd.isAgg31 Tryd.sizeOf31 rfl rfl (hS.cellsAt 3 rfl rfl)) rfl rfl ?_
        refine RP.sg0 9 rfl (fun w => Vl.move rfl) rfl rfl ?_
        refine RP.sg0 10 rfl (fun w => Vl.move rfl) rfl rfl ?_
        refine RP.sg 11 rfl rfl hS (fun w hS => Vl.indexAddr Tryd.underlying60 Tryd.sizeOf33 rfl rfl ((hS.slW 1 rfl).2.2.adr hq6085 hc6074) hq6085 hc6074 rfl) rfl rfl ?_
        refine RP.sg0 12 rfl (fun w => Vl.fieldAddr (a'' := (ad A5956).add (x6048.toNat * 7 + 0)) Tryd.underlying33 rfl Tryd.sizeOf31 rfl (add_add _ _ _)) rfl rfl ?_
        refine RP.sg 13 rfl rfl hS (fun w hS => Vl.loadA (vs := [.int .i64 (((nth t5954 x6048).Key).Time), .int .i64 (((nth t5954 x6048).Key).From), .int .i64 (((nth t5954 x6048).Key).Seq)]) Tryd.isAgg31 Tryd.sizeOf31 rfl rfl ((hS.slW 1 rfl).2.2.part (off := 0) hq6085 hc6074 rfl)) rfl rfl ?_
        obtain ⟨t6089, hg6090, h⟩ := h.bind
        refine RP.e 14 rfl (OW.callF (ls := [.tmp 120, .tmp 125]) rfl Tryd.call19 (event_Compare.ok a5080.Key ((nth t5954 x6048).Key) _ hg6090 hS)) rfl rfl ?_
        rintro _ w ⟨rfl, hS⟩
        have hS : St B w (OSf E_api_Out 58 (.slice A5831 y5829.length c5832) y5829 :: OSf E_api_Message 33 (.slice A5956 t5954.length c5957) t5954 :: Cl b5835 [.int .i64 y5828.Regs.c0, .int .i64 y5828.Regs.c1, .int .i64 y5828.Regs.c2, .int .i64 y5828.Regs.c3, .int .i64 y5828.Regs.c4, .int .i64 y5828.Regs.c5, .int .i64 y5828.Regs.c6, .int .i64 y5828.Regs.c7, .int .i64 y5828.Draws, .int .i64 y5828.Sent] 29 :: Cl b5825 [.int .i64 a5080.Key.Time, .int .i64 a5080.Key.From, .int .i64 a5080.Key.Seq, .int .i64 a5080.To, .int .i64 a5080.Value, .int .i64 a5080.Uid, .bool a5080.Anti] 33 :: Cl b5823 [.int .i64 a5079.Regs.c0, .int .i64 a5079.Regs.c1, .int .i64 a5079.Regs.c2, .int .i64 a5079.Regs.c3, .int .i64 a5079.Regs.c4, .int .i64 a5079.Regs.c5, .int .i64 a5079.Regs.c6, .int .i64 a5079.Regs.c7, .int .i64 a5079.Draws, .int .i64 a5079.Sent] 29 :: l) hf := hS
        refine ⟨fun _ => hS, ?_⟩
        refine RP.sg0 15 rfl (fun w => Vl.int rfl rfl rfl) rfl rfl ?_
        refine RP.s0 16 rfl (fun w => Vl.pickF rfl rfl) rfl ?_
        refine RP.s0 17 rfl (fun w => Vl.move rfl) rfl ?_
        by_cases hc6091 : t6089 = (-1)
        case pos =>
         have h := h.pos hc6091
         refine RP.re 129 rfl (congrArg Value.bool (notdec_pos hc6091)) ?_
         refine RP.sg0 18 rfl (fun w => Vl.move rfl) rfl rfl ?_
         refine RP.sg0 19 rfl (fun w => Vl.move rfl) rfl rfl ?_
         refine RP.sg 20 rfl rfl hS (fun w hS => Vl.indexAddr Tryd.underlying60 Tryd.sizeOf33 rfl rfl ((hS.slW 1 rfl).2.2.adr hq6085 hc6074) hq6085 hc6074 rfl) rfl rfl ?_
         refine RP.sg0 21 rfl (fun w => Vl.fieldAddr (a'' := (ad A5956).add (x6048.toNat * 7 + 0)) Tryd.underlying33 rfl Tryd.sizeOf31 rfl (add_add _ _ _)) rfl rfl ?_
         refine RP.sg0 22 rfl (fun w => Vl.fieldAddr (a'' := (ad A5956).add (x6048.toNat * 7 + 2)) Tryd.underlying31 rfl Tryd.sizeOf3 rfl (add_add _ _ _)) rfl rfl ?_
         refine RP.sg 23 rfl rfl hS (fun w hS => Vl.load Tryd.isAgg3 rfl ((hS.slW 1 rfl).2.2.cell (j := 2) hq6085 hc6074 rfl)) rfl rfl ?_
         refine RP.sg0 24 rfl (fun w => Vl.fieldAddr (a'' := ⟨b5823, 9, none⟩) Tryd.underlying29 rfl Tryd.sizeOf3 rfl rfl) rfl rfl ?_
         refine RP.sg 25 rfl rfl hS (fun w hS => Vl.load Tryd.isAgg3 rfl (hS.cell 4 rfl rfl)) rfl rfl ?_
         refine RP.sg0 26 rfl (fun w => Vl.move rfl) rfl rfl ?_
         refine RP.sg0 27 rfl (fun w => Vl.int rfl rfl rfl) rfl rfl ?_
         refine RP.sg0 28 rfl (fun w => Vl.int rfl rfl rfl) rfl rfl ?_
         refine RP.s0 29 rfl (fun w => Vl.pickF rfl rfl) rfl ?_
         refine RP.s0 30 rfl (fun w => Vl.move rfl) rfl ?_
         by_cases hc6092 : ((nth t5954 x6048).Key).Seq = IntKind.i64.wrap (a5079.Sent + x6048)
         case pos =>
          have h := h.pos hc6092
          refine RP.re 142 rfl (congrArg Value.bool (notdec_pos hc6092)) ?_
          refine RP.sg0 31 rfl (fun w => Vl.move rfl) rfl rfl ?_
          refine RP.sg0 32 rfl (fun w => Vl.move rfl) rfl rfl ?_
          refine RP.sg 33 rfl rfl hS (fun w hS => Vl.indexAddr Tryd.underlying60 Tryd.sizeOf33 rfl rfl ((hS.slW 1 rfl).2.2.adr hq6085 hc6074) hq6085 hc6074 rfl) rfl rfl ?_
          refine RP.sg0 34 rfl (fun w => Vl.fieldAddr (a'' := (ad A5956).add (x6048.toNat * 7 + 5)) Tryd.underlying33 rfl Tryd.sizeOf3 rfl (add_add _ _ _)) rfl rfl ?_
          refine RP.sg 35 rfl rfl hS (fun w hS => Vl.load Tryd.isAgg3 rfl ((hS.slW 1 rfl).2.2.cell (j := 5) hq6085 hc6074 rfl)) rfl rfl ?_
          refine RP.sg0 36 rfl (fun w => Vl.move rfl) rfl rfl ?_
          refine RP.sg0 37 rfl (fun w => Vl.int rfl rfl rfl) rfl rfl ?_
          refine RP.sg0 38 rfl (fun w => Vl.int rfl rfl rfl) rfl rfl ?_
          refine RP.s0 39 rfl (fun w => Vl.pickF rfl rfl) rfl ?_
          refine RP.s0 40 rfl (fun w => Vl.move rfl) rfl ?_
          by_cases hc6093 : (nth t5954 x6048).Uid = IntKind.i64.wrap (5 + x6048)
          case pos =>
           have h := h.pos hc6093
           refine RP.re 152 rfl (congrArg Value.bool (notdec_pos hc6093)) ?_
           refine RP.sg0 41 rfl (fun w => Vl.move rfl) rfl rfl ?_
           refine RP.v1 42 rfl (Vl.move rfl) rfl rfl ?_
           refine RP.v1 43 rfl (Vl.indexAddr Tryd.underlying60 Tryd.sizeOf33 rfl rfl ((hS.slW 1 rfl).2.2.adr hq6085 hc6074) hq6085 hc6074 rfl) rfl rfl ?_
           refine RP.v1 44 rfl (Vl.fieldAddr (a'' := (ad A5956).add (x6048.toNat * 7 + 6)) Tryd.underlying33 rfl Tryd.sizeOf4 rfl (add_add _ _ _)) rfl rfl ?_
           refine RP.v1 45 rfl (Vl.load Tryd.isAgg4 rfl ((hS.slW 1 rfl).2.2.cell (j := 6) hq6085 hc6074 rfl)) rfl rfl ?_
           refine RP.v1 46 rfl (Vl.pickF rfl rfl) rfl rfl ?_
           refine RP.nil ?_
           refine RQ.then_n ?_
           by_cases hc6094 : (nth t5954 x6048).Anti = true
           case pos =>
            have h := h.pos hc6094
            refine RC.re 158 rfl (congrArg Value.bool (id hc6094)) ?_
            refine RC.condT rfl ?_
            refine RC.seq ?_
            refine RC.region ?_
            refine RL.s (Vl.assign rfl) rfl ?_
            refine RL.nil ?_
            refine RQ.then_n ?_
            refine RC.ret ?_
            refine RQ.inB_ret ?_
            refine RQ.ret ?_
            have h := h.inrS
            refine RQ.ret ?_
            refine RQ.inB_ret ?_
            refine RQ.ret ?_
            have e := h.some
            subst e
            refine RQ.ret0 (vs := [.bool false]) Tryd.results10 ⟨rfl, trivial⟩ ?_
            exact ⟨rfl, (((((hS.dropAt 0 rfl).dropAt 0 rfl).dropAt 0 rfl).dropAt 0 rfl).dropAt 0 rfl)⟩
           case neg =>
            have h := h.neg hc6094
            refine RC.re 158 rfl (congrArg Value.bool (eq_false_of hc6094)) ?_
            refine RC.condF rfl ?_
            refine RC.skip ?_
            refine RQ.inB_n ?_
            refine RQ.then_n ?_
            refine RC.region ?_
            refine RL.s (Vl.move rfl) rfl ?_
            refine RL.s (Vl.int rfl rfl rfl) rfl ?_
            refine RL.s (Vl.assign rfl) rfl ?_
            refine RL.nil ?_
            exact fun a ha => ⟨(IntKind.i64.wrap (x6048 + 1)), ⟨(IntKind.i64.wrap (x6048 + 1)), rfl, ha.to ⟨rfl, rfl, rfl, rfl, rfl, rfl, trivial⟩, hS⟩, h.some⟩
          case neg =>
           have h := h.neg hc6093
           refine RP.re 152 rfl (congrArg Value.bool (notdec_neg hc6093)) ?_
           refine RP.nn0 41 rfl rfl rfl ?_
           refine RP.n1 42 rfl rfl rfl ?_
           refine RP.n1 43 rfl rfl rfl ?_
           refine RP.n1 44 rfl rfl rfl ?_
           refine RP.n1 45 rfl rfl rfl ?_
           refine RP.v1 46 rfl (Vl.pickT rfl rfl) rfl rfl ?_
           refine RP.nil ?_
           refine RQ.then_n ?_
           refine RC.condT rfl ?_
           refine RC.seq ?_
           refine RC.region ?_
           refine RL.s (Vl.assign rfl) rfl ?_
           refine RL.nil ?_
           refine RQ.then_n ?_
           refine RC.ret ?_
           refine RQ.inB_ret ?_
           refine RQ.ret ?_
           have h := h.inrS
           refine RQ.ret ?_
           refine RQ.inB_ret ?_
           refine RQ.ret ?_
           have e := h.some
           subst e
           refine RQ.ret0 (vs := [.bool false]) Tryd.results10 ⟨rfl, trivial⟩ ?_
           exact ⟨rfl, (((((hS.dropAt 0 rfl).dropAt 0 rfl).dropAt 0 rfl).dropAt 0 rfl).dropAt 0 rfl)⟩
         case neg =>
          have h := h.neg hc6092
          refine RP.re 142 rfl (congrArg Value.bool (notdec_neg hc6092)) ?_
          refine RP.nn0 31 rfl rfl rfl ?_
          refine RP.nn0 32 rfl rfl rfl ?_
          refine RP.nn 33 rfl rfl rfl ?_
          refine RP.nn0 34 rfl rfl rfl ?_
          refine RP.nn 35 rfl rfl rfl ?_
          refine RP.nn0 36 rfl rfl rfl ?_
          refine RP.nn0 37 rfl rfl rfl ?_
          refine RP.nn0 38 rfl rfl rfl ?_
          refine RP.s0 39 rfl (fun w => Vl.pickT rfl rfl) rfl ?_
          refine RP.s0 40 rfl (fun w => Vl.move rfl) rfl ?_
          refine RP.nn0 41 rfl rfl rfl ?_
          refine RP.n1 42 rfl rfl rfl ?_
          refine RP.n1 43 rfl rfl rfl ?_
          refine RP.n1 44 rfl rfl rfl ?_
          refine RP.n1 45 rfl rfl rfl ?_
          refine RP.v1 46 rfl (Vl.pickT rfl rfl) rfl rfl ?_
          refine RP.nil ?_
          refine RQ.then_n ?_
          refine RC.condT rfl ?_
          refine RC.seq ?_
          refine RC.region ?_
          refine RL.s (Vl.assign rfl) rfl ?_
          refine RL.nil ?_
          refine RQ.then_n ?_
          refine RC.ret ?_
          refine RQ.inB_ret ?_
          refine RQ.ret ?_
          have h := h.inrS
          refine RQ.ret ?_
          refine RQ.inB_ret ?_
          refine RQ.ret ?_
          have e := h.some
          subst e
          refine RQ.ret0 (vs := [.bool false]) Tryd.results10 ⟨rfl, trivial⟩ ?_
          exact ⟨rfl, (((((hS.dropAt 0 rfl).dropAt 0 rfl).dropAt 0 rfl).dropAt 0 rfl).dropAt 0 rfl)⟩
        case neg =>
         have h := h.neg hc6091
         refine RP.re 129 rfl (congrArg Value.bool (notdec_neg hc6091)) ?_
         refine RP.nn0 18 rfl rfl rfl ?_
         refine RP.nn0 19 rfl rfl rfl ?_
         refine RP.nn 20 rfl rfl rfl ?_
         refine RP.nn0 21 rfl rfl rfl ?_
         refine RP.nn0 22 rfl rfl rfl ?_
         refine RP.nn 23 rfl rfl rfl ?_
         refine RP.nn0 24 rfl rfl rfl ?_
         refine RP.nn 25 rfl rfl rfl ?_
         refine RP.nn0 26 rfl rfl rfl ?_
         refine RP.nn0 27 rfl rfl rfl ?_
         refine RP.nn0 28 rfl rfl rfl ?_
         refine RP.s0 29 rfl (fun w => Vl.pickT rfl rfl) rfl ?_
         refine RP.s0 30 rfl (fun w => Vl.move rfl) rfl ?_
         refine RP.nn0 31 rfl rfl rfl ?_
         refine RP.nn0 32 rfl rfl rfl ?_
         refine RP.nn 33 rfl rfl rfl ?_
         refine RP.nn0 34 rfl rfl rfl ?_
         refine RP.nn 35 rfl rfl rfl ?_
         refine RP.nn0 36 rfl rfl rfl ?_
         refine RP.nn0 37 rfl rfl rfl ?_
         refine RP.nn0 38 rfl rfl rfl ?_
         refine RP.s0 39 rfl (fun w => Vl.pickT rfl rfl) rfl ?_
         refine RP.s0 40 rfl (fun w => Vl.move rfl) rfl ?_
         refine RP.nn0 41 rfl rfl rfl ?_
         refine RP.n1 42 rfl rfl rfl ?_
         refine RP.n1 43 rfl rfl rfl ?_
         refine RP.n1 44 rfl rfl rfl ?_
         refine RP.n1 45 rfl rfl rfl ?_
         refine RP.v1 46 rfl (Vl.pickT rfl rfl) rfl rfl ?_
         refine RP.nil ?_
         refine RQ.then_n ?_
         refine RC.condT rfl ?_
         refine RC.seq ?_
         refine RC.region ?_
         refine RL.s (Vl.assign rfl) rfl ?_
         refine RL.nil ?_
         refine RQ.then_n ?_
         refine RC.ret ?_
         refine RQ.inB_ret ?_
         refine RQ.ret ?_
         have h := h.inrS
         refine RQ.ret ?_
         refine RQ.inB_ret ?_
         refine RQ.ret ?_
         have e := h.some
         subst e
         refine RQ.ret0 (vs := [.bool false]) Tryd.results10 ⟨rfl, trivial⟩ ?_
         exact ⟨rfl, (((((hS.dropAt 0 rfl).dropAt 0 rfl).dropAt 0 rfl).dropAt 0 rfl).dropAt 0 rfl)⟩
       case neg =>
        have h := h.neg hc6088
        refine RP.re 118 rfl (congrArg Value.bool (notdec_neg hc6088)) ?_
        refine RP.nn0 7 rfl rfl rfl ?_
        refine RP.nn 8 rfl rfl rfl ?_
        refine RP.nn0 9 rfl rfl rfl ?_
        refine RP.nn0 10 rfl rfl rfl ?_
        refine RP.nn 11 rfl rfl rfl ?_
        refine RP.nn0 12 rfl rfl rfl ?_
        refine RP.nn 13 rfl rfl rfl ?_
        refine RP.n1 14 rfl rfl rfl ?_
        refine RP.nn0 15 rfl rfl rfl ?_
        refine RP.s0 16 rfl (fun w => Vl.pickT rfl rfl) rfl ?_
        refine RP.s0 17 rfl (fun w => Vl.move rfl) rfl ?_
        refine RP.nn0 18 rfl rfl rfl ?_
        refine RP.nn0 19 rfl rfl rfl ?_
        refine RP.nn 20 rfl rfl rfl ?_
        refine RP.nn0 21 rfl rfl rfl ?_
        refine RP.nn0 22 rfl rfl rfl ?_
        refine RP.nn 23 rfl rfl rfl ?_
        refine RP.nn0 24 rfl rfl rfl ?_
        refine RP.nn 25 rfl rfl rfl ?_
        refine RP.nn0 26 rfl rfl rfl ?_
        refine RP.nn0 27 rfl rfl rfl ?_
        refine RP.nn0 28 rfl rfl rfl ?_
        refine RP.s0 29 rfl (fun w => Vl.pickT rfl rfl) rfl ?_
        refine RP.s0 30 rfl (fun w => Vl.move rfl) rfl ?_
        refine RP.nn0 31 rfl rfl rfl ?_
        refine RP.nn0 32 rfl rfl rfl ?_
        refine RP.nn 33 rfl rfl rfl ?_
        refine RP.nn0 34 rfl rfl rfl ?_
        refine RP.nn 35 rfl rfl rfl ?_
        refine RP.nn0 36 rfl rfl rfl ?_
        refine RP.nn0 37 rfl rfl rfl ?_
        refine RP.nn0 38 rfl rfl rfl ?_
        refine RP.s0 39 rfl (fun w => Vl.pickT rfl rfl) rfl ?_
        refine RP.s0 40 rfl (fun w => Vl.move rfl) rfl ?_
        refine RP.nn0 41 rfl rfl rfl ?_
        refine RP.n1 42 rfl rfl rfl ?_
        refine RP.n1 43 rfl rfl rfl ?_
        refine RP.n1 44 rfl rfl rfl ?_
        refine RP.n1 45 rfl rfl rfl ?_
        refine RP.v1 46 rfl (Vl.pickT rfl rfl) rfl rfl ?_
        refine RP.nil ?_
        refine RQ.then_n ?_
        refine RC.condT rfl ?_
        refine RC.seq ?_
        refine RC.region ?_
        refine RL.s (Vl.assign rfl) rfl ?_
        refine RL.nil ?_
        refine RQ.then_n ?_
        refine RC.ret ?_
        refine RQ.inB_ret ?_
        refine RQ.ret ?_
        have h := h.inrS
        refine RQ.ret ?_
        refine RQ.inB_ret ?_
        refine RQ.ret ?_
        have e := h.some
        subst e
        refine RQ.ret0 (vs := [.bool false]) Tryd.results10 ⟨rfl, trivial⟩ ?_
        exact ⟨rfl, (((((hS.dropAt 0 rfl).dropAt 0 rfl).dropAt 0 rfl).dropAt 0 rfl).dropAt 0 rfl)⟩
      case neg =>
       have h := h.neg hc6074
       refine RC.re 109 rfl (congrArg Value.bool (decide_eq_false hc6074)) ?_
       refine RC.condF rfl ?_
       refine RC.exit ?_
       refine RQ.exitT ?_
       have h := h.inr
       refine RQ.exitT ?_
       refine RQ.inB_hit ?_
       refine RQ.then_n ?_
       refine RC.seq ?_
       refine RC.region ?_
       refine RL.s (Vl.move rfl) rfl ?_
       refine RL.s (Vl.lenSl Tryd.underlying34 rfl) rfl ?_
       refine RL.s (Vl.int rfl rfl rfl) rfl ?_
       refine RL.s (Vl.move rfl) rfl ?_
       by_cases hc6095 : (y5829.length : Int) ≤ 8
       case pos =>
        have h := h.pos hc6095
        refine RL.re 162 rfl (congrArg Value.bool (decide_eq_true hc6095)) ?_
        refine RL.sg (Vl.fieldAddr (a'' := ⟨b5835, 9, none⟩) Tryd.underlying29 rfl Tryd.sizeOf3 rfl rfl) rfl rfl ?_
        refine RL.sg (Vl.load Tryd.isAgg3 rfl (hS.cell 2 rfl rfl)) rfl rfl ?_
        refine RL.sg (Vl.fieldAddr (a'' := ⟨b5823, 9, none⟩) Tryd.underlying29 rfl Tryd.sizeOf3 rfl rfl) rfl rfl ?_
        refine RL.sg (Vl.load Tryd.isAgg3 rfl (hS.cell 4 rfl rfl)) rfl rfl ?_
        refine RL.sg (Vl.move rfl) rfl rfl ?_
        refine RL.sg (Vl.lenSl Tryd.underlying34 rfl) rfl rfl ?_
        refine RL.sg (Vl.int rfl rfl rfl) rfl rfl ?_
        refine RL.sg (Vl.int rfl rfl rfl) rfl rfl ?_
        refine RL.s (Vl.pickT rfl rfl) rfl ?_
        refine RL.s (Vl.move rfl) rfl ?_
        by_cases hc6096 : y5828.Sent = IntKind.i64.wrap (a5079.Sent + (y5829.length : Int))
        case pos =>
         have h := h.pos hc6096
         refine RL.re 172 rfl (congrArg Value.bool (decide_eq_true hc6096)) ?_
         refine RL.sg (Vl.fieldAddr (a'' := ⟨b5835, 8, none⟩) Tryd.underlying29 rfl Tryd.sizeOf3 rfl rfl) rfl rfl ?_
         refine RL.sg (Vl.load Tryd.isAgg3 rfl (hS.cell 2 rfl rfl)) rfl rfl ?_
         refine RL.sg (Vl.fieldAddr (a'' := ⟨b5823, 8, none⟩) Tryd.underlying29 rfl Tryd.sizeOf3 rfl rfl) rfl rfl ?_
         refine RL.sg (Vl.load Tryd.isAgg3 rfl (hS.cell 4 rfl rfl)) rfl rfl ?_
         refine RL.sg (Vl.int rfl rfl rfl) rfl rfl ?_
         refine RL.s (Vl.pickT rfl rfl) rfl ?_
         refine RL.s (Vl.move rfl) rfl ?_
         by_cases hc6097 : a5079.Draws ≤ y5828.Draws
         case pos =>
          have h := h.pos hc6097
          refine RL.re 179 rfl (congrArg Value.bool (decide_eq_true hc6097)) ?_
          refine RL.sg (Vl.fieldAddr (a'' := ⟨b5835, 8, none⟩) Tryd.underlying29 rfl Tryd.sizeOf3 rfl rfl) rfl rfl ?_
          refine RL.sg (Vl.load Tryd.isAgg3 rfl (hS.cell 2 rfl rfl)) rfl rfl ?_
          refine RL.sg (Vl.fieldAddr (a'' := ⟨b5823, 8, none⟩) Tryd.underlying29 rfl Tryd.sizeOf3 rfl rfl) rfl rfl ?_
          refine RL.sg (Vl.load Tryd.isAgg3 rfl (hS.cell 4 rfl rfl)) rfl rfl ?_
          refine RL.sg (Vl.int rfl rfl rfl) rfl rfl ?_
          refine RL.sg (Vl.int rfl rfl rfl) rfl rfl ?_
          refine RL.s (Vl.pickT rfl rfl) rfl ?_
          refine RL.s (Vl.move rfl) rfl ?_
          by_cases hc6098 : y5828.Draws ≤ IntKind.i64.wrap (a5079.Draws + 4096)
          case pos =>
           have h := h.pos hc6098
           refine RL.re 187 rfl (congrArg Value.bool (decide_eq_true hc6098)) ?_
           refine RL.sg (Vl.move rfl) rfl rfl ?_
           refine RL.sg (Vl.lenSl Tryd.underlying60 rfl) rfl rfl ?_
           refine RL.sg (Vl.move rfl) rfl rfl ?_
           refine RL.sg (Vl.lenSl Tryd.underlying34 rfl) rfl rfl ?_
           refine RL.sg (Vl.int rfl rfl rfl) rfl rfl ?_
           refine RL.s (Vl.pickT rfl rfl) rfl ?_
           refine RL.s (Vl.move rfl) rfl ?_
           by_cases hc6099 : (t5954.length : Int) = (y5829.length : Int)
           case pos =>
            have h := h.pos hc6099
            refine RL.re 194 rfl (congrArg Value.bool (decide_eq_true hc6099)) ?_
            obtain ⟨t6100, hg6101, h⟩ := h.bind
            refine RL.e (OW.callF (ls := []) rfl Tryd.call14 (isochronlaw05vawake.ok hG0 _ hg6101 hS)) rfl rfl ?_
            rintro _ w ⟨rfl, hS⟩
            have hS : St B w (OSf E_api_Out 58 (.slice A5831 y5829.length c5832) y5829 :: OSf E_api_Message 33 (.slice A5956 t5954.length c5957) t5954 :: Cl b5835 [.int .i64 y5828.Regs.c0, .int .i64 y5828.Regs.c1, .int .i64 y5828.Regs.c2, .int .i64 y5828.Regs.c3, .int .i64 y5828.Regs.c4, .int .i64 y5828.Regs.c5, .int .i64 y5828.Regs.c6, .int .i64 y5828.Regs.c7, .int .i64 y5828.Draws, .int .i64 y5828.Sent] 29 :: Cl b5825 [.int .i64 a5080.Key.Time, .int .i64 a5080.Key.From, .int .i64 a5080.Key.Seq, .int .i64 a5080.To, .int .i64 a5080.Value, .int .i64 a5080.Uid, .bool a5080.Anti] 33 :: Cl b5823 [.int .i64 a5079.Regs.c0, .int .i64 a5079.Regs.c1, .int .i64 a5079.Regs.c2, .int .i64 a5079.Regs.c3, .int .i64 a5079.Regs.c4, .int .i64 a5079.Regs.c5, .int .i64 a5079.Regs.c6, .int .i64 a5079.Regs.c7, .int .i64 a5079.Draws, .int .i64 a5079.Sent] 29 :: l) hf := hS
            refine RL.s (Vl.pickT rfl rfl) rfl ?_
            refine RL.s (Vl.assign rfl) rfl ?_
            refine RL.nil ?_
            refine RQ.then_n ?_
            refine RC.ret ?_
            have e := h.some
            subst e
            refine RQ.ret0 (vs := [.bool t6100]) Tryd.results10 ⟨rfl, trivial⟩ ?_
            exact ⟨rfl, (((((hS.dropAt 0 rfl).dropAt 0 rfl).dropAt 0 rfl).dropAt 0 rfl).dropAt 0 rfl)⟩
           case neg =>
            have h := h.neg hc6099
            refine RL.re 194 rfl (congrArg Value.bool (decide_eq_false hc6099)) ?_
            refine RL.nn rfl rfl ?_
            refine RL.s (Vl.pickF rfl rfl) rfl ?_
            refine RL.s (Vl.assign rfl) rfl ?_
            refine RL.nil ?_
            refine RQ.then_n ?_
            refine RC.ret ?_
            have e := h.some
            subst e
            refine RQ.ret0 (vs := [.bool false]) Tryd.results10 ⟨rfl, trivial⟩ ?_
            exact ⟨rfl, (((((hS.dropAt 0 rfl).dropAt 0 rfl).dropAt 0 rfl).dropAt 0 rfl).dropAt 0 rfl)⟩
          case neg =>
           have h := h.neg hc6098
           refine RL.re 187 rfl (congrArg Value.bool (decide_eq_false hc6098)) ?_
           refine RL.nn rfl rfl ?_
           refine RL.nn rfl rfl ?_
           refine RL.nn rfl rfl ?_
           refine RL.nn rfl rfl ?_
           refine RL.nn rfl rfl ?_
           refine RL.s (Vl.pickF rfl rfl) rfl ?_
           refine RL.s (Vl.move rfl) rfl ?_
           refine RL.nn rfl rfl ?_
           refine RL.s (Vl.pickF rfl rfl) rfl ?_
           refine RL.s (Vl.assign rfl) rfl ?_
           refine RL.nil ?_
           refine RQ.then_n ?_
           refine RC.ret ?_
           have e := h.some
           subst e
           refine RQ.ret0 (vs := [.bool false]) Tryd.results10 ⟨rfl, trivial⟩ ?_
           exact ⟨rfl, (((((hS.dropAt 0 rfl).dropAt 0 rfl).dropAt 0 rfl).dropAt 0 rfl).dropAt 0 rfl)⟩
         case neg =>
          have h := h.neg hc6097
          refine RL.re 179 rfl (congrArg Value.bool (decide_eq_false hc6097)) ?_
          refine RL.nn rfl rfl ?_
          refine RL.nn rfl rfl ?_
          refine RL.nn rfl rfl ?_
          refine RL.nn rfl rfl ?_
          refine RL.nn rfl rfl ?_
          refine RL.nn rfl rfl ?_
          refine RL.s (Vl.pickF rfl rfl) rfl ?_
          refine RL.s (Vl.move rfl) rfl ?_
          refine RL.nn rfl rfl ?_
          refine RL.nn rfl rfl ?_
          refine RL.nn rfl rfl ?_
          refine RL.nn rfl rfl ?_
          refine RL.nn rfl rfl ?_
          refine RL.s (Vl.pickF rfl rfl) rfl ?_
          refine RL.s (Vl.move rfl) rfl ?_
          refine RL.nn rfl rfl ?_
          refine RL.s (Vl.pickF rfl rfl) rfl ?_
          refine RL.s (Vl.assign rfl) rfl ?_
          refine RL.nil ?_
          refine RQ.then_n ?_
          refine RC.ret ?_
          have e := h.some
          subst e
          refine RQ.ret0 (vs := [.bool false]) Tryd.results10 ⟨rfl, trivial⟩ ?_
          exact ⟨rfl, (((((hS.dropAt 0 rfl).dropAt 0 rfl).dropAt 0 rfl).dropAt 0 rfl).dropAt 0 rfl)⟩
        case neg =>
         have h := h.neg hc6096
         refine RL.re 172 rfl (congrArg Value.bool (decide_eq_false hc6096)) ?_
         refine RL.nn rfl rfl ?_
         refine RL.nn rfl rfl ?_
         refine RL.nn rfl rfl ?_
         refine RL.nn rfl rfl ?_
         refine RL.nn rfl rfl ?_
         refine RL.s (Vl.pickF rfl rfl) rfl ?_
         refine RL.s (Vl.move rfl) rfl ?_
         refine RL.nn rfl rfl ?_
         refine RL.nn rfl rfl ?_
         refine RL.nn rfl rfl ?_
         refine RL.nn rfl rfl ?_
         refine RL.nn rfl rfl ?_
         refine RL.nn rfl rfl ?_
         refine RL.s (Vl.pickF rfl rfl) rfl ?_
         refine RL.s (Vl.move rfl) rfl ?_
         refine RL.nn rfl rfl ?_
         refine RL.nn rfl rfl ?_
         refine RL.nn rfl rfl ?_
         refine RL.nn rfl rfl ?_
         refine RL.nn rfl rfl ?_
         refine RL.s (Vl.pickF rfl rfl) rfl ?_
         refine RL.s (Vl.move rfl) rfl ?_
         refine RL.nn rfl rfl ?_
         refine RL.s (Vl.pickF rfl rfl) rfl ?_
         refine RL.s (Vl.assign rfl) rfl ?_
         refine RL.nil ?_
         refine RQ.then_n ?_
         refine RC.ret ?_
         have e := h.some
         subst e
         refine RQ.ret0 (vs := [.bool false]) Tryd.results10 ⟨rfl, trivial⟩ ?_
         exact ⟨rfl, (((((hS.dropAt 0 rfl).dropAt 0 rfl).dropAt 0 rfl).dropAt 0 rfl).dropAt 0 rfl)⟩
       case neg =>
        have h := h.neg hc6095
        refine RL.re 162 rfl (congrArg Value.bool (decide_eq_false hc6095)) ?_
        refine RL.nn rfl rfl ?_
        refine RL.nn rfl rfl ?_
        refine RL.nn rfl rfl ?_
        refine RL.nn rfl rfl ?_
        refine RL.nn rfl rfl ?_
        refine RL.nn rfl rfl ?_
        refine RL.nn rfl rfl ?_
        refine RL.nn rfl rfl ?_
        refine RL.s (Vl.pickF rfl rfl) rfl ?_
        refine RL.s (Vl.move rfl) rfl ?_
        refine RL.nn rfl rfl ?_
        refine RL.nn rfl rfl ?_
        refine RL.nn rfl rfl ?_
        refine RL.nn rfl rfl ?_
        refine RL.nn rfl rfl ?_
        refine RL.s (Vl.pickF rfl rfl) rfl ?_
        refine RL.s (Vl.move rfl) rfl ?_
        refine RL.nn rfl rfl ?_
        refine RL.nn rfl rfl ?_
        refine RL.nn rfl rfl ?_
        refine RL.nn rfl rfl ?_
        refine RL.nn rfl rfl ?_
        refine RL.nn rfl rfl ?_
        refine RL.s (Vl.pickF rfl rfl) rfl ?_
        refine RL.s (Vl.move rfl) rfl ?_
        refine RL.nn rfl rfl ?_
        refine RL.nn rfl rfl ?_
        refine RL.nn rfl rfl ?_
        refine RL.nn rfl rfl ?_
        refine RL.nn rfl rfl ?_
        refine RL.s (Vl.pickF rfl rfl) rfl ?_
        refine RL.s (Vl.move rfl) rfl ?_
        refine RL.nn rfl rfl ?_
        refine RL.s (Vl.pickF rfl rfl) rfl ?_
        refine RL.s (Vl.assign rfl) rfl ?_
        refine RL.nil ?_
        refine RQ.then_n ?_
        refine RC.ret ?_
        have e := h.some
        subst e
        refine RQ.ret0 (vs := [.bool false]) Tryd.results10 ⟨rfl, trivial⟩ ?_
        exact ⟨rfl, (((((hS.dropAt 0 rfl).dropAt 0 rfl).dropAt 0 rfl).dropAt 0 rfl).dropAt 0 rfl)⟩
    case neg =>
     have h := h.neg hc5849
     refine RC.re 36 rfl (congrArg Value.bool (notdec_neg hc5849)) ?_
     refine RC.condT rfl ?_
     refine RC.seq ?_
     refine RC.region ?_
     refine RL.s (Vl.move rfl) rfl ?_
     refine RL.s (Vl.lenSl Tryd.underlying34 rfl) rfl ?_
     refine RL.s (Vl.int rfl rfl rfl) rfl ?_
     refine RL.s (Vl.move rfl) rfl ?_
     by_cases hc6102 : (y5829.length : Int) = 0
     case pos =>
      have h := h.pos hc6102
      refine RL.re 40 rfl (congrArg Value.bool (decide_eq_true hc6102)) ?_
      refine RL.sg (Vl.loadA (vs := [.int .i64 y5828.Regs.c0, .int .i64 y5828.Regs.c1, .int .i64 y5828.Regs.c2, .int .i64 y5828.Regs.c3, .int .i64 y5828.Regs.c4, .int .i64 y5828.Regs.c5, .int .i64 y5828.Regs.c6, .int .i64 y5828.Regs.c7, .int .i64 y5828.Draws, .int .i64 y5828.Sent]) Tryd.isAgg29 Tryd.sizeOf29 rfl rfl (hS.cellsAt 0 rfl rfl)) rfl rfl ?_
      refine RL.sg (Vl.build (v := .agg #[.int .i64 0, .int .i64 0, .int .i64 0, .int .i64 0, .int .i64 0, .int .i64 0, .int .i64 0, .int .i64 0, .int .i64 0, .int .i64 0]) (parts := []) rfl (by kernel_rfl)) rfl rfl ?_
      refine RL.sg (Vl.eqlS (run_eql_api_State _ _ y5828 (⟨(⟨0, 0, 0, 0, 0, 0, 0, 0⟩ : Arr8xInti64), 0, 0⟩ : api_State)) rfl rfl) rfl rfl ?_
      refine RL.s (Vl.pickT rfl rfl) rfl ?_
      refine RL.s (Vl.move rfl) rfl ?_
      by_cases hc6103 : y5828 = (⟨(⟨0, 0, 0, 0, 0, 0, 0, 0⟩ : Arr8xInti64), 0, 0⟩ : api_State)
      case pos =>
       have h := h.pos hc6103
       refine RL.re 45 rfl (congrArg Value.bool (decide_eq_true hc6103)) ?_
       obtain ⟨t6104, hg6105, h⟩ := h.bind
       refine RL.e (OW.callF (ls := []) rfl Tryd.call14 (isochronlaw05vawake.ok hG0 _ hg6105 hS)) rfl rfl ?_
       rintro _ w ⟨rfl, hS⟩
       have hS : St B w (Cl b5835 [.int .i64 y5828.Regs.c0, .int .i64 y5828.Regs.c1, .int .i64 y5828.Regs.c2, .int .i64 y5828.Regs.c3, .int .i64 y5828.Regs.c4, .int .i64 y5828.Regs.c5, .int .i64 y5828.Regs.c6, .int .i64 y5828.Regs.c7, .int .i64 y5828.Draws, .int .i64 y5828.Sent] 29 :: OSf E_api_Out 58 (.slice A5831 y5829.length c5832) y5829 :: Cl b5825 [.int .i64 a5080.Key.Time, .int .i64 a5080.Key.From, .int .i64 a5080.Key.Seq, .int .i64 a5080.To, .int .i64 a5080.Value, .int .i64 a5080.Uid, .bool a5080.Anti] 33 :: Cl b5823 [.int .i64 a5079.Regs.c0, .int .i64 a5079.Regs.c1, .int .i64 a5079.Regs.c2, .int .i64 a5079.Regs.c3, .int .i64 a5079.Regs.c4, .int .i64 a5079.Regs.c5, .int .i64 a5079.Regs.c6, .int .i64 a5079.Regs.c7, .int .i64 a5079.Draws, .int .i64 a5079.Sent] 29 :: Cl b5821 [.slice A5073 a5072.Prog.length c5074, .int .i64 a5072.Self, .slice A5076 a5072.Links.length c5077, .int .u64 a5072.Seed] 26 :: l) hf := hS
       refine RL.s (Vl.pickT rfl rfl) rfl ?_
       refine RL.s (Vl.assign rfl) rfl ?_
       refine RL.nil ?_
       refine RQ.then_n ?_
       refine RC.ret ?_
       refine RQ.ret ?_
       have e := h.some
       subst e
       refine RQ.ret0 (vs := [.bool t6104]) Tryd.results10 ⟨rfl, trivial⟩ ?_
       exact ⟨rfl, (((((hS.dropAt 0 rfl).dropAt 0 rfl).dropAt 0 rfl).dropAt 0 rfl).dropAt 0 rfl)⟩
      case neg =>
       have h := h.neg hc6103
       refine RL.re 45 rfl (congrArg Value.bool (decide_eq_false hc6103)) ?_
       refine RL.nn rfl rfl ?_
       refine RL.s (Vl.pickF rfl rfl) rfl ?_
       refine RL.s (Vl.assign rfl) rfl ?_
       refine RL.nil ?_
       refine RQ.then_n ?_
       refine RC.ret ?_
       refine RQ.ret ?_
       have e := h.some
       subst e
       refine RQ.ret0 (vs := [.bool false]) Tryd.results10 ⟨rfl, trivial⟩ ?_
       exact ⟨rfl, (((((hS.dropAt 0 rfl).dropAt 0 rfl).dropAt 0 rfl).dropAt 0 rfl).dropAt 0 rfl)⟩
     case neg =>
      have h := h.neg hc6102
      refine RL.re 40 rfl (congrArg Value.bool (decide_eq_false hc6102)) ?_
      refine RL.nn rfl rfl ?_
      refine RL.nn rfl rfl ?_
      refine RL.nn rfl rfl ?_
      refine RL.s (Vl.pickF rfl rfl) rfl ?_
      refine RL.s (Vl.move rfl) rfl ?_
      refine RL.nn rfl rfl ?_
      refine RL.s (Vl.pickF rfl rfl) rfl ?_
      refine RL.s (Vl.assign rfl) rfl ?_
      refine RL.nil ?_
      refine RQ.then_n ?_
      refine RC.ret ?_
      refine RQ.ret ?_
      have e := h.some
      subst e
      refine RQ.ret0 (vs := [.bool false]) Tryd.results10 ⟨rfl, trivial⟩ ?_
      exact ⟨rfl, (((((hS.dropAt 0 rfl).dropAt 0 rfl).dropAt 0 rfl).dropAt 0 rfl).dropAt 0 rfl)⟩

end Go.Proofs.Gx
