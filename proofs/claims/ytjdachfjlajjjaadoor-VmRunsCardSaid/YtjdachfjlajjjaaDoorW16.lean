/-
  The walks of functions, each with what it computes: printed by wip/gx.py.
-/
import Derived.Test.YtjdachfjlajjjaaDoorW0
import Derived.Test.YtjdachfjlajjjaaDoorW11
import Derived.Test.YtjdachfjlajjjaaDoorW15
set_option linter.unusedVariables false
namespace Go.Proofs.Gx
open Go.Sl
/-! ### isochron/isochronref05.Run: function 12 -/
noncomputable def isochronref05vRun.l13b (a6138 : api_State) (fn7075 : (Nat → Int)) (x7076 : Int) (l7077 : List api_Out) : (Nat → Int) × Int → Option (((Nat → Int) × Int) ⊕ (api_State × List api_Out × Int))
  | (fn7113, x7114) => (if x7114 < 8 then (if 0 ≤ x7114 ∧ x7114 < 16 then some (.inl (upd fn7113 (x7114.toNat * 1) (fn7075 (x7114.toNat * 1)), IntKind.i64.wrap (x7114 + 1))) else none) else some (.inr ((⟨(⟨(ovl [fn7113 0, fn7113 1, fn7113 2, fn7113 3, fn7113 4, fn7113 5, fn7113 6, fn7113 7] zfn) 0, (ovl [fn7113 0, fn7113 1, fn7113 2, fn7113 3, fn7113 4, fn7113 5, fn7113 6, fn7113 7] zfn) 1, (ovl [fn7113 0, fn7113 1, fn7113 2, fn7113 3, fn7113 4, fn7113 5, fn7113 6, fn7113 7] zfn) 2, (ovl [fn7113 0, fn7113 1, fn7113 2, fn7113 3, fn7113 4, fn7113 5, fn7113 6, fn7113 7] zfn) 3, (ovl [fn7113 0, fn7113 1, fn7113 2, fn7113 3, fn7113 4, fn7113 5, fn7113 6, fn7113 7] zfn) 4, (ovl [fn7113 0, fn7113 1, fn7113 2, fn7113 3, fn7113 4, fn7113 5, fn7113 6, fn7113 7] zfn) 5, (ovl [fn7113 0, fn7113 1, fn7113 2, fn7113 3, fn7113 4, fn7113 5, fn7113 6, fn7113 7] zfn) 6, (ovl [fn7113 0, fn7113 1, fn7113 2, fn7113 3, fn7113 4, fn7113 5, fn7113 6, fn7113 7] zfn) 7⟩ : Arr8xInti64), x7076, IntKind.i64.wrap (a6138.Sent + (l7077.length : Int))⟩ : api_State), l7077, 0)))
noncomputable def isochronref05vRun.l13 (a6138 : api_State) (fn7075 : (Nat → Int)) (x7076 : Int) (l7077 : List api_Out) (s : (Nat → Int) × Int) : Option (api_State × List api_Out × Int) := loopR (isochronref05vRun.l13b a6138 fn7075 x7076 l7077) s
noncomputable def isochronref05vRun.j11 (a6138 : api_State) (fn7075 : (Nat → Int)) (x7076 : Int) (l7077 : List api_Out) (x7081 : Int) : Option (api_State × List api_Out × Int) := isochronref05vRun.l13 a6138 fn7075 x7076 l7077 (zfn, 0)
noncomputable def isochronref05vRun.l14b (a6131 : api_World) (a6138 : api_State) (a6139 : api_Message) : (Nat → Int) × Int × List api_Out × Int × Int → Option (((Nat → Int) × Int × List api_Out × Int × Int) ⊕ (api_State × List api_Out × Int))
  | (fn7170, x7171, l7172, x7176, x7177) => (if x7177 < 4096 then (if x7176 < (a6131.Prog.length : Int) then ((isochronref05vrun_step.f a6131.Prog a6131.Self a6131.Links a6131.Seed a6139.Key.Time a6139.Key.From a6139.Key.Seq a6139.To a6139.Value a6139.Uid a6139.Anti fn7170 x7171 l7172 x7176).bind fun (y7239, y7240, y7241, y7242, y7243, y7244) => (if y7239 = 0 then (if y7240 = true then some (.inl (y7241, y7242, y7243, y7244, IntKind.i64.wrap (x7177 + 1))) else (Option.map Sum.inr (isochronref05vRun.j11 a6138 y7241 y7242 y7243 y7244))) else some (.inr ((⟨(⟨(ovl [a6138.Regs.c0, a6138.Regs.c1, a6138.Regs.c2, a6138.Regs.c3, a6138.Regs.c4, a6138.Regs.c5, a6138.Regs.c6, a6138.Regs.c7] zfn) 0, (ovl [a6138.Regs.c0, a6138.Regs.c1, a6138.Regs.c2, a6138.Regs.c3, a6138.Regs.c4, a6138.Regs.c5, a6138.Regs.c6, a6138.Regs.c7] zfn) 1, (ovl [a6138.Regs.c0, a6138.Regs.c1, a6138.Regs.c2, a6138.Regs.c3, a6138.Regs.c4, a6138.Regs.c5, a6138.Regs.c6, a6138.Regs.c7] zfn) 2, (ovl [a6138.Regs.c0, a6138.Regs.c1, a6138.Regs.c2, a6138.Regs.c3, a6138.Regs.c4, a6138.Regs.c5, a6138.Regs.c6, a6138.Regs.c7] zfn) 3, (ovl [a6138.Regs.c0, a6138.Regs.c1, a6138.Regs.c2, a6138.Regs.c3, a6138.Regs.c4, a6138.Regs.c5, a6138.Regs.c6, a6138.Regs.c7] zfn) 4, (ovl [a6138.Regs.c0, a6138.Regs.c1, a6138.Regs.c2, a6138.Regs.c3, a6138.Regs.c4, a6138.Regs.c5, a6138.Regs.c6, a6138.Regs.c7] zfn) 5, (ovl [a6138.Regs.c0, a6138.Regs.c1, a6138.Regs.c2, a6138.Regs.c3, a6138.Regs.c4, a6138.Regs.c5, a6138.Regs.c6, a6138.Regs.c7] zfn) 6, (ovl [a6138.Regs.c0, a6138.Regs.c1, a6138.Regs.c2, a6138.Regs.c3, a6138.Regs.c4, a6138.Regs.c5, a6138.Regs.c6, a6138.Regs.c7] zfn) 7⟩ : Arr8xInti64), a6138.Draws, a6138.Sent⟩ : api_State), ([] : List api_Out), y7239)))) else (Option.map Sum.inr (isochronref05vRun.j11 a6138 fn7170 x7171 l7172 x7176))) else (Option.map Sum.inr (isochronref05vRun.j11 a6138 fn7170 x7171 l7172 x7176)))
noncomputable def isochronref05vRun.l14 (a6131 : api_World) (a6138 : api_State) (a6139 : api_Message) (s : (Nat → Int) × Int × List api_Out × Int × Int) : Option (api_State × List api_Out × Int) := loopR (isochronref05vRun.l14b a6131 a6138 a6139) s
noncomputable def isochronref05vRun.l9b (a6131 : api_World) (a6138 : api_State) (a6139 : api_Message) : (Nat → Int) × Int → Option (((Nat → Int) × Int) ⊕ (api_State × List api_Out × Int))
  | (fn6936, x6937) => (if x6937 < 8 then (if 0 ≤ x6937 then (if x6937 < 16 then some (.inl (upd fn6936 (x6937.toNat * 1) (nth ([a6138.Regs.c0, a6138.Regs.c1, a6138.Regs.c2, a6138.Regs.c3, a6138.Regs.c4, a6138.Regs.c5, a6138.Regs.c6, a6138.Regs.c7] : List Int) x6937), IntKind.i64.wrap (x6937 + 1))) else none) else none) else (Option.map Sum.inr (isochronref05vRun.l14 a6131 a6138 a6139 (fn6936, a6138.Draws, [], 0, 0))))
noncomputable def isochronref05vRun.l9 (a6131 : api_World) (a6138 : api_State) (a6139 : api_Message) (s : (Nat → Int) × Int) : Option (api_State × List api_Out × Int) := loopR (isochronref05vRun.l9b a6131 a6138 a6139) s
noncomputable def isochronref05vRun.f (a6131 : api_World) (a6138 : api_State) (a6139 : api_Message) : Option (api_State × List api_Out × Int) := ((isochronref05vCheck.f a6131).bind fun t6891 => (if t6891 = 0 then ((isochronref02vCheck.f a6139).bind fun t6901 => (if t6901 = 0 then ((isochronref05vState.f a6138).bind fun t6904 => (if t6904 = true then isochronref05vRun.l9 a6131 a6138 a6139 (zfn, 0) else some ((⟨(⟨zfn 0, zfn 1, zfn 2, zfn 3, zfn 4, zfn 5, zfn 6, zfn 7⟩ : Arr8xInti64), 0, 0⟩ : api_State), ([] : List api_Out), 1))) else some ((⟨(⟨zfn 0, zfn 1, zfn 2, zfn 3, zfn 4, zfn 5, zfn 6, zfn 7⟩ : Arr8xInti64), 0, 0⟩ : api_State), ([] : List api_Out), 1))) else some ((⟨(⟨zfn 0, zfn 1, zfn 2, zfn 3, zfn 4, zfn 5, zfn 6, zfn 7⟩ : Arr8xInti64), 0, 0⟩ : api_State), ([] : List api_Out), t6891)))
set_option maxRecDepth 100000 in
set_option maxHeartbeats 4000000 in
theorem isochronref05vRun.ok {B : Base} {w : World} {l : List HProp} {hf : Hp} (a6131 : api_World) (a6138 : api_State) (a6139 : api_Message) (A6132 : Option Addr) (c6133 : Nat) (A6135 : Option Addr) (c6136 : Nat) (hr6134 : SlR E_api_Instr.rep hf A6132 c6133 a6131.Prog) (hr6137 : SlR E_api_Link.rep hf A6135 c6136 a6131.Links) (r : api_State × List api_Out × Int) (h : isochronref05vRun.f a6131 a6138 a6139 = some r) (hS : St B w (l) hf) :
    Calls Tryd.prog 12 #[.agg #[.slice A6132 a6131.Prog.length c6133, .int .i64 a6131.Self, .slice A6135 a6131.Links.length c6136, .int .u64 a6131.Seed], .agg #[.int .i64 a6138.Regs.c0, .int .i64 a6138.Regs.c1, .int .i64 a6138.Regs.c2, .int .i64 a6138.Regs.c3, .int .i64 a6138.Regs.c4, .int .i64 a6138.Regs.c5, .int .i64 a6138.Regs.c6, .int .i64 a6138.Regs.c7, .int .i64 a6138.Draws, .int .i64 a6138.Sent], .agg #[.int .i64 a6139.Key.Time, .int .i64 a6139.Key.From, .int .i64 a6139.Key.Seq, .int .i64 a6139.To, .int .i64 a6139.Value, .int .i64 a6139.Uid, .bool a6139.Anti]] w (Ret fun v w => ∃ (A_1 : Option Addr) (c_2 : Nat), v = .tuple #[.agg #[.int .i64 r.1.Regs.c0, .int .i64 r.1.Regs.c1, .int .i64 r.1.Regs.c2, .int .i64 r.1.Regs.c3, .int .i64 r.1.Regs.c4, .int .i64 r.1.Regs.c5, .int .i64 r.1.Regs.c6, .int .i64 r.1.Regs.c7, .int .i64 r.1.Draws, .int .i64 r.1.Sent], .slice A_1 r.2.1.length c_2, .int .i64 r.2.2] ∧ St B w (OSf E_api_Out 58 (.slice A_1 r.2.1.length c_2) r.2.1 :: l) hf) := by
  have h := Holds.of h
  refine enter (args := [.agg #[.slice A6132 a6131.Prog.length c6133, .int .i64 a6131.Self, .slice A6135 a6131.Links.length c6136, .int .u64 a6131.Seed], .agg #[.int .i64 a6138.Regs.c0, .int .i64 a6138.Regs.c1, .int .i64 a6138.Regs.c2, .int .i64 a6138.Regs.c3, .int .i64 a6138.Regs.c4, .int .i64 a6138.Regs.c5, .int .i64 a6138.Regs.c6, .int .i64 a6138.Regs.c7, .int .i64 a6138.Draws, .int .i64 a6138.Sent], .agg #[.int .i64 a6139.Key.Time, .int .i64 a6139.Key.From, .int .i64 a6139.Key.Seq, .int .i64 a6139.To, .int .i64 a6139.Value, .int .i64 a6139.Uid, .bool a6139.Anti]]) Tryd.func12 rfl Tryd.ntmps12 (Nat.le_of_ble_eq_true rfl) ?_
  refine RC.seq ?_
  refine RC.region ?_
  refine RL.e (OW.box (cs := [.slice A6132 a6131.Prog.length c6133, .int .i64 a6131.Self, .slice A6135 a6131.Links.length c6136, .int .u64 a6131.Seed]) hS rfl rfl) rfl rfl ?_
  rintro _ w ⟨b6884, rfl, hS⟩
  have hS : St B w (Cl b6884 [.slice A6132 a6131.Prog.length c6133, .int .i64 a6131.Self, .slice A6135 a6131.Links.length c6136, .int .u64 a6131.Seed] 26 :: l) hf := hS
  refine RL.e (OW.box (cs := [.int .i64 a6138.Regs.c0, .int .i64 a6138.Regs.c1, .int .i64 a6138.Regs.c2, .int .i64 a6138.Regs.c3, .int .i64 a6138.Regs.c4, .int .i64 a6138.Regs.c5, .int .i64 a6138.Regs.c6, .int .i64 a6138.Regs.c7, .int .i64 a6138.Draws, .int .i64 a6138.Sent]) hS rfl rfl) rfl rfl ?_
  rintro _ w ⟨b6886, rfl, hS⟩
  have hS : St B w (Cl b6886 [.int .i64 a6138.Regs.c0, .int .i64 a6138.Regs.c1, .int .i64 a6138.Regs.c2, .int .i64 a6138.Regs.c3, .int .i64 a6138.Regs.c4, .int .i64 a6138.Regs.c5, .int .i64 a6138.Regs.c6, .int .i64 a6138.Regs.c7, .int .i64 a6138.Draws, .int .i64 a6138.Sent] 29 :: Cl b6884 [.slice A6132 a6131.Prog.length c6133, .int .i64 a6131.Self, .slice A6135 a6131.Links.length c6136, .int .u64 a6131.Seed] 26 :: l) hf := hS
  refine RL.e (OW.box (cs := [.int .i64 a6139.Key.Time, .int .i64 a6139.Key.From, .int .i64 a6139.Key.Seq, .int .i64 a6139.To, .int .i64 a6139.Value, .int .i64 a6139.Uid, .bool a6139.Anti]) hS rfl rfl) rfl rfl ?_
  rintro _ w ⟨b6888, rfl, hS⟩
  have hS : St B w (Cl b6888 [.int .i64 a6139.Key.Time, .int .i64 a6139.Key.From, .int .i64 a6139.Key.Seq, .int .i64 a6139.To, .int .i64 a6139.Value, .int .i64 a6139.Uid, .bool a6139.Anti] 33 :: Cl b6886 [.int .i64 a6138.Regs.c0, .int .i64 a6138.Regs.c1, .int .i64 a6138.Regs.c2, .int .i64 a6138.Regs.c3, .int .i64 a6138.Regs.c4, .int .i64 a6138.Regs.c5, .int .i64 a6138.Regs.c6, .int .i64 a6138.Regs.c7, .int .i64 a6138.Draws, .int .i64 a6138.Sent] 29 :: Cl b6884 [.slice A6132 a6131.Prog.length c6133, .int .i64 a6131.Self, .slice A6135 a6131.Links.length c6136, .int .u64 a6131.Seed] 26 :: l) hf := hS
  refine RL.e (OW.alloc (cs := [.int .i64 0, .int .i64 0, .int .i64 0, .int .i64 0, .int .i64 0, .int .i64 0, .int .i64 0, .int .i64 0, .int .i64 0, .int .i64 0]) hS Tryd.zeroValue29 rfl) rfl rfl ?_
  rintro _ w ⟨b6890, rfl, hS⟩
  have hS : St B w (Cl b6890 [.int .i64 (zfn 0), .int .i64 (zfn 1), .int .i64 (zfn 2), .int .i64 (zfn 3), .int .i64 (zfn 4), .int .i64 (zfn 5), .int .i64 (zfn 6), .int .i64 (zfn 7), .int .i64 0, .int .i64 0] 29 :: Cl b6888 [.int .i64 a6139.Key.Time, .int .i64 a6139.Key.From, .int .i64 a6139.Key.Seq, .int .i64 a6139.To, .int .i64 a6139.Value, .int .i64 a6139.Uid, .bool a6139.Anti] 33 :: Cl b6886 [.int .i64 a6138.Regs.c0, .int .i64 a6138.Regs.c1, .int .i64 a6138.Regs.c2, .int .i64 a6138.Regs.c3, .int .i64 a6138.Regs.c4, .int .i64 a6138.Regs.c5, .int .i64 a6138.Regs.c6, .int .i64 a6138.Regs.c7, .int .i64 a6138.Draws, .int .i64 a6138.Sent] 29 :: Cl b6884 [.slice A6132 a6131.Prog.length c6133, .int .i64 a6131.Self, .slice A6135 a6131.Links.length c6136, .int .u64 a6131.Seed] 26 :: l) hf := hS
  refine RL.s (Vl.assign rfl) rfl ?_
  refine RL.s (Vl.assign rfl) rfl ?_
  refine RL.nil ?_
  refine RQ.then_n ?_
  refine RC.seq ?_
  refine RC.region ?_
  refine RL.s (Vl.loadA (vs := [.slice A6132 a6131.Prog.length c6133, .int .i64 a6131.Self, .slice A6135 a6131.Links.length c6136, .int .u64 a6131.Seed]) Tryd.isAgg26 Tryd.sizeOf26 rfl rfl (hS.cellsAt 3 rfl rfl)) rfl ?_
  obtain ⟨t6891, hg6892, h⟩ := h.bind
  refine RL.e (OW.callF (ls := [.tmp 17]) rfl Tryd.call16 (isochronref05vCheck.ok a6131 A6132 c6133 A6135 c6136 hr6134 hr6137 _ hg6892 hS)) rfl rfl ?_
  rintro _ w ⟨rfl, hS⟩
  have hS : St B w (Cl b6890 [.int .i64 (zfn 0), .int .i64 (zfn 1), .int .i64 (zfn 2), .int .i64 (zfn 3), .int .i64 (zfn 4), .int .i64 (zfn 5), .int .i64 (zfn 6), .int .i64 (zfn 7), .int .i64 0, .int .i64 0] 29 :: Cl b6888 [.int .i64 a6139.Key.Time, .int .i64 a6139.Key.From, .int .i64 a6139.Key.Seq, .int .i64 a6139.To, .int .i64 a6139.Value, .int .i64 a6139.Uid, .bool a6139.Anti] 33 :: Cl b6886 [.int .i64 a6138.Regs.c0, .int .i64 a6138.Regs.c1, .int .i64 a6138.Regs.c2, .int .i64 a6138.Regs.c3, .int .i64 a6138.Regs.c4, .int .i64 a6138.Regs.c5, .int .i64 a6138.Regs.c6, .int .i64 a6138.Regs.c7, .int .i64 a6138.Draws, .int .i64 a6138.Sent] 29 :: Cl b6884 [.slice A6132 a6131.Prog.length c6133, .int .i64 a6131.Self, .slice A6135 a6131.Links.length c6136, .int .u64 a6131.Seed] 26 :: l) hf := hS
  refine RL.s (Vl.assign rfl) rfl ?_
  refine RL.nil ?_
  refine RQ.then_n ?_
  refine RC.seq ?_
  refine RC.seq ?_
  refine RC.region ?_
  refine RL.s (Vl.move rfl) rfl ?_
  refine RL.s (Vl.int rfl rfl rfl) rfl ?_
  refine RL.nil ?_
  refine RQ.then_n ?_
  by_cases hc6894 : t6891 = 0
  case pos =>
   have h := h.pos hc6894
   refine RC.re 20 rfl (congrArg Value.bool (notdec_pos hc6894)) ?_
   refine RC.condF rfl ?_
   refine RC.skip ?_
   refine RQ.then_n ?_
   refine RC.seq ?_
   refine RC.seq ?_
   refine RC.region ?_
   refine RL.s (Vl.loadA (vs := [.int .i64 a6139.Key.Time, .int .i64 a6139.Key.From, .int .i64 a6139.Key.Seq, .int .i64 a6139.To, .int .i64 a6139.Value, .int .i64 a6139.Uid, .bool a6139.Anti]) Tryd.isAgg33 Tryd.sizeOf33 rfl rfl (hS.cellsAt 1 rfl rfl)) rfl ?_
   obtain ⟨t6901, hg6902, h⟩ := h.bind
   refine RL.e (OW.callF (ls := [.tmp 23]) rfl Tryd.call22 (isochronref02vCheck.ok a6139 _ hg6902 hS)) rfl rfl ?_
   rintro _ w ⟨rfl, hS⟩
   have hS : St B w (Cl b6890 [.int .i64 (zfn 0), .int .i64 (zfn 1), .int .i64 (zfn 2), .int .i64 (zfn 3), .int .i64 (zfn 4), .int .i64 (zfn 5), .int .i64 (zfn 6), .int .i64 (zfn 7), .int .i64 0, .int .i64 0] 29 :: Cl b6888 [.int .i64 a6139.Key.Time, .int .i64 a6139.Key.From, .int .i64 a6139.Key.Seq, .int .i64 a6139.To, .int .i64 a6139.Value, .int .i64 a6139.Uid, .bool a6139.Anti] 33 :: Cl b6886 [.int .i64 a6138.Regs.c0, .int .i64 a6138.Regs.c1, .int .i64 a6138.Regs.c2, .int .i64 a6138.Regs.c3, .int .i64 a6138.Regs.c4, .int .i64 a6138.Regs.c5, .int .i64 a6138.Regs.c6, .int .i64 a6138.Regs.c7, .int .i64 a6138.Draws, .int .i64 a6138.Sent] 29 :: Cl b6884 [.slice A6132 a6131.Prog.length c6133, .int .i64 a6131.Self, .slice A6135 a6131.Links.length c6136, .int .u64 a6131.Seed] 26 :: l) hf := hS
   refine RL.s (Vl.int rfl rfl rfl) rfl ?_
   refine RL.s (Vl.move rfl) rfl ?_
   by_cases hc6903 : t6901 = 0
   case pos =>
    have h := h.pos hc6903
    refine RL.re 26 rfl (congrArg Value.bool (notdec_pos hc6903)) ?_
    refine RL.sg (Vl.loadA (vs := [.int .i64 a6138.Regs.c0, .int .i64 a6138.Regs.c1, .int .i64 a6138.Regs.c2, .int .i64 a6138.Regs.c3, .int .i64 a6138.Regs.c4, .int .i64 a6138.Regs.c5, .int .i64 a6138.Regs.c6, .int .i64 a6138.Regs.c7, .int .i64 a6138.Draws, .int .i64 a6138.Sent]) Tryd.isAgg29 Tryd.sizeOf29 rfl rfl (hS.cellsAt 2 rfl rfl)) rfl rfl ?_
    obtain ⟨t6904, hg6905, h⟩ := h.bind
    refine RL.e (OW.callF (ls := [.tmp 27]) rfl Tryd.call23 (isochronref05vState.ok a6138 _ hg6905 hS)) rfl rfl ?_
    rintro _ w ⟨rfl, hS⟩
    have hS : St B w (Cl b6890 [.int .i64 (zfn 0), .int .i64 (zfn 1), .int .i64 (zfn 2), .int .i64 (zfn 3), .int .i64 (zfn 4), .int .i64 (zfn 5), .int .i64 (zfn 6), .int .i64 (zfn 7), .int .i64 0, .int .i64 0] 29 :: Cl b6888 [.int .i64 a6139.Key.Time, .int .i64 a6139.Key.From, .int .i64 a6139.Key.Seq, .int .i64 a6139.To, .int .i64 a6139.Value, .int .i64 a6139.Uid, .bool a6139.Anti] 33 :: Cl b6886 [.int .i64 a6138.Regs.c0, .int .i64 a6138.Regs.c1, .int .i64 a6138.Regs.c2, .int .i64 a6138.Regs.c3, .int .i64 a6138.Regs.c4, .int .i64 a6138.Regs.c5, .int .i64 a6138.Regs.c6, .int .i64 a6138.Regs.c7, .int .i64 a6138.Draws, .int .i64 a6138.Sent] 29 :: Cl b6884 [.slice A6132 a6131.Prog.length c6133, .int .i64 a6131.Self, .slice A6135 a6131.Links.length c6136, .int .u64 a6131.Seed] 26 :: l) hf := hS
    refine RL.sg (Vl.not rfl) rfl rfl ?_
    refine RL.s (Vl.pickF rfl rfl) rfl ?_
    refine RL.nil ?_
    refine RQ.then_n ?_
    by_cases hc6906 : t6904 = true
    case pos =>
     have h := h.pos hc6906
     refine RC.re 30 rfl (congrArg Value.bool (notb_pos hc6906)) ?_
     refine RC.condF rfl ?_
     refine RC.skip ?_
     refine RQ.then_n ?_
     refine RC.seq ?_
     refine RC.plan (.cons 0 true (.cons 1 true (.pure 3 (.cons 4 true (.cons 2 false (.cons 5 false (.cons 6 false (.cons 7 false .nil)))))))) [7] (fun w => St B w (Cl b6890 [.int .i64 (zfn 0), .int .i64 (zfn 1), .int .i64 (zfn 2), .int .i64 (zfn 3), .int .i64 (zfn 4), .int .i64 (zfn 5), .int .i64 (zfn 6), .int .i64 (zfn 7), .int .i64 0, .int .i64 0] 29 :: Cl b6888 [.int .i64 a6139.Key.Time, .int .i64 a6139.Key.From, .int .i64 a6139.Key.Seq, .int .i64 a6139.To, .int .i64 a6139.Value, .int .i64 a6139.Uid, .bool a6139.Anti] 33 :: Cl b6886 [.int .i64 a6138.Regs.c0, .int .i64 a6138.Regs.c1, .int .i64 a6138.Regs.c2, .int .i64 a6138.Regs.c3, .int .i64 a6138.Regs.c4, .int .i64 a6138.Regs.c5, .int .i64 a6138.Regs.c6, .int .i64 a6138.Regs.c7, .int .i64 a6138.Draws, .int .i64 a6138.Sent] 29 :: Cl b6884 [.slice A6132 a6131.Prog.length c6133, .int .i64 a6131.Self, .slice A6135 a6131.Links.length c6136, .int .u64 a6131.Seed] 26 :: l) hf) follows rfl (by kernel_rfl) (NoTmp.then NoTmp.body) ?_
     have hS := hS.same (w' := { w with drawn := w.drawn + 1 }) rfl rfl
     revert hS
     generalize { w with drawn := w.drawn + 1 } = w
     intro hS
     refine RP.s 0 rfl rfl hS (fun w hS => Vl.loadA (vs := [.slice A6132 a6131.Prog.length c6133, .int .i64 a6131.Self, .slice A6135 a6131.Links.length c6136, .int .u64 a6131.Seed]) Tryd.isAgg26 Tryd.sizeOf26 rfl rfl (hS.cellsAt 3 rfl rfl)) rfl ?_
     refine RP.s 1 rfl rfl hS (fun w hS => Vl.loadA (vs := [.int .i64 a6139.Key.Time, .int .i64 a6139.Key.From, .int .i64 a6139.Key.Seq, .int .i64 a6139.To, .int .i64 a6139.Value, .int .i64 a6139.Uid, .bool a6139.Anti]) Tryd.isAgg33 Tryd.sizeOf33 rfl rfl (hS.cellsAt 1 rfl rfl)) rfl ?_
     refine RP.s0 3 rfl (fun w => Vl.fieldAddr (a'' := ⟨b6886, 8, none⟩) Tryd.underlying29 rfl Tryd.sizeOf3 rfl rfl) rfl ?_
     refine RP.s 4 rfl rfl hS (fun w hS => Vl.load Tryd.isAgg3 rfl (hS.cell 2 rfl rfl)) rfl ?_
     refine RP.e 2 rfl (OW.makeF (c := 16) (sz := 1) (cs := [.int .i64 0, .int .i64 0, .int .i64 0, .int .i64 0, .int .i64 0, .int .i64 0, .int .i64 0, .int .i64 0, .int .i64 0, .int .i64 0, .int .i64 0, .int .i64 0, .int .i64 0, .int .i64 0, .int .i64 0, .int .i64 0]) hS Tryd.underlying67 Tryd.type2 rfl rfl rfl rfl (by decide) (by decide) (by kernel_rfl)) rfl rfl ?_
     rintro _ w ⟨b6908, rfl, hS⟩
     have hS : St B w (OSl 2 1 (.slice (some ⟨b6908, 0, none⟩) 16 16) 16 [.int .i64 (zfn 0), .int .i64 (zfn 1), .int .i64 (zfn 2), .int .i64 (zfn 3), .int .i64 (zfn 4), .int .i64 (zfn 5), .int .i64 (zfn 6), .int .i64 (zfn 7), .int .i64 (zfn 8), .int .i64 (zfn 9), .int .i64 (zfn 10), .int .i64 (zfn 11), .int .i64 (zfn 12), .int .i64 (zfn 13), .int .i64 (zfn 14), .int .i64 (zfn 15)] :: Cl b6890 [.int .i64 (zfn 0), .int .i64 (zfn 1), .int .i64 (zfn 2), .int .i64 (zfn 3), .int .i64 (zfn 4), .int .i64 (zfn 5), .int .i64 (zfn 6), .int .i64 (zfn 7), .int .i64 0, .int .i64 0] 29 :: Cl b6888 [.int .i64 a6139.Key.Time, .int .i64 a6139.Key.From, .int .i64 a6139.Key.Seq, .int .i64 a6139.To, .int .i64 a6139.Value, .int .i64 a6139.Uid, .bool a6139.Anti] 33 :: Cl b6886 [.int .i64 a6138.Regs.c0, .int .i64 a6138.Regs.c1, .int .i64 a6138.Regs.c2, .int .i64 a6138.Regs.c3, .int .i64 a6138.Regs.c4, .int .i64 a6138.Regs.c5, .int .i64 a6138.Regs.c6, .int .i64 a6138.Regs.c7, .int .i64 a6138.Draws, .int .i64 a6138.Sent] 29 :: Cl b6884 [.slice A6132 a6131.Prog.length c6133, .int .i64 a6131.Self, .slice A6135 a6131.Links.length c6136, .int .u64 a6131.Seed] 26 :: l) hf := hS
     refine ⟨fun _ => (hS.dropAt 0 rfl), ?_⟩
     refine RP.v1 5 rfl (Vl.build (v := .agg #[.slice A6132 a6131.Prog.length c6133, .int .i64 a6131.Self, .slice A6135 a6131.Links.length c6136, .int .u64 a6131.Seed, .int .i64 a6139.Key.Time, .int .i64 a6139.Key.From, .int .i64 a6139.Key.Seq, .int .i64 a6139.To, .int .i64 a6139.Value, .int .i64 a6139.Uid, .bool a6139.Anti, .slice (some ⟨b6908, 0, none⟩) 16 16, .int .i64 a6138.Draws, .slice none 0 0, .int .i64 0]) (parts := [(0, .tmp 32), (1, .tmp 33), (2, .tmp 34), (3, .tmp 36)]) rfl (by kernel_rfl)) rfl rfl ?_
     refine RP.e 6 rfl (OW.box (cs := [.slice A6132 a6131.Prog.length c6133, .int .i64 a6131.Self, .slice A6135 a6131.Links.length c6136, .int .u64 a6131.Seed, .int .i64 a6139.Key.Time, .int .i64 a6139.Key.From, .int .i64 a6139.Key.Seq, .int .i64 a6139.To, .int .i64 a6139.Value, .int .i64 a6139.Uid, .bool a6139.Anti, .slice (some ⟨b6908, 0, none⟩) 16 16, .int .i64 a6138.Draws, .slice none 0 0, .int .i64 0]) hS rfl rfl) rfl rfl ?_
     rintro _ w ⟨b6910, rfl, hS⟩
     have hS : St B w (Cl b6910 [.slice A6132 a6131.Prog.length c6133, .int .i64 a6131.Self, .slice A6135 a6131.Links.length c6136, .int .u64 a6131.Seed, .int .i64 a6139.Key.Time, .int .i64 a6139.Key.From, .int .i64 a6139.Key.Seq, .int .i64 a6139.To, .int .i64 a6139.Value, .int .i64 a6139.Uid, .bool a6139.Anti, .slice (some ⟨b6908, 0, none⟩) 16 16, .int .i64 a6138.Draws, .slice none 0 0, .int .i64 0] 79 :: OSl 2 1 (.slice (some ⟨b6908, 0, none⟩) 16 16) 16 [.int .i64 (zfn 0), .int .i64 (zfn 1), .int .i64 (zfn 2), .int .i64 (zfn 3), .int .i64 (zfn 4), .int .i64 (zfn 5), .int .i64 (zfn 6), .int .i64 (zfn 7), .int .i64 (zfn 8), .int .i64 (zfn 9), .int .i64 (zfn 10), .int .i64 (zfn 11), .int .i64 (zfn 12), .int .i64 (zfn 13), .int .i64 (zfn 14), .int .i64 (zfn 15)] :: Cl b6890 [.int .i64 (zfn 0), .int .i64 (zfn 1), .int .i64 (zfn 2), .int .i64 (zfn 3), .int .i64 (zfn 4), .int .i64 (zfn 5), .int .i64 (zfn 6), .int .i64 (zfn 7), .int .i64 0, .int .i64 0] 29 :: Cl b6888 [.int .i64 a6139.Key.Time, .int .i64 a6139.Key.From, .int .i64 a6139.Key.Seq, .int .i64 a6139.To, .int .i64 a6139.Value, .int .i64 a6139.Uid, .bool a6139.Anti] 33 :: Cl b6886 [.int .i64 a6138.Regs.c0, .int .i64 a6138.Regs.c1, .int .i64 a6138.Regs.c2, .int .i64 a6138.Regs.c3, .int .i64 a6138.Regs.c4, .int .i64 a6138.Regs.c5, .int .i64 a6138.Regs.c6, .int .i64 a6138.Regs.c7, .int .i64 a6138.Draws, .int .i64 a6138.Sent] 29 :: Cl b6884 [.slice A6132 a6131.Prog.length c6133, .int .i64 a6131.Self, .slice A6135 a6131.Links.length c6136, .int .u64 a6131.Seed] 26 :: l) hf := hS
     refine ⟨fun _ => ((hS.dropAt 0 rfl).dropAt 0 rfl), ?_⟩
     refine RP.v1 7 rfl (Vl.assign rfl) rfl rfl ?_
     refine RP.nil ?_
     refine RQ.then_n ?_
     refine RC.seq ?_
     refine RC.seq ?_
     refine RC.region ?_
     refine RL.s (Vl.assign rfl) rfl ?_
     refine RL.nil ?_
     refine RQ.then_n ?_
     refine RC.block ?_
     refine fun a ha => RC.loop (N := 110) (body := (isochronref05vRun.l9b a6131 a6138 a6139)) (φ := (· = r)) (fun (s : (Nat → Int) × Int) a w => ∃ (fn6936 : (Nat → Int)) (x6937 : Int), s = (fn6936, x6937) ∧ Has 110 [(3, .pointer (some ⟨b6884, 0, none⟩)), (4, .pointer (some ⟨b6886, 0, none⟩)), (6, .pointer (some ⟨b6890, 0, none⟩)), (10, .pointer (some ⟨b6910, 0, none⟩)), (11, .int .i64 x6937)] a ∧ St B w (Cl b6910 [.slice A6132 a6131.Prog.length c6133, .int .i64 a6131.Self, .slice A6135 a6131.Links.length c6136, .int .u64 a6131.Seed, .int .i64 a6139.Key.Time, .int .i64 a6139.Key.From, .int .i64 a6139.Key.Seq, .int .i64 a6139.To, .int .i64 a6139.Value, .int .i64 a6139.Uid, .bool a6139.Anti, .slice (some ⟨b6908, 0, none⟩) 16 16, .int .i64 a6138.Draws, .slice none 0 0, .int .i64 0] 79 :: OSl 2 1 (.slice (some ⟨b6908, 0, none⟩) 16 16) 16 [.int .i64 (fn6936 0), .int .i64 (fn6936 1), .int .i64 (fn6936 2), .int .i64 (fn6936 3), .int .i64 (fn6936 4), .int .i64 (fn6936 5), .int .i64 (fn6936 6), .int .i64 (fn6936 7), .int .i64 (fn6936 8), .int .i64 (fn6936 9), .int .i64 (fn6936 10), .int .i64 (fn6936 11), .int .i64 (fn6936 12), .int .i64 (fn6936 13), .int .i64 (fn6936 14), .int .i64 (fn6936 15)] :: Cl b6890 [.int .i64 (zfn 0), .int .i64 (zfn 1), .int .i64 (zfn 2), .int .i64 (zfn 3), .int .i64 (zfn 4), .int .i64 (zfn 5), .int .i64 (zfn 6), .int .i64 (zfn 7), .int .i64 0, .int .i64 0] 29 :: Cl b6886 [.int .i64 a6138.Regs.c0, .int .i64 a6138.Regs.c1, .int .i64 a6138.Regs.c2, .int .i64 a6138.Regs.c3, .int .i64 a6138.Regs.c4, .int .i64 a6138.Regs.c5, .int .i64 a6138.Regs.c6, .int .i64 a6138.Regs.c7, .int .i64 a6138.Draws, .int .i64 a6138.Sent] 29 :: Cl b6884 [.slice A6132 a6131.Prog.length c6133, .int .i64 a6131.Self, .slice A6135 a6131.Links.length c6136, .int .u64 a6131.Seed] 26 :: l) hf) ?_ (s0 := (zfn, 0)) h ⟨zfn, 0, rfl, ha.to ⟨rfl, rfl, rfl, rfl, rfl, trivial⟩, (hS.dropAt 3 rfl)⟩
     rintro G6946 _ a w ⟨fn6936, x6937, rfl, ha, hS⟩ h
     revert a
     show RC _ _ _ _ _ _
     refine RC.seq ?_
     refine RC.seq ?_
     refine RC.region ?_
     refine RL.s (Vl.move rfl) rfl ?_
     refine RL.s (Vl.int rfl rfl rfl) rfl ?_
     refine RL.nil ?_
     refine RQ.then_n ?_
     by_cases hc6948 : x6937 < 8
     case pos =>
      have h := h.pos hc6948
      refine RC.re 40 rfl (congrArg Value.bool (decide_eq_true hc6948)) ?_
      refine RC.condT rfl ?_
      refine RC.skip ?_
      refine RQ.then_n ?_
      refine RC.seq ?_
      refine RC.block ?_
      refine RC.plan (.pure 0 (.pure 1 (.pure 2 (.cons 3 true (.pure 4 (.pure 5 (.cons 6 false (.cons 7 false (.cons 8 false (.cons 9 false (.cons 10 false .nil))))))))))) [9, 10] (fun w => St B w (Cl b6910 [.slice A6132 a6131.Prog.length c6133, .int .i64 a6131.Self, .slice A6135 a6131.Links.length c6136, .int .u64 a6131.Seed, .int .i64 a6139.Key.Time, .int .i64 a6139.Key.From, .int .i64 a6139.Key.Seq, .int .i64 a6139.To, .int .i64 a6139.Value, .int .i64 a6139.Uid, .bool a6139.Anti, .slice (some ⟨b6908, 0, none⟩) 16 16, .int .i64 a6138.Draws, .slice none 0 0, .int .i64 0] 79 :: OSl 2 1 (.slice (some ⟨b6908, 0, none⟩) 16 16) 16 [.int .i64 (fn6936 0), .int .i64 (fn6936 1), .int .i64 (fn6936 2), .int .i64 (fn6936 3), .int .i64 (fn6936 4), .int .i64 (fn6936 5), .int .i64 (fn6936 6), .int .i64 (fn6936 7), .int .i64 (fn6936 8), .int .i64 (fn6936 9), .int .i64 (fn6936 10), .int .i64 (fn6936 11), .int .i64 (fn6936 12), .int .i64 (fn6936 13), .int .i64 (fn6936 14), .int .i64 (fn6936 15)] :: Cl b6890 [.int .i64 (zfn 0), .int .i64 (zfn 1), .int .i64 (zfn 2), .int .i64 (zfn 3), .int .i64 (zfn 4), .int .i64 (zfn 5), .int .i64 (zfn 6), .int .i64 (zfn 7), .int .i64 0, .int .i64 0] 29 :: Cl b6886 [.int .i64 a6138.Regs.c0, .int .i64 a6138.Regs.c1, .int .i64 a6138.Regs.c2, .int .i64 a6138.Regs.c3, .int .i64 a6138.Regs.c4, .int .i64 a6138.Regs.c5, .int .i64 a6138.Regs.c6, .int .i64 a6138.Regs.c7, .int .i64 a6138.Draws, .int .i64 a6138.Sent] 29 :: Cl b6884 [.slice A6132 a6131.Prog.length c6133, .int .i64 a6131.Self, .slice A6135 a6131.Links.length c6136, .int .u64 a6131.Seed] 26 :: l) hf) follows rfl (by kernel_rfl) (NoTmp.block (NoTmp.then (NoTmp.then (NoTmp.block (NoTmp.then NoTmp.body))))) ?_
      have hS := hS.same (w' := { w with drawn := w.drawn + 1 }) rfl rfl
      revert hS
      generalize { w with drawn := w.drawn + 1 } = w
      intro hS
      refine RP.s0 0 rfl (fun w => Vl.move rfl) rfl ?_
      refine RP.s0 1 rfl (fun w => Vl.nilCheck rfl) rfl ?_
      refine RP.s0 2 rfl (fun w => Vl.fieldAddr (a'' := ⟨b6910, 11, none⟩) Tryd.underlying79 rfl Tryd.sizeOf67 rfl rfl) rfl ?_
      refine RP.s 3 rfl rfl hS (fun w hS => Vl.load Tryd.isAgg67 rfl (hS.cell 0 rfl rfl)) rfl ?_
      refine RP.s0 4 rfl (fun w => Vl.move rfl) rfl ?_
      refine RP.s0 5 rfl (fun w => Vl.move rfl) rfl ?_
      refine RP.v1 6 rfl (Vl.fieldAddr (a'' := ⟨b6886, 0, none⟩) Tryd.underlying29 rfl Tryd.sizeOf27 rfl rfl) rfl rfl ?_
      obtain ⟨hq6951, h⟩ := h.req
      refine RP.v1 7 rfl (Vl.indexAddrA (a'' := ⟨b6886, 0 + x6937.toNat * 1, none⟩) Tryd.underlying27 Tryd.sizeOf2 rfl rfl hq6951 hc6948 (add_mk _ _ _)) rfl rfl ?_
      refine RP.v1 8 rfl (Vl.load Tryd.isAgg2 rfl (hS.cell (off := 0 + x6937.toNat * 1) (cs := [] ++ (([a6138.Regs.c0, a6138.Regs.c1, a6138.Regs.c2, a6138.Regs.c3, a6138.Regs.c4, a6138.Regs.c5, a6138.Regs.c6, a6138.Regs.c7] : List Int).map (Value.int .i64) ++ [.int .i64 a6138.Draws, .int .i64 a6138.Sent])) 3 rfl (mapseg_get rfl hq6951 hc6948))) rfl rfl ?_
      obtain ⟨hq6952, h⟩ := h.req
      refine RP.v1 9 rfl (Vl.indexAddr (a'' := (ad (some ⟨b6908, 0, none⟩)).add (x6937.toNat * 1)) Tryd.underlying67 Tryd.sizeOf2 rfl rfl (hS.litAdr 1 rfl (by decide)) hq6951 hq6952 rfl) rfl rfl ?_
      refine RP.e0 10 rfl (OW.storeLitF (mk := (Value.int .i64)) (f := fn6936) (n := 16) (l' := Cl b6910 [.slice A6132 a6131.Prog.length c6133, .int .i64 a6131.Self, .slice A6135 a6131.Links.length c6136, .int .u64 a6131.Seed, .int .i64 a6139.Key.Time, .int .i64 a6139.Key.From, .int .i64 a6139.Key.Seq, .int .i64 a6139.To, .int .i64 a6139.Value, .int .i64 a6139.Uid, .bool a6139.Anti, .slice (some ⟨b6908, 0, none⟩) 16 16, .int .i64 a6138.Draws, .slice none 0 0, .int .i64 0] 79 :: OSl 2 1 (.slice (some ⟨b6908, 0, none⟩) 16 16) 16 [.int .i64 ((upd fn6936 (x6937.toNat * 1) (nth ([a6138.Regs.c0, a6138.Regs.c1, a6138.Regs.c2, a6138.Regs.c3, a6138.Regs.c4, a6138.Regs.c5, a6138.Regs.c6, a6138.Regs.c7] : List Int) x6937)) 0), .int .i64 ((upd fn6936 (x6937.toNat * 1) (nth ([a6138.Regs.c0, a6138.Regs.c1, a6138.Regs.c2, a6138.Regs.c3, a6138.Regs.c4, a6138.Regs.c5, a6138.Regs.c6, a6138.Regs.c7] : List Int) x6937)) 1), .int .i64 ((upd fn6936 (x6937.toNat * 1) (nth ([a6138.Regs.c0, a6138.Regs.c1, a6138.Regs.c2, a6138.Regs.c3, a6138.Regs.c4, a6138.Regs.c5, a6138.Regs.c6, a6138.Regs.c7] : List Int) x6937)) 2), .int .i64 ((upd fn6936 (x6937.toNat * 1) (nth ([a6138.Regs.c0, a6138.Regs.c1, a6138.Regs.c2, a6138.Regs.c3, a6138.Regs.c4, a6138.Regs.c5, a6138.Regs.c6, a6138.Regs.c7] : List Int) x6937)) 3), .int .i64 ((upd fn6936 (x6937.toNat * 1) (nth ([a6138.Regs.c0, a6138.Regs.c1, a6138.Regs.c2, a6138.Regs.c3, a6138.Regs.c4, a6138.Regs.c5, a6138.Regs.c6, a6138.Regs.c7] : List Int) x6937)) 4), .int .i64 ((upd fn6936 (x6937.toNat * 1) (nth ([a6138.Regs.c0, a6138.Regs.c1, a6138.Regs.c2, a6138.Regs.c3, a6138.Regs.c4, a6138.Regs.c5, a6138.Regs.c6, a6138.Regs.c7] : List Int) x6937)) 5), .int .i64 ((upd fn6936 (x6937.toNat * 1) (nth ([a6138.Regs.c0, a6138.Regs.c1, a6138.Regs.c2, a6138.Regs.c3, a6138.Regs.c4, a6138.Regs.c5, a6138.Regs.c6, a6138.Regs.c7] : List Int) x6937)) 6), .int .i64 ((upd fn6936 (x6937.toNat * 1) (nth ([a6138.Regs.c0, a6138.Regs.c1, a6138.Regs.c2, a6138.Regs.c3, a6138.Regs.c4, a6138.Regs.c5, a6138.Regs.c6, a6138.Regs.c7] : List Int) x6937)) 7), .int .i64 ((upd fn6936 (x6937.toNat * 1) (nth ([a6138.Regs.c0, a6138.Regs.c1, a6138.Regs.c2, a6138.Regs.c3, a6138.Regs.c4, a6138.Regs.c5, a6138.Regs.c6, a6138.Regs.c7] : List Int) x6937)) 8), .int .i64 ((upd fn6936 (x6937.toNat * 1) (nth ([a6138.Regs.c0, a6138.Regs.c1, a6138.Regs.c2, a6138.Regs.c3, a6138.Regs.c4, a6138.Regs.c5, a6138.Regs.c6, a6138.Regs.c7] : List Int) x6937)) 9), .int .i64 ((upd fn6936 (x6937.toNat * 1) (nth ([a6138.Regs.c0, a6138.Regs.c1, a6138.Regs.c2, a6138.Regs.c3, a6138.Regs.c4, a6138.Regs.c5, a6138.Regs.c6, a6138.Regs.c7] : List Int) x6937)) 10), .int .i64 ((upd fn6936 (x6937.toNat * 1) (nth ([a6138.Regs.c0, a6138.Regs.c1, a6138.Regs.c2, a6138.Regs.c3, a6138.Regs.c4, a6138.Regs.c5, a6138.Regs.c6, a6138.Regs.c7] : List Int) x6937)) 11), .int .i64 ((upd fn6936 (x6937.toNat * 1) (nth ([a6138.Regs.c0, a6138.Regs.c1, a6138.Regs.c2, a6138.Regs.c3, a6138.Regs.c4, a6138.Regs.c5, a6138.Regs.c6, a6138.Regs.c7] : List Int) x6937)) 12), .int .i64 ((upd fn6936 (x6937.toNat * 1) (nth ([a6138.Regs.c0, a6138.Regs.c1, a6138.Regs.c2, a6138.Regs.c3, a6138.Regs.c4, a6138.Regs.c5, a6138.Regs.c6, a6138.Regs.c7] : List Int) x6937)) 13), .int .i64 ((upd fn6936 (x6937.toNat * 1) (nth ([a6138.Regs.c0, a6138.Regs.c1, a6138.Regs.c2, a6138.Regs.c3, a6138.Regs.c4, a6138.Regs.c5, a6138.Regs.c6, a6138.Regs.c7] : List Int) x6937)) 14), .int .i64 ((upd fn6936 (x6937.toNat * 1) (nth ([a6138.Regs.c0, a6138.Regs.c1, a6138.Regs.c2, a6138.Regs.c3, a6138.Regs.c4, a6138.Regs.c5, a6138.Regs.c6, a6138.Regs.c7] : List Int) x6937)) 15)] :: Cl b6890 [.int .i64 (zfn 0), .int .i64 (zfn 1), .int .i64 (zfn 2), .int .i64 (zfn 3), .int .i64 (zfn 4), .int .i64 (zfn 5), .int .i64 (zfn 6), .int .i64 (zfn 7), .int .i64 0, .int .i64 0] 29 :: Cl b6886 [.int .i64 a6138.Regs.c0, .int .i64 a6138.Regs.c1, .int .i64 a6138.Regs.c2, .int .i64 a6138.Regs.c3, .int .i64 a6138.Regs.c4, .int .i64 a6138.Regs.c5, .int .i64 a6138.Regs.c6, .int .i64 a6138.Regs.c7, .int .i64 a6138.Draws, .int .i64 a6138.Sent] 29 :: Cl b6884 [.slice A6132 a6131.Prog.length c6133, .int .i64 a6131.Self, .slice A6135 a6131.Links.length c6136, .int .u64 a6131.Seed] 26 :: l) 1 hS rfl rfl rfl Tryd.sizeOf2 (by omega) (fun _ => rfl) (fun _ => rfl) rfl) rfl ?_
      rintro _ w ⟨rfl, hS⟩
      have hS : St B w (Cl b6910 [.slice A6132 a6131.Prog.length c6133, .int .i64 a6131.Self, .slice A6135 a6131.Links.length c6136, .int .u64 a6131.Seed, .int .i64 a6139.Key.Time, .int .i64 a6139.Key.From, .int .i64 a6139.Key.Seq, .int .i64 a6139.To, .int .i64 a6139.Value, .int .i64 a6139.Uid, .bool a6139.Anti, .slice (some ⟨b6908, 0, none⟩) 16 16, .int .i64 a6138.Draws, .slice none 0 0, .int .i64 0] 79 :: OSl 2 1 (.slice (some ⟨b6908, 0, none⟩) 16 16) 16 [.int .i64 ((upd fn6936 (x6937.toNat * 1) (nth ([a6138.Regs.c0, a6138.Regs.c1, a6138.Regs.c2, a6138.Regs.c3, a6138.Regs.c4, a6138.Regs.c5, a6138.Regs.c6, a6138.Regs.c7] : List Int) x6937)) 0), .int .i64 ((upd fn6936 (x6937.toNat * 1) (nth ([a6138.Regs.c0, a6138.Regs.c1, a6138.Regs.c2, a6138.Regs.c3, a6138.Regs.c4, a6138.Regs.c5, a6138.Regs.c6, a6138.Regs.c7] : List Int) x6937)) 1), .int .i64 ((upd fn6936 (x6937.toNat * 1) (nth ([a6138.Regs.c0, a6138.Regs.c1, a6138.Regs.c2, a6138.Regs.c3, a6138.Regs.c4, a6138.Regs.c5, a6138.Regs.c6, a6138.Regs.c7] : List Int) x6937)) 2), .int .i64 ((upd fn6936 (x6937.toNat * 1) (nth ([a6138.Regs.c0, a6138.Regs.c1, a6138.Regs.c2, a6138.Regs.c3, a6138.Regs.c4, a6138.Regs.c5, a6138.Regs.c6, a6138.Regs.c7] : List Int) x6937)) 3), .int .i64 ((upd fn6936 (x6937.toNat * 1) (nth ([a6138.Regs.c0, a6138.Regs.c1, a6138.Regs.c2, a6138.Regs.c3, a6138.Regs.c4, a6138.Regs.c5, a6138.Regs.c6, a6138.Regs.c7] : List Int) x6937)) 4), .int .i64 ((upd fn6936 (x6937.toNat * 1) (nth ([a6138.Regs.c0, a6138.Regs.c1, a6138.Regs.c2, a6138.Regs.c3, a6138.Regs.c4, a6138.Regs.c5, a6138.Regs.c6, a6138.Regs.c7] : List Int) x6937)) 5), .int .i64 ((upd fn6936 (x6937.toNat * 1) (nth ([a6138.Regs.c0, a6138.Regs.c1, a6138.Regs.c2, a6138.Regs.c3, a6138.Regs.c4, a6138.Regs.c5, a6138.Regs.c6, a6138.Regs.c7] : List Int) x6937)) 6), .int .i64 ((upd fn6936 (x6937.toNat * 1) (nth ([a6138.Regs.c0, a6138.Regs.c1, a6138.Regs.c2, a6138.Regs.c3, a6138.Regs.c4, a6138.Regs.c5, a6138.Regs.c6, a6138.Regs.c7] : List Int) x6937)) 7), .int .i64 ((upd fn6936 (x6937.toNat * 1) (nth ([a6138.Regs.c0, a6138.Regs.c1, a6138.Regs.c2, a6138.Regs.c3, a6138.Regs.c4, a6138.Regs.c5, a6138.Regs.c6, a6138.Regs.c7] : List Int) x6937)) 8), .int .i64 ((upd fn6936 (x6937.toNat * 1) (nth ([a6138.Regs.c0, a6138.Regs.c1, a6138.Regs.c2, a6138.Regs.c3, a6138.Regs.c4, a6138.Regs.c5, a6138.Regs.c6, a6138.Regs.c7] : List Int) x6937)) 9), .int .i64 ((upd fn6936 (x6937.toNat * 1) (nth ([a6138.Regs.c0, a6138.Regs.c1, a6138.Regs.c2, a6138.Regs.c3, a6138.Regs.c4, a6138.Regs.c5, a6138.Regs.c6, a6138.Regs.c7] : List Int) x6937)) 10), .int .i64 ((upd fn6936 (x6937.toNat * 1) (nth ([a6138.Regs.c0, a6138.Regs.c1, a6138.Regs.c2, a6138.Regs.c3, a6138.Regs.c4, a6138.Regs.c5, a6138.Regs.c6, a6138.Regs.c7] : List Int) x6937)) 11), .int .i64 ((upd fn6936 (x6937.toNat * 1) (nth ([a6138.Regs.c0, a6138.Regs.c1, a6138.Regs.c2, a6138.Regs.c3, a6138.Regs.c4, a6138.Regs.c5, a6138.Regs.c6, a6138.Regs.c7] : List Int) x6937)) 12), .int .i64 ((upd fn6936 (x6937.toNat * 1) (nth ([a6138.Regs.c0, a6138.Regs.c1, a6138.Regs.c2, a6138.Regs.c3, a6138.Regs.c4, a6138.Regs.c5, a6138.Regs.c6, a6138.Regs.c7] : List Int) x6937)) 13), .int .i64 ((upd fn6936 (x6937.toNat * 1) (nth ([a6138.Regs.c0, a6138.Regs.c1, a6138.Regs.c2, a6138.Regs.c3, a6138.Regs.c4, a6138.Regs.c5, a6138.Regs.c6, a6138.Regs.c7] : List Int) x6937)) 14), .int .i64 ((upd fn6936 (x6937.toNat * 1) (nth ([a6138.Regs.c0, a6138.Regs.c1, a6138.Regs.c2, a6138.Regs.c3, a6138.Regs.c4, a6138.Regs.c5, a6138.Regs.c6, a6138.Regs.c7] : List Int) x6937)) 15)] :: Cl b6890 [.int .i64 (zfn 0), .int .i64 (zfn 1), .int .i64 (zfn 2), .int .i64 (zfn 3), .int .i64 (zfn 4), .int .i64 (zfn 5), .int .i64 (zfn 6), .int .i64 (zfn 7), .int .i64 0, .int .i64 0] 29 :: Cl b6886 [.int .i64 a6138.Regs.c0, .int .i64 a6138.Regs.c1, .int .i64 a6138.Regs.c2, .int .i64 a6138.Regs.c3, .int .i64 a6138.Regs.c4, .int .i64 a6138.Regs.c5, .int .i64 a6138.Regs.c6, .int .i64 a6138.Regs.c7, .int .i64 a6138.Draws, .int .i64 a6138.Sent] 29 :: Cl b6884 [.slice A6132 a6131.Prog.length c6133, .int .i64 a6131.Self, .slice A6135 a6131.Links.length c6136, .int .u64 a6131.Seed] 26 :: l) hf := hS
      refine ⟨(by intro hx; cases hx), ?_⟩
      refine RP.nil ?_
      refine RQ.inB_n ?_
      refine RQ.then_n ?_
      refine RC.region ?_
      refine RL.s (Vl.move rfl) rfl ?_
      refine RL.s (Vl.int rfl rfl rfl) rfl ?_
      refine RL.s (Vl.assign rfl) rfl ?_
      refine RL.nil ?_
      exact fun a ha => ⟨(upd fn6936 (x6937.toNat * 1) (nth ([a6138.Regs.c0, a6138.Regs.c1, a6138.Regs.c2, a6138.Regs.c3, a6138.Regs.c4, a6138.Regs.c5, a6138.Regs.c6, a6138.Regs.c7] : List Int) x6937), IntKind.i64.wrap (x6937 + 1)), ⟨(upd fn6936 (x6937.toNat * 1) (nth ([a6138.Regs.c0, a6138.Regs.c1, a6138.Regs.c2, a6138.Regs.c3, a6138.Regs.c4, a6138.Regs.c5, a6138.Regs.c6, a6138.Regs.c7] : List Int) x6937)), (IntKind.i64.wrap (x6937 + 1)), rfl, ha.to ⟨rfl, rfl, rfl, rfl, rfl, trivial⟩, hS⟩, h.some⟩
     case neg =>
      have h := h.neg hc6948
      refine RC.re 40 rfl (congrArg Value.bool (decide_eq_false hc6948)) ?_
      refine RC.condF rfl ?_
      refine RC.exit ?_
      refine RQ.exitT ?_
      have h := h.inr
      refine RQ.exitT ?_
      refine RQ.inB_hit ?_
      refine RQ.then_n ?_
      refine RC.join (fun (s : (Nat → Int) × Int × List api_Out × Int) a w => ∃ (fn7075 : (Nat → Int)) (x7076 : Int) (l7077 : List api_Out) (x7081 : Int), s = (fn7075, x7076, l7077, x7081) ∧ ∃ (A7078 : Option Addr) (c7079 : Nat), Has 110 [(4, .pointer (some ⟨b6886, 0, none⟩)), (6, .pointer (some ⟨b6890, 0, none⟩)), (10, .pointer (some ⟨b6910, 0, none⟩))] a ∧ St B w (OSf E_api_Out 58 (.slice A7078 l7077.length c7079) l7077 :: OSl 2 1 (.slice (some ⟨b6908, 0, none⟩) 16 16) 16 [.int .i64 (fn7075 0), .int .i64 (fn7075 1), .int .i64 (fn7075 2), .int .i64 (fn7075 3), .int .i64 (fn7075 4), .int .i64 (fn7075 5), .int .i64 (fn7075 6), .int .i64 (fn7075 7), .int .i64 (fn7075 8), .int .i64 (fn7075 9), .int .i64 (fn7075 10), .int .i64 (fn7075 11), .int .i64 (fn7075 12), .int .i64 (fn7075 13), .int .i64 (fn7075 14), .int .i64 (fn7075 15)] :: Cl b6910 [.slice A6132 a6131.Prog.length c6133, .int .i64 a6131.Self, .slice A6135 a6131.Links.length c6136, .int .u64 a6131.Seed, .int .i64 a6139.Key.Time, .int .i64 a6139.Key.From, .int .i64 a6139.Key.Seq, .int .i64 a6139.To, .int .i64 a6139.Value, .int .i64 a6139.Uid, .bool a6139.Anti, .slice (some ⟨b6908, 0, none⟩) 16 16, .int .i64 x7076, .slice A7078 l7077.length c7079, .int .i64 x7081] 79 :: Cl b6890 [.int .i64 (zfn 0), .int .i64 (zfn 1), .int .i64 (zfn 2), .int .i64 (zfn 3), .int .i64 (zfn 4), .int .i64 (zfn 5), .int .i64 (zfn 6), .int .i64 (zfn 7), .int .i64 0, .int .i64 0] 29 :: Cl b6886 [.int .i64 a6138.Regs.c0, .int .i64 a6138.Regs.c1, .int .i64 a6138.Regs.c2, .int .i64 a6138.Regs.c3, .int .i64 a6138.Regs.c4, .int .i64 a6138.Regs.c5, .int .i64 a6138.Regs.c6, .int .i64 a6138.Regs.c7, .int .i64 a6138.Draws, .int .i64 a6138.Sent] 29 :: l) hf ∧ Holds (· = r) (isochronref05vRun.j11 a6138 fn7075 x7076 l7077 x7081)) ?_ ?_
      · rintro _ a w ⟨fn7075, x7076, l7077, x7081, rfl, A7078, c7079, ha, hS, h⟩
        revert a
        show RC _ _ _ _ _ _
        refine RC.seq ?_
        refine RC.plan (.pure 0 (.pure 1 (.pure 2 (.cons 3 true (.pure 4 (.cons 5 true (.pure 6 (.pure 7 (.pure 8 (.cons 9 true (.pure 10 (.pure 11 (.pure 12 (.cons 13 false (.cons 14 false .nil))))))))))))))) [14] (fun w => St B w (OSf E_api_Out 58 (.slice A7078 l7077.length c7079) l7077 :: OSl 2 1 (.slice (some ⟨b6908, 0, none⟩) 16 16) 16 [.int .i64 (fn7075 0), .int .i64 (fn7075 1), .int .i64 (fn7075 2), .int .i64 (fn7075 3), .int .i64 (fn7075 4), .int .i64 (fn7075 5), .int .i64 (fn7075 6), .int .i64 (fn7075 7), .int .i64 (fn7075 8), .int .i64 (fn7075 9), .int .i64 (fn7075 10), .int .i64 (fn7075 11), .int .i64 (fn7075 12), .int .i64 (fn7075 13), .int .i64 (fn7075 14), .int .i64 (fn7075 15)] :: Cl b6910 [.slice A6132 a6131.Prog.length c6133, .int .i64 a6131.Self, .slice A6135 a6131.Links.length c6136, .int .u64 a6131.Seed, .int .i64 a6139.Key.Time, .int .i64 a6139.Key.From, .int .i64 a6139.Key.Seq, .int .i64 a6139.To, .int .i64 a6139.Value, .int .i64 a6139.Uid, .bool a6139.Anti, .slice (some ⟨b6908, 0, none⟩) 16 16, .int .i64 x7076, .slice A7078 l7077.length c7079, .int .i64 x7081] 79 :: Cl b6890 [.int .i64 (zfn 0), .int .i64 (zfn 1), .int .i64 (zfn 2), .int .i64 (zfn 3), .int .i64 (zfn 4), .int .i64 (zfn 5), .int .i64 (zfn 6), .int .i64 (zfn 7), .int .i64 0, .int .i64 0] 29 :: Cl b6886 [.int .i64 a6138.Regs.c0, .int .i64 a6138.Regs.c1, .int .i64 a6138.Regs.c2, .int .i64 a6138.Regs.c3, .int .i64 a6138.Regs.c4, .int .i64 a6138.Regs.c5, .int .i64 a6138.Regs.c6, .int .i64 a6138.Regs.c7, .int .i64 a6138.Draws, .int .i64 a6138.Sent] 29 :: l) hf) follows rfl (by kernel_rfl) (NoTmp.then NoTmp.body) ?_
        have hS := hS.same (w' := { w with drawn := w.drawn + 1 }) rfl rfl
        revert hS
        generalize { w with drawn := w.drawn + 1 } = w
        intro hS
        refine RP.s0 0 rfl (fun w => Vl.move rfl) rfl ?_
        refine RP.s0 1 rfl (fun w => Vl.nilCheck rfl) rfl ?_
        refine RP.s0 2 rfl (fun w => Vl.fieldAddr (a'' := ⟨b6910, 12, none⟩) Tryd.underlying79 rfl Tryd.sizeOf3 rfl rfl) rfl ?_
        refine RP.s 3 rfl rfl hS (fun w hS => Vl.load Tryd.isAgg3 rfl (hS.cell 2 rfl rfl)) rfl ?_
        refine RP.s0 4 rfl (fun w => Vl.fieldAddr (a'' := ⟨b6886, 9, none⟩) Tryd.underlying29 rfl Tryd.sizeOf3 rfl rfl) rfl ?_
        refine RP.s 5 rfl rfl hS (fun w hS => Vl.load Tryd.isAgg3 rfl (hS.cell 4 rfl rfl)) rfl ?_
        refine RP.s0 6 rfl (fun w => Vl.move rfl) rfl ?_
        refine RP.s0 7 rfl (fun w => Vl.nilCheck rfl) rfl ?_
        refine RP.s0 8 rfl (fun w => Vl.fieldAddr (a'' := ⟨b6910, 13, none⟩) Tryd.underlying79 rfl Tryd.sizeOf34 rfl rfl) rfl ?_
        refine RP.s 9 rfl rfl hS (fun w hS => Vl.load Tryd.isAgg34 rfl (hS.cell 2 rfl rfl)) rfl ?_
        refine RP.s0 10 rfl (fun w => Vl.lenSl Tryd.underlying34 rfl) rfl ?_
        refine RP.s0 11 rfl (fun w => Vl.int rfl rfl rfl) rfl ?_
        refine RP.s0 12 rfl (fun w => Vl.build (v := .agg #[.int .i64 0, .int .i64 0, .int .i64 0, .int .i64 0, .int .i64 0, .int .i64 0, .int .i64 0, .int .i64 0, .int .i64 x7076, .int .i64 (IntKind.i64.wrap (a6138.Sent + (l7077.length : Int)))]) (parts := [(1, .tmp 81), (2, .tmp 89)]) rfl (by kernel_rfl)) rfl ?_
        refine RP.e 13 rfl (OW.alloc (cs := [.int .i64 0, .int .i64 0, .int .i64 0, .int .i64 0, .int .i64 0, .int .i64 0, .int .i64 0, .int .i64 0, .int .i64 0, .int .i64 0]) hS Tryd.zeroValue29 rfl) rfl rfl ?_
        rintro _ w ⟨b7083, rfl, hS⟩
        have hS : St B w (Cl b7083 [.int .i64 (zfn 0), .int .i64 (zfn 1), .int .i64 (zfn 2), .int .i64 (zfn 3), .int .i64 (zfn 4), .int .i64 (zfn 5), .int .i64 (zfn 6), .int .i64 (zfn 7), .int .i64 0, .int .i64 0] 29 :: OSf E_api_Out 58 (.slice A7078 l7077.length c7079) l7077 :: OSl 2 1 (.slice (some ⟨b6908, 0, none⟩) 16 16) 16 [.int .i64 (fn7075 0), .int .i64 (fn7075 1), .int .i64 (fn7075 2), .int .i64 (fn7075 3), .int .i64 (fn7075 4), .int .i64 (fn7075 5), .int .i64 (fn7075 6), .int .i64 (fn7075 7), .int .i64 (fn7075 8), .int .i64 (fn7075 9), .int .i64 (fn7075 10), .int .i64 (fn7075 11), .int .i64 (fn7075 12), .int .i64 (fn7075 13), .int .i64 (fn7075 14), .int .i64 (fn7075 15)] :: Cl b6910 [.slice A6132 a6131.Prog.length c6133, .int .i64 a6131.Self, .slice A6135 a6131.Links.length c6136, .int .u64 a6131.Seed, .int .i64 a6139.Key.Time, .int .i64 a6139.Key.From, .int .i64 a6139.Key.Seq, .int .i64 a6139.To, .int .i64 a6139.Value, .int .i64 a6139.Uid, .bool a6139.Anti, .slice (some ⟨b6908, 0, none⟩) 16 16, .int .i64 x7076, .slice A7078 l7077.length c7079, .int .i64 x7081] 79 :: Cl b6890 [.int .i64 (zfn 0), .int .i64 (zfn 1), .int .i64 (zfn 2), .int .i64 (zfn 3), .int .i64 (zfn 4), .int .i64 (zfn 5), .int .i64 (zfn 6), .int .i64 (zfn 7), .int .i64 0, .int .i64 0] 29 :: Cl b6886 [.int .i64 a6138.Regs.c0, .int .i64 a6138.Regs.c1, .int .i64 a6138.Regs.c2, .int .i64 a6138.Regs.c3, .int .i64 a6138.Regs.c4, .int .i64 a6138.Regs.c5, .int .i64 a6138.Regs.c6, .int .i64 a6138.Regs.c7, .int .i64 a6138.Draws, .int .i64 a6138.Sent] 29 :: l) hf := hS
        refine ⟨fun _ => (hS.dropAt 0 rfl), ?_⟩
        refine RP.e0 14 rfl (OW.store (cs := [.int .i64 (zfn 0), .int .i64 (zfn 1), .int .i64 (zfn 2), .int .i64 (zfn 3), .int .i64 (zfn 4), .int .i64 (zfn 5), .int .i64 (zfn 6), .int .i64 (zfn 7), .int .i64 0, .int .i64 0]) (vs := [.int .i64 (zfn 0), .int .i64 (zfn 1), .int .i64 (zfn 2), .int .i64 (zfn 3), .int .i64 (zfn 4), .int .i64 (zfn 5), .int .i64 (zfn 6), .int .i64 (zfn 7), .int .i64 x7076, .int .i64 (IntKind.i64.wrap (a6138.Sent + (l7077.length : Int)))]) (l' := Cl b7083 [.int .i64 (zfn 0), .int .i64 (zfn 1), .int .i64 (zfn 2), .int .i64 (zfn 3), .int .i64 (zfn 4), .int .i64 (zfn 5), .int .i64 (zfn 6), .int .i64 (zfn 7), .int .i64 x7076, .int .i64 (IntKind.i64.wrap (a6138.Sent + (l7077.length : Int)))] 29 :: OSf E_api_Out 58 (.slice A7078 l7077.length c7079) l7077 :: OSl 2 1 (.slice (some ⟨b6908, 0, none⟩) 16 16) 16 [.int .i64 (fn7075 0), .int .i64 (fn7075 1), .int .i64 (fn7075 2), .int .i64 (fn7075 3), .int .i64 (fn7075 4), .int .i64 (fn7075 5), .int .i64 (fn7075 6), .int .i64 (fn7075 7), .int .i64 (fn7075 8), .int .i64 (fn7075 9), .int .i64 (fn7075 10), .int .i64 (fn7075 11), .int .i64 (fn7075 12), .int .i64 (fn7075 13), .int .i64 (fn7075 14), .int .i64 (fn7075 15)] :: Cl b6910 [.slice A6132 a6131.Prog.length c6133, .int .i64 a6131.Self, .slice A6135 a6131.Links.length c6136, .int .u64 a6131.Seed, .int .i64 a6139.Key.Time, .int .i64 a6139.Key.From, .int .i64 a6139.Key.Seq, .int .i64 a6139.To, .int .i64 a6139.Value, .int .i64 a6139.Uid, .bool a6139.Anti, .slice (some ⟨b6908, 0, none⟩) 16 16, .int .i64 x7076, .slice A7078 l7077.length c7079, .int .i64 x7081] 79 :: Cl b6890 [.int .i64 (zfn 0), .int .i64 (zfn 1), .int .i64 (zfn 2), .int .i64 (zfn 3), .int .i64 (zfn 4), .int .i64 (zfn 5), .int .i64 (zfn 6), .int .i64 (zfn 7), .int .i64 0, .int .i64 0] 29 :: Cl b6886 [.int .i64 a6138.Regs.c0, .int .i64 a6138.Regs.c1, .int .i64 a6138.Regs.c2, .int .i64 a6138.Regs.c3, .int .i64 a6138.Regs.c4, .int .i64 a6138.Regs.c5, .int .i64 a6138.Regs.c6, .int .i64 a6138.Regs.c7, .int .i64 a6138.Draws, .int .i64 a6138.Sent] 29 :: l) 0 hS rfl rfl rfl rfl Tryd.sizeOf29 rfl rfl rfl rfl) rfl ?_
        rintro _ w ⟨rfl, hS⟩
        have hS : St B w (Cl b7083 [.int .i64 (zfn 0), .int .i64 (zfn 1), .int .i64 (zfn 2), .int .i64 (zfn 3), .int .i64 (zfn 4), .int .i64 (zfn 5), .int .i64 (zfn 6), .int .i64 (zfn 7), .int .i64 x7076, .int .i64 (IntKind.i64.wrap (a6138.Sent + (l7077.length : Int)))] 29 :: OSf E_api_Out 58 (.slice A7078 l7077.length c7079) l7077 :: OSl 2 1 (.slice (some ⟨b6908, 0, none⟩) 16 16) 16 [.int .i64 (fn7075 0), .int .i64 (fn7075 1), .int .i64 (fn7075 2), .int .i64 (fn7075 3), .int .i64 (fn7075 4), .int .i64 (fn7075 5), .int .i64 (fn7075 6), .int .i64 (fn7075 7), .int .i64 (fn7075 8), .int .i64 (fn7075 9), .int .i64 (fn7075 10), .int .i64 (fn7075 11), .int .i64 (fn7075 12), .int .i64 (fn7075 13), .int .i64 (fn7075 14), .int .i64 (fn7075 15)] :: Cl b6910 [.slice A6132 a6131.Prog.length c6133, .int .i64 a6131.Self, .slice A6135 a6131.Links.length c6136, .int .u64 a6131.Seed, .int .i64 a6139.Key.Time, .int .i64 a6139.Key.From, .int .i64 a6139.Key.Seq, .int .i64 a6139.To, .int .i64 a6139.Value, .int .i64 a6139.Uid, .bool a6139.Anti, .slice (some ⟨b6908, 0, none⟩) 16 16, .int .i64 x7076, .slice A7078 l7077.length c7079, .int .i64 x7081] 79 :: Cl b6890 [.int .i64 (zfn 0), .int .i64 (zfn 1), .int .i64 (zfn 2), .int .i64 (zfn 3), .int .i64 (zfn 4), .int .i64 (zfn 5), .int .i64 (zfn 6), .int .i64 (zfn 7), .int .i64 0, .int .i64 0] 29 :: Cl b6886 [.int .i64 a6138.Regs.c0, .int .i64 a6138.Regs.c1, .int .i64 a6138.Regs.c2, .int .i64 a6138.Regs.c3, .int .i64 a6138.Regs.c4, .int .i64 a6138.Regs.c5, .int .i64 a6138.Regs.c6, .int .i64 a6138.Regs.c7, .int .i64 a6138.Draws, .int .i64 a6138.Sent] 29 :: l) hf := hS
        refine ⟨(by intro hx; cases hx), ?_⟩
        refine RP.nil ?_
        refine RQ.then_n ?_
        refine RC.seq ?_
        refine RC.seq ?_
        refine RC.region ?_
        refine RL.s (Vl.assign rfl) rfl ?_
        refine RL.nil ?_
        refine RQ.then_n ?_
        refine RC.block ?_
        refine fun a ha => RC.loop (N := 110) (body := (isochronref05vRun.l13b a6138 fn7075 x7076 l7077)) (φ := (· = r)) (fun (s : (Nat → Int) × Int) a w => ∃ (fn7113 : (Nat → Int)) (x7114 : Int), s = (fn7113, x7114) ∧ Has 110 [(6, .pointer (some ⟨b6890, 0, none⟩)), (10, .pointer (some ⟨b6910, 0, none⟩)), (15, .pointer (some ⟨b7083, 0, none⟩)), (16, .int .i64 x7114)] a ∧ St B w (OSf E_api_Out 58 (.slice A7078 l7077.length c7079) l7077 :: Cl b7083 [.int .i64 (fn7113 0), .int .i64 (fn7113 1), .int .i64 (fn7113 2), .int .i64 (fn7113 3), .int .i64 (fn7113 4), .int .i64 (fn7113 5), .int .i64 (fn7113 6), .int .i64 (fn7113 7), .int .i64 x7076, .int .i64 (IntKind.i64.wrap (a6138.Sent + (l7077.length : Int)))] 29 :: OSl 2 1 (.slice (some ⟨b6908, 0, none⟩) 16 16) 16 [.int .i64 (fn7075 0), .int .i64 (fn7075 1), .int .i64 (fn7075 2), .int .i64 (fn7075 3), .int .i64 (fn7075 4), .int .i64 (fn7075 5), .int .i64 (fn7075 6), .int .i64 (fn7075 7), .int .i64 (fn7075 8), .int .i64 (fn7075 9), .int .i64 (fn7075 10), .int .i64 (fn7075 11), .int .i64 (fn7075 12), .int .i64 (fn7075 13), .int .i64 (fn7075 14), .int .i64 (fn7075 15)] :: Cl b6910 [.slice A6132 a6131.Prog.length c6133, .int .i64 a6131.Self, .slice A6135 a6131.Links.length c6136, .int .u64 a6131.Seed, .int .i64 a6139.Key.Time, .int .i64 a6139.Key.From, .int .i64 a6139.Key.Seq, .int .i64 a6139.To, .int .i64 a6139.Value, .int .i64 a6139.Uid, .bool a6139.Anti, .slice (some ⟨b6908, 0, none⟩) 16 16, .int .i64 x7076, .slice A7078 l7077.length c7079, .int .i64 x7081] 79 :: Cl b6890 [.int .i64 (zfn 0), .int .i64 (zfn 1), .int .i64 (zfn 2), .int .i64 (zfn 3), .int .i64 (zfn 4), .int .i64 (zfn 5), .int .i64 (zfn 6), .int .i64 (zfn 7), .int .i64 0, .int .i64 0] 29 :: l) hf) ?_ (s0 := (zfn, 0)) h ⟨zfn, 0, rfl, ha.to ⟨rfl, rfl, rfl, rfl, trivial⟩, ((((((hS.dropAt 5 rfl).pull 4 rfl rfl).pull 4 rfl rfl).pull 4 rfl rfl).pull 3 rfl rfl).pull 4 rfl rfl)⟩
        rintro G7123 _ a w ⟨fn7113, x7114, rfl, ha, hS⟩ h
        revert a
        show RC _ _ _ _ _ _
        refine RC.seq ?_
        refine RC.seq ?_
        refine RC.region ?_
        refine RL.s (Vl.move rfl) rfl ?_
        refine RL.s (Vl.int rfl rfl rfl) rfl ?_
        refine RL.nil ?_
        refine RQ.then_n ?_
        by_cases hc7125 : x7114 < 8
        case pos =>
         have h := h.pos hc7125
         refine RC.re 92 rfl (congrArg Value.bool (decide_eq_true hc7125)) ?_
         refine RC.condT rfl ?_
         refine RC.skip ?_
         refine RQ.then_n ?_
         refine RC.seq ?_
         refine RC.block ?_
         refine RC.region ?_
         refine RL.s (Vl.move rfl) rfl ?_
         refine RL.s (Vl.move rfl) rfl ?_
         refine RL.s (Vl.nilCheck rfl) rfl ?_
         refine RL.s (Vl.fieldAddr (a'' := ⟨b6910, 11, none⟩) Tryd.underlying79 rfl Tryd.sizeOf67 rfl rfl) rfl ?_
         refine RL.s (Vl.load Tryd.isAgg67 rfl (hS.cell 3 rfl rfl)) rfl ?_
         refine RL.s (Vl.move rfl) rfl ?_
         obtain ⟨⟨hq7128, hq7129⟩, h⟩ := h.req
         refine RL.s (Vl.indexAddr (a'' := (ad (some ⟨b6908, 0, none⟩)).add (x7114.toNat * 1)) Tryd.underlying67 Tryd.sizeOf2 rfl rfl (hS.litAdr 2 rfl (by decide)) hq7128 hq7129 rfl) rfl ?_
         refine RL.s (Vl.load Tryd.isAgg2 rfl (hS.litCell (j := x7114.toNat * 1) (cs := fc (Value.int .i64) 16 fn7075) 2 rfl (fc_get (by omega)))) rfl ?_
         refine RL.s (Vl.fieldAddr (a'' := ⟨b7083, 0, none⟩) Tryd.underlying29 rfl Tryd.sizeOf27 rfl rfl) rfl ?_
         refine RL.s (Vl.indexAddrA (a'' := ⟨b7083, 0 + x7114.toNat * 1, none⟩) Tryd.underlying27 Tryd.sizeOf2 rfl rfl hq7128 hc7125 (add_mk _ _ _)) rfl ?_
         refine RL.e0 (OW.storeSeg (mk := (Value.int .i64)) (f := fn7113) (n := 8) (m := 0) (pre := []) (post := [.int .i64 x7076, .int .i64 (IntKind.i64.wrap (a6138.Sent + (l7077.length : Int)))]) (l' := OSf E_api_Out 58 (.slice A7078 l7077.length c7079) l7077 :: Cl b7083 [.int .i64 ((upd fn7113 (x7114.toNat * 1) (fn7075 (x7114.toNat * 1))) 0), .int .i64 ((upd fn7113 (x7114.toNat * 1) (fn7075 (x7114.toNat * 1))) 1), .int .i64 ((upd fn7113 (x7114.toNat * 1) (fn7075 (x7114.toNat * 1))) 2), .int .i64 ((upd fn7113 (x7114.toNat * 1) (fn7075 (x7114.toNat * 1))) 3), .int .i64 ((upd fn7113 (x7114.toNat * 1) (fn7075 (x7114.toNat * 1))) 4), .int .i64 ((upd fn7113 (x7114.toNat * 1) (fn7075 (x7114.toNat * 1))) 5), .int .i64 ((upd fn7113 (x7114.toNat * 1) (fn7075 (x7114.toNat * 1))) 6), .int .i64 ((upd fn7113 (x7114.toNat * 1) (fn7075 (x7114.toNat * 1))) 7), .int .i64 x7076, .int .i64 (IntKind.i64.wrap (a6138.Sent + (l7077.length : Int)))] 29 :: OSl 2 1 (.slice (some ⟨b6908, 0, none⟩) 16 16) 16 [.int .i64 (fn7075 0), .int .i64 (fn7075 1), .int .i64 (fn7075 2), .int .i64 (fn7075 3), .int .i64 (fn7075 4), .int .i64 (fn7075 5), .int .i64 (fn7075 6), .int .i64 (fn7075 7), .int .i64 (fn7075 8), .int .i64 (fn7075 9), .int .i64 (fn7075 10), .int .i64 (fn7075 11), .int .i64 (fn7075 12), .int .i64 (fn7075 13), .int .i64 (fn7075 14), .int .i64 (fn7075 15)] :: Cl b6910 [.slice A6132 a6131.Prog.length c6133, .int .i64 a6131.Self, .slice A6135 a6131.Links.length c6136, .int .u64 a6131.Seed, .int .i64 a6139.Key.Time, .int .i64 a6139.Key.From, .int .i64 a6139.Key.Seq, .int .i64 a6139.To, .int .i64 a6139.Value, .int .i64 a6139.Uid, .bool a6139.Anti, .slice (some ⟨b6908, 0, none⟩) 16 16, .int .i64 x7076, .slice A7078 l7077.length c7079, .int .i64 x7081] 79 :: Cl b6890 [.int .i64 (zfn 0), .int .i64 (zfn 1), .int .i64 (zfn 2), .int .i64 (zfn 3), .int .i64 (zfn 4), .int .i64 (zfn 5), .int .i64 (zfn 6), .int .i64 (zfn 7), .int .i64 0, .int .i64 0] 29 :: l) 1 hS rfl rfl rfl rfl Tryd.sizeOf2 (by omega) (fun _ => rfl) (fun _ => rfl) rfl) rfl ?_
         rintro _ w ⟨rfl, hS⟩
         have hS : St B w (OSf E_api_Out 58 (.slice A7078 l7077.length c7079) l7077 :: Cl b7083 [.int .i64 ((upd fn7113 (x7114.toNat * 1) (fn7075 (x7114.toNat * 1))) 0), .int .i64 ((upd fn7113 (x7114.toNat * 1) (fn7075 (x7114.toNat * 1))) 1), .int .i64 ((upd fn7113 (x7114.toNat * 1) (fn7075 (x7114.toNat * 1))) 2), .int .i64 ((upd fn7113 (x7114.toNat * 1) (fn7075 (x7114.toNat * 1))) 3), .int .i64 ((upd fn7113 (x7114.toNat * 1) (fn7075 (x7114.toNat * 1))) 4), .int .i64 ((upd fn7113 (x7114.toNat * 1) (fn7075 (x7114.toNat * 1))) 5), .int .i64 ((upd fn7113 (x7114.toNat * 1) (fn7075 (x7114.toNat * 1))) 6), .int .i64 ((upd fn7113 (x7114.toNat * 1) (fn7075 (x7114.toNat * 1))) 7), .int .i64 x7076, .int .i64 (IntKind.i64.wrap (a6138.Sent + (l7077.length : Int)))] 29 :: OSl 2 1 (.slice (some ⟨b6908, 0, none⟩) 16 16) 16 [.int .i64 (fn7075 0), .int .i64 (fn7075 1), .int .i64 (fn7075 2), .int .i64 (fn7075 3), .int .i64 (fn7075 4), .int .i64 (fn7075 5), .int .i64 (fn7075 6), .int .i64 (fn7075 7), .int .i64 (fn7075 8), .int .i64 (fn7075 9), .int .i64 (fn7075 10), .int .i64 (fn7075 11), .int .i64 (fn7075 12), .int .i64 (fn7075 13), .int .i64 (fn7075 14), .int .i64 (fn7075 15)] :: Cl b6910 [.slice A6132 a6131.Prog.length c6133, .int .i64 a6131.Self, .slice A6135 a6131.Links.length c6136, .int .u64 a6131.Seed, .int .i64 a6139.Key.Time, .int .i64 a6139.Key.From, .int .i64 a6139.Key.Seq, .int .i64 a6139.To, .int .i64 a6139.Value, .int .i64 a6139.Uid, .bool a6139.Anti, .slice (some ⟨b6908, 0, none⟩) 16 16, .int .i64 x7076, .slice A7078 l7077.length c7079, .int .i64 x7081] 79 :: Cl b6890 [.int .i64 (zfn 0), .int .i64 (zfn 1), .int .i64 (zfn 2), .int .i64 (zfn 3), .int .i64 (zfn 4), .int .i64 (zfn 5), .int .i64 (zfn 6), .int .i64 (zfn 7), .int .i64 0, .int .i64 0] 29 :: l) hf := hS
         refine RL.nil ?_
         refine RQ.inB_n ?_
         refine RQ.then_n ?_
         refine RC.region ?_
         refine RL.s (Vl.move rfl) rfl ?_
         refine RL.s (Vl.int rfl rfl rfl) rfl ?_
         refine RL.s (Vl.assign rfl) rfl ?_
         refine RL.nil ?_
         exact fun a ha => ⟨(upd fn7113 (x7114.toNat * 1) (fn7075 (x7114.toNat * 1)), IntKind.i64.wrap (x7114 + 1)), ⟨(upd fn7113 (x7114.toNat * 1) (fn7075 (x7114.toNat * 1))), (IntKind.i64.wrap (x7114 + 1)), rfl, ha.to ⟨rfl, rfl, rfl, rfl, trivial⟩, hS⟩, h.some⟩
        case neg =>
         have h := h.neg hc7125
         refine RC.re 92 rfl (congrArg Value.bool (decide_eq_false hc7125)) ?_
         refine RC.condF rfl ?_
         refine RC.exit ?_
         refine RQ.exitT ?_
         have h := h.inrS
         refine RQ.exitT ?_
         refine RQ.inB_hit ?_
         refine RQ.then_n ?_
         refine RC.seq ?_
         refine RC.plan (.cons 0 true (.pure 1 (.pure 2 (.pure 3 (.cons 4 true (.cons 5 false (.cons 6 false (.cons 7 false .nil)))))))) [6, 7] (fun w => St B w (OSf E_api_Out 58 (.slice A7078 l7077.length c7079) l7077 :: Cl b7083 [.int .i64 (fn7113 0), .int .i64 (fn7113 1), .int .i64 (fn7113 2), .int .i64 (fn7113 3), .int .i64 (fn7113 4), .int .i64 (fn7113 5), .int .i64 (fn7113 6), .int .i64 (fn7113 7), .int .i64 x7076, .int .i64 (IntKind.i64.wrap (a6138.Sent + (l7077.length : Int)))] 29 :: OSl 2 1 (.slice (some ⟨b6908, 0, none⟩) 16 16) 16 [.int .i64 (fn7075 0), .int .i64 (fn7075 1), .int .i64 (fn7075 2), .int .i64 (fn7075 3), .int .i64 (fn7075 4), .int .i64 (fn7075 5), .int .i64 (fn7075 6), .int .i64 (fn7075 7), .int .i64 (fn7075 8), .int .i64 (fn7075 9), .int .i64 (fn7075 10), .int .i64 (fn7075 11), .int .i64 (fn7075 12), .int .i64 (fn7075 13), .int .i64 (fn7075 14), .int .i64 (fn7075 15)] :: Cl b6910 [.slice A6132 a6131.Prog.length c6133, .int .i64 a6131.Self, .slice A6135 a6131.Links.length c6136, .int .u64 a6131.Seed, .int .i64 a6139.Key.Time, .int .i64 a6139.Key.From, .int .i64 a6139.Key.Seq, .int .i64 a6139.To, .int .i64 a6139.Value, .int .i64 a6139.Uid, .bool a6139.Anti, .slice (some ⟨b6908, 0, none⟩) 16 16, .int .i64 x7076, .slice A7078 l7077.length c7079, .int .i64 x7081] 79 :: l) hf) follows rfl (by kernel_rfl) (NoTmp.then NoTmp.body) ?_
         have hS := hS.same (w' := { w with drawn := w.drawn + 1 }) rfl rfl
         revert hS
         generalize { w with drawn := w.drawn + 1 } = w
         intro hS
         refine RP.s 0 rfl rfl (hS.dropAt 4 rfl) (fun w hS => Vl.loadA (vs := [.int .i64 (fn7113 0), .int .i64 (fn7113 1), .int .i64 (fn7113 2), .int .i64 (fn7113 3), .int .i64 (fn7113 4), .int .i64 (fn7113 5), .int .i64 (fn7113 6), .int .i64 (fn7113 7), .int .i64 x7076, .int .i64 (IntKind.i64.wrap (a6138.Sent + (l7077.length : Int)))]) Tryd.isAgg29 Tryd.sizeOf29 rfl rfl (hS.cellsAt 1 rfl rfl)) rfl ?_
         refine RP.s0 1 rfl (fun w => Vl.move rfl) rfl ?_
         refine RP.s0 2 rfl (fun w => Vl.nilCheck rfl) rfl ?_
         refine RP.s0 3 rfl (fun w => Vl.fieldAddr (a'' := ⟨b6910, 13, none⟩) Tryd.underlying79 rfl Tryd.sizeOf34 rfl rfl) rfl ?_
         refine RP.s 4 rfl rfl (hS.dropAt 4 rfl) (fun w hS => Vl.load Tryd.isAgg34 rfl (hS.cell 3 rfl rfl)) rfl ?_
         refine RP.e0 5 rfl (OW.store (cs := [.int .i64 (zfn 0), .int .i64 (zfn 1), .int .i64 (zfn 2), .int .i64 (zfn 3), .int .i64 (zfn 4), .int .i64 (zfn 5), .int .i64 (zfn 6), .int .i64 (zfn 7), .int .i64 0, .int .i64 0]) (vs := [.int .i64 ((ovl [fn7113 0, fn7113 1, fn7113 2, fn7113 3, fn7113 4, fn7113 5, fn7113 6, fn7113 7] zfn) 0), .int .i64 ((ovl [fn7113 0, fn7113 1, fn7113 2, fn7113 3, fn7113 4, fn7113 5, fn7113 6, fn7113 7] zfn) 1), .int .i64 ((ovl [fn7113 0, fn7113 1, fn7113 2, fn7113 3, fn7113 4, fn7113 5, fn7113 6, fn7113 7] zfn) 2), .int .i64 ((ovl [fn7113 0, fn7113 1, fn7113 2, fn7113 3, fn7113 4, fn7113 5, fn7113 6, fn7113 7] zfn) 3), .int .i64 ((ovl [fn7113 0, fn7113 1, fn7113 2, fn7113 3, fn7113 4, fn7113 5, fn7113 6, fn7113 7] zfn) 4), .int .i64 ((ovl [fn7113 0, fn7113 1, fn7113 2, fn7113 3, fn7113 4, fn7113 5, fn7113 6, fn7113 7] zfn) 5), .int .i64 ((ovl [fn7113 0, fn7113 1, fn7113 2, fn7113 3, fn7113 4, fn7113 5, fn7113 6, fn7113 7] zfn) 6), .int .i64 ((ovl [fn7113 0, fn7113 1, fn7113 2, fn7113 3, fn7113 4, fn7113 5, fn7113 6, fn7113 7] zfn) 7), .int .i64 x7076, .int .i64 (IntKind.i64.wrap (a6138.Sent + (l7077.length : Int)))]) (l' := OSf E_api_Out 58 (.slice A7078 l7077.length c7079) l7077 :: Cl b7083 [.int .i64 (fn7113 0), .int .i64 (fn7113 1), .int .i64 (fn7113 2), .int .i64 (fn7113 3), .int .i64 (fn7113 4), .int .i64 (fn7113 5), .int .i64 (fn7113 6), .int .i64 (fn7113 7), .int .i64 x7076, .int .i64 (IntKind.i64.wrap (a6138.Sent + (l7077.length : Int)))] 29 :: OSl 2 1 (.slice (some ⟨b6908, 0, none⟩) 16 16) 16 [.int .i64 (fn7075 0), .int .i64 (fn7075 1), .int .i64 (fn7075 2), .int .i64 (fn7075 3), .int .i64 (fn7075 4), .int .i64 (fn7075 5), .int .i64 (fn7075 6), .int .i64 (fn7075 7), .int .i64 (fn7075 8), .int .i64 (fn7075 9), .int .i64 (fn7075 10), .int .i64 (fn7075 11), .int .i64 (fn7075 12), .int .i64 (fn7075 13), .int .i64 (fn7075 14), .int .i64 (fn7075 15)] :: Cl b6910 [.slice A6132 a6131.Prog.length c6133, .int .i64 a6131.Self, .slice A6135 a6131.Links.length c6136, .int .u64 a6131.Seed, .int .i64 a6139.Key.Time, .int .i64 a6139.Key.From, .int .i64 a6139.Key.Seq, .int .i64 a6139.To, .int .i64 a6139.Value, .int .i64 a6139.Uid, .bool a6139.Anti, .slice (some ⟨b6908, 0, none⟩) 16 16, .int .i64 x7076, .slice A7078 l7077.length c7079, .int .i64 x7081] 79 :: Cl b6890 [.int .i64 ((ovl [fn7113 0, fn7113 1, fn7113 2, fn7113 3, fn7113 4, fn7113 5, fn7113 6, fn7113 7] zfn) 0), .int .i64 ((ovl [fn7113 0, fn7113 1, fn7113 2, fn7113 3, fn7113 4, fn7113 5, fn7113 6, fn7113 7] zfn) 1), .int .i64 ((ovl [fn7113 0, fn7113 1, fn7113 2, fn7113 3, fn7113 4, fn7113 5, fn7113 6, fn7113 7] zfn) 2), .int .i64 ((ovl [fn7113 0, fn7113 1, fn7113 2, fn7113 3, fn7113 4, fn7113 5, fn7113 6, fn7113 7] zfn) 3), .int .i64 ((ovl [fn7113 0, fn7113 1, fn7113 2, fn7113 3, fn7113 4, fn7113 5, fn7113 6, fn7113 7] zfn) 4), .int .i64 ((ovl [fn7113 0, fn7113 1, fn7113 2, fn7113 3, fn7113 4, fn7113 5, fn7113 6, fn7113 7] zfn) 5), .int .i64 ((ovl [fn7113 0, fn7113 1, fn7113 2, fn7113 3, fn7113 4, fn7113 5, fn7113 6, fn7113 7] zfn) 6), .int .i64 ((ovl [fn7113 0, fn7113 1, fn7113 2, fn7113 3, fn7113 4, fn7113 5, fn7113 6, fn7113 7] zfn) 7), .int .i64 x7076, .int .i64 (IntKind.i64.wrap (a6138.Sent + (l7077.length : Int)))] 29 :: l) 4 hS rfl rfl rfl rfl Tryd.sizeOf29 rfl rfl rfl rfl) rfl ?_
         rintro _ w ⟨rfl, hS⟩
         have hS : St B w (OSf E_api_Out 58 (.slice A7078 l7077.length c7079) l7077 :: Cl b7083 [.int .i64 (fn7113 0), .int .i64 (fn7113 1), .int .i64 (fn7113 2), .int .i64 (fn7113 3), .int .i64 (fn7113 4), .int .i64 (fn7113 5), .int .i64 (fn7113 6), .int .i64 (fn7113 7), .int .i64 x7076, .int .i64 (IntKind.i64.wrap (a6138.Sent + (l7077.length : Int)))] 29 :: OSl 2 1 (.slice (some ⟨b6908, 0, none⟩) 16 16) 16 [.int .i64 (fn7075 0), .int .i64 (fn7075 1), .int .i64 (fn7075 2), .int .i64 (fn7075 3), .int .i64 (fn7075 4), .int .i64 (fn7075 5), .int .i64 (fn7075 6), .int .i64 (fn7075 7), .int .i64 (fn7075 8), .int .i64 (fn7075 9), .int .i64 (fn7075 10), .int .i64 (fn7075 11), .int .i64 (fn7075 12), .int .i64 (fn7075 13), .int .i64 (fn7075 14), .int .i64 (fn7075 15)] :: Cl b6910 [.slice A6132 a6131.Prog.length c6133, .int .i64 a6131.Self, .slice A6135 a6131.Links.length c6136, .int .u64 a6131.Seed, .int .i64 a6139.Key.Time, .int .i64 a6139.Key.From, .int .i64 a6139.Key.Seq, .int .i64 a6139.To, .int .i64 a6139.Value, .int .i64 a6139.Uid, .bool a6139.Anti, .slice (some ⟨b6908, 0, none⟩) 16 16, .int .i64 x7076, .slice A7078 l7077.length c7079, .int .i64 x7081] 79 :: Cl b6890 [.int .i64 ((ovl [fn7113 0, fn7113 1, fn7113 2, fn7113 3, fn7113 4, fn7113 5, fn7113 6, fn7113 7] zfn) 0), .int .i64 ((ovl [fn7113 0, fn7113 1, fn7113 2, fn7113 3, fn7113 4, fn7113 5, fn7113 6, fn7113 7] zfn) 1), .int .i64 ((ovl [fn7113 0, fn7113 1, fn7113 2, fn7113 3, fn7113 4, fn7113 5, fn7113 6, fn7113 7] zfn) 2), .int .i64 ((ovl [fn7113 0, fn7113 1, fn7113 2, fn7113 3, fn7113 4, fn7113 5, fn7113 6, fn7113 7] zfn) 3), .int .i64 ((ovl [fn7113 0, fn7113 1, fn7113 2, fn7113 3, fn7113 4, fn7113 5, fn7113 6, fn7113 7] zfn) 4), .int .i64 ((ovl [fn7113 0, fn7113 1, fn7113 2, fn7113 3, fn7113 4, fn7113 5, fn7113 6, fn7113 7] zfn) 5), .int .i64 ((ovl [fn7113 0, fn7113 1, fn7113 2, fn7113 3, fn7113 4, fn7113 5, fn7113 6, fn7113 7] zfn) 6), .int .i64 ((ovl [fn7113 0, fn7113 1, fn7113 2, fn7113 3, fn7113 4, fn7113 5, fn7113 6, fn7113 7] zfn) 7), .int .i64 x7076, .int .i64 (IntKind.i64.wrap (a6138.Sent + (l7077.length : Int)))] 29 :: l) hf := hS
         refine ⟨fun _ => (hS.dropAt 4 rfl), ?_⟩
         refine RP.v1 6 rfl (Vl.assign rfl) rfl rfl ?_
         refine RP.v1 7 rfl (Vl.assign rfl) rfl rfl ?_
         refine RP.nil ?_
         refine RQ.then_n ?_
         refine RC.ret ?_
         have e := h.some
         subst e
         refine RQ.ret0 (vs := [.agg #[.int .i64 ((ovl [fn7113 0, fn7113 1, fn7113 2, fn7113 3, fn7113 4, fn7113 5, fn7113 6, fn7113 7] zfn) 0), .int .i64 ((ovl [fn7113 0, fn7113 1, fn7113 2, fn7113 3, fn7113 4, fn7113 5, fn7113 6, fn7113 7] zfn) 1), .int .i64 ((ovl [fn7113 0, fn7113 1, fn7113 2, fn7113 3, fn7113 4, fn7113 5, fn7113 6, fn7113 7] zfn) 2), .int .i64 ((ovl [fn7113 0, fn7113 1, fn7113 2, fn7113 3, fn7113 4, fn7113 5, fn7113 6, fn7113 7] zfn) 3), .int .i64 ((ovl [fn7113 0, fn7113 1, fn7113 2, fn7113 3, fn7113 4, fn7113 5, fn7113 6, fn7113 7] zfn) 4), .int .i64 ((ovl [fn7113 0, fn7113 1, fn7113 2, fn7113 3, fn7113 4, fn7113 5, fn7113 6, fn7113 7] zfn) 5), .int .i64 ((ovl [fn7113 0, fn7113 1, fn7113 2, fn7113 3, fn7113 4, fn7113 5, fn7113 6, fn7113 7] zfn) 6), .int .i64 ((ovl [fn7113 0, fn7113 1, fn7113 2, fn7113 3, fn7113 4, fn7113 5, fn7113 6, fn7113 7] zfn) 7), .int .i64 x7076, .int .i64 (IntKind.i64.wrap (a6138.Sent + (l7077.length : Int)))], .slice A7078 l7077.length c7079, .int .i64 0]) Tryd.results12 ⟨⟨_, rfl, run_loadVarA (vs := [.int .i64 ((ovl [fn7113 0, fn7113 1, fn7113 2, fn7113 3, fn7113 4, fn7113 5, fn7113 6, fn7113 7] zfn) 0), .int .i64 ((ovl [fn7113 0, fn7113 1, fn7113 2, fn7113 3, fn7113 4, fn7113 5, fn7113 6, fn7113 7] zfn) 1), .int .i64 ((ovl [fn7113 0, fn7113 1, fn7113 2, fn7113 3, fn7113 4, fn7113 5, fn7113 6, fn7113 7] zfn) 2), .int .i64 ((ovl [fn7113 0, fn7113 1, fn7113 2, fn7113 3, fn7113 4, fn7113 5, fn7113 6, fn7113 7] zfn) 3), .int .i64 ((ovl [fn7113 0, fn7113 1, fn7113 2, fn7113 3, fn7113 4, fn7113 5, fn7113 6, fn7113 7] zfn) 4), .int .i64 ((ovl [fn7113 0, fn7113 1, fn7113 2, fn7113 3, fn7113 4, fn7113 5, fn7113 6, fn7113 7] zfn) 5), .int .i64 ((ovl [fn7113 0, fn7113 1, fn7113 2, fn7113 3, fn7113 4, fn7113 5, fn7113 6, fn7113 7] zfn) 6), .int .i64 ((ovl [fn7113 0, fn7113 1, fn7113 2, fn7113 3, fn7113 4, fn7113 5, fn7113 6, fn7113 7] zfn) 7), .int .i64 x7076, .int .i64 (IntKind.i64.wrap (a6138.Sent + (l7077.length : Int)))]) Tryd.isAgg29 Tryd.sizeOf29 rfl (hS.cellsAt 4 rfl rfl)⟩, rfl, rfl, trivial⟩ ?_
         exact ⟨A7078, c7079, rfl, ((((hS.dropAt 1 rfl).dropAt 1 rfl).dropAt 1 rfl).dropAt 1 rfl)⟩
      · refine RC.seq ?_
        refine RC.region ?_
        refine RL.s (Vl.assign rfl) rfl ?_
        refine RL.nil ?_
        refine RQ.then_n ?_
        refine RC.block ?_
        have hS := hS.nilSl E_api_Out 58
        refine fun a ha => RC.loop (N := 110) (body := (isochronref05vRun.l14b a6131 a6138 a6139)) (φ := (· = r)) (fun (s : (Nat → Int) × Int × List api_Out × Int × Int) a w => ∃ (fn7170 : (Nat → Int)) (x7171 : Int) (l7172 : List api_Out) (x7176 : Int) (x7177 : Int), s = (fn7170, x7171, l7172, x7176, x7177) ∧ ∃ (A7173 : Option Addr) (c7174 : Nat), Has 110 [(3, .pointer (some ⟨b6884, 0, none⟩)), (4, .pointer (some ⟨b6886, 0, none⟩)), (6, .pointer (some ⟨b6890, 0, none⟩)), (10, .pointer (some ⟨b6910, 0, none⟩)), (12, .int .i64 x7177)] a ∧ St B w (OSf E_api_Out 58 (.slice A7173 l7172.length c7174) l7172 :: Cl b6910 [.slice A6132 a6131.Prog.length c6133, .int .i64 a6131.Self, .slice A6135 a6131.Links.length c6136, .int .u64 a6131.Seed, .int .i64 a6139.Key.Time, .int .i64 a6139.Key.From, .int .i64 a6139.Key.Seq, .int .i64 a6139.To, .int .i64 a6139.Value, .int .i64 a6139.Uid, .bool a6139.Anti, .slice (some ⟨b6908, 0, none⟩) 16 16, .int .i64 x7171, .slice A7173 l7172.length c7174, .int .i64 x7176] 79 :: OSl 2 1 (.slice (some ⟨b6908, 0, none⟩) 16 16) 16 [.int .i64 (fn7170 0), .int .i64 (fn7170 1), .int .i64 (fn7170 2), .int .i64 (fn7170 3), .int .i64 (fn7170 4), .int .i64 (fn7170 5), .int .i64 (fn7170 6), .int .i64 (fn7170 7), .int .i64 (fn7170 8), .int .i64 (fn7170 9), .int .i64 (fn7170 10), .int .i64 (fn7170 11), .int .i64 (fn7170 12), .int .i64 (fn7170 13), .int .i64 (fn7170 14), .int .i64 (fn7170 15)] :: Cl b6890 [.int .i64 (zfn 0), .int .i64 (zfn 1), .int .i64 (zfn 2), .int .i64 (zfn 3), .int .i64 (zfn 4), .int .i64 (zfn 5), .int .i64 (zfn 6), .int .i64 (zfn 7), .int .i64 0, .int .i64 0] 29 :: Cl b6886 [.int .i64 a6138.Regs.c0, .int .i64 a6138.Regs.c1, .int .i64 a6138.Regs.c2, .int .i64 a6138.Regs.c3, .int .i64 a6138.Regs.c4, .int .i64 a6138.Regs.c5, .int .i64 a6138.Regs.c6, .int .i64 a6138.Regs.c7, .int .i64 a6138.Draws, .int .i64 a6138.Sent] 29 :: Cl b6884 [.slice A6132 a6131.Prog.length c6133, .int .i64 a6131.Self, .slice A6135 a6131.Links.length c6136, .int .u64 a6131.Seed] 26 :: l) hf) ?_ (s0 := (fn6936, a6138.Draws, [], 0, 0)) h ⟨fn6936, a6138.Draws, ([]), 0, 0, rfl, none, 0, ha.to ⟨rfl, rfl, rfl, rfl, rfl, trivial⟩, hS⟩
        rintro G7218 _ a w ⟨fn7170, x7171, l7172, x7176, x7177, rfl, A7173, c7174, ha, hS⟩ h
        revert a
        show RC _ _ _ _ _ _
        refine RC.seq ?_
        refine RC.seq ?_
        refine RC.plan (.pure 0 (.pure 1 (.pure 2 (.pure 3 (.pure 4 (.pure 5 (.cons 6 true (.cons 7 false (.cons 8 false (.cons 9 false (.cons 10 false (.cons 11 false .nil)))))))))))) [] (fun w => St B w (OSf E_api_Out 58 (.slice A7173 l7172.length c7174) l7172 :: Cl b6910 [.slice A6132 a6131.Prog.length c6133, .int .i64 a6131.Self, .slice A6135 a6131.Links.length c6136, .int .u64 a6131.Seed, .int .i64 a6139.Key.Time, .int .i64 a6139.Key.From, .int .i64 a6139.Key.Seq, .int .i64 a6139.To, .int .i64 a6139.Value, .int .i64 a6139.Uid, .bool a6139.Anti, .slice (some ⟨b6908, 0, none⟩) 16 16, .int .i64 x7171, .slice A7173 l7172.length c7174, .int .i64 x7176] 79 :: OSl 2 1 (.slice (some ⟨b6908, 0, none⟩) 16 16) 16 [.int .i64 (fn7170 0), .int .i64 (fn7170 1), .int .i64 (fn7170 2), .int .i64 (fn7170 3), .int .i64 (fn7170 4), .int .i64 (fn7170 5), .int .i64 (fn7170 6), .int .i64 (fn7170 7), .int .i64 (fn7170 8), .int .i64 (fn7170 9), .int .i64 (fn7170 10), .int .i64 (fn7170 11), .int .i64 (fn7170 12), .int .i64 (fn7170 13), .int .i64 (fn7170 14), .int .i64 (fn7170 15)] :: Cl b6890 [.int .i64 (zfn 0), .int .i64 (zfn 1), .int .i64 (zfn 2), .int .i64 (zfn 3), .int .i64 (zfn 4), .int .i64 (zfn 5), .int .i64 (zfn 6), .int .i64 (zfn 7), .int .i64 0, .int .i64 0] 29 :: Cl b6886 [.int .i64 a6138.Regs.c0, .int .i64 a6138.Regs.c1, .int .i64 a6138.Regs.c2, .int .i64 a6138.Regs.c3, .int .i64 a6138.Regs.c4, .int .i64 a6138.Regs.c5, .int .i64 a6138.Regs.c6, .int .i64 a6138.Regs.c7, .int .i64 a6138.Draws, .int .i64 a6138.Sent] 29 :: Cl b6884 [.slice A6132 a6131.Prog.length c6133, .int .i64 a6131.Self, .slice A6135 a6131.Links.length c6136, .int .u64 a6131.Seed] 26 :: l) hf) follows rfl (by kernel_rfl) (NoTmp.then (NoTmp.then (NoTmp.then (NoTmp.block (NoTmp.then NoTmp.body))))) ?_
        have hS := hS.same (w' := { w with drawn := w.drawn + 1 }) rfl rfl
        revert hS
        generalize { w with drawn := w.drawn + 1 } = w
        intro hS
        refine RP.s0 0 rfl (fun w => Vl.move rfl) rfl ?_
        refine RP.s0 1 rfl (fun w => Vl.int rfl rfl rfl) rfl ?_
        refine RP.s0 2 rfl (fun w => Vl.move rfl) rfl ?_
        by_cases hc7221 : x7177 < 4096
        case pos =>
         have h := h.pos hc7221
         refine RP.re 55 rfl (congrArg Value.bool (decide_eq_true hc7221)) ?_
         refine RP.sg0 3 rfl (fun w => Vl.move rfl) rfl rfl ?_
         refine RP.sg0 4 rfl (fun w => Vl.nilCheck rfl) rfl rfl ?_
         refine RP.sg0 5 rfl (fun w => Vl.fieldAddr (a'' := ⟨b6910, 14, none⟩) Tryd.underlying79 rfl Tryd.sizeOf3 rfl rfl) rfl rfl ?_
         refine RP.sg 6 rfl rfl hS (fun w hS => Vl.load Tryd.isAgg3 rfl (hS.cell 1 rfl rfl)) rfl rfl ?_
         refine RP.v1 7 rfl (Vl.fieldAddr (a'' := ⟨b6884, 0, none⟩) Tryd.underlying26 rfl Tryd.sizeOf22 rfl rfl) rfl rfl ?_
         refine RP.v1 8 rfl (Vl.load Tryd.isAgg22 rfl (hS.cell 5 rfl rfl)) rfl rfl ?_
         refine RP.v1 9 rfl (Vl.lenSl Tryd.underlying22 rfl) rfl rfl ?_
         refine RP.v1 10 rfl (Vl.int rfl rfl rfl) rfl rfl ?_
         refine RP.v1 11 rfl (Vl.pickT rfl rfl) rfl rfl ?_
         refine RP.nil ?_
         refine RQ.then_n ?_
         by_cases hc7222 : x7176 < (a6131.Prog.length : Int)
         case pos =>
          have h := h.pos hc7222
          refine RC.re 64 rfl (congrArg Value.bool (decide_eq_true hc7222)) ?_
          refine RC.condT rfl ?_
          refine RC.skip ?_
          refine RQ.then_n ?_
          refine RC.seq ?_
          refine RC.block ?_
          refine RC.seq ?_
          refine RC.region ?_
          refine RL.s (Vl.move rfl) rfl ?_
          obtain ⟨t7237, hg7238, h⟩ := h.bind
          obtain ⟨y7239, y7240, y7241, y7242, y7243, y7244⟩ := t7237
          refine RL.e (OW.callF (ls := [.tmp 68]) rfl Tryd.call24 (isochronref05vrun_step.ok a6131.Prog a6131.Self a6131.Links a6131.Seed a6139.Key.Time a6139.Key.From a6139.Key.Seq a6139.To a6139.Value a6139.Uid a6139.Anti fn7170 x7171 l7172 x7176 b6910 A6132 c6133 A6135 c6136 (some ⟨b6908, 0, none⟩) 16 A7173 c7174 hr6134 hr6137 _ hg7238 ((((((hS.pull 5 rfl rfl).pull 5 rfl rfl).pull 5 rfl rfl).pull 3 rfl rfl).pull 4 rfl rfl).pull 5 rfl rfl))) rfl rfl ?_
          rintro _ w ⟨A7245, c7246, rfl, hS⟩
          have hS : St B w (OSf E_api_Out 58 (.slice A7245 y7243.length c7246) y7243 :: OSl 2 1 (.slice (some ⟨b6908, 0, none⟩) 16 16) 16 [.int .i64 (y7241 0), .int .i64 (y7241 1), .int .i64 (y7241 2), .int .i64 (y7241 3), .int .i64 (y7241 4), .int .i64 (y7241 5), .int .i64 (y7241 6), .int .i64 (y7241 7), .int .i64 (y7241 8), .int .i64 (y7241 9), .int .i64 (y7241 10), .int .i64 (y7241 11), .int .i64 (y7241 12), .int .i64 (y7241 13), .int .i64 (y7241 14), .int .i64 (y7241 15)] :: Cl b6910 [.slice A6132 a6131.Prog.length c6133, .int .i64 a6131.Self, .slice A6135 a6131.Links.length c6136, .int .u64 a6131.Seed, .int .i64 a6139.Key.Time, .int .i64 a6139.Key.From, .int .i64 a6139.Key.Seq, .int .i64 a6139.To, .int .i64 a6139.Value, .int .i64 a6139.Uid, .bool a6139.Anti, .slice (some ⟨b6908, 0, none⟩) 16 16, .int .i64 y7242, .slice A7245 y7243.length c7246, .int .i64 y7244] 79 :: Cl b6890 [.int .i64 (zfn 0), .int .i64 (zfn 1), .int .i64 (zfn 2), .int .i64 (zfn 3), .int .i64 (zfn 4), .int .i64 (zfn 5), .int .i64 (zfn 6), .int .i64 (zfn 7), .int .i64 0, .int .i64 0] 29 :: Cl b6886 [.int .i64 a6138.Regs.c0, .int .i64 a6138.Regs.c1, .int .i64 a6138.Regs.c2, .int .i64 a6138.Regs.c3, .int .i64 a6138.Regs.c4, .int .i64 a6138.Regs.c5, .int .i64 a6138.Regs.c6, .int .i64 a6138.Regs.c7, .int .i64 a6138.Draws, .int .i64 a6138.Sent] 29 :: Cl b6884 [.slice A6132 a6131.Prog.length c6133, .int .i64 a6131.Self, .slice A6135 a6131.Links.length c6136, .int .u64 a6131.Seed] 26 :: l) hf := hS
          refine RL.s (Vl.move rfl) rfl ?_
          refine RL.s (Vl.extract rfl rfl) rfl ?_
          refine RL.s (Vl.extract rfl rfl) rfl ?_
          refine RL.s (Vl.assign rfl) rfl ?_
          refine RL.s (Vl.assign rfl) rfl ?_
          refine RL.nil ?_
          refine RQ.then_n ?_
          refine RC.seq ?_
          refine RC.seq ?_
          refine RC.region ?_
          refine RL.s (Vl.move rfl) rfl ?_
          refine RL.s (Vl.int rfl rfl rfl) rfl ?_
          refine RL.nil ?_
          refine RQ.then_n ?_
          by_cases hc7249 : y7239 = 0
          case pos =>
           have h := h.pos hc7249
           refine RC.re 73 rfl (congrArg Value.bool (notdec_pos hc7249)) ?_
           refine RC.condF rfl ?_
           refine RC.skip ?_
           refine RQ.then_n ?_
           refine RC.seq ?_
           refine RC.region ?_
           refine RL.s (Vl.move rfl) rfl ?_
           refine RL.s (Vl.not rfl) rfl ?_
           refine RL.nil ?_
           refine RQ.then_n ?_
           by_cases hc7250 : y7240 = true
           case pos =>
            have h := h.pos hc7250
            refine RC.re 77 rfl (congrArg Value.bool (notb_pos hc7250)) ?_
            refine RC.condF rfl ?_
            refine RC.skip ?_
            refine RQ.inB_n ?_
            refine RQ.then_n ?_
            refine RC.region ?_
            refine RL.s (Vl.move rfl) rfl ?_
            refine RL.s (Vl.int rfl rfl rfl) rfl ?_
            refine RL.s (Vl.assign rfl) rfl ?_
            refine RL.nil ?_
            exact fun a ha => ⟨(y7241, y7242, y7243, y7244, IntKind.i64.wrap (x7177 + 1)), ⟨y7241, y7242, y7243, y7244, (IntKind.i64.wrap (x7177 + 1)), rfl, A7245, c7246, ha.to ⟨rfl, rfl, rfl, rfl, rfl, trivial⟩, ((((((hS.pull 5 rfl rfl).pull 5 rfl rfl).pull 5 rfl rfl).pull 4 rfl rfl).pull 5 rfl rfl).pull 5 rfl rfl)⟩, h.some⟩
           case neg =>
            have h := h.neg hc7250
            refine RC.re 77 rfl (congrArg Value.bool (notb_neg hc7250)) ?_
            refine RC.condT rfl ?_
            refine RC.exit ?_
            refine RQ.inB_miss rfl ?_
            refine RQ.exitT ?_
            have h := h.inr
            refine RQ.exitT ?_
            refine RQ.inB_hit ?_
            exact fun a ha => ⟨(y7241, y7242, y7243, y7244), y7241, y7242, y7243, y7244, rfl, A7245, c7246, ha.to ⟨rfl, rfl, rfl, trivial⟩, (hS.dropAt 5 rfl), h⟩
          case neg =>
           have h := h.neg hc7249
           refine RC.re 73 rfl (congrArg Value.bool (notdec_neg hc7249)) ?_
           refine RC.condT rfl ?_
           refine RC.seq ?_
           refine RC.region ?_
           refine RL.s (Vl.loadA (vs := [.int .i64 a6138.Regs.c0, .int .i64 a6138.Regs.c1, .int .i64 a6138.Regs.c2, .int .i64 a6138.Regs.c3, .int .i64 a6138.Regs.c4, .int .i64 a6138.Regs.c5, .int .i64 a6138.Regs.c6, .int .i64 a6138.Regs.c7, .int .i64 a6138.Draws, .int .i64 a6138.Sent]) Tryd.isAgg29 Tryd.sizeOf29 rfl rfl (hS.cellsAt 4 rfl rfl)) rfl ?_
           refine RL.s (Vl.move rfl) rfl ?_
           refine RL.e0 (OW.store (cs := [.int .i64 (zfn 0), .int .i64 (zfn 1), .int .i64 (zfn 2), .int .i64 (zfn 3), .int .i64 (zfn 4), .int .i64 (zfn 5), .int .i64 (zfn 6), .int .i64 (zfn 7), .int .i64 0, .int .i64 0]) (vs := [.int .i64 ((ovl [a6138.Regs.c0, a6138.Regs.c1, a6138.Regs.c2, a6138.Regs.c3, a6138.Regs.c4, a6138.Regs.c5, a6138.Regs.c6, a6138.Regs.c7] zfn) 0), .int .i64 ((ovl [a6138.Regs.c0, a6138.Regs.c1, a6138.Regs.c2, a6138.Regs.c3, a6138.Regs.c4, a6138.Regs.c5, a6138.Regs.c6, a6138.Regs.c7] zfn) 1), .int .i64 ((ovl [a6138.Regs.c0, a6138.Regs.c1, a6138.Regs.c2, a6138.Regs.c3, a6138.Regs.c4, a6138.Regs.c5, a6138.Regs.c6, a6138.Regs.c7] zfn) 2), .int .i64 ((ovl [a6138.Regs.c0, a6138.Regs.c1, a6138.Regs.c2, a6138.Regs.c3, a6138.Regs.c4, a6138.Regs.c5, a6138.Regs.c6, a6138.Regs.c7] zfn) 3), .int .i64 ((ovl [a6138.Regs.c0, a6138.Regs.c1, a6138.Regs.c2, a6138.Regs.c3, a6138.Regs.c4, a6138.Regs.c5, a6138.Regs.c6, a6138.Regs.c7] zfn) 4), .int .i64 ((ovl [a6138.Regs.c0, a6138.Regs.c1, a6138.Regs.c2, a6138.Regs.c3, a6138.Regs.c4, a6138.Regs.c5, a6138.Regs.c6, a6138.Regs.c7] zfn) 5), .int .i64 ((ovl [a6138.Regs.c0, a6138.Regs.c1, a6138.Regs.c2, a6138.Regs.c3, a6138.Regs.c4, a6138.Regs.c5, a6138.Regs.c6, a6138.Regs.c7] zfn) 6), .int .i64 ((ovl [a6138.Regs.c0, a6138.Regs.c1, a6138.Regs.c2, a6138.Regs.c3, a6138.Regs.c4, a6138.Regs.c5, a6138.Regs.c6, a6138.Regs.c7] zfn) 7), .int .i64 a6138.Draws, .int .i64 a6138.Sent]) (l' := OSf E_api_Out 58 (.slice A7245 y7243.length c7246) y7243 :: OSl 2 1 (.slice (some ⟨b6908, 0, none⟩) 16 16) 16 [.int .i64 (y7241 0), .int .i64 (y7241 1), .int .i64 (y7241 2), .int .i64 (y7241 3), .int .i64 (y7241 4), .int .i64 (y7241 5), .int .i64 (y7241 6), .int .i64 (y7241 7), .int .i64 (y7241 8), .int .i64 (y7241 9), .int .i64 (y7241 10), .int .i64 (y7241 11), .int .i64 (y7241 12), .int .i64 (y7241 13), .int .i64 (y7241 14), .int .i64 (y7241 15)] :: Cl b6910 [.slice A6132 a6131.Prog.length c6133, .int .i64 a6131.Self, .slice A6135 a6131.Links.length c6136, .int .u64 a6131.Seed, .int .i64 a6139.Key.Time, .int .i64 a6139.Key.From, .int .i64 a6139.Key.Seq, .int .i64 a6139.To, .int .i64 a6139.Value, .int .i64 a6139.Uid, .bool a6139.Anti, .slice (some ⟨b6908, 0, none⟩) 16 16, .int .i64 y7242, .slice A7245 y7243.length c7246, .int .i64 y7244] 79 :: Cl b6890 [.int .i64 ((ovl [a6138.Regs.c0, a6138.Regs.c1, a6138.Regs.c2, a6138.Regs.c3, a6138.Regs.c4, a6138.Regs.c5, a6138.Regs.c6, a6138.Regs.c7] zfn) 0), .int .i64 ((ovl [a6138.Regs.c0, a6138.Regs.c1, a6138.Regs.c2, a6138.Regs.c3, a6138.Regs.c4, a6138.Regs.c5, a6138.Regs.c6, a6138.Regs.c7] zfn) 1), .int .i64 ((ovl [a6138.Regs.c0, a6138.Regs.c1, a6138.Regs.c2, a6138.Regs.c3, a6138.Regs.c4, a6138.Regs.c5, a6138.Regs.c6, a6138.Regs.c7] zfn) 2), .int .i64 ((ovl [a6138.Regs.c0, a6138.Regs.c1, a6138.Regs.c2, a6138.Regs.c3, a6138.Regs.c4, a6138.Regs.c5, a6138.Regs.c6, a6138.Regs.c7] zfn) 3), .int .i64 ((ovl [a6138.Regs.c0, a6138.Regs.c1, a6138.Regs.c2, a6138.Regs.c3, a6138.Regs.c4, a6138.Regs.c5, a6138.Regs.c6, a6138.Regs.c7] zfn) 4), .int .i64 ((ovl [a6138.Regs.c0, a6138.Regs.c1, a6138.Regs.c2, a6138.Regs.c3, a6138.Regs.c4, a6138.Regs.c5, a6138.Regs.c6, a6138.Regs.c7] zfn) 5), .int .i64 ((ovl [a6138.Regs.c0, a6138.Regs.c1, a6138.Regs.c2, a6138.Regs.c3, a6138.Regs.c4, a6138.Regs.c5, a6138.Regs.c6, a6138.Regs.c7] zfn) 6), .int .i64 ((ovl [a6138.Regs.c0, a6138.Regs.c1, a6138.Regs.c2, a6138.Regs.c3, a6138.Regs.c4, a6138.Regs.c5, a6138.Regs.c6, a6138.Regs.c7] zfn) 7), .int .i64 a6138.Draws, .int .i64 a6138.Sent] 29 :: Cl b6886 [.int .i64 a6138.Regs.c0, .int .i64 a6138.Regs.c1, .int .i64 a6138.Regs.c2, .int .i64 a6138.Regs.c3, .int .i64 a6138.Regs.c4, .int .i64 a6138.Regs.c5, .int .i64 a6138.Regs.c6, .int .i64 a6138.Regs.c7, .int .i64 a6138.Draws, .int .i64 a6138.Sent] 29 :: Cl b6884 [.slice A6132 a6131.Prog.length c6133, .int .i64 a6131.Self, .slice A6135 a6131.Links.length c6136, .int .u64 a6131.Seed] 26 :: l) 3 hS rfl rfl rfl rfl Tryd.sizeOf29 rfl rfl rfl rfl) rfl ?_
           rintro _ w ⟨rfl, hS⟩
           have hS : St B w (OSf E_api_Out 58 (.slice A7245 y7243.length c7246) y7243 :: OSl 2 1 (.slice (some ⟨b6908, 0, none⟩) 16 16) 16 [.int .i64 (y7241 0), .int .i64 (y7241 1), .int .i64 (y7241 2), .int .i64 (y7241 3), .int .i64 (y7241 4), .int .i64 (y7241 5), .int .i64 (y7241 6), .int .i64 (y7241 7), .int .i64 (y7241 8), .int .i64 (y7241 9), .int .i64 (y7241 10), .int .i64 (y7241 11), .int .i64 (y7241 12), .int .i64 (y7241 13), .int .i64 (y7241 14), .int .i64 (y7241 15)] :: Cl b6910 [.slice A6132 a6131.Prog.length c6133, .int .i64 a6131.Self, .slice A6135 a6131.Links.length c6136, .int .u64 a6131.Seed, .int .i64 a6139.Key.Time, .int .i64 a6139.Key.From, .int .i64 a6139.Key.Seq, .int .i64 a6139.To, .int .i64 a6139.Value, .int .i64 a6139.Uid, .bool a6139.Anti, .slice (some ⟨b6908, 0, none⟩) 16 16, .int .i64 y7242, .slice A7245 y7243.length c7246, .int .i64 y7244] 79 :: Cl b6890 [.int .i64 ((ovl [a6138.Regs.c0, a6138.Regs.c1, a6138.Regs.c2, a6138.Regs.c3, a6138.Regs.c4, a6138.Regs.c5, a6138.Regs.c6, a6138.Regs.c7] zfn) 0), .int .i64 ((ovl [a6138.Regs.c0, a6138.Regs.c1, a6138.Regs.c2, a6138.Regs.c3, a6138.Regs.c4, a6138.Regs.c5, a6138.Regs.c6, a6138.Regs.c7] zfn) 1), .int .i64 ((ovl [a6138.Regs.c0, a6138.Regs.c1, a6138.Regs.c2, a6138.Regs.c3, a6138.Regs.c4, a6138.Regs.c5, a6138.Regs.c6, a6138.Regs.c7] zfn) 2), .int .i64 ((ovl [a6138.Regs.c0, a6138.Regs.c1, a6138.Regs.c2, a6138.Regs.c3, a6138.Regs.c4, a6138.Regs.c5, a6138.Regs.c6, a6138.Regs.c7] zfn) 3), .int .i64 ((ovl [a6138.Regs.c0, a6138.Regs.c1, a6138.Regs.c2, a6138.Regs.c3, a6138.Regs.c4, a6138.Regs.c5, a6138.Regs.c6, a6138.Regs.c7] zfn) 4), .int .i64 ((ovl [a6138.Regs.c0, a6138.Regs.c1, a6138.Regs.c2, a6138.Regs.c3, a6138.Regs.c4, a6138.Regs.c5, a6138.Regs.c6, a6138.Regs.c7] zfn) 5), .int .i64 ((ovl [a6138.Regs.c0, a6138.Regs.c1, a6138.Regs.c2, a6138.Regs.c3, a6138.Regs.c4, a6138.Regs.c5, a6138.Regs.c6, a6138.Regs.c7] zfn) 6), .int .i64 ((ovl [a6138.Regs.c0, a6138.Regs.c1, a6138.Regs.c2, a6138.Regs.c3, a6138.Regs.c4, a6138.Regs.c5, a6138.Regs.c6, a6138.Regs.c7] zfn) 7), .int .i64 a6138.Draws, .int .i64 a6138.Sent] 29 :: Cl b6886 [.int .i64 a6138.Regs.c0, .int .i64 a6138.Regs.c1, .int .i64 a6138.Regs.c2, .int .i64 a6138.Regs.c3, .int .i64 a6138.Regs.c4, .int .i64 a6138.Regs.c5, .int .i64 a6138.Regs.c6, .int .i64 a6138.Regs.c7, .int .i64 a6138.Draws, .int .i64 a6138.Sent] 29 :: Cl b6884 [.slice A6132 a6131.Prog.length c6133, .int .i64 a6131.Self, .slice A6135 a6131.Links.length c6136, .int .u64 a6131.Seed] 26 :: l) hf := hS
           refine RL.s (Vl.assign rfl) rfl ?_
           refine RL.s (Vl.assign rfl) rfl ?_
           refine RL.nil ?_
           refine RQ.then_n ?_
           refine RC.ret ?_
           refine RQ.ret ?_
           refine RQ.inB_ret ?_
           refine RQ.ret ?_
           have h := h.inrS
           refine RQ.ret ?_
           refine RQ.inB_ret ?_
           refine RQ.ret ?_
           have hS := hS.nilSl E_api_Out 58
           have e := h.some
           subst e
           refine RQ.ret0 (vs := [.agg #[.int .i64 ((ovl [a6138.Regs.c0, a6138.Regs.c1, a6138.Regs.c2, a6138.Regs.c3, a6138.Regs.c4, a6138.Regs.c5, a6138.Regs.c6, a6138.Regs.c7] zfn) 0), .int .i64 ((ovl [a6138.Regs.c0, a6138.Regs.c1, a6138.Regs.c2, a6138.Regs.c3, a6138.Regs.c4, a6138.Regs.c5, a6138.Regs.c6, a6138.Regs.c7] zfn) 1), .int .i64 ((ovl [a6138.Regs.c0, a6138.Regs.c1, a6138.Regs.c2, a6138.Regs.c3, a6138.Regs.c4, a6138.Regs.c5, a6138.Regs.c6, a6138.Regs.c7] zfn) 2), .int .i64 ((ovl [a6138.Regs.c0, a6138.Regs.c1, a6138.Regs.c2, a6138.Regs.c3, a6138.Regs.c4, a6138.Regs.c5, a6138.Regs.c6, a6138.Regs.c7] zfn) 3), .int .i64 ((ovl [a6138.Regs.c0, a6138.Regs.c1, a6138.Regs.c2, a6138.Regs.c3, a6138.Regs.c4, a6138.Regs.c5, a6138.Regs.c6, a6138.Regs.c7] zfn) 4), .int .i64 ((ovl [a6138.Regs.c0, a6138.Regs.c1, a6138.Regs.c2, a6138.Regs.c3, a6138.Regs.c4, a6138.Regs.c5, a6138.Regs.c6, a6138.Regs.c7] zfn) 5), .int .i64 ((ovl [a6138.Regs.c0, a6138.Regs.c1, a6138.Regs.c2, a6138.Regs.c3, a6138.Regs.c4, a6138.Regs.c5, a6138.Regs.c6, a6138.Regs.c7] zfn) 6), .int .i64 ((ovl [a6138.Regs.c0, a6138.Regs.c1, a6138.Regs.c2, a6138.Regs.c3, a6138.Regs.c4, a6138.Regs.c5, a6138.Regs.c6, a6138.Regs.c7] zfn) 7), .int .i64 a6138.Draws, .int .i64 a6138.Sent], .slice none 0 0, .int .i64 y7239]) Tryd.results12 ⟨⟨_, rfl, run_loadVarA (vs := [.int .i64 ((ovl [a6138.Regs.c0, a6138.Regs.c1, a6138.Regs.c2, a6138.Regs.c3, a6138.Regs.c4, a6138.Regs.c5, a6138.Regs.c6, a6138.Regs.c7] zfn) 0), .int .i64 ((ovl [a6138.Regs.c0, a6138.Regs.c1, a6138.Regs.c2, a6138.Regs.c3, a6138.Regs.c4, a6138.Regs.c5, a6138.Regs.c6, a6138.Regs.c7] zfn) 1), .int .i64 ((ovl [a6138.Regs.c0, a6138.Regs.c1, a6138.Regs.c2, a6138.Regs.c3, a6138.Regs.c4, a6138.Regs.c5, a6138.Regs.c6, a6138.Regs.c7] zfn) 2), .int .i64 ((ovl [a6138.Regs.c0, a6138.Regs.c1, a6138.Regs.c2, a6138.Regs.c3, a6138.Regs.c4, a6138.Regs.c5, a6138.Regs.c6, a6138.Regs.c7] zfn) 3), .int .i64 ((ovl [a6138.Regs.c0, a6138.Regs.c1, a6138.Regs.c2, a6138.Regs.c3, a6138.Regs.c4, a6138.Regs.c5, a6138.Regs.c6, a6138.Regs.c7] zfn) 4), .int .i64 ((ovl [a6138.Regs.c0, a6138.Regs.c1, a6138.Regs.c2, a6138.Regs.c3, a6138.Regs.c4, a6138.Regs.c5, a6138.Regs.c6, a6138.Regs.c7] zfn) 5), .int .i64 ((ovl [a6138.Regs.c0, a6138.Regs.c1, a6138.Regs.c2, a6138.Regs.c3, a6138.Regs.c4, a6138.Regs.c5, a6138.Regs.c6, a6138.Regs.c7] zfn) 6), .int .i64 ((ovl [a6138.Regs.c0, a6138.Regs.c1, a6138.Regs.c2, a6138.Regs.c3, a6138.Regs.c4, a6138.Regs.c5, a6138.Regs.c6, a6138.Regs.c7] zfn) 7), .int .i64 a6138.Draws, .int .i64 a6138.Sent]) Tryd.isAgg29 Tryd.sizeOf29 rfl (hS.cellsAt 4 rfl rfl)⟩, rfl, rfl, trivial⟩ ?_
           exact ⟨none, 0, rfl, ((((((hS.dropAt 1 rfl).dropAt 1 rfl).dropAt 1 rfl).dropAt 1 rfl).dropAt 1 rfl).dropAt 1 rfl)⟩
         case neg =>
          have h := h.neg hc7222
          refine RC.re 64 rfl (congrArg Value.bool (decide_eq_false hc7222)) ?_
          refine RC.condF rfl ?_
          refine RC.exit ?_
          refine RQ.exitT ?_
          have h := h.inr
          refine RQ.exitT ?_
          refine RQ.inB_hit ?_
          exact fun a ha => ⟨(fn7170, x7171, l7172, x7176), fn7170, x7171, l7172, x7176, rfl, A7173, c7174, ha.to ⟨rfl, rfl, rfl, trivial⟩, ((((((hS.dropAt 5 rfl).pull 4 rfl rfl).pull 4 rfl rfl).pull 3 rfl rfl).pull 4 rfl rfl).pull 4 rfl rfl), h⟩
        case neg =>
         have h := h.neg hc7221
         refine RP.re 55 rfl (congrArg Value.bool (decide_eq_false hc7221)) ?_
         refine RP.nn0 3 rfl rfl rfl ?_
         refine RP.nn0 4 rfl rfl rfl ?_
         refine RP.nn0 5 rfl rfl rfl ?_
         refine RP.nn 6 rfl rfl rfl ?_
         refine RP.n1 7 rfl rfl rfl ?_
         refine RP.n1 8 rfl rfl rfl ?_
         refine RP.n1 9 rfl rfl rfl ?_
         refine RP.n1 10 rfl rfl rfl ?_
         refine RP.v1 11 rfl (Vl.pickF rfl rfl) rfl rfl ?_
         refine RP.nil ?_
         refine RQ.then_n ?_
         refine RC.condF rfl ?_
         refine RC.exit ?_
         refine RQ.exitT ?_
         have h := h.inr
         refine RQ.exitT ?_
         refine RQ.inB_hit ?_
         exact fun a ha => ⟨(fn7170, x7171, l7172, x7176), fn7170, x7171, l7172, x7176, rfl, A7173, c7174, ha.to ⟨rfl, rfl, rfl, trivial⟩, ((((((hS.dropAt 5 rfl).pull 4 rfl rfl).pull 4 rfl rfl).pull 3 rfl rfl).pull 4 rfl rfl).pull 4 rfl rfl), h⟩
    case neg =>
     have h := h.neg hc6906
     refine RC.re 30 rfl (congrArg Value.bool (notb_neg hc6906)) ?_
     refine RC.condT rfl ?_
     refine RC.seq ?_
     refine RC.region ?_
     refine RL.s (Vl.build (v := .agg #[.int .i64 0, .int .i64 0, .int .i64 0, .int .i64 0, .int .i64 0, .int .i64 0, .int .i64 0, .int .i64 0, .int .i64 0, .int .i64 0]) (parts := []) rfl (by kernel_rfl)) rfl ?_
     refine RL.e0 (OW.store (cs := [.int .i64 (zfn 0), .int .i64 (zfn 1), .int .i64 (zfn 2), .int .i64 (zfn 3), .int .i64 (zfn 4), .int .i64 (zfn 5), .int .i64 (zfn 6), .int .i64 (zfn 7), .int .i64 0, .int .i64 0]) (vs := [.int .i64 (zfn 0), .int .i64 (zfn 1), .int .i64 (zfn 2), .int .i64 (zfn 3), .int .i64 (zfn 4), .int .i64 (zfn 5), .int .i64 (zfn 6), .int .i64 (zfn 7), .int .i64 0, .int .i64 0]) (l' := Cl b6890 [.int .i64 (zfn 0), .int .i64 (zfn 1), .int .i64 (zfn 2), .int .i64 (zfn 3), .int .i64 (zfn 4), .int .i64 (zfn 5), .int .i64 (zfn 6), .int .i64 (zfn 7), .int .i64 0, .int .i64 0] 29 :: Cl b6888 [.int .i64 a6139.Key.Time, .int .i64 a6139.Key.From, .int .i64 a6139.Key.Seq, .int .i64 a6139.To, .int .i64 a6139.Value, .int .i64 a6139.Uid, .bool a6139.Anti] 33 :: Cl b6886 [.int .i64 a6138.Regs.c0, .int .i64 a6138.Regs.c1, .int .i64 a6138.Regs.c2, .int .i64 a6138.Regs.c3, .int .i64 a6138.Regs.c4, .int .i64 a6138.Regs.c5, .int .i64 a6138.Regs.c6, .int .i64 a6138.Regs.c7, .int .i64 a6138.Draws, .int .i64 a6138.Sent] 29 :: Cl b6884 [.slice A6132 a6131.Prog.length c6133, .int .i64 a6131.Self, .slice A6135 a6131.Links.length c6136, .int .u64 a6131.Seed] 26 :: l) 0 hS rfl rfl rfl rfl Tryd.sizeOf29 rfl rfl rfl rfl) rfl ?_
     rintro _ w ⟨rfl, hS⟩
     have hS : St B w (Cl b6890 [.int .i64 (zfn 0), .int .i64 (zfn 1), .int .i64 (zfn 2), .int .i64 (zfn 3), .int .i64 (zfn 4), .int .i64 (zfn 5), .int .i64 (zfn 6), .int .i64 (zfn 7), .int .i64 0, .int .i64 0] 29 :: Cl b6888 [.int .i64 a6139.Key.Time, .int .i64 a6139.Key.From, .int .i64 a6139.Key.Seq, .int .i64 a6139.To, .int .i64 a6139.Value, .int .i64 a6139.Uid, .bool a6139.Anti] 33 :: Cl b6886 [.int .i64 a6138.Regs.c0, .int .i64 a6138.Regs.c1, .int .i64 a6138.Regs.c2, .int .i64 a6138.Regs.c3, .int .i64 a6138.Regs.c4, .int .i64 a6138.Regs.c5, .int .i64 a6138.Regs.c6, .int .i64 a6138.Regs.c7, .int .i64 a6138.Draws, .int .i64 a6138.Sent] 29 :: Cl b6884 [.slice A6132 a6131.Prog.length c6133, .int .i64 a6131.Self, .slice A6135 a6131.Links.length c6136, .int .u64 a6131.Seed] 26 :: l) hf := hS
     refine RL.s (Vl.assign rfl) rfl ?_
     refine RL.s (Vl.assign rfl) rfl ?_
     refine RL.nil ?_
     refine RQ.then_n ?_
     refine RC.ret ?_
     refine RQ.ret ?_
     have hS := hS.nilSl E_api_Out 58
     have e := h.some
     subst e
     refine RQ.ret0 (vs := [.agg #[.int .i64 (zfn 0), .int .i64 (zfn 1), .int .i64 (zfn 2), .int .i64 (zfn 3), .int .i64 (zfn 4), .int .i64 (zfn 5), .int .i64 (zfn 6), .int .i64 (zfn 7), .int .i64 0, .int .i64 0], .slice none 0 0, .int .i64 1]) Tryd.results12 ⟨⟨_, rfl, run_loadVarA (vs := [.int .i64 (zfn 0), .int .i64 (zfn 1), .int .i64 (zfn 2), .int .i64 (zfn 3), .int .i64 (zfn 4), .int .i64 (zfn 5), .int .i64 (zfn 6), .int .i64 (zfn 7), .int .i64 0, .int .i64 0]) Tryd.isAgg29 Tryd.sizeOf29 rfl (hS.cellsAt 1 rfl rfl)⟩, rfl, rfl, trivial⟩ ?_
     exact ⟨none, 0, rfl, ((((hS.dropAt 1 rfl).dropAt 1 rfl).dropAt 1 rfl).dropAt 1 rfl)⟩
   case neg =>
    have h := h.neg hc6903
    refine RL.re 26 rfl (congrArg Value.bool (notdec_neg hc6903)) ?_
    refine RL.nn rfl rfl ?_
    refine RL.nn rfl rfl ?_
    refine RL.nn rfl rfl ?_
    refine RL.s (Vl.pickT rfl rfl) rfl ?_
    refine RL.nil ?_
    refine RQ.then_n ?_
    refine RC.condT rfl ?_
    refine RC.seq ?_
    refine RC.region ?_
    refine RL.s (Vl.build (v := .agg #[.int .i64 0, .int .i64 0, .int .i64 0, .int .i64 0, .int .i64 0, .int .i64 0, .int .i64 0, .int .i64 0, .int .i64 0, .int .i64 0]) (parts := []) rfl (by kernel_rfl)) rfl ?_
    refine RL.e0 (OW.store (cs := [.int .i64 (zfn 0), .int .i64 (zfn 1), .int .i64 (zfn 2), .int .i64 (zfn 3), .int .i64 (zfn 4), .int .i64 (zfn 5), .int .i64 (zfn 6), .int .i64 (zfn 7), .int .i64 0, .int .i64 0]) (vs := [.int .i64 (zfn 0), .int .i64 (zfn 1), .int .i64 (zfn 2), .int .i64 (zfn 3), .int .i64 (zfn 4), .int .i64 (zfn 5), .int .i64 (zfn 6), .int .i64 (zfn 7), .int .i64 0, .int .i64 0]) (l' := Cl b6890 [.int .i64 (zfn 0), .int .i64 (zfn 1), .int .i64 (zfn 2), .int .i64 (zfn 3), .int .i64 (zfn 4), .int .i64 (zfn 5), .int .i64 (zfn 6), .int .i64 (zfn 7), .int .i64 0, .int .i64 0] 29 :: Cl b6888 [.int .i64 a6139.Key.Time, .int .i64 a6139.Key.From, .int .i64 a6139.Key.Seq, .int .i64 a6139.To, .int .i64 a6139.Value, .int .i64 a6139.Uid, .bool a6139.Anti] 33 :: Cl b6886 [.int .i64 a6138.Regs.c0, .int .i64 a6138.Regs.c1, .int .i64 a6138.Regs.c2, .int .i64 a6138.Regs.c3, .int .i64 a6138.Regs.c4, .int .i64 a6138.Regs.c5, .int .i64 a6138.Regs.c6, .int .i64 a6138.Regs.c7, .int .i64 a6138.Draws, .int .i64 a6138.Sent] 29 :: Cl b6884 [.slice A6132 a6131.Prog.length c6133, .int .i64 a6131.Self, .slice A6135 a6131.Links.length c6136, .int .u64 a6131.Seed] 26 :: l) 0 hS rfl rfl rfl rfl Tryd.sizeOf29 rfl rfl rfl rfl) rfl ?_
    rintro _ w ⟨rfl, hS⟩
    have hS : St B w (Cl b6890 [.int .i64 (zfn 0), .int .i64 (zfn 1), .int .i64 (zfn 2), .int .i64 (zfn 3), .int .i64 (zfn 4), .int .i64 (zfn 5), .int .i64 (zfn 6), .int .i64 (zfn 7), .int .i64 0, .int .i64 0] 29 :: Cl b6888 [.int .i64 a6139.Key.Time, .int .i64 a6139.Key.From, .int .i64 a6139.Key.Seq, .int .i64 a6139.To, .int .i64 a6139.Value, .int .i64 a6139.Uid, .bool a6139.Anti] 33 :: Cl b6886 [.int .i64 a6138.Regs.c0, .int .i64 a6138.Regs.c1, .int .i64 a6138.Regs.c2, .int .i64 a6138.Regs.c3, .int .i64 a6138.Regs.c4, .int .i64 a6138.Regs.c5, .int .i64 a6138.Regs.c6, .int .i64 a6138.Regs.c7, .int .i64 a6138.Draws, .int .i64 a6138.Sent] 29 :: Cl b6884 [.slice A6132 a6131.Prog.length c6133, .int .i64 a6131.Self, .slice A6135 a6131.Links.length c6136, .int .u64 a6131.Seed] 26 :: l) hf := hS
    refine RL.s (Vl.assign rfl) rfl ?_
    refine RL.s (Vl.assign rfl) rfl ?_
    refine RL.nil ?_
    refine RQ.then_n ?_
    refine RC.ret ?_
    refine RQ.ret ?_
    have hS := hS.nilSl E_api_Out 58
    have e := h.some
    subst e
    refine RQ.ret0 (vs := [.agg #[.int .i64 (zfn 0), .int .i64 (zfn 1), .int .i64 (zfn 2), .int .i64 (zfn 3), .int .i64 (zfn 4), .int .i64 (zfn 5), .int .i64 (zfn 6), .int .i64 (zfn 7), .int .i64 0, .int .i64 0], .slice none 0 0, .int .i64 1]) Tryd.results12 ⟨⟨_, rfl, run_loadVarA (vs := [.int .i64 (zfn 0), .int .i64 (zfn 1), .int .i64 (zfn 2), .int .i64 (zfn 3), .int .i64 (zfn 4), .int .i64 (zfn 5), .int .i64 (zfn 6), .int .i64 (zfn 7), .int .i64 0, .int .i64 0]) Tryd.isAgg29 Tryd.sizeOf29 rfl (hS.cellsAt 1 rfl rfl)⟩, rfl, rfl, trivial⟩ ?_
    exact ⟨none, 0, rfl, ((((hS.dropAt 1 rfl).dropAt 1 rfl).dropAt 1 rfl).dropAt 1 rfl)⟩
  case neg =>
   have h := h.neg hc6894
   refine RC.re 20 rfl (congrArg Value.bool (notdec_neg hc6894)) ?_
   refine RC.condT rfl ?_
   refine RC.seq ?_
   refine RC.region ?_
   refine RL.s (Vl.build (v := .agg #[.int .i64 0, .int .i64 0, .int .i64 0, .int .i64 0, .int .i64 0, .int .i64 0, .int .i64 0, .int .i64 0, .int .i64 0, .int .i64 0]) (parts := []) rfl (by kernel_rfl)) rfl ?_
   refine RL.s (Vl.move rfl) rfl ?_
   refine RL.e0 (OW.store (cs := [.int .i64 (zfn 0), .int .i64 (zfn 1), .int .i64 (zfn 2), .int .i64 (zfn 3), .int .i64 (zfn 4), .int .i64 (zfn 5), .int .i64 (zfn 6), .int .i64 (zfn 7), .int .i64 0, .int .i64 0]) (vs := [.int .i64 (zfn 0), .int .i64 (zfn 1), .int .i64 (zfn 2), .int .i64 (zfn 3), .int .i64 (zfn 4), .int .i64 (zfn 5), .int .i64 (zfn 6), .int .i64 (zfn 7), .int .i64 0, .int .i64 0]) (l' := Cl b6890 [.int .i64 (zfn 0), .int .i64 (zfn 1), .int .i64 (zfn 2), .int .i64 (zfn 3), .int .i64 (zfn 4), .int .i64 (zfn 5), .int .i64 (zfn 6), .int .i64 (zfn 7), .int .i64 0, .int .i64 0] 29 :: Cl b6888 [.int .i64 a6139.Key.Time, .int .i64 a6139.Key.From, .int .i64 a6139.Key.Seq, .int .i64 a6139.To, .int .i64 a6139.Value, .int .i64 a6139.Uid, .bool a6139.Anti] 33 :: Cl b6886 [.int .i64 a6138.Regs.c0, .int .i64 a6138.Regs.c1, .int .i64 a6138.Regs.c2, .int .i64 a6138.Regs.c3, .int .i64 a6138.Regs.c4, .int .i64 a6138.Regs.c5, .int .i64 a6138.Regs.c6, .int .i64 a6138.Regs.c7, .int .i64 a6138.Draws, .int .i64 a6138.Sent] 29 :: Cl b6884 [.slice A6132 a6131.Prog.length c6133, .int .i64 a6131.Self, .slice A6135 a6131.Links.length c6136, .int .u64 a6131.Seed] 26 :: l) 0 hS rfl rfl rfl rfl Tryd.sizeOf29 rfl rfl rfl rfl) rfl ?_
   rintro _ w ⟨rfl, hS⟩
   have hS : St B w (Cl b6890 [.int .i64 (zfn 0), .int .i64 (zfn 1), .int .i64 (zfn 2), .int .i64 (zfn 3), .int .i64 (zfn 4), .int .i64 (zfn 5), .int .i64 (zfn 6), .int .i64 (zfn 7), .int .i64 0, .int .i64 0] 29 :: Cl b6888 [.int .i64 a6139.Key.Time, .int .i64 a6139.Key.From, .int .i64 a6139.Key.Seq, .int .i64 a6139.To, .int .i64 a6139.Value, .int .i64 a6139.Uid, .bool a6139.Anti] 33 :: Cl b6886 [.int .i64 a6138.Regs.c0, .int .i64 a6138.Regs.c1, .int .i64 a6138.Regs.c2, .int .i64 a6138.Regs.c3, .int .i64 a6138.Regs.c4, .int .i64 a6138.Regs.c5, .int .i64 a6138.Regs.c6, .int .i64 a6138.Regs.c7, .int .i64 a6138.Draws, .int .i64 a6138.Sent] 29 :: Cl b6884 [.slice A6132 a6131.Prog.length c6133, .int .i64 a6131.Self, .slice A6135 a6131.Links.length c6136, .int .u64 a6131.Seed] 26 :: l) hf := hS
   refine RL.s (Vl.assign rfl) rfl ?_
   refine RL.s (Vl.assign rfl) rfl ?_
   refine RL.nil ?_
   refine RQ.then_n ?_
   refine RC.ret ?_
   refine RQ.ret ?_
   have hS := hS.nilSl E_api_Out 58
   have e := h.some
   subst e
   refine RQ.ret0 (vs := [.agg #[.int .i64 (zfn 0), .int .i64 (zfn 1), .int .i64 (zfn 2), .int .i64 (zfn 3), .int .i64 (zfn 4), .int .i64 (zfn 5), .int .i64 (zfn 6), .int .i64 (zfn 7), .int .i64 0, .int .i64 0], .slice none 0 0, .int .i64 t6891]) Tryd.results12 ⟨⟨_, rfl, run_loadVarA (vs := [.int .i64 (zfn 0), .int .i64 (zfn 1), .int .i64 (zfn 2), .int .i64 (zfn 3), .int .i64 (zfn 4), .int .i64 (zfn 5), .int .i64 (zfn 6), .int .i64 (zfn 7), .int .i64 0, .int .i64 0]) Tryd.isAgg29 Tryd.sizeOf29 rfl (hS.cellsAt 1 rfl rfl)⟩, rfl, rfl, trivial⟩ ?_
   exact ⟨none, 0, rfl, ((((hS.dropAt 1 rfl).dropAt 1 rfl).dropAt 1 rfl).dropAt 1 rfl)⟩

/-! ### isochron/isochronlaw05.outs: function 13 -/
noncomputable def isochronlaw05vouts.l2b (a7268 : List api_Out) (a7272 : List api_Out) : Int → Option ((Int) ⊕ (Bool))
  | (x7313) => (if x7313 < (a7268.length : Int) then (if 0 ≤ x7313 then (if x7313 < (a7272.length : Int) then (if nth a7268 x7313 = nth a7272 x7313 then some (.inl (IntKind.i64.wrap (x7313 + 1))) else some (.inr false)) else none) else none) else some (.inr true))
noncomputable def isochronlaw05vouts.l2 (a7268 : List api_Out) (a7272 : List api_Out) (s : Int) : Option (Bool) := loopR (isochronlaw05vouts.l2b a7268 a7272) s
noncomputable def isochronlaw05vouts.f (a7268 : List api_Out) (a7272 : List api_Out) : Option (Bool) := (if (a7268.length : Int) = (a7272.length : Int) then isochronlaw05vouts.l2 a7268 a7272 (0) else some false)
set_option maxRecDepth 100000 in
set_option maxHeartbeats 4000000 in
theorem isochronlaw05vouts.ok {B : Base} {w : World} {l : List HProp} {hf : Hp} (a7268 : List api_Out) (a7272 : List api_Out) (A7269 : Option Addr) (c7270 : Nat) (A7273 : Option Addr) (c7274 : Nat) (hr7271 : SlR E_api_Out.rep hf A7269 c7270 a7268) (hr7275 : SlR E_api_Out.rep hf A7273 c7274 a7272) (r : Bool) (h : isochronlaw05vouts.f a7268 a7272 = some r) (hS : St B w (l) hf) :
    Calls Tryd.prog 13 #[.slice A7269 a7268.length c7270, .slice A7273 a7272.length c7274] w (Ret fun v w => v = .bool r ∧ St B w (l) hf) := by
  have h := Holds.of h
  refine enter (args := [.slice A7269 a7268.length c7270, .slice A7273 a7272.length c7274]) Tryd.func13 rfl Tryd.ntmps13 (Nat.le_of_ble_eq_true rfl) ?_
  refine RC.seq ?_
  refine RC.region ?_
  refine RL.s (Vl.assign rfl) rfl ?_
  refine RL.nil ?_
  refine RQ.then_n ?_
  refine RC.seq ?_
  refine RC.seq ?_
  refine RC.region ?_
  refine RL.s (Vl.move rfl) rfl ?_
  refine RL.s (Vl.lenSl Tryd.underlying34 rfl) rfl ?_
  refine RL.s (Vl.move rfl) rfl ?_
  refine RL.s (Vl.lenSl Tryd.underlying34 rfl) rfl ?_
  refine RL.s (Vl.int rfl rfl rfl) rfl ?_
  refine RL.nil ?_
  refine RQ.then_n ?_
  by_cases hc7305 : (a7268.length : Int) = (a7272.length : Int)
  case pos =>
   have h := h.pos hc7305
   refine RC.re 10 rfl (congrArg Value.bool (notdec_pos hc7305)) ?_
   refine RC.condF rfl ?_
   refine RC.skip ?_
   refine RQ.then_n ?_
   refine RC.seq ?_
   refine RC.seq ?_
   refine RC.region ?_
   refine RL.s (Vl.assign rfl) rfl ?_
   refine RL.nil ?_
   refine RQ.then_n ?_
   refine RC.block ?_
   refine fun a ha => RC.loop (N := 26) (body := (isochronlaw05vouts.l2b a7268 a7272)) (φ := (· = r)) (fun (s : Int) a w => ∃ (x7313 : Int), s = (x7313) ∧ Has 26 [(0, .slice A7269 a7268.length c7270), (1, .slice A7273 a7272.length c7274), (5, .int .i64 x7313)] a ∧ St B w (l) hf) ?_ (s0 := (0)) h ⟨0, rfl, ha.to ⟨rfl, rfl, rfl, trivial⟩, hS⟩
   rintro G7323 x7313 a w ⟨_, rfl, ha, hS⟩ h
   revert a
   show RC _ _ _ _ _ _
   refine RC.seq ?_
   refine RC.seq ?_
   refine RC.region ?_
   refine RL.s (Vl.move rfl) rfl ?_
   refine RL.s (Vl.move rfl) rfl ?_
   refine RL.s (Vl.lenSl Tryd.underlying34 rfl) rfl ?_
   refine RL.s (Vl.int rfl rfl rfl) rfl ?_
   refine RL.nil ?_
   refine RQ.then_n ?_
   by_cases hc7325 : x7313 < (a7268.length : Int)
   case pos =>
    have h := h.pos hc7325
    refine RC.re 14 rfl (congrArg Value.bool (decide_eq_true hc7325)) ?_
    refine RC.condT rfl ?_
    refine RC.skip ?_
    refine RQ.then_n ?_
    refine RC.seq ?_
    refine RC.block ?_
    refine RC.seq ?_
    refine RC.plan (.pure 0 (.pure 1 (.cons 2 true (.cons 3 true (.pure 4 (.cons 5 false (.cons 6 false (.cons 7 false (.cons 8 false .nil))))))))) [] (fun w => St B w (l) hf) follows rfl (by kernel_rfl) (NoTmp.then (NoTmp.block (NoTmp.then (NoTmp.then (NoTmp.block (NoTmp.then NoTmp.body)))))) ?_
    have hS := hS.same (w' := { w with drawn := w.drawn + 1 }) rfl rfl
    revert hS
    generalize { w with drawn := w.drawn + 1 } = w
    intro hS
    refine RP.s0 0 rfl (fun w => Vl.move rfl) rfl ?_
    refine RP.s0 1 rfl (fun w => Vl.move rfl) rfl ?_
    obtain ⟨hq7329, h⟩ := h.req
    refine RP.s 2 rfl rfl hS (fun w hS => Vl.indexAddr Tryd.underlying34 Tryd.sizeOf58 rfl rfl ((hr7271.2.world hS.sub).adr hq7329 hc7325) hq7329 hc7325 rfl) rfl ?_
    refine RP.s 3 rfl rfl hS (fun w hS => Vl.loadA Tryd.isAgg58 Tryd.sizeOf58 rfl rfl ((hr7271.2.world hS.sub).cells hq7329 hc7325)) rfl ?_
    refine RP.s0 4 rfl (fun w => Vl.move rfl) rfl ?_
    refine RP.v1 5 rfl (Vl.move rfl) rfl rfl ?_
    obtain ⟨hq7330, h⟩ := h.req
    refine RP.v1 6 rfl (Vl.indexAddr Tryd.underlying34 Tryd.sizeOf58 rfl rfl ((hr7275.2.world hS.sub).adr hq7329 hq7330) hq7329 hq7330 rfl) rfl rfl ?_
    refine RP.v1 7 rfl (Vl.loadA Tryd.isAgg58 Tryd.sizeOf58 rfl rfl ((hr7275.2.world hS.sub).cells hq7329 hq7330)) rfl rfl ?_
    refine RP.v1 8 rfl (Vl.neqS (run_neq_api_Out _ _ (nth a7268 x7313) (nth a7272 x7313)) rfl rfl) rfl rfl ?_
    refine RP.nil ?_
    refine RQ.then_n ?_
    by_cases hc7331 : nth a7268 x7313 = nth a7272 x7313
    case pos =>
     have h := h.pos hc7331
     refine RC.re 25 rfl (congrArg Value.bool (notdec_pos hc7331)) ?_
     refine RC.condF rfl ?_
     refine RC.skip ?_
     refine RQ.inB_n ?_
     refine RQ.then_n ?_
     refine RC.region ?_
     refine RL.s (Vl.move rfl) rfl ?_
     refine RL.s (Vl.int rfl rfl rfl) rfl ?_
     refine RL.s (Vl.assign rfl) rfl ?_
     refine RL.nil ?_
     exact fun a ha => ⟨(IntKind.i64.wrap (x7313 + 1)), ⟨(IntKind.i64.wrap (x7313 + 1)), rfl, ha.to ⟨rfl, rfl, rfl, trivial⟩, hS⟩, h.some⟩
    case neg =>
     have h := h.neg hc7331
     refine RC.re 25 rfl (congrArg Value.bool (notdec_neg hc7331)) ?_
     refine RC.condT rfl ?_
     refine RC.seq ?_
     refine RC.region ?_
     refine RL.s (Vl.assign rfl) rfl ?_
     refine RL.nil ?_
     refine RQ.then_n ?_
     refine RC.ret ?_
     refine RQ.inB_ret ?_
     refine RQ.ret ?_
     have h := h.inrS
     refine RQ.ret ?_
     refine RQ.inB_ret ?_
     refine RQ.ret ?_
     have e := h.some
     subst e
     refine RQ.ret0 (vs := [.bool false]) Tryd.results13 ⟨rfl, trivial⟩ ?_
     exact ⟨rfl, hS⟩
   case neg =>
    have h := h.neg hc7325
    refine RC.re 14 rfl (congrArg Value.bool (decide_eq_false hc7325)) ?_
    refine RC.condF rfl ?_
    refine RC.exit ?_
    refine RQ.exitT ?_
    have h := h.inrS
    refine RQ.exitT ?_
    refine RQ.inB_hit ?_
    refine RQ.then_n ?_
    refine RC.seq ?_
    refine RC.region ?_
    refine RL.s (Vl.assign rfl) rfl ?_
    refine RL.nil ?_
    refine RQ.then_n ?_
    refine RC.ret ?_
    have e := h.some
    subst e
    refine RQ.ret0 (vs := [.bool true]) Tryd.results13 ⟨rfl, trivial⟩ ?_
    exact ⟨rfl, hS⟩
  case neg =>
   have h := h.neg hc7305
   refine RC.re 10 rfl (congrArg Value.bool (notdec_neg hc7305)) ?_
   refine RC.condT rfl ?_
   refine RC.seq ?_
   refine RC.region ?_
   refine RL.s (Vl.assign rfl) rfl ?_
   refine RL.nil ?_
   refine RQ.then_n ?_
   refine RC.ret ?_
   refine RQ.ret ?_
   have e := h.some
   subst e
   refine RQ.ret0 (vs := [.bool false]) Tryd.results13 ⟨rfl, trivial⟩ ?_
   exact ⟨rfl, hS⟩

end Go.Proofs.Gx
