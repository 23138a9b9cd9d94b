/-
  The data of the walks: printed by wip/gx.py.
-/
import Derived.Test.YtofgeidjbfmmdaaGreatDoorSl18
import Derived.KernelRfl
import Derived.Test.YtofgeidjbfmmdaaGreatDoorProg
set_option linter.unusedVariables false
set_option maxRecDepth 100000
set_option maxHeartbeats 4000000
namespace Go.Proofs.Gx
open Go.Sl Tryz
theorem follows : prog.follows .mixedOrders = true := by kernel_rfl
def zfn : Nat → Int := fun _ => 0
structure api_Instr where
  Op : Int
  A : Int
  B : Int
  C : Int
deriving Inhabited, DecidableEq
def E_api_Instr : Fl api_Instr := ⟨fun x => [.int .i64 x.Op, .int .i64 x.A, .int .i64 x.B, .int .i64 x.C], 4, fun _ => rfl, fun x v h => by
  simp only [List.mem_cons, List.not_mem_nil, or_false] at h
  rcases h with rfl | rfl | rfl | rfl <;> rfl⟩
structure api_Link where
  From : Int
  To : Int
  Look : Int
  Loose : Bool
deriving Inhabited, DecidableEq
def E_api_Link : Fl api_Link := ⟨fun x => [.int .i64 x.From, .int .i64 x.To, .int .i64 x.Look, .bool x.Loose], 4, fun _ => rfl, fun x v h => by
  simp only [List.mem_cons, List.not_mem_nil, or_false] at h
  rcases h with rfl | rfl | rfl | rfl <;> rfl⟩
structure api_Start where
  To : Int
  Time : Int
  Value : Int
deriving Inhabited, DecidableEq
def E_api_Start : Fl api_Start := ⟨fun x => [.int .i64 x.To, .int .i64 x.Time, .int .i64 x.Value], 3, fun _ => rfl, fun x v h => by
  simp only [List.mem_cons, List.not_mem_nil, or_false] at h
  rcases h with rfl | rfl | rfl <;> rfl⟩
structure api_Model where
  Progs : (List (List api_Instr))
  Links : (List api_Link)
  Starts : (List api_Start)
  Seed : Int
  End : Int
  Budget : Int
deriving Inhabited, DecidableEq
def R_api_Model : Rep api_Model := ⟨6, fun h cs x => ∃ A0 c0 A1 c1 A2 c2, cs = [.slice A0 x.Progs.length c0, .slice A1 x.Links.length c1, .slice A2 x.Starts.length c2, .int .u64 x.Seed, .int .i64 x.End, .int .i64 x.Budget] ∧ SlR (Rep.sl E_api_Instr.rep) h A0 c0 x.Progs ∧ SlR E_api_Link.rep h A1 c1 x.Links ∧ SlR E_api_Start.rep h A2 c2 x.Starts, fun s ⟨A0, c0, A1, c1, A2, c2, e, f0, f1, f2⟩ => ⟨A0, c0, A1, c1, A2, c2, e, f0.mono s, f1.mono s, f2.mono s⟩⟩
theorem R_api_Model_ok : R_api_Model.Ok := ⟨fun ⟨A0, c0, A1, c1, A2, c2, e, _⟩ => by rw [e]; rfl, fun ⟨A0, c0, A1, c1, A2, c2, e, _⟩ v hv => by
  rw [e] at hv
  simp only [List.mem_cons, List.not_mem_nil, or_false] at hv
  rcases hv with rfl | rfl | rfl | rfl | rfl | rfl <;> rfl⟩
structure api_Key where
  Time : Int
  From : Int
  Seq : Int
deriving Inhabited, DecidableEq
def E_api_Key : Fl api_Key := ⟨fun x => [.int .i64 x.Time, .int .i64 x.From, .int .i64 x.Seq], 3, fun _ => rfl, fun x v h => by
  simp only [List.mem_cons, List.not_mem_nil, or_false] at h
  rcases h with rfl | rfl | rfl <;> rfl⟩
structure api_Done where
  Key : api_Key
  To : Int
  Value : Int
deriving Inhabited, DecidableEq
def E_api_Done : Fl api_Done := ⟨fun x => [.int .i64 x.Key.Time, .int .i64 x.Key.From, .int .i64 x.Key.Seq, .int .i64 x.To, .int .i64 x.Value], 5, fun _ => rfl, fun x v h => by
  simp only [List.mem_cons, List.not_mem_nil, or_false] at h
  rcases h with rfl | rfl | rfl | rfl | rfl <;> rfl⟩
structure Arr8xInti64 where
  c0 : Int
  c1 : Int
  c2 : Int
  c3 : Int
  c4 : Int
  c5 : Int
  c6 : Int
  c7 : Int
deriving Inhabited, DecidableEq
def E_Arr8xInti64 : Fl Arr8xInti64 := ⟨fun x => [.int .i64 x.c0, .int .i64 x.c1, .int .i64 x.c2, .int .i64 x.c3, .int .i64 x.c4, .int .i64 x.c5, .int .i64 x.c6, .int .i64 x.c7], 8, fun _ => rfl, fun x v h => by
  simp only [List.mem_cons, List.not_mem_nil, or_false] at h
  rcases h with rfl | rfl | rfl | rfl | rfl | rfl | rfl | rfl <;> rfl⟩
structure api_State where
  Regs : Arr8xInti64
  Draws : Int
  Sent : Int
deriving Inhabited, DecidableEq
def E_api_State : Fl api_State := ⟨fun x => [.int .i64 x.Regs.c0, .int .i64 x.Regs.c1, .int .i64 x.Regs.c2, .int .i64 x.Regs.c3, .int .i64 x.Regs.c4, .int .i64 x.Regs.c5, .int .i64 x.Regs.c6, .int .i64 x.Regs.c7, .int .i64 x.Draws, .int .i64 x.Sent], 10, fun _ => rfl, fun x v h => by
  simp only [List.mem_cons, List.not_mem_nil, or_false] at h
  rcases h with rfl | rfl | rfl | rfl | rfl | rfl | rfl | rfl | rfl | rfl <;> rfl⟩
structure model_flaw where
  at_ : Int
  why : Int
deriving Inhabited, DecidableEq
def E_model_flaw : Fl model_flaw := ⟨fun x => [.int .i64 x.at_, .int .i64 x.why], 2, fun _ => rfl, fun x v h => by
  simp only [List.mem_cons, List.not_mem_nil, or_false] at h
  rcases h with rfl | rfl <;> rfl⟩
structure api_Message where
  Key : api_Key
  To : Int
  Value : Int
  Uid : Int
  Anti : Bool
deriving Inhabited, DecidableEq
def E_api_Message : Fl api_Message := ⟨fun x => [.int .i64 x.Key.Time, .int .i64 x.Key.From, .int .i64 x.Key.Seq, .int .i64 x.To, .int .i64 x.Value, .int .i64 x.Uid, .bool x.Anti], 7, fun _ => rfl, fun x v h => by
  simp only [List.mem_cons, List.not_mem_nil, or_false] at h
  rcases h with rfl | rfl | rfl | rfl | rfl | rfl | rfl <;> rfl⟩
structure api_World where
  Prog : (List api_Instr)
  Self : Int
  Links : (List api_Link)
  Seed : Int
deriving Inhabited, DecidableEq
def R_api_World : Rep api_World := ⟨4, fun h cs x => ∃ A0 c0 A1 c1, cs = [.slice A0 x.Prog.length c0, .int .i64 x.Self, .slice A1 x.Links.length c1, .int .u64 x.Seed] ∧ SlR E_api_Instr.rep h A0 c0 x.Prog ∧ SlR E_api_Link.rep h A1 c1 x.Links, fun s ⟨A0, c0, A1, c1, e, f0, f1⟩ => ⟨A0, c0, A1, c1, e, f0.mono s, f1.mono s⟩⟩
theorem R_api_World_ok : R_api_World.Ok := ⟨fun ⟨A0, c0, A1, c1, e, _⟩ => by rw [e]; rfl, fun ⟨A0, c0, A1, c1, e, _⟩ v hv => by
  rw [e] at hv
  simp only [List.mem_cons, List.not_mem_nil, or_false] at hv
  rcases hv with rfl | rfl | rfl | rfl <;> rfl⟩
structure api_Out where
  Link : Int
  Delay : Int
  Value : Int
deriving Inhabited, DecidableEq
def E_api_Out : Fl api_Out := ⟨fun x => [.int .i64 x.Link, .int .i64 x.Delay, .int .i64 x.Value], 3, fun _ => rfl, fun x v h => by
  simp only [List.mem_cons, List.not_mem_nil, or_false] at h
  rcases h with rfl | rfl | rfl <;> rfl⟩
structure vm_fault where
  at_ : Int
  why : Int
deriving Inhabited, DecidableEq
def E_vm_fault : Fl vm_fault := ⟨fun x => [.int .i64 x.at_, .int .i64 x.why], 2, fun _ => rfl, fun x v h => by
  simp only [List.mem_cons, List.not_mem_nil, or_false] at h
  rcases h with rfl | rfl <;> rfl⟩
structure draw_word where
  x : Int
deriving Inhabited, DecidableEq
def E_draw_word : Fl draw_word := ⟨fun x => [.int .u64 x.x], 1, fun _ => rfl, fun x v h => by
  simp only [List.mem_cons, List.not_mem_nil, or_false] at h
  rcases h with rfl <;> rfl⟩
structure draw_mixer where
  word : draw_word
deriving Inhabited, DecidableEq
def E_draw_mixer : Fl draw_mixer := ⟨fun x => [.int .u64 x.word.x], 1, fun _ => rfl, fun x v h => by
  simp only [List.mem_cons, List.not_mem_nil, or_false] at h
  rcases h with rfl <;> rfl⟩
structure api_Result where
  History : (List api_Done)
  States : (List api_State)
  Stop : Int
deriving Inhabited, DecidableEq
def R_api_Result : Rep api_Result := ⟨3, fun h cs x => ∃ A0 c0 A1 c1, cs = [.slice A0 x.History.length c0, .slice A1 x.States.length c1, .int .i64 x.Stop] ∧ SlR E_api_Done.rep h A0 c0 x.History ∧ SlR E_api_State.rep h A1 c1 x.States, fun s ⟨A0, c0, A1, c1, e, f0, f1⟩ => ⟨A0, c0, A1, c1, e, f0.mono s, f1.mono s⟩⟩
theorem R_api_Result_ok : R_api_Result.Ok := ⟨fun ⟨A0, c0, A1, c1, e, _⟩ => by rw [e]; rfl, fun ⟨A0, c0, A1, c1, e, _⟩ v hv => by
  rw [e] at hv
  simp only [List.mem_cons, List.not_mem_nil, or_false] at hv
  rcases hv with rfl | rfl | rfl <;> rfl⟩
structure isochronref14vone where
  m : api_Model
  worlds : (List api_World)
  states : (List api_State)
  wait : (List api_Message)
  done : (List api_Done)
deriving Inhabited, DecidableEq
def R_isochronref14vone : Rep isochronref14vone := ⟨10, fun h cs x => ∃ A0 c0 A1 c1 A2 c2 A3 c3 A4 c4 A5 c5 A6 c6, cs = [.slice A0 x.m.Progs.length c0, .slice A1 x.m.Links.length c1, .slice A2 x.m.Starts.length c2, .int .u64 x.m.Seed, .int .i64 x.m.End, .int .i64 x.m.Budget, .slice A3 x.worlds.length c3, .slice A4 x.states.length c4, .slice A5 x.wait.length c5, .slice A6 x.done.length c6] ∧ SlR (Rep.sl E_api_Instr.rep) h A0 c0 x.m.Progs ∧ SlR E_api_Link.rep h A1 c1 x.m.Links ∧ SlR E_api_Start.rep h A2 c2 x.m.Starts ∧ SlR R_api_World h A3 c3 x.worlds ∧ SlR E_api_State.rep h A4 c4 x.states ∧ SlR E_api_Message.rep h A5 c5 x.wait ∧ SlR E_api_Done.rep h A6 c6 x.done, fun s ⟨A0, c0, A1, c1, A2, c2, A3, c3, A4, c4, A5, c5, A6, c6, e, f0, f1, f2, f3, f4, f5, f6⟩ => ⟨A0, c0, A1, c1, A2, c2, A3, c3, A4, c4, A5, c5, A6, c6, e, f0.mono s, f1.mono s, f2.mono s, f3.mono s, f4.mono s, f5.mono s, f6.mono s⟩⟩
theorem R_isochronref14vone_ok : R_isochronref14vone.Ok := ⟨fun ⟨A0, c0, A1, c1, A2, c2, A3, c3, A4, c4, A5, c5, A6, c6, e, _⟩ => by rw [e]; rfl, fun ⟨A0, c0, A1, c1, A2, c2, A3, c3, A4, c4, A5, c5, A6, c6, e, _⟩ v hv => by
  rw [e] at hv
  simp only [List.mem_cons, List.not_mem_nil, or_false] at hv
  rcases hv with rfl | rfl | rfl | rfl | rfl | rfl | rfl | rfl | rfl | rfl <;> rfl⟩
structure isochronref05vrun where
  w : api_World
  m : api_Message
  r : (List Int)
  draw : Int
  outs : (List api_Out)
  at_ : Int
deriving Inhabited, DecidableEq
def R_isochronref05vrun : Rep isochronref05vrun := ⟨15, fun h cs x => ∃ A0 c0 A1 c1 A2 c2 A3 c3, cs = [.slice A0 x.w.Prog.length c0, .int .i64 x.w.Self, .slice A1 x.w.Links.length c1, .int .u64 x.w.Seed, .int .i64 x.m.Key.Time, .int .i64 x.m.Key.From, .int .i64 x.m.Key.Seq, .int .i64 x.m.To, .int .i64 x.m.Value, .int .i64 x.m.Uid, .bool x.m.Anti, .slice A2 x.r.length c2, .int .i64 x.draw, .slice A3 x.outs.length c3, .int .i64 x.at_] ∧ SlR E_api_Instr.rep h A0 c0 x.w.Prog ∧ SlR E_api_Link.rep h A1 c1 x.w.Links ∧ SlR ((FI .i64).rep) h A2 c2 x.r ∧ SlR E_api_Out.rep h A3 c3 x.outs, fun s ⟨A0, c0, A1, c1, A2, c2, A3, c3, e, f0, f1, f2, f3⟩ => ⟨A0, c0, A1, c1, A2, c2, A3, c3, e, f0.mono s, f1.mono s, f2.mono s, f3.mono s⟩⟩
theorem R_isochronref05vrun_ok : R_isochronref05vrun.Ok := ⟨fun ⟨A0, c0, A1, c1, A2, c2, A3, c3, e, _⟩ => by rw [e]; rfl, fun ⟨A0, c0, A1, c1, A2, c2, A3, c3, e, _⟩ v hv => by
  rw [e] at hv
  simp only [List.mem_cons, List.not_mem_nil, or_false] at hv
  rcases hv with rfl | rfl | rfl | rfl | rfl | rfl | rfl | rfl | rfl | rfl | rfl | rfl | rfl | rfl | rfl <;> rfl⟩
def lit_ : ByteArray := ⟨#[]⟩
def lit_2d2d2d : ByteArray := ⟨#[45, 45, 45]⟩
def lit_726e2d : ByteArray := ⟨#[114, 110, 45]⟩
def lit_72722d : ByteArray := ⟨#[114, 114, 45]⟩
def lit_rrr : ByteArray := ⟨#[114, 114, 114]⟩
def lit_702d2d : ByteArray := ⟨#[112, 45, 45]⟩
def lit_72702d : ByteArray := ⟨#[114, 112, 45]⟩
def lit_722d2d : ByteArray := ⟨#[114, 45, 45]⟩
theorem run_eql_api_Key (x y : Operand) (a b : api_Key) (w : World) : ((eqGuard .eql 42 x y (.agg (E_api_Key.enc a).toArray) (.agg (E_api_Key.enc b).toArray)).bind fun _ => binOp .eql 42 (.agg (E_api_Key.enc a).toArray) (.agg (E_api_Key.enc b).toArray)).run prog w = .ok (.bool (decide (a = b))) w := by
  show ((eqGuard .eql 42 x y _ _) >>= fun _ => binOp .eql 42 _ _).run prog w = _
  rw [Sem.run_bind, run_eqGuard_agg (hm := eqGuardType42)]
  simp only [Result.andThen_ok]
  obtain ⟨a1, a2, a3⟩ := a
  obtain ⟨b4, b5, b6⟩ := b
  simp [E_api_Key, go_sem]
  all_goals (repeat' split)
  all_goals first | (simp [*]; done) | grind | (simp only [Result.ok.injEq, Value.bool.injEq, and_true]; grind)
theorem run_neq_api_Key (x y : Operand) (a b : api_Key) (w : World) : ((eqGuard .neq 42 x y (.agg (E_api_Key.enc a).toArray) (.agg (E_api_Key.enc b).toArray)).bind fun _ => binOp .neq 42 (.agg (E_api_Key.enc a).toArray) (.agg (E_api_Key.enc b).toArray)).run prog w = .ok (.bool (!decide (a = b))) w := by
  show ((eqGuard .neq 42 x y _ _) >>= fun _ => binOp .neq 42 _ _).run prog w = _
  rw [Sem.run_bind, run_eqGuard_agg (hm := eqGuardType42)]
  simp only [Result.andThen_ok]
  obtain ⟨a7, a8, a9⟩ := a
  obtain ⟨b10, b11, b12⟩ := b
  simp [E_api_Key, go_sem]
  all_goals (repeat' split)
  all_goals first | (simp [*]; done) | grind | (simp only [Result.ok.injEq, Value.bool.injEq, and_true]; grind)
theorem run_eql_api_Done (x y : Operand) (a b : api_Done) (w : World) : ((eqGuard .eql 44 x y (.agg (E_api_Done.enc a).toArray) (.agg (E_api_Done.enc b).toArray)).bind fun _ => binOp .eql 44 (.agg (E_api_Done.enc a).toArray) (.agg (E_api_Done.enc b).toArray)).run prog w = .ok (.bool (decide (a = b))) w := by
  show ((eqGuard .eql 44 x y _ _) >>= fun _ => binOp .eql 44 _ _).run prog w = _
  rw [Sem.run_bind, run_eqGuard_agg (hm := eqGuardType44)]
  simp only [Result.andThen_ok]
  obtain ⟨⟨a1, a2, a3⟩, a4, a5⟩ := a
  obtain ⟨⟨b6, b7, b8⟩, b9, b10⟩ := b
  simp [E_api_Done, go_sem]
  all_goals (repeat' split)
  all_goals first | (simp [*]; done) | grind | (simp only [Result.ok.injEq, Value.bool.injEq, and_true]; grind)
theorem run_neq_api_Done (x y : Operand) (a b : api_Done) (w : World) : ((eqGuard .neq 44 x y (.agg (E_api_Done.enc a).toArray) (.agg (E_api_Done.enc b).toArray)).bind fun _ => binOp .neq 44 (.agg (E_api_Done.enc a).toArray) (.agg (E_api_Done.enc b).toArray)).run prog w = .ok (.bool (!decide (a = b))) w := by
  show ((eqGuard .neq 44 x y _ _) >>= fun _ => binOp .neq 44 _ _).run prog w = _
  rw [Sem.run_bind, run_eqGuard_agg (hm := eqGuardType44)]
  simp only [Result.andThen_ok]
  obtain ⟨⟨a11, a12, a13⟩, a14, a15⟩ := a
  obtain ⟨⟨b16, b17, b18⟩, b19, b20⟩ := b
  simp [E_api_Done, go_sem]
  all_goals (repeat' split)
  all_goals first | (simp [*]; done) | grind | (simp only [Result.ok.injEq, Value.bool.injEq, and_true]; grind)
end Go.Proofs.Gx
