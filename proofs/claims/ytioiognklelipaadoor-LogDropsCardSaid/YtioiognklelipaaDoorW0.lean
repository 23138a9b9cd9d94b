/-
  The data of the walks: printed by wip/gx.py.
-/
import Derived.Test.YtioiognklelipaaDoorSl18
import Derived.KernelRfl
import Derived.Test.YtioiognklelipaaDoorProg
set_option linter.unusedVariables false
set_option maxRecDepth 100000
set_option maxHeartbeats 4000000
namespace Go.Proofs.Gx
open Go.Sl Tryd
theorem follows : prog.follows .mixedOrders = true := by kernel_rfl
def zfn : Nat → Int := fun _ => 0
structure api_Instr where
  Op : Int
  A : Int
  B : Int
  C : Int
deriving Inhabited, DecidableEq
def E_api_Instr : Fl api_Instr := ⟨fun x => [.int .i64 x.Op, .int .i64 x.A, .int .i64 x.B, .int .i64 x.C], 4, fun _ => rfl, fun x v h => by
  simp only [List.mem_cons, List.not_mem_nil, or_false] at h
  rcases h with rfl | rfl | rfl | rfl <;> rfl⟩
structure api_Link where
  From : Int
  To : Int
  Look : Int
  Loose : Bool
deriving Inhabited, DecidableEq
def E_api_Link : Fl api_Link := ⟨fun x => [.int .i64 x.From, .int .i64 x.To, .int .i64 x.Look, .bool x.Loose], 4, fun _ => rfl, fun x v h => by
  simp only [List.mem_cons, List.not_mem_nil, or_false] at h
  rcases h with rfl | rfl | rfl | rfl <;> rfl⟩
structure api_World where
  Prog : (List api_Instr)
  Self : Int
  Links : (List api_Link)
  Seed : Int
deriving Inhabited, DecidableEq
def R_api_World : Rep api_World := ⟨4, fun h cs x => ∃ A0 c0 A1 c1, cs = [.slice A0 x.Prog.length c0, .int .i64 x.Self, .slice A1 x.Links.length c1, .int .u64 x.Seed] ∧ SlR E_api_Instr.rep h A0 c0 x.Prog ∧ SlR E_api_Link.rep h A1 c1 x.Links, fun s ⟨A0, c0, A1, c1, e, f0, f1⟩ => ⟨A0, c0, A1, c1, e, f0.mono s, f1.mono s⟩⟩
theorem R_api_World_ok : R_api_World.Ok := ⟨fun ⟨A0, c0, A1, c1, e, _⟩ => by rw [e]; rfl, fun ⟨A0, c0, A1, c1, e, _⟩ v hv => by
  rw [e] at hv
  simp only [List.mem_cons, List.not_mem_nil, or_false] at hv
  rcases hv with rfl | rfl | rfl | rfl <;> rfl⟩
structure api_Key where
  Time : Int
  From : Int
  Seq : Int
deriving Inhabited, DecidableEq
def E_api_Key : Fl api_Key := ⟨fun x => [.int .i64 x.Time, .int .i64 x.From, .int .i64 x.Seq], 3, fun _ => rfl, fun x v h => by
  simp only [List.mem_cons, List.not_mem_nil, or_false] at h
  rcases h with rfl | rfl | rfl <;> rfl⟩
structure api_Message where
  Key : api_Key
  To : Int
  Value : Int
  Uid : Int
  Anti : Bool
deriving Inhabited, DecidableEq
def E_api_Message : Fl api_Message := ⟨fun x => [.int .i64 x.Key.Time, .int .i64 x.Key.From, .int .i64 x.Key.Seq, .int .i64 x.To, .int .i64 x.Value, .int .i64 x.Uid, .bool x.Anti], 7, fun _ => rfl, fun x v h => by
  simp only [List.mem_cons, List.not_mem_nil, or_false] at h
  rcases h with rfl | rfl | rfl | rfl | rfl | rfl | rfl <;> rfl⟩
structure Arr8xInti64 where
  c0 : Int
  c1 : Int
  c2 : Int
  c3 : Int
  c4 : Int
  c5 : Int
  c6 : Int
  c7 : Int
deriving Inhabited, DecidableEq
def E_Arr8xInti64 : Fl Arr8xInti64 := ⟨fun x => [.int .i64 x.c0, .int .i64 x.c1, .int .i64 x.c2, .int .i64 x.c3, .int .i64 x.c4, .int .i64 x.c5, .int .i64 x.c6, .int .i64 x.c7], 8, fun _ => rfl, fun x v h => by
  simp only [List.mem_cons, List.not_mem_nil, or_false] at h
  rcases h with rfl | rfl | rfl | rfl | rfl | rfl | rfl | rfl <;> rfl⟩
structure api_State where
  Regs : Arr8xInti64
  Draws : Int
  Sent : Int
deriving Inhabited, DecidableEq
def E_api_State : Fl api_State := ⟨fun x => [.int .i64 x.Regs.c0, .int .i64 x.Regs.c1, .int .i64 x.Regs.c2, .int .i64 x.Regs.c3, .int .i64 x.Regs.c4, .int .i64 x.Regs.c5, .int .i64 x.Regs.c6, .int .i64 x.Regs.c7, .int .i64 x.Draws, .int .i64 x.Sent], 10, fun _ => rfl, fun x v h => by
  simp only [List.mem_cons, List.not_mem_nil, or_false] at h
  rcases h with rfl | rfl | rfl | rfl | rfl | rfl | rfl | rfl | rfl | rfl <;> rfl⟩
structure log_done where
  event : api_Message
  fault : Int
  sent : (List api_Message)
  ahead : (Pt api_State)
deriving Inhabited, DecidableEq
def R_log_done : Rep log_done := ⟨10, fun h cs x => ∃ A0 c0 b1, cs = [.int .i64 x.event.Key.Time, .int .i64 x.event.Key.From, .int .i64 x.event.Key.Seq, .int .i64 x.event.To, .int .i64 x.event.Value, .int .i64 x.event.Uid, .bool x.event.Anti, .int .i64 x.fault, .slice A0 x.sent.length c0, .pointer (pz b1 x.ahead.has)] ∧ SlR E_api_Message.rep h A0 c0 x.sent ∧ PtR E_api_State h b1 38 x.ahead, fun s ⟨A0, c0, b1, e, f0, f1⟩ => ⟨A0, c0, b1, e, f0.mono s, f1.mono s⟩⟩
theorem R_log_done_ok : R_log_done.Ok := ⟨fun ⟨A0, c0, b1, e, _⟩ => by rw [e]; rfl, fun ⟨A0, c0, b1, e, _⟩ v hv => by
  rw [e] at hv
  simp only [List.mem_cons, List.not_mem_nil, or_false] at hv
  rcases hv with rfl | rfl | rfl | rfl | rfl | rfl | rfl | rfl | rfl | rfl <;> rfl⟩
structure log_Log where
  w : api_World
  made : Bool
  state : api_State
  every : Int
  l : (List log_done)
  stuck : Bool
deriving Inhabited, DecidableEq
def R_log_Log : Rep log_Log := ⟨18, fun h cs x => ∃ A0 c0 A1 c1 A2 c2, cs = [.slice A0 x.w.Prog.length c0, .int .i64 x.w.Self, .slice A1 x.w.Links.length c1, .int .u64 x.w.Seed, .bool x.made, .int .i64 x.state.Regs.c0, .int .i64 x.state.Regs.c1, .int .i64 x.state.Regs.c2, .int .i64 x.state.Regs.c3, .int .i64 x.state.Regs.c4, .int .i64 x.state.Regs.c5, .int .i64 x.state.Regs.c6, .int .i64 x.state.Regs.c7, .int .i64 x.state.Draws, .int .i64 x.state.Sent, .int .i64 x.every, .slice A2 x.l.length c2, .bool x.stuck] ∧ SlR E_api_Instr.rep h A0 c0 x.w.Prog ∧ SlR E_api_Link.rep h A1 c1 x.w.Links ∧ SlR R_log_done h A2 c2 x.l, fun s ⟨A0, c0, A1, c1, A2, c2, e, f0, f1, f2⟩ => ⟨A0, c0, A1, c1, A2, c2, e, f0.mono s, f1.mono s, f2.mono s⟩⟩
theorem R_log_Log_ok : R_log_Log.Ok := ⟨fun ⟨A0, c0, A1, c1, A2, c2, e, _⟩ => by rw [e]; rfl, fun ⟨A0, c0, A1, c1, A2, c2, e, _⟩ v hv => by
  rw [e] at hv
  simp only [List.mem_cons, List.not_mem_nil, or_false] at hv
  rcases hv with rfl | rfl | rfl | rfl | rfl | rfl | rfl | rfl | rfl | rfl | rfl | rfl | rfl | rfl | rfl | rfl | rfl | rfl <;> rfl⟩
structure api_Out where
  Link : Int
  Delay : Int
  Value : Int
deriving Inhabited, DecidableEq
def E_api_Out : Fl api_Out := ⟨fun x => [.int .i64 x.Link, .int .i64 x.Delay, .int .i64 x.Value], 3, fun _ => rfl, fun x v h => by
  simp only [List.mem_cons, List.not_mem_nil, or_false] at h
  rcases h with rfl | rfl | rfl <;> rfl⟩
structure vm_fault where
  at_ : Int
  why : Int
deriving Inhabited, DecidableEq
def E_vm_fault : Fl vm_fault := ⟨fun x => [.int .i64 x.at_, .int .i64 x.why], 2, fun _ => rfl, fun x v h => by
  simp only [List.mem_cons, List.not_mem_nil, or_false] at h
  rcases h with rfl | rfl <;> rfl⟩
structure draw_word where
  x : Int
deriving Inhabited, DecidableEq
def E_draw_word : Fl draw_word := ⟨fun x => [.int .u64 x.x], 1, fun _ => rfl, fun x v h => by
  simp only [List.mem_cons, List.not_mem_nil, or_false] at h
  rcases h with rfl <;> rfl⟩
structure draw_mixer where
  word : draw_word
deriving Inhabited, DecidableEq
def E_draw_mixer : Fl draw_mixer := ⟨fun x => [.int .u64 x.word.x], 1, fun _ => rfl, fun x v h => by
  simp only [List.mem_cons, List.not_mem_nil, or_false] at h
  rcases h with rfl <;> rfl⟩
structure api_Entry where
  Event : api_Message
  Before : api_State
  Fault : Int
  Sent : (List api_Message)
deriving Inhabited, DecidableEq
def R_api_Entry : Rep api_Entry := ⟨19, fun h cs x => ∃ A0 c0, cs = [.int .i64 x.Event.Key.Time, .int .i64 x.Event.Key.From, .int .i64 x.Event.Key.Seq, .int .i64 x.Event.To, .int .i64 x.Event.Value, .int .i64 x.Event.Uid, .bool x.Event.Anti, .int .i64 x.Before.Regs.c0, .int .i64 x.Before.Regs.c1, .int .i64 x.Before.Regs.c2, .int .i64 x.Before.Regs.c3, .int .i64 x.Before.Regs.c4, .int .i64 x.Before.Regs.c5, .int .i64 x.Before.Regs.c6, .int .i64 x.Before.Regs.c7, .int .i64 x.Before.Draws, .int .i64 x.Before.Sent, .int .i64 x.Fault, .slice A0 x.Sent.length c0] ∧ SlR E_api_Message.rep h A0 c0 x.Sent, fun s ⟨A0, c0, e, f0⟩ => ⟨A0, c0, e, f0.mono s⟩⟩
theorem R_api_Entry_ok : R_api_Entry.Ok := ⟨fun ⟨A0, c0, e, _⟩ => by rw [e]; rfl, fun ⟨A0, c0, e, _⟩ v hv => by
  rw [e] at hv
  simp only [List.mem_cons, List.not_mem_nil, or_false] at hv
  rcases hv with rfl | rfl | rfl | rfl | rfl | rfl | rfl | rfl | rfl | rfl | rfl | rfl | rfl | rfl | rfl | rfl | rfl | rfl | rfl <;> rfl⟩
def lit_ : ByteArray := ⟨#[]⟩
def lit_2d2d2d : ByteArray := ⟨#[45, 45, 45]⟩
def lit_726e2d : ByteArray := ⟨#[114, 110, 45]⟩
def lit_72722d : ByteArray := ⟨#[114, 114, 45]⟩
def lit_rrr : ByteArray := ⟨#[114, 114, 114]⟩
def lit_702d2d : ByteArray := ⟨#[112, 45, 45]⟩
def lit_72702d : ByteArray := ⟨#[114, 112, 45]⟩
def lit_722d2d : ByteArray := ⟨#[114, 45, 45]⟩
theorem run_eql_api_Key (x y : Operand) (a b : api_Key) (w : World) : ((eqGuard .eql 28 x y (.agg (E_api_Key.enc a).toArray) (.agg (E_api_Key.enc b).toArray)).bind fun _ => binOp .eql 28 (.agg (E_api_Key.enc a).toArray) (.agg (E_api_Key.enc b).toArray)).run prog w = .ok (.bool (decide (a = b))) w := by
  show ((eqGuard .eql 28 x y _ _) >>= fun _ => binOp .eql 28 _ _).run prog w = _
  rw [Sem.run_bind, run_eqGuard_agg (hm := eqGuardType28)]
  simp only [Result.andThen_ok]
  obtain ⟨a1, a2, a3⟩ := a
  obtain ⟨b4, b5, b6⟩ := b
  simp [E_api_Key, go_sem]
  all_goals (repeat' split)
  all_goals first | (simp [*]; done) | grind | (simp only [Result.ok.injEq, Value.bool.injEq, and_true]; grind)
theorem run_neq_api_Key (x y : Operand) (a b : api_Key) (w : World) : ((eqGuard .neq 28 x y (.agg (E_api_Key.enc a).toArray) (.agg (E_api_Key.enc b).toArray)).bind fun _ => binOp .neq 28 (.agg (E_api_Key.enc a).toArray) (.agg (E_api_Key.enc b).toArray)).run prog w = .ok (.bool (!decide (a = b))) w := by
  show ((eqGuard .neq 28 x y _ _) >>= fun _ => binOp .neq 28 _ _).run prog w = _
  rw [Sem.run_bind, run_eqGuard_agg (hm := eqGuardType28)]
  simp only [Result.andThen_ok]
  obtain ⟨a7, a8, a9⟩ := a
  obtain ⟨b10, b11, b12⟩ := b
  simp [E_api_Key, go_sem]
  all_goals (repeat' split)
  all_goals first | (simp [*]; done) | grind | (simp only [Result.ok.injEq, Value.bool.injEq, and_true]; grind)
theorem run_eqarr_36 (d : Nat) (a0 b0 a1 b1 a2 b2 a3 b3 a4 b4 a5 b5 a6 b6 a7 b7 : Int) (w : World) : (Op.equalIn (d + 2) 36 (.agg #[.int .i64 a0, .int .i64 a1, .int .i64 a2, .int .i64 a3, .int .i64 a4, .int .i64 a5, .int .i64 a6, .int .i64 a7]) (.agg #[.int .i64 b0, .int .i64 b1, .int .i64 b2, .int .i64 b3, .int .i64 b4, .int .i64 b5, .int .i64 b6, .int .i64 b7])).run prog w = .ok (decide (a0 = b0) && (decide (a1 = b1) && (decide (a2 = b2) && (decide (a3 = b3) && (decide (a4 = b4) && (decide (a5 = b5) && (decide (a6 = b6) && (decide (a7 = b7))))))))) w := by
  rw [Op.equalIn]
  simp only [Sem.run_bind, runUnderlying36, Result.andThen_ok, sizeOf2]
  simp [Std.Legacy.Range.forIn_eq_forIn_range', List.range', go_sem]
  all_goals (repeat' split)
  all_goals simp [*]
theorem run_eql_api_State (x y : Operand) (a b : api_State) (w : World) : ((eqGuard .eql 38 x y (.agg (E_api_State.enc a).toArray) (.agg (E_api_State.enc b).toArray)).bind fun _ => binOp .eql 38 (.agg (E_api_State.enc a).toArray) (.agg (E_api_State.enc b).toArray)).run prog w = .ok (.bool (decide (a = b))) w := by
  show ((eqGuard .eql 38 x y _ _) >>= fun _ => binOp .eql 38 _ _).run prog w = _
  rw [Sem.run_bind, run_eqGuard_agg (hm := eqGuardType38)]
  simp only [Result.andThen_ok]
  obtain ⟨⟨a1, a2, a3, a4, a5, a6, a7, a8⟩, a9, a10⟩ := a
  obtain ⟨⟨b11, b12, b13, b14, b15, b16, b17, b18⟩, b19, b20⟩ := b
  simp [E_api_State, go_sem, run_eqarr_36]
  all_goals (repeat' split)
  all_goals first | (simp [*]; done) | grind | (simp only [Result.ok.injEq, Value.bool.injEq, and_true]; grind)
theorem run_neq_api_State (x y : Operand) (a b : api_State) (w : World) : ((eqGuard .neq 38 x y (.agg (E_api_State.enc a).toArray) (.agg (E_api_State.enc b).toArray)).bind fun _ => binOp .neq 38 (.agg (E_api_State.enc a).toArray) (.agg (E_api_State.enc b).toArray)).run prog w = .ok (.bool (!decide (a = b))) w := by
  show ((eqGuard .neq 38 x y _ _) >>= fun _ => binOp .neq 38 _ _).run prog w = _
  rw [Sem.run_bind, run_eqGuard_agg (hm := eqGuardType38)]
  simp only [Result.andThen_ok]
  obtain ⟨⟨a21, a22, a23, a24, a25, a26, a27, a28⟩, a29, a30⟩ := a
  obtain ⟨⟨b31, b32, b33, b34, b35, b36, b37, b38⟩, b39, b40⟩ := b
  simp [E_api_State, go_sem, run_eqarr_36]
  all_goals (repeat' split)
  all_goals first | (simp [*]; done) | grind | (simp only [Result.ok.injEq, Value.bool.injEq, and_true]; grind)
theorem run_eql_api_Message (x y : Operand) (a b : api_Message) (w : World) : ((eqGuard .eql 30 x y (.agg (E_api_Message.enc a).toArray) (.agg (E_api_Message.enc b).toArray)).bind fun _ => binOp .eql 30 (.agg (E_api_Message.enc a).toArray) (.agg (E_api_Message.enc b).toArray)).run prog w = .ok (.bool (decide (a = b))) w := by
  show ((eqGuard .eql 30 x y _ _) >>= fun _ => binOp .eql 30 _ _).run prog w = _
  rw [Sem.run_bind, run_eqGuard_agg (hm := eqGuardType30)]
  simp only [Result.andThen_ok]
  obtain ⟨⟨a1, a2, a3⟩, a4, a5, a6, a7⟩ := a
  obtain ⟨⟨b8, b9, b10⟩, b11, b12, b13, b14⟩ := b
  simp [E_api_Message, go_sem]
  all_goals (repeat' split)
  all_goals first | (simp [*]; done) | grind | (simp only [Result.ok.injEq, Value.bool.injEq, and_true]; grind)
theorem run_neq_api_Message (x y : Operand) (a b : api_Message) (w : World) : ((eqGuard .neq 30 x y (.agg (E_api_Message.enc a).toArray) (.agg (E_api_Message.enc b).toArray)).bind fun _ => binOp .neq 30 (.agg (E_api_Message.enc a).toArray) (.agg (E_api_Message.enc b).toArray)).run prog w = .ok (.bool (!decide (a = b))) w := by
  show ((eqGuard .neq 30 x y _ _) >>= fun _ => binOp .neq 30 _ _).run prog w = _
  rw [Sem.run_bind, run_eqGuard_agg (hm := eqGuardType30)]
  simp only [Result.andThen_ok]
  obtain ⟨⟨a15, a16, a17⟩, a18, a19, a20, a21⟩ := a
  obtain ⟨⟨b22, b23, b24⟩, b25, b26, b27, b28⟩ := b
  simp [E_api_Message, go_sem]
  all_goals (repeat' split)
  all_goals first | (simp [*]; done) | grind | (simp only [Result.ok.injEq, Value.bool.injEq, and_true]; grind)
end Go.Proofs.Gx
