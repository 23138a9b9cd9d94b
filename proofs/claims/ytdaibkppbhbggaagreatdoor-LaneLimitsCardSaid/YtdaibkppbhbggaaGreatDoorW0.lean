/-
  The data of the walks: printed by wip/gx.py.
-/
import Derived.Test.YtdaibkppbhbggaaGreatDoorSl20
import Derived.KernelRfl
import Derived.Test.YtdaibkppbhbggaaGreatDoorProg
set_option linter.unusedVariables false
set_option linter.unusedSimpArgs false
set_option maxRecDepth 100000
set_option maxHeartbeats 4000000
namespace Go.Proofs.Gx
open Go.Sl Tryz
theorem follows : prog.follows .mixedOrders = true := by kernel_rfl
def zfn : Nat → Int := fun _ => 0
structure api_Instr where
  Op : Int
  A : Int
  B : Int
  C : Int
deriving Inhabited, DecidableEq
def E_api_Instr : Fl api_Instr := ⟨fun x => [.int .i64 x.Op, .int .i64 x.A, .int .i64 x.B, .int .i64 x.C], 4, fun _ => rfl, fun x v h => by
  simp only [List.mem_cons, List.not_mem_nil, or_false] at h
  rcases h with rfl | rfl | rfl | rfl <;> rfl⟩
structure api_Link where
  From : Int
  To : Int
  Look : Int
  Loose : Bool
deriving Inhabited, DecidableEq
def E_api_Link : Fl api_Link := ⟨fun x => [.int .i64 x.From, .int .i64 x.To, .int .i64 x.Look, .bool x.Loose], 4, fun _ => rfl, fun x v h => by
  simp only [List.mem_cons, List.not_mem_nil, or_false] at h
  rcases h with rfl | rfl | rfl | rfl <;> rfl⟩
structure api_Start where
  To : Int
  Time : Int
  Value : Int
deriving Inhabited, DecidableEq
def E_api_Start : Fl api_Start := ⟨fun x => [.int .i64 x.To, .int .i64 x.Time, .int .i64 x.Value], 3, fun _ => rfl, fun x v h => by
  simp only [List.mem_cons, List.not_mem_nil, or_false] at h
  rcases h with rfl | rfl | rfl <;> rfl⟩
structure api_Model where
  Progs : (List (List api_Instr))
  Links : (List api_Link)
  Starts : (List api_Start)
  Seed : Int
  End : Int
  Budget : Int
deriving Inhabited, DecidableEq
def R_api_Model : Rep api_Model := ⟨6, fun h cs x => ∃ A0 c0 A1 c1 A2 c2, cs = [.slice A0 x.Progs.length c0, .slice A1 x.Links.length c1, .slice A2 x.Starts.length c2, .int .u64 x.Seed, .int .i64 x.End, .int .i64 x.Budget] ∧ SlR (Rep.sl E_api_Instr.rep) h A0 c0 x.Progs ∧ SlR E_api_Link.rep h A1 c1 x.Links ∧ SlR E_api_Start.rep h A2 c2 x.Starts, fun s ⟨A0, c0, A1, c1, A2, c2, e, f0, f1, f2⟩ => ⟨A0, c0, A1, c1, A2, c2, e, f0.mono s, f1.mono s, f2.mono s⟩⟩
theorem R_api_Model_ok : R_api_Model.Ok := ⟨fun ⟨A0, c0, A1, c1, A2, c2, e, _⟩ => by rw [e]; rfl, fun ⟨A0, c0, A1, c1, A2, c2, e, _⟩ v hv => by
  rw [e] at hv
  simp only [List.mem_cons, List.not_mem_nil, or_false] at hv
  rcases hv with rfl | rfl | rfl | rfl | rfl | rfl <;> rfl⟩
structure api_Caps where
  Link : Int
  Wait : Int
  Log : Int
deriving Inhabited, DecidableEq
def E_api_Caps : Fl api_Caps := ⟨fun x => [.int .i64 x.Link, .int .i64 x.Wait, .int .i64 x.Log], 3, fun _ => rfl, fun x v h => by
  simp only [List.mem_cons, List.not_mem_nil, or_false] at h
  rcases h with rfl | rfl | rfl <;> rfl⟩
structure model_flaw where
  at_ : Int
  why : Int
deriving Inhabited, DecidableEq
def E_model_flaw : Fl model_flaw := ⟨fun x => [.int .i64 x.at_, .int .i64 x.why], 2, fun _ => rfl, fun x v h => by
  simp only [List.mem_cons, List.not_mem_nil, or_false] at h
  rcases h with rfl | rfl <;> rfl⟩
structure api_World where
  Prog : (List api_Instr)
  Self : Int
  Links : (List api_Link)
  Seed : Int
deriving Inhabited, DecidableEq
def R_api_World : Rep api_World := ⟨4, fun h cs x => ∃ A0 c0 A1 c1, cs = [.slice A0 x.Prog.length c0, .int .i64 x.Self, .slice A1 x.Links.length c1, .int .u64 x.Seed] ∧ SlR E_api_Instr.rep h A0 c0 x.Prog ∧ SlR E_api_Link.rep h A1 c1 x.Links, fun s ⟨A0, c0, A1, c1, e, f0, f1⟩ => ⟨A0, c0, A1, c1, e, f0.mono s, f1.mono s⟩⟩
theorem R_api_World_ok : R_api_World.Ok := ⟨fun ⟨A0, c0, A1, c1, e, _⟩ => by rw [e]; rfl, fun ⟨A0, c0, A1, c1, e, _⟩ v hv => by
  rw [e] at hv
  simp only [List.mem_cons, List.not_mem_nil, or_false] at hv
  rcases hv with rfl | rfl | rfl | rfl <;> rfl⟩
structure lane_sending where
  from_ : Int
  uid : Int
deriving Inhabited, DecidableEq
def E_lane_sending : Fl lane_sending := ⟨fun x => [.int .i64 x.from_, .int .i64 x.uid], 2, fun _ => rfl, fun x v h => by
  simp only [List.mem_cons, List.not_mem_nil, or_false] at h
  rcases h with rfl | rfl <;> rfl⟩
structure api_Key where
  Time : Int
  From : Int
  Seq : Int
deriving Inhabited, DecidableEq
def E_api_Key : Fl api_Key := ⟨fun x => [.int .i64 x.Time, .int .i64 x.From, .int .i64 x.Seq], 3, fun _ => rfl, fun x v h => by
  simp only [List.mem_cons, List.not_mem_nil, or_false] at h
  rcases h with rfl | rfl | rfl <;> rfl⟩
structure api_Message where
  Key : api_Key
  To : Int
  Value : Int
  Uid : Int
  Anti : Bool
deriving Inhabited, DecidableEq
def E_api_Message : Fl api_Message := ⟨fun x => [.int .i64 x.Key.Time, .int .i64 x.Key.From, .int .i64 x.Key.Seq, .int .i64 x.To, .int .i64 x.Value, .int .i64 x.Uid, .bool x.Anti], 7, fun _ => rfl, fun x v h => by
  simp only [List.mem_cons, List.not_mem_nil, or_false] at h
  rcases h with rfl | rfl | rfl | rfl | rfl | rfl | rfl <;> rfl⟩
structure lane_open where
  by_ : api_Message
  m : api_Message
deriving Inhabited, DecidableEq
def E_lane_open : Fl lane_open := ⟨fun x => [.int .i64 x.by_.Key.Time, .int .i64 x.by_.Key.From, .int .i64 x.by_.Key.Seq, .int .i64 x.by_.To, .int .i64 x.by_.Value, .int .i64 x.by_.Uid, .bool x.by_.Anti, .int .i64 x.m.Key.Time, .int .i64 x.m.Key.From, .int .i64 x.m.Key.Seq, .int .i64 x.m.To, .int .i64 x.m.Value, .int .i64 x.m.Uid, .bool x.m.Anti], 14, fun _ => rfl, fun x v h => by
  simp only [List.mem_cons, List.not_mem_nil, or_false] at h
  rcases h with rfl | rfl | rfl | rfl | rfl | rfl | rfl | rfl | rfl | rfl | rfl | rfl | rfl | rfl <;> rfl⟩
structure Arr8xInti64 where
  c0 : Int
  c1 : Int
  c2 : Int
  c3 : Int
  c4 : Int
  c5 : Int
  c6 : Int
  c7 : Int
deriving Inhabited, DecidableEq
def E_Arr8xInti64 : Fl Arr8xInti64 := ⟨fun x => [.int .i64 x.c0, .int .i64 x.c1, .int .i64 x.c2, .int .i64 x.c3, .int .i64 x.c4, .int .i64 x.c5, .int .i64 x.c6, .int .i64 x.c7], 8, fun _ => rfl, fun x v h => by
  simp only [List.mem_cons, List.not_mem_nil, or_false] at h
  rcases h with rfl | rfl | rfl | rfl | rfl | rfl | rfl | rfl <;> rfl⟩
structure api_State where
  Regs : Arr8xInti64
  Draws : Int
  Sent : Int
deriving Inhabited, DecidableEq
def E_api_State : Fl api_State := ⟨fun x => [.int .i64 x.Regs.c0, .int .i64 x.Regs.c1, .int .i64 x.Regs.c2, .int .i64 x.Regs.c3, .int .i64 x.Regs.c4, .int .i64 x.Regs.c5, .int .i64 x.Regs.c6, .int .i64 x.Regs.c7, .int .i64 x.Draws, .int .i64 x.Sent], 10, fun _ => rfl, fun x v h => by
  simp only [List.mem_cons, List.not_mem_nil, or_false] at h
  rcases h with rfl | rfl | rfl | rfl | rfl | rfl | rfl | rfl | rfl | rfl <;> rfl⟩
structure log_done where
  event : api_Message
  fault : Int
  sent : (List api_Message)
  ahead : (Pt api_State)
deriving Inhabited, DecidableEq
def R_log_done : Rep log_done := ⟨10, fun h cs x => ∃ A0 c0 b1, cs = [.int .i64 x.event.Key.Time, .int .i64 x.event.Key.From, .int .i64 x.event.Key.Seq, .int .i64 x.event.To, .int .i64 x.event.Value, .int .i64 x.event.Uid, .bool x.event.Anti, .int .i64 x.fault, .slice A0 x.sent.length c0, .pointer (pz b1 x.ahead.has)] ∧ SlR E_api_Message.rep h A0 c0 x.sent ∧ PtR E_api_State h b1 70 x.ahead, fun s ⟨A0, c0, b1, e, f0, f1⟩ => ⟨A0, c0, b1, e, f0.mono s, f1.mono s⟩⟩
theorem R_log_done_ok : R_log_done.Ok := ⟨fun ⟨A0, c0, b1, e, _⟩ => by rw [e]; rfl, fun ⟨A0, c0, b1, e, _⟩ v hv => by
  rw [e] at hv
  simp only [List.mem_cons, List.not_mem_nil, or_false] at hv
  rcases hv with rfl | rfl | rfl | rfl | rfl | rfl | rfl | rfl | rfl | rfl <;> rfl⟩
structure log_Log where
  w : api_World
  made : Bool
  state : api_State
  every : Int
  l : (List log_done)
  stuck : Bool
deriving Inhabited, DecidableEq
def R_log_Log : Rep log_Log := ⟨18, fun h cs x => ∃ A0 c0 A1 c1 A2 c2, cs = [.slice A0 x.w.Prog.length c0, .int .i64 x.w.Self, .slice A1 x.w.Links.length c1, .int .u64 x.w.Seed, .bool x.made, .int .i64 x.state.Regs.c0, .int .i64 x.state.Regs.c1, .int .i64 x.state.Regs.c2, .int .i64 x.state.Regs.c3, .int .i64 x.state.Regs.c4, .int .i64 x.state.Regs.c5, .int .i64 x.state.Regs.c6, .int .i64 x.state.Regs.c7, .int .i64 x.state.Draws, .int .i64 x.state.Sent, .int .i64 x.every, .slice A2 x.l.length c2, .bool x.stuck] ∧ SlR E_api_Instr.rep h A0 c0 x.w.Prog ∧ SlR E_api_Link.rep h A1 c1 x.w.Links ∧ SlR R_log_done h A2 c2 x.l, fun s ⟨A0, c0, A1, c1, A2, c2, e, f0, f1, f2⟩ => ⟨A0, c0, A1, c1, A2, c2, e, f0.mono s, f1.mono s, f2.mono s⟩⟩
theorem R_log_Log_ok : R_log_Log.Ok := ⟨fun ⟨A0, c0, A1, c1, A2, c2, e, _⟩ => by rw [e]; rfl, fun ⟨A0, c0, A1, c1, A2, c2, e, _⟩ v hv => by
  rw [e] at hv
  simp only [List.mem_cons, List.not_mem_nil, or_false] at hv
  rcases hv with rfl | rfl | rfl | rfl | rfl | rfl | rfl | rfl | rfl | rfl | rfl | rfl | rfl | rfl | rfl | rfl | rfl | rfl <;> rfl⟩
structure api_Setting where
  Mode : Int
  Every : Int
  Cancel : Int
  Reach : Int
  Queue : Int
deriving Inhabited, DecidableEq
def E_api_Setting : Fl api_Setting := ⟨fun x => [.int .i64 x.Mode, .int .i64 x.Every, .int .i64 x.Cancel, .int .i64 x.Reach, .int .i64 x.Queue], 5, fun _ => rfl, fun x v h => by
  simp only [List.mem_cons, List.not_mem_nil, or_false] at h
  rcases h with rfl | rfl | rfl | rfl | rfl <;> rfl⟩
structure api_Stats where
  Done : Int
  Undone : Int
  Hits : Int
  Held : Int
deriving Inhabited, DecidableEq
def E_api_Stats : Fl api_Stats := ⟨fun x => [.int .i64 x.Done, .int .i64 x.Undone, .int .i64 x.Hits, .int .i64 x.Held], 4, fun _ => rfl, fun x v h => by
  simp only [List.mem_cons, List.not_mem_nil, or_false] at h
  rcases h with rfl | rfl | rfl | rfl <;> rfl⟩
structure api_Entry where
  Event : api_Message
  Before : api_State
  Fault : Int
  Sent : (List api_Message)
deriving Inhabited, DecidableEq
def R_api_Entry : Rep api_Entry := ⟨19, fun h cs x => ∃ A0 c0, cs = [.int .i64 x.Event.Key.Time, .int .i64 x.Event.Key.From, .int .i64 x.Event.Key.Seq, .int .i64 x.Event.To, .int .i64 x.Event.Value, .int .i64 x.Event.Uid, .bool x.Event.Anti, .int .i64 x.Before.Regs.c0, .int .i64 x.Before.Regs.c1, .int .i64 x.Before.Regs.c2, .int .i64 x.Before.Regs.c3, .int .i64 x.Before.Regs.c4, .int .i64 x.Before.Regs.c5, .int .i64 x.Before.Regs.c6, .int .i64 x.Before.Regs.c7, .int .i64 x.Before.Draws, .int .i64 x.Before.Sent, .int .i64 x.Fault, .slice A0 x.Sent.length c0] ∧ SlR E_api_Message.rep h A0 c0 x.Sent, fun s ⟨A0, c0, e, f0⟩ => ⟨A0, c0, e, f0.mono s⟩⟩
theorem R_api_Entry_ok : R_api_Entry.Ok := ⟨fun ⟨A0, c0, e, _⟩ => by rw [e]; rfl, fun ⟨A0, c0, e, _⟩ v hv => by
  rw [e] at hv
  simp only [List.mem_cons, List.not_mem_nil, or_false] at hv
  rcases hv with rfl | rfl | rfl | rfl | rfl | rfl | rfl | rfl | rfl | rfl | rfl | rfl | rfl | rfl | rfl | rfl | rfl | rfl | rfl <;> rfl⟩
structure api_Out where
  Link : Int
  Delay : Int
  Value : Int
deriving Inhabited, DecidableEq
def E_api_Out : Fl api_Out := ⟨fun x => [.int .i64 x.Link, .int .i64 x.Delay, .int .i64 x.Value], 3, fun _ => rfl, fun x v h => by
  simp only [List.mem_cons, List.not_mem_nil, or_false] at h
  rcases h with rfl | rfl | rfl <;> rfl⟩
structure vm_fault where
  at_ : Int
  why : Int
deriving Inhabited, DecidableEq
def E_vm_fault : Fl vm_fault := ⟨fun x => [.int .i64 x.at_, .int .i64 x.why], 2, fun _ => rfl, fun x v h => by
  simp only [List.mem_cons, List.not_mem_nil, or_false] at h
  rcases h with rfl | rfl <;> rfl⟩
structure draw_word where
  x : Int
deriving Inhabited, DecidableEq
def E_draw_word : Fl draw_word := ⟨fun x => [.int .u64 x.x], 1, fun _ => rfl, fun x v h => by
  simp only [List.mem_cons, List.not_mem_nil, or_false] at h
  rcases h with rfl <;> rfl⟩
structure draw_mixer where
  word : draw_word
deriving Inhabited, DecidableEq
def E_draw_mixer : Fl draw_mixer := ⟨fun x => [.int .u64 x.word.x], 1, fun _ => rfl, fun x v h => by
  simp only [List.mem_cons, List.not_mem_nil, or_false] at h
  rcases h with rfl <;> rfl⟩
structure lane_refusal where
  why : Int
deriving Inhabited, DecidableEq
def E_lane_refusal : Fl lane_refusal := ⟨fun x => [.int .i64 x.why], 1, fun _ => rfl, fun x v h => by
  simp only [List.mem_cons, List.not_mem_nil, or_false] at h
  rcases h with rfl <;> rfl⟩
def lit_ : ByteArray := ⟨#[]⟩
def lit_2d2d2d : ByteArray := ⟨#[45, 45, 45]⟩
def lit_726e2d : ByteArray := ⟨#[114, 110, 45]⟩
def lit_72722d : ByteArray := ⟨#[114, 114, 45]⟩
def lit_rrr : ByteArray := ⟨#[114, 114, 114]⟩
def lit_702d2d : ByteArray := ⟨#[112, 45, 45]⟩
def lit_72702d : ByteArray := ⟨#[114, 112, 45]⟩
def lit_722d2d : ByteArray := ⟨#[114, 45, 45]⟩
theorem run_eql_api_Key (x y : Operand) (a b : api_Key) (w : World) : ((eqGuard .eql 46 x y (.agg (E_api_Key.enc a).toArray) (.agg (E_api_Key.enc b).toArray)).bind fun _ => binOp .eql 46 (.agg (E_api_Key.enc a).toArray) (.agg (E_api_Key.enc b).toArray)).run prog w = .ok (.bool (decide (a = b))) w := by
  show ((eqGuard .eql 46 x y _ _) >>= fun _ => binOp .eql 46 _ _).run prog w = _
  rw [Sem.run_bind, run_eqGuard_agg (hm := eqGuardType46)]
  simp only [Result.andThen_ok]
  obtain ⟨a1, a2, a3⟩ := a
  obtain ⟨b4, b5, b6⟩ := b
  simp [E_api_Key, go_sem]
  all_goals (repeat' split)
  all_goals first | (simp [*]; done) | grind | (simp only [Result.ok.injEq, Value.bool.injEq, and_true]; grind)
theorem run_neq_api_Key (x y : Operand) (a b : api_Key) (w : World) : ((eqGuard .neq 46 x y (.agg (E_api_Key.enc a).toArray) (.agg (E_api_Key.enc b).toArray)).bind fun _ => binOp .neq 46 (.agg (E_api_Key.enc a).toArray) (.agg (E_api_Key.enc b).toArray)).run prog w = .ok (.bool (!decide (a = b))) w := by
  show ((eqGuard .neq 46 x y _ _) >>= fun _ => binOp .neq 46 _ _).run prog w = _
  rw [Sem.run_bind, run_eqGuard_agg (hm := eqGuardType46)]
  simp only [Result.andThen_ok]
  obtain ⟨a7, a8, a9⟩ := a
  obtain ⟨b10, b11, b12⟩ := b
  simp [E_api_Key, go_sem]
  all_goals (repeat' split)
  all_goals first | (simp [*]; done) | grind | (simp only [Result.ok.injEq, Value.bool.injEq, and_true]; grind)
theorem run_eql_api_Message (x y : Operand) (a b : api_Message) (w : World) : ((eqGuard .eql 48 x y (.agg (E_api_Message.enc a).toArray) (.agg (E_api_Message.enc b).toArray)).bind fun _ => binOp .eql 48 (.agg (E_api_Message.enc a).toArray) (.agg (E_api_Message.enc b).toArray)).run prog w = .ok (.bool (decide (a = b))) w := by
  show ((eqGuard .eql 48 x y _ _) >>= fun _ => binOp .eql 48 _ _).run prog w = _
  rw [Sem.run_bind, run_eqGuard_agg (hm := eqGuardType48)]
  simp only [Result.andThen_ok]
  obtain ⟨⟨a1, a2, a3⟩, a4, a5, a6, a7⟩ := a
  obtain ⟨⟨b8, b9, b10⟩, b11, b12, b13, b14⟩ := b
  simp [E_api_Message, go_sem]
  all_goals (repeat' split)
  all_goals first | (simp [*]; done) | grind | (simp only [Result.ok.injEq, Value.bool.injEq, and_true]; grind)
theorem run_neq_api_Message (x y : Operand) (a b : api_Message) (w : World) : ((eqGuard .neq 48 x y (.agg (E_api_Message.enc a).toArray) (.agg (E_api_Message.enc b).toArray)).bind fun _ => binOp .neq 48 (.agg (E_api_Message.enc a).toArray) (.agg (E_api_Message.enc b).toArray)).run prog w = .ok (.bool (!decide (a = b))) w := by
  show ((eqGuard .neq 48 x y _ _) >>= fun _ => binOp .neq 48 _ _).run prog w = _
  rw [Sem.run_bind, run_eqGuard_agg (hm := eqGuardType48)]
  simp only [Result.andThen_ok]
  obtain ⟨⟨a15, a16, a17⟩, a18, a19, a20, a21⟩ := a
  obtain ⟨⟨b22, b23, b24⟩, b25, b26, b27, b28⟩ := b
  simp [E_api_Message, go_sem]
  all_goals (repeat' split)
  all_goals first | (simp [*]; done) | grind | (simp only [Result.ok.injEq, Value.bool.injEq, and_true]; grind)
def kv_lane_sending (x : lane_sending) : Value := .agg (E_lane_sending.enc x).toArray
theorem keyok_lane_sending : KeyOK prog 126 kv_lane_sending := by
  refine ⟨fun e x w => ?_, fun x y w => ?_, ⟨_, underlying126, fun x y => .inl rfl⟩, fun x => ?_⟩
  · obtain ⟨a0, a1⟩ := x
    show (Instr.checkKey e (9999 + 1) 126 _).run prog w = _
    rw [Instr.checkKey]
    have p0 : ∀ w, (part 3 #[.int .i64 a0, .int .i64 a1] 0).run prog w = .ok (.int .i64 a0) w := fun w => run_part1 isAgg3 rfl
    have c0 : ∀ (m : Int) w, (Instr.checkKey e 9999 3 (.int .i64 m)).run prog w = .ok () w := fun m w => run_checkKey_int1 (n := 9998) underlying3
    have p1 : ∀ w, (part 3 #[.int .i64 a0, .int .i64 a1] 1).run prog w = .ok (.int .i64 a1) w := fun w => run_part1 isAgg3 rfl
    have c1 : ∀ (m : Int) w, (Instr.checkKey e 9999 3 (.int .i64 m)).run prog w = .ok () w := fun m w => run_checkKey_int1 (n := 9998) underlying3
    simp [kv_lane_sending, E_lane_sending, run_underlying underlying126, p0, c0, p1, c1]
  · obtain ⟨a0, a1⟩ := x
    obtain ⟨b0, b1⟩ := y
    simp [kv_lane_sending, E_lane_sending, Op.equal, Op.maxDepth, go_sem]
    all_goals (repeat' split)
    all_goals first | (simp [*]; done) | grind
  · obtain ⟨a0, a1⟩ := x
    simp [kv_lane_sending, E_lane_sending, Instr.sameBits]
def O_log_Log (hf : Hp) (x : log_Log) (b : Nat) : HProp := fun h => ∃ (A_1 : Option Addr) (c_2 : Nat) (A_4 : Option Addr) (c_5 : Nat) (A_7 : Option Addr) (c_8 : Nat) (cs_9 : List Value), SlR E_api_Instr.rep hf A_1 c_2 x.w.Prog ∧ SlR E_api_Link.rep hf A_4 c_5 x.w.Links ∧ RepL R_log_done hf cs_9 x.l ∧ spl [Cl b [.slice A_1 x.w.Prog.length c_2, .int .i64 x.w.Self, .slice A_4 x.w.Links.length c_5, .int .u64 x.w.Seed, .bool x.made, .int .i64 x.state.Regs.c0, .int .i64 x.state.Regs.c1, .int .i64 x.state.Regs.c2, .int .i64 x.state.Regs.c3, .int .i64 x.state.Regs.c4, .int .i64 x.state.Regs.c5, .int .i64 x.state.Regs.c6, .int .i64 x.state.Regs.c7, .int .i64 x.state.Draws, .int .i64 x.state.Sent, .int .i64 x.every, .slice A_7 x.l.length c_8, .bool x.stuck] 150, OSl 176 10 (.slice A_7 x.l.length c_8) x.l.length cs_9] h
theorem O_log_Log.o {B : Base} {w : World} {l : List HProp} {hf : Hp} {x : log_Log} {b : Nat} (hS : St B w (O_log_Log hf x b :: l) hf) : ∃ (A_1 : Option Addr) (c_2 : Nat) (A_4 : Option Addr) (c_5 : Nat) (A_7 : Option Addr) (c_8 : Nat) (cs_9 : List Value), SlR E_api_Instr.rep hf A_1 c_2 x.w.Prog ∧ SlR E_api_Link.rep hf A_4 c_5 x.w.Links ∧ RepL R_log_done hf cs_9 x.l ∧ St B w (Cl b [.slice A_1 x.w.Prog.length c_2, .int .i64 x.w.Self, .slice A_4 x.w.Links.length c_5, .int .u64 x.w.Seed, .bool x.made, .int .i64 x.state.Regs.c0, .int .i64 x.state.Regs.c1, .int .i64 x.state.Regs.c2, .int .i64 x.state.Regs.c3, .int .i64 x.state.Regs.c4, .int .i64 x.state.Regs.c5, .int .i64 x.state.Regs.c6, .int .i64 x.state.Regs.c7, .int .i64 x.state.Draws, .int .i64 x.state.Sent, .int .i64 x.every, .slice A_7 x.l.length c_8, .bool x.stuck] 150 :: OSl 176 10 (.slice A_7 x.l.length c_8) x.l.length cs_9 :: l) hf := by
  obtain ⟨h, ⟨A_1, c_2, A_4, c_5, A_7, c_8, cs_9, hr_3, hr_6, hx_10, hsp⟩, hr⟩ := hS.own
  exact ⟨A_1, c_2, A_4, c_5, A_7, c_8, cs_9, hr_3, hr_6, hx_10, (St.splO (ps := [Cl b [.slice A_1 x.w.Prog.length c_2, .int .i64 x.w.Self, .slice A_4 x.w.Links.length c_5, .int .u64 x.w.Seed, .bool x.made, .int .i64 x.state.Regs.c0, .int .i64 x.state.Regs.c1, .int .i64 x.state.Regs.c2, .int .i64 x.state.Regs.c3, .int .i64 x.state.Regs.c4, .int .i64 x.state.Regs.c5, .int .i64 x.state.Regs.c6, .int .i64 x.state.Regs.c7, .int .i64 x.state.Draws, .int .i64 x.state.Sent, .int .i64 x.every, .slice A_7 x.l.length c_8, .bool x.stuck] 150, OSl 176 10 (.slice A_7 x.l.length c_8) x.l.length cs_9]) ⟨hS.base, hS.sub, h, hsp, hr⟩)⟩
theorem O_log_Log.c {B : Base} {w : World} {l : List HProp} {hf : Hp} {x : log_Log} {b : Nat} {A_1 : Option Addr} {c_2 : Nat} {A_4 : Option Addr} {c_5 : Nat} {A_7 : Option Addr} {c_8 : Nat} {cs_9 : List Value} (hr_3 : SlR E_api_Instr.rep hf A_1 c_2 x.w.Prog) (hr_6 : SlR E_api_Link.rep hf A_4 c_5 x.w.Links) (hx_10 : RepL R_log_done hf cs_9 x.l) (hS : St B w (Cl b [.slice A_1 x.w.Prog.length c_2, .int .i64 x.w.Self, .slice A_4 x.w.Links.length c_5, .int .u64 x.w.Seed, .bool x.made, .int .i64 x.state.Regs.c0, .int .i64 x.state.Regs.c1, .int .i64 x.state.Regs.c2, .int .i64 x.state.Regs.c3, .int .i64 x.state.Regs.c4, .int .i64 x.state.Regs.c5, .int .i64 x.state.Regs.c6, .int .i64 x.state.Regs.c7, .int .i64 x.state.Draws, .int .i64 x.state.Sent, .int .i64 x.every, .slice A_7 x.l.length c_8, .bool x.stuck] 150 :: OSl 176 10 (.slice A_7 x.l.length c_8) x.l.length cs_9 :: l) hf) : St B w (O_log_Log hf x b :: l) hf :=
  (St.splC (ps := [Cl b [.slice A_1 x.w.Prog.length c_2, .int .i64 x.w.Self, .slice A_4 x.w.Links.length c_5, .int .u64 x.w.Seed, .bool x.made, .int .i64 x.state.Regs.c0, .int .i64 x.state.Regs.c1, .int .i64 x.state.Regs.c2, .int .i64 x.state.Regs.c3, .int .i64 x.state.Regs.c4, .int .i64 x.state.Regs.c5, .int .i64 x.state.Regs.c6, .int .i64 x.state.Regs.c7, .int .i64 x.state.Draws, .int .i64 x.state.Sent, .int .i64 x.every, .slice A_7 x.l.length c_8, .bool x.stuck] 150, OSl 176 10 (.slice A_7 x.l.length c_8) x.l.length cs_9]) hS).imp fun h e => ⟨A_1, c_2, A_4, c_5, A_7, c_8, cs_9, hr_3, hr_6, hx_10, e⟩
theorem O_log_Log.m {hf hf' : Hp} (s : Sub hf hf') {x : log_Log} {b : Nat} : ∀ h, O_log_Log hf x b h → O_log_Log hf' x b h := fun h ⟨A_1, c_2, A_4, c_5, A_7, c_8, cs_9, hr_3, hr_6, hx_10, e⟩ => ⟨A_1, c_2, A_4, c_5, A_7, c_8, cs_9, hr_3.mono s, hr_6.mono s, hx_10.mono s, spl_imp (PI.c (fun _ a => a) (PI.c (fun _ a => a) (PI.n))) h e⟩
theorem O_log_Log.l {B : Base} {w : World} {l : List HProp} {hf hf' : Hp} (s : Sub hf hf') {x : log_Log} {b : Nat} (hS : St B w (O_log_Log hf x b :: l) hf') : St B w (O_log_Log hf' x b :: l) hf' := hS.imp (O_log_Log.m s)
structure heap_Heap where
  p_l : (List api_Message)

def O_heap_Heap (hf : Hp) (x : heap_Heap) (b : Nat) : HProp := fun h => ∃ (A_1 : Option Addr) (c_2 : Nat), spl [Cl b [.slice A_1 x.p_l.length c_2, .func (.func 62) #[] #[]] 245, OSf E_api_Message 48 (.slice A_1 x.p_l.length c_2) x.p_l] h
theorem O_heap_Heap.o {B : Base} {w : World} {l : List HProp} {hf : Hp} {x : heap_Heap} {b : Nat} (hS : St B w (O_heap_Heap hf x b :: l) hf) : ∃ (A_1 : Option Addr) (c_2 : Nat), St B w (Cl b [.slice A_1 x.p_l.length c_2, .func (.func 62) #[] #[]] 245 :: OSf E_api_Message 48 (.slice A_1 x.p_l.length c_2) x.p_l :: l) hf := by
  obtain ⟨h, ⟨A_1, c_2, hsp⟩, hr⟩ := hS.own
  exact ⟨A_1, c_2, (St.splO (ps := [Cl b [.slice A_1 x.p_l.length c_2, .func (.func 62) #[] #[]] 245, OSf E_api_Message 48 (.slice A_1 x.p_l.length c_2) x.p_l]) ⟨hS.base, hS.sub, h, hsp, hr⟩)⟩
theorem O_heap_Heap.c {B : Base} {w : World} {l : List HProp} {hf : Hp} {x : heap_Heap} {b : Nat} {A_1 : Option Addr} {c_2 : Nat}  (hS : St B w (Cl b [.slice A_1 x.p_l.length c_2, .func (.func 62) #[] #[]] 245 :: OSf E_api_Message 48 (.slice A_1 x.p_l.length c_2) x.p_l :: l) hf) : St B w (O_heap_Heap hf x b :: l) hf :=
  (St.splC (ps := [Cl b [.slice A_1 x.p_l.length c_2, .func (.func 62) #[] #[]] 245, OSf E_api_Message 48 (.slice A_1 x.p_l.length c_2) x.p_l]) hS).imp fun h e => ⟨A_1, c_2, e⟩
theorem O_heap_Heap.m {hf hf' : Hp} (s : Sub hf hf') {x : heap_Heap} {b : Nat} : ∀ h, O_heap_Heap hf x b h → O_heap_Heap hf' x b h := fun h ⟨A_1, c_2, e⟩ => ⟨A_1, c_2, spl_imp (PI.c (fun _ a => a) (PI.c (fun _ a => a) (PI.n))) h e⟩
theorem O_heap_Heap.l {B : Base} {w : World} {l : List HProp} {hf hf' : Hp} (s : Sub hf hf') {x : heap_Heap} {b : Nat} (hS : St B w (O_heap_Heap hf x b :: l) hf') : St B w (O_heap_Heap hf' x b :: l) hf' := hS.imp (O_heap_Heap.m s)
structure pend_Pend where
  q : heap_Heap

def O_pend_Pend (hf : Hp) (x : pend_Pend) (b : Nat) : HProp := fun h => ∃ (b_1 : Nat), spl [Cl b [.iface 203 (.pointer (some ⟨b_1, 0, none⟩))] 155, O_heap_Heap hf x.q b_1] h
theorem O_pend_Pend.o {B : Base} {w : World} {l : List HProp} {hf : Hp} {x : pend_Pend} {b : Nat} (hS : St B w (O_pend_Pend hf x b :: l) hf) : ∃ (b_1 : Nat), St B w (Cl b [.iface 203 (.pointer (some ⟨b_1, 0, none⟩))] 155 :: O_heap_Heap hf x.q b_1 :: l) hf := by
  obtain ⟨h, ⟨b_1, hsp⟩, hr⟩ := hS.own
  exact ⟨b_1, (St.splO (ps := [Cl b [.iface 203 (.pointer (some ⟨b_1, 0, none⟩))] 155, O_heap_Heap hf x.q b_1]) ⟨hS.base, hS.sub, h, hsp, hr⟩)⟩
theorem O_pend_Pend.c {B : Base} {w : World} {l : List HProp} {hf : Hp} {x : pend_Pend} {b : Nat} {b_1 : Nat}  (hS : St B w (Cl b [.iface 203 (.pointer (some ⟨b_1, 0, none⟩))] 155 :: O_heap_Heap hf x.q b_1 :: l) hf) : St B w (O_pend_Pend hf x b :: l) hf :=
  (St.splC (ps := [Cl b [.iface 203 (.pointer (some ⟨b_1, 0, none⟩))] 155, O_heap_Heap hf x.q b_1]) hS).imp fun h e => ⟨b_1, e⟩
theorem O_pend_Pend.m {hf hf' : Hp} (s : Sub hf hf') {x : pend_Pend} {b : Nat} : ∀ h, O_pend_Pend hf x b h → O_pend_Pend hf' x b h := fun h ⟨b_1, e⟩ => ⟨b_1, spl_imp (PI.c (fun _ a => a) (PI.c (O_heap_Heap.m s) (PI.n))) h e⟩
theorem O_pend_Pend.l {B : Base} {w : World} {l : List HProp} {hf hf' : Hp} (s : Sub hf hf') {x : pend_Pend} {b : Nat} (hS : St B w (O_pend_Pend hf x b :: l) hf') : St B w (O_pend_Pend hf' x b :: l) hf' := hS.imp (O_pend_Pend.m s)
structure lane_Lane where
  m : api_Model
  n : Int
  caps : api_Caps
  ways : (List Int)
  log : log_Log
  wait : pend_Pend
  open_ : (List lane_open)
  orphans : (List api_Message)
  early : List (lane_sending × Int)
  held : List (lane_sending × Bool)
  uid : Int
  setting : api_Setting
  stats : api_Stats

def O_lane_Lane (hf : Hp) (x : lane_Lane) (b : Nat) : HProp := fun h => ∃ (A_1 : Option Addr) (c_2 : Nat) (A_4 : Option Addr) (c_5 : Nat) (A_7 : Option Addr) (c_8 : Nat) (A_10 : Option Addr) (c_11 : Nat) (b_13 : Nat) (b_14 : Nat) (A_15 : Option Addr) (c_16 : Nat) (A_17 : Option Addr) (c_18 : Nat) (b_19 : Nat) (b_20 : Nat), SlR (Rep.sl E_api_Instr.rep) hf A_1 c_2 x.m.Progs ∧ SlR E_api_Link.rep hf A_4 c_5 x.m.Links ∧ SlR E_api_Start.rep hf A_7 c_8 x.m.Starts ∧ SlR ((FI .i64).rep) hf A_10 c_11 x.ways ∧ spl [Cl b [.slice A_1 x.m.Progs.length c_2, .slice A_4 x.m.Links.length c_5, .slice A_7 x.m.Starts.length c_8, .int .u64 x.m.Seed, .int .i64 x.m.End, .int .i64 x.m.Budget, .int .i64 x.n, .int .i64 x.caps.Link, .int .i64 x.caps.Wait, .int .i64 x.caps.Log, .slice A_10 x.ways.length c_11, .pointer (some ⟨b_13, 0, none⟩), .pointer (some ⟨b_14, 0, none⟩), .slice A_15 x.open_.length c_16, .slice A_17 x.orphans.length c_18, .map (some b_19), .map (some b_20), .int .i64 x.uid, .int .i64 x.setting.Mode, .int .i64 x.setting.Every, .int .i64 x.setting.Cancel, .int .i64 x.setting.Reach, .int .i64 x.setting.Queue, .int .i64 x.stats.Done, .int .i64 x.stats.Undone, .int .i64 x.stats.Hits, .int .i64 x.stats.Held] 61, O_log_Log hf x.log b_13, O_pend_Pend hf x.wait b_14, OSf E_lane_open 116 (.slice A_15 x.open_.length c_16) x.open_, OSf E_api_Message 48 (.slice A_17 x.orphans.length c_18) x.orphans, MapF kv_lane_sending (Value.int .i64) b_19 x.early, MapF kv_lane_sending Value.bool b_20 x.held] h
theorem O_lane_Lane.o {B : Base} {w : World} {l : List HProp} {hf : Hp} {x : lane_Lane} {b : Nat} (hS : St B w (O_lane_Lane hf x b :: l) hf) : ∃ (A_1 : Option Addr) (c_2 : Nat) (A_4 : Option Addr) (c_5 : Nat) (A_7 : Option Addr) (c_8 : Nat) (A_10 : Option Addr) (c_11 : Nat) (b_13 : Nat) (b_14 : Nat) (A_15 : Option Addr) (c_16 : Nat) (A_17 : Option Addr) (c_18 : Nat) (b_19 : Nat) (b_20 : Nat), SlR (Rep.sl E_api_Instr.rep) hf A_1 c_2 x.m.Progs ∧ SlR E_api_Link.rep hf A_4 c_5 x.m.Links ∧ SlR E_api_Start.rep hf A_7 c_8 x.m.Starts ∧ SlR ((FI .i64).rep) hf A_10 c_11 x.ways ∧ St B w (Cl b [.slice A_1 x.m.Progs.length c_2, .slice A_4 x.m.Links.length c_5, .slice A_7 x.m.Starts.length c_8, .int .u64 x.m.Seed, .int .i64 x.m.End, .int .i64 x.m.Budget, .int .i64 x.n, .int .i64 x.caps.Link, .int .i64 x.caps.Wait, .int .i64 x.caps.Log, .slice A_10 x.ways.length c_11, .pointer (some ⟨b_13, 0, none⟩), .pointer (some ⟨b_14, 0, none⟩), .slice A_15 x.open_.length c_16, .slice A_17 x.orphans.length c_18, .map (some b_19), .map (some b_20), .int .i64 x.uid, .int .i64 x.setting.Mode, .int .i64 x.setting.Every, .int .i64 x.setting.Cancel, .int .i64 x.setting.Reach, .int .i64 x.setting.Queue, .int .i64 x.stats.Done, .int .i64 x.stats.Undone, .int .i64 x.stats.Hits, .int .i64 x.stats.Held] 61 :: O_log_Log hf x.log b_13 :: O_pend_Pend hf x.wait b_14 :: OSf E_lane_open 116 (.slice A_15 x.open_.length c_16) x.open_ :: OSf E_api_Message 48 (.slice A_17 x.orphans.length c_18) x.orphans :: MapF kv_lane_sending (Value.int .i64) b_19 x.early :: MapF kv_lane_sending Value.bool b_20 x.held :: l) hf := by
  obtain ⟨h, ⟨A_1, c_2, A_4, c_5, A_7, c_8, A_10, c_11, b_13, b_14, A_15, c_16, A_17, c_18, b_19, b_20, hr_3, hr_6, hr_9, hr_12, hsp⟩, hr⟩ := hS.own
  exact ⟨A_1, c_2, A_4, c_5, A_7, c_8, A_10, c_11, b_13, b_14, A_15, c_16, A_17, c_18, b_19, b_20, hr_3, hr_6, hr_9, hr_12, (St.splO (ps := [Cl b [.slice A_1 x.m.Progs.length c_2, .slice A_4 x.m.Links.length c_5, .slice A_7 x.m.Starts.length c_8, .int .u64 x.m.Seed, .int .i64 x.m.End, .int .i64 x.m.Budget, .int .i64 x.n, .int .i64 x.caps.Link, .int .i64 x.caps.Wait, .int .i64 x.caps.Log, .slice A_10 x.ways.length c_11, .pointer (some ⟨b_13, 0, none⟩), .pointer (some ⟨b_14, 0, none⟩), .slice A_15 x.open_.length c_16, .slice A_17 x.orphans.length c_18, .map (some b_19), .map (some b_20), .int .i64 x.uid, .int .i64 x.setting.Mode, .int .i64 x.setting.Every, .int .i64 x.setting.Cancel, .int .i64 x.setting.Reach, .int .i64 x.setting.Queue, .int .i64 x.stats.Done, .int .i64 x.stats.Undone, .int .i64 x.stats.Hits, .int .i64 x.stats.Held] 61, O_log_Log hf x.log b_13, O_pend_Pend hf x.wait b_14, OSf E_lane_open 116 (.slice A_15 x.open_.length c_16) x.open_, OSf E_api_Message 48 (.slice A_17 x.orphans.length c_18) x.orphans, MapF kv_lane_sending (Value.int .i64) b_19 x.early, MapF kv_lane_sending Value.bool b_20 x.held]) ⟨hS.base, hS.sub, h, hsp, hr⟩)⟩
theorem O_lane_Lane.c {B : Base} {w : World} {l : List HProp} {hf : Hp} {x : lane_Lane} {b : Nat} {A_1 : Option Addr} {c_2 : Nat} {A_4 : Option Addr} {c_5 : Nat} {A_7 : Option Addr} {c_8 : Nat} {A_10 : Option Addr} {c_11 : Nat} {b_13 : Nat} {b_14 : Nat} {A_15 : Option Addr} {c_16 : Nat} {A_17 : Option Addr} {c_18 : Nat} {b_19 : Nat} {b_20 : Nat} (hr_3 : SlR (Rep.sl E_api_Instr.rep) hf A_1 c_2 x.m.Progs) (hr_6 : SlR E_api_Link.rep hf A_4 c_5 x.m.Links) (hr_9 : SlR E_api_Start.rep hf A_7 c_8 x.m.Starts) (hr_12 : SlR ((FI .i64).rep) hf A_10 c_11 x.ways) (hS : St B w (Cl b [.slice A_1 x.m.Progs.length c_2, .slice A_4 x.m.Links.length c_5, .slice A_7 x.m.Starts.length c_8, .int .u64 x.m.Seed, .int .i64 x.m.End, .int .i64 x.m.Budget, .int .i64 x.n, .int .i64 x.caps.Link, .int .i64 x.caps.Wait, .int .i64 x.caps.Log, .slice A_10 x.ways.length c_11, .pointer (some ⟨b_13, 0, none⟩), .pointer (some ⟨b_14, 0, none⟩), .slice A_15 x.open_.length c_16, .slice A_17 x.orphans.length c_18, .map (some b_19), .map (some b_20), .int .i64 x.uid, .int .i64 x.setting.Mode, .int .i64 x.setting.Every, .int .i64 x.setting.Cancel, .int .i64 x.setting.Reach, .int .i64 x.setting.Queue, .int .i64 x.stats.Done, .int .i64 x.stats.Undone, .int .i64 x.stats.Hits, .int .i64 x.stats.Held] 61 :: O_log_Log hf x.log b_13 :: O_pend_Pend hf x.wait b_14 :: OSf E_lane_open 116 (.slice A_15 x.open_.length c_16) x.open_ :: OSf E_api_Message 48 (.slice A_17 x.orphans.length c_18) x.orphans :: MapF kv_lane_sending (Value.int .i64) b_19 x.early :: MapF kv_lane_sending Value.bool b_20 x.held :: l) hf) : St B w (O_lane_Lane hf x b :: l) hf :=
  (St.splC (ps := [Cl b [.slice A_1 x.m.Progs.length c_2, .slice A_4 x.m.Links.length c_5, .slice A_7 x.m.Starts.length c_8, .int .u64 x.m.Seed, .int .i64 x.m.End, .int .i64 x.m.Budget, .int .i64 x.n, .int .i64 x.caps.Link, .int .i64 x.caps.Wait, .int .i64 x.caps.Log, .slice A_10 x.ways.length c_11, .pointer (some ⟨b_13, 0, none⟩), .pointer (some ⟨b_14, 0, none⟩), .slice A_15 x.open_.length c_16, .slice A_17 x.orphans.length c_18, .map (some b_19), .map (some b_20), .int .i64 x.uid, .int .i64 x.setting.Mode, .int .i64 x.setting.Every, .int .i64 x.setting.Cancel, .int .i64 x.setting.Reach, .int .i64 x.setting.Queue, .int .i64 x.stats.Done, .int .i64 x.stats.Undone, .int .i64 x.stats.Hits, .int .i64 x.stats.Held] 61, O_log_Log hf x.log b_13, O_pend_Pend hf x.wait b_14, OSf E_lane_open 116 (.slice A_15 x.open_.length c_16) x.open_, OSf E_api_Message 48 (.slice A_17 x.orphans.length c_18) x.orphans, MapF kv_lane_sending (Value.int .i64) b_19 x.early, MapF kv_lane_sending Value.bool b_20 x.held]) hS).imp fun h e => ⟨A_1, c_2, A_4, c_5, A_7, c_8, A_10, c_11, b_13, b_14, A_15, c_16, A_17, c_18, b_19, b_20, hr_3, hr_6, hr_9, hr_12, e⟩
theorem O_lane_Lane.m {hf hf' : Hp} (s : Sub hf hf') {x : lane_Lane} {b : Nat} : ∀ h, O_lane_Lane hf x b h → O_lane_Lane hf' x b h := fun h ⟨A_1, c_2, A_4, c_5, A_7, c_8, A_10, c_11, b_13, b_14, A_15, c_16, A_17, c_18, b_19, b_20, hr_3, hr_6, hr_9, hr_12, e⟩ => ⟨A_1, c_2, A_4, c_5, A_7, c_8, A_10, c_11, b_13, b_14, A_15, c_16, A_17, c_18, b_19, b_20, hr_3.mono s, hr_6.mono s, hr_9.mono s, hr_12.mono s, spl_imp (PI.c (fun _ a => a) (PI.c (O_log_Log.m s) (PI.c (O_pend_Pend.m s) (PI.c (fun _ a => a) (PI.c (fun _ a => a) (PI.c (fun _ a => a) (PI.c (fun _ a => a) (PI.n)))))))) h e⟩
theorem O_lane_Lane.l {B : Base} {w : World} {l : List HProp} {hf hf' : Hp} (s : Sub hf hf') {x : lane_Lane} {b : Nat} (hS : St B w (O_lane_Lane hf x b :: l) hf') : St B w (O_lane_Lane hf' x b :: l) hf' := hS.imp (O_lane_Lane.m s)
@[reducible] def C_api_Model (x : api_Model) (A0 : Option Addr) (c0 : Nat) (A1 : Option Addr) (c1 : Nat) (A2 : Option Addr) (c2 : Nat) : List Value := [.slice A0 x.Progs.length c0, .slice A1 x.Links.length c1, .slice A2 x.Starts.length c2, .int .u64 x.Seed, .int .i64 x.End, .int .i64 x.Budget]
@[reducible] def C_api_Instr (x : api_Instr) : List Value := [.int .i64 x.Op, .int .i64 x.A, .int .i64 x.B, .int .i64 x.C]
@[reducible] def C_api_Link (x : api_Link) : List Value := [.int .i64 x.From, .int .i64 x.To, .int .i64 x.Look, .bool x.Loose]
@[reducible] def C_api_World (x : api_World) (A0 : Option Addr) (c0 : Nat) (A1 : Option Addr) (c1 : Nat) : List Value := [.slice A0 x.Prog.length c0, .int .i64 x.Self, .slice A1 x.Links.length c1, .int .u64 x.Seed]
@[reducible] def C_api_Start (x : api_Start) : List Value := [.int .i64 x.To, .int .i64 x.Time, .int .i64 x.Value]
@[reducible] def C_api_Caps (x : api_Caps) : List Value := [.int .i64 x.Link, .int .i64 x.Wait, .int .i64 x.Log]
@[reducible] def C_api_Key (x : api_Key) : List Value := [.int .i64 x.Time, .int .i64 x.From, .int .i64 x.Seq]
@[reducible] def C_api_Out (x : api_Out) : List Value := [.int .i64 x.Link, .int .i64 x.Delay, .int .i64 x.Value]
@[reducible] def C_lane_open (x : lane_open) : List Value := [.int .i64 x.by_.Key.Time, .int .i64 x.by_.Key.From, .int .i64 x.by_.Key.Seq, .int .i64 x.by_.To, .int .i64 x.by_.Value, .int .i64 x.by_.Uid, .bool x.by_.Anti, .int .i64 x.m.Key.Time, .int .i64 x.m.Key.From, .int .i64 x.m.Key.Seq, .int .i64 x.m.To, .int .i64 x.m.Value, .int .i64 x.m.Uid, .bool x.m.Anti]
@[reducible] def C_api_Message (x : api_Message) : List Value := [.int .i64 x.Key.Time, .int .i64 x.Key.From, .int .i64 x.Key.Seq, .int .i64 x.To, .int .i64 x.Value, .int .i64 x.Uid, .bool x.Anti]
@[reducible] def C_api_State (x : api_State) : List Value := [.int .i64 x.Regs.c0, .int .i64 x.Regs.c1, .int .i64 x.Regs.c2, .int .i64 x.Regs.c3, .int .i64 x.Regs.c4, .int .i64 x.Regs.c5, .int .i64 x.Regs.c6, .int .i64 x.Regs.c7, .int .i64 x.Draws, .int .i64 x.Sent]
@[reducible] def C_log_done (x : log_done) (A0 : Option Addr) (c0 : Nat) (b1 : Nat) : List Value := [.int .i64 x.event.Key.Time, .int .i64 x.event.Key.From, .int .i64 x.event.Key.Seq, .int .i64 x.event.To, .int .i64 x.event.Value, .int .i64 x.event.Uid, .bool x.event.Anti, .int .i64 x.fault, .slice A0 x.sent.length c0, .pointer (pz b1 x.ahead.has)]
@[reducible] def C_Arr8xInti64 (x : Arr8xInti64) : List Value := [.int .i64 x.c0, .int .i64 x.c1, .int .i64 x.c2, .int .i64 x.c3, .int .i64 x.c4, .int .i64 x.c5, .int .i64 x.c6, .int .i64 x.c7]
@[reducible] def C_api_Entry (x : api_Entry) (A0 : Option Addr) (c0 : Nat) : List Value := [.int .i64 x.Event.Key.Time, .int .i64 x.Event.Key.From, .int .i64 x.Event.Key.Seq, .int .i64 x.Event.To, .int .i64 x.Event.Value, .int .i64 x.Event.Uid, .bool x.Event.Anti, .int .i64 x.Before.Regs.c0, .int .i64 x.Before.Regs.c1, .int .i64 x.Before.Regs.c2, .int .i64 x.Before.Regs.c3, .int .i64 x.Before.Regs.c4, .int .i64 x.Before.Regs.c5, .int .i64 x.Before.Regs.c6, .int .i64 x.Before.Regs.c7, .int .i64 x.Before.Draws, .int .i64 x.Before.Sent, .int .i64 x.Fault, .slice A0 x.Sent.length c0]
@[reducible] def C_lane_Lane (x : lane_Lane) (A0 : Option Addr) (c0 : Nat) (A1 : Option Addr) (c1 : Nat) (A2 : Option Addr) (c2 : Nat) (A3 : Option Addr) (c3 : Nat) (b4 : Nat) (b5 : Nat) (A6 : Option Addr) (c6 : Nat) (A7 : Option Addr) (c7 : Nat) (b8 : Nat) (b9 : Nat) : List Value := [.slice A0 x.m.Progs.length c0, .slice A1 x.m.Links.length c1, .slice A2 x.m.Starts.length c2, .int .u64 x.m.Seed, .int .i64 x.m.End, .int .i64 x.m.Budget, .int .i64 x.n, .int .i64 x.caps.Link, .int .i64 x.caps.Wait, .int .i64 x.caps.Log, .slice A3 x.ways.length c3, .pointer (some ⟨b4, 0, none⟩), .pointer (some ⟨b5, 0, none⟩), .slice A6 x.open_.length c6, .slice A7 x.orphans.length c7, .map (some b8), .map (some b9), .int .i64 x.uid, .int .i64 x.setting.Mode, .int .i64 x.setting.Every, .int .i64 x.setting.Cancel, .int .i64 x.setting.Reach, .int .i64 x.setting.Queue, .int .i64 x.stats.Done, .int .i64 x.stats.Undone, .int .i64 x.stats.Hits, .int .i64 x.stats.Held]
end Go.Proofs.Gx
