/-
  The data of the walks: printed by wip/gx.py.
-/
import Derived.Test.YtnhbcleiibogmaaGreatDoorSl22
import Derived.KernelRfl
import Derived.Test.YtnhbcleiibogmaaGreatDoorProg
set_option linter.unusedVariables false
set_option linter.unusedSimpArgs false
set_option maxRecDepth 100000
set_option maxHeartbeats 4000000
namespace Go.Proofs.Gx
open Go.Sl Tryz
theorem follows : prog.follows .mixedOrders = true := by kernel_rfl
def zfn : Nat → Int := fun _ => 0
structure api_Instr where
  Op : Int
  A : Int
  B : Int
  C : Int
deriving Inhabited, DecidableEq
def E_api_Instr : Fl api_Instr := ⟨fun x => [.int .i64 x.Op, .int .i64 x.A, .int .i64 x.B, .int .i64 x.C], 4, fun _ => rfl, fun x v h => by
  simp only [List.mem_cons, List.not_mem_nil, or_false] at h
  rcases h with rfl | rfl | rfl | rfl <;> rfl⟩
structure api_Link where
  From : Int
  To : Int
  Look : Int
  Loose : Bool
deriving Inhabited, DecidableEq
def E_api_Link : Fl api_Link := ⟨fun x => [.int .i64 x.From, .int .i64 x.To, .int .i64 x.Look, .bool x.Loose], 4, fun _ => rfl, fun x v h => by
  simp only [List.mem_cons, List.not_mem_nil, or_false] at h
  rcases h with rfl | rfl | rfl | rfl <;> rfl⟩
structure api_Start where
  To : Int
  Time : Int
  Value : Int
deriving Inhabited, DecidableEq
def E_api_Start : Fl api_Start := ⟨fun x => [.int .i64 x.To, .int .i64 x.Time, .int .i64 x.Value], 3, fun _ => rfl, fun x v h => by
  simp only [List.mem_cons, List.not_mem_nil, or_false] at h
  rcases h with rfl | rfl | rfl <;> rfl⟩
structure api_Model where
  Progs : (List (List api_Instr))
  Links : (List api_Link)
  Starts : (List api_Start)
  Seed : Int
  End : Int
  Budget : Int
deriving Inhabited, DecidableEq
def R_api_Model : Rep api_Model := ⟨6, fun h cs x => ∃ A0 c0 A1 c1 A2 c2, cs = [.slice A0 x.Progs.length c0, .slice A1 x.Links.length c1, .slice A2 x.Starts.length c2, .int .u64 x.Seed, .int .i64 x.End, .int .i64 x.Budget] ∧ SlR (Rep.sl E_api_Instr.rep) h A0 c0 x.Progs ∧ SlR E_api_Link.rep h A1 c1 x.Links ∧ SlR E_api_Start.rep h A2 c2 x.Starts, fun s ⟨A0, c0, A1, c1, A2, c2, e, f0, f1, f2⟩ => ⟨A0, c0, A1, c1, A2, c2, e, f0.mono s, f1.mono s, f2.mono s⟩⟩
theorem R_api_Model_ok : R_api_Model.Ok := ⟨fun ⟨A0, c0, A1, c1, A2, c2, e, _⟩ => by rw [e]; rfl, fun ⟨A0, c0, A1, c1, A2, c2, e, _⟩ v hv => by
  rw [e] at hv
  simp only [List.mem_cons, List.not_mem_nil, or_false] at hv
  rcases hv with rfl | rfl | rfl | rfl | rfl | rfl <;> rfl⟩
structure api_Caps where
  Link : Int
  Wait : Int
  Log : Int
deriving Inhabited, DecidableEq
def E_api_Caps : Fl api_Caps := ⟨fun x => [.int .i64 x.Link, .int .i64 x.Wait, .int .i64 x.Log], 3, fun _ => rfl, fun x v h => by
  simp only [List.mem_cons, List.not_mem_nil, or_false] at h
  rcases h with rfl | rfl | rfl <;> rfl⟩
structure api_Key where
  Time : Int
  From : Int
  Seq : Int
deriving Inhabited, DecidableEq
def E_api_Key : Fl api_Key := ⟨fun x => [.int .i64 x.Time, .int .i64 x.From, .int .i64 x.Seq], 3, fun _ => rfl, fun x v h => by
  simp only [List.mem_cons, List.not_mem_nil, or_false] at h
  rcases h with rfl | rfl | rfl <;> rfl⟩
structure api_Done where
  Key : api_Key
  To : Int
  Value : Int
deriving Inhabited, DecidableEq
def E_api_Done : Fl api_Done := ⟨fun x => [.int .i64 x.Key.Time, .int .i64 x.Key.From, .int .i64 x.Key.Seq, .int .i64 x.To, .int .i64 x.Value], 5, fun _ => rfl, fun x v h => by
  simp only [List.mem_cons, List.not_mem_nil, or_false] at h
  rcases h with rfl | rfl | rfl | rfl | rfl <;> rfl⟩
structure api_World where
  Prog : (List api_Instr)
  Self : Int
  Links : (List api_Link)
  Seed : Int
deriving Inhabited, DecidableEq
def R_api_World : Rep api_World := ⟨4, fun h cs x => ∃ A0 c0 A1 c1, cs = [.slice A0 x.Prog.length c0, .int .i64 x.Self, .slice A1 x.Links.length c1, .int .u64 x.Seed] ∧ SlR E_api_Instr.rep h A0 c0 x.Prog ∧ SlR E_api_Link.rep h A1 c1 x.Links, fun s ⟨A0, c0, A1, c1, e, f0, f1⟩ => ⟨A0, c0, A1, c1, e, f0.mono s, f1.mono s⟩⟩
theorem R_api_World_ok : R_api_World.Ok := ⟨fun ⟨A0, c0, A1, c1, e, _⟩ => by rw [e]; rfl, fun ⟨A0, c0, A1, c1, e, _⟩ v hv => by
  rw [e] at hv
  simp only [List.mem_cons, List.not_mem_nil, or_false] at hv
  rcases hv with rfl | rfl | rfl | rfl <;> rfl⟩
structure Arr8xInti64 where
  c0 : Int
  c1 : Int
  c2 : Int
  c3 : Int
  c4 : Int
  c5 : Int
  c6 : Int
  c7 : Int
deriving Inhabited, DecidableEq
def E_Arr8xInti64 : Fl Arr8xInti64 := ⟨fun x => [.int .i64 x.c0, .int .i64 x.c1, .int .i64 x.c2, .int .i64 x.c3, .int .i64 x.c4, .int .i64 x.c5, .int .i64 x.c6, .int .i64 x.c7], 8, fun _ => rfl, fun x v h => by
  simp only [List.mem_cons, List.not_mem_nil, or_false] at h
  rcases h with rfl | rfl | rfl | rfl | rfl | rfl | rfl | rfl <;> rfl⟩
structure api_State where
  Regs : Arr8xInti64
  Draws : Int
  Sent : Int
deriving Inhabited, DecidableEq
def E_api_State : Fl api_State := ⟨fun x => [.int .i64 x.Regs.c0, .int .i64 x.Regs.c1, .int .i64 x.Regs.c2, .int .i64 x.Regs.c3, .int .i64 x.Regs.c4, .int .i64 x.Regs.c5, .int .i64 x.Regs.c6, .int .i64 x.Regs.c7, .int .i64 x.Draws, .int .i64 x.Sent], 10, fun _ => rfl, fun x v h => by
  simp only [List.mem_cons, List.not_mem_nil, or_false] at h
  rcases h with rfl | rfl | rfl | rfl | rfl | rfl | rfl | rfl | rfl | rfl <;> rfl⟩
structure api_Message where
  Key : api_Key
  To : Int
  Value : Int
  Uid : Int
  Anti : Bool
deriving Inhabited, DecidableEq
def E_api_Message : Fl api_Message := ⟨fun x => [.int .i64 x.Key.Time, .int .i64 x.Key.From, .int .i64 x.Key.Seq, .int .i64 x.To, .int .i64 x.Value, .int .i64 x.Uid, .bool x.Anti], 7, fun _ => rfl, fun x v h => by
  simp only [List.mem_cons, List.not_mem_nil, or_false] at h
  rcases h with rfl | rfl | rfl | rfl | rfl | rfl | rfl <;> rfl⟩
structure log_done where
  event : api_Message
  fault : Int
  sent : (List api_Message)
  ahead : (Pt api_State)
deriving Inhabited, DecidableEq
def R_log_done : Rep log_done := ⟨10, fun h cs x => ∃ A0 c0 b1, cs = [.int .i64 x.event.Key.Time, .int .i64 x.event.Key.From, .int .i64 x.event.Key.Seq, .int .i64 x.event.To, .int .i64 x.event.Value, .int .i64 x.event.Uid, .bool x.event.Anti, .int .i64 x.fault, .slice A0 x.sent.length c0, .pointer (pz b1 x.ahead.has)] ∧ SlR E_api_Message.rep h A0 c0 x.sent ∧ PtR E_api_State h b1 44 x.ahead, fun s ⟨A0, c0, b1, e, f0, f1⟩ => ⟨A0, c0, b1, e, f0.mono s, f1.mono s⟩⟩
theorem R_log_done_ok : R_log_done.Ok := ⟨fun ⟨A0, c0, b1, e, _⟩ => by rw [e]; rfl, fun ⟨A0, c0, b1, e, _⟩ v hv => by
  rw [e] at hv
  simp only [List.mem_cons, List.not_mem_nil, or_false] at hv
  rcases hv with rfl | rfl | rfl | rfl | rfl | rfl | rfl | rfl | rfl | rfl <;> rfl⟩
structure log_Log where
  w : api_World
  made : Bool
  state : api_State
  every : Int
  l : (List log_done)
  stuck : Bool
deriving Inhabited, DecidableEq
def R_log_Log : Rep log_Log := ⟨18, fun h cs x => ∃ A0 c0 A1 c1 A2 c2, cs = [.slice A0 x.w.Prog.length c0, .int .i64 x.w.Self, .slice A1 x.w.Links.length c1, .int .u64 x.w.Seed, .bool x.made, .int .i64 x.state.Regs.c0, .int .i64 x.state.Regs.c1, .int .i64 x.state.Regs.c2, .int .i64 x.state.Regs.c3, .int .i64 x.state.Regs.c4, .int .i64 x.state.Regs.c5, .int .i64 x.state.Regs.c6, .int .i64 x.state.Regs.c7, .int .i64 x.state.Draws, .int .i64 x.state.Sent, .int .i64 x.every, .slice A2 x.l.length c2, .bool x.stuck] ∧ SlR E_api_Instr.rep h A0 c0 x.w.Prog ∧ SlR E_api_Link.rep h A1 c1 x.w.Links ∧ SlR R_log_done h A2 c2 x.l, fun s ⟨A0, c0, A1, c1, A2, c2, e, f0, f1, f2⟩ => ⟨A0, c0, A1, c1, A2, c2, e, f0.mono s, f1.mono s, f2.mono s⟩⟩
theorem R_log_Log_ok : R_log_Log.Ok := ⟨fun ⟨A0, c0, A1, c1, A2, c2, e, _⟩ => by rw [e]; rfl, fun ⟨A0, c0, A1, c1, A2, c2, e, _⟩ v hv => by
  rw [e] at hv
  simp only [List.mem_cons, List.not_mem_nil, or_false] at hv
  rcases hv with rfl | rfl | rfl | rfl | rfl | rfl | rfl | rfl | rfl | rfl | rfl | rfl | rfl | rfl | rfl | rfl | rfl | rfl <;> rfl⟩
structure lane_open where
  by_ : api_Message
  m : api_Message
deriving Inhabited, DecidableEq
def E_lane_open : Fl lane_open := ⟨fun x => [.int .i64 x.by_.Key.Time, .int .i64 x.by_.Key.From, .int .i64 x.by_.Key.Seq, .int .i64 x.by_.To, .int .i64 x.by_.Value, .int .i64 x.by_.Uid, .bool x.by_.Anti, .int .i64 x.m.Key.Time, .int .i64 x.m.Key.From, .int .i64 x.m.Key.Seq, .int .i64 x.m.To, .int .i64 x.m.Value, .int .i64 x.m.Uid, .bool x.m.Anti], 14, fun _ => rfl, fun x v h => by
  simp only [List.mem_cons, List.not_mem_nil, or_false] at h
  rcases h with rfl | rfl | rfl | rfl | rfl | rfl | rfl | rfl | rfl | rfl | rfl | rfl | rfl | rfl <;> rfl⟩
structure lane_sending where
  from_ : Int
  uid : Int
deriving Inhabited, DecidableEq
def E_lane_sending : Fl lane_sending := ⟨fun x => [.int .i64 x.from_, .int .i64 x.uid], 2, fun _ => rfl, fun x v h => by
  simp only [List.mem_cons, List.not_mem_nil, or_false] at h
  rcases h with rfl | rfl <;> rfl⟩
structure api_Setting where
  Mode : Int
  Every : Int
  Cancel : Int
  Reach : Int
  Queue : Int
deriving Inhabited, DecidableEq
def E_api_Setting : Fl api_Setting := ⟨fun x => [.int .i64 x.Mode, .int .i64 x.Every, .int .i64 x.Cancel, .int .i64 x.Reach, .int .i64 x.Queue], 5, fun _ => rfl, fun x v h => by
  simp only [List.mem_cons, List.not_mem_nil, or_false] at h
  rcases h with rfl | rfl | rfl | rfl | rfl <;> rfl⟩
structure api_Stats where
  Done : Int
  Undone : Int
  Hits : Int
  Held : Int
deriving Inhabited, DecidableEq
def E_api_Stats : Fl api_Stats := ⟨fun x => [.int .i64 x.Done, .int .i64 x.Undone, .int .i64 x.Hits, .int .i64 x.Held], 4, fun _ => rfl, fun x v h => by
  simp only [List.mem_cons, List.not_mem_nil, or_false] at h
  rcases h with rfl | rfl | rfl | rfl <;> rfl⟩
structure Arr2xInti64 where
  c0 : Int
  c1 : Int
deriving Inhabited, DecidableEq
def E_Arr2xInti64 : Fl Arr2xInti64 := ⟨fun x => [.int .i64 x.c0, .int .i64 x.c1], 2, fun _ => rfl, fun x v h => by
  simp only [List.mem_cons, List.not_mem_nil, or_false] at h
  rcases h with rfl | rfl <;> rfl⟩
structure colour_Tally where
  made : Bool
  colour : Int
  net : Arr2xInti64
  least : Int
deriving Inhabited, DecidableEq
def E_colour_Tally : Fl colour_Tally := ⟨fun x => [.bool x.made, .int .i64 x.colour, .int .i64 x.net.c0, .int .i64 x.net.c1, .int .i64 x.least], 5, fun _ => rfl, fun x v h => by
  simp only [List.mem_cons, List.not_mem_nil, or_false] at h
  rcases h with rfl | rfl | rfl | rfl | rfl <;> rfl⟩
structure clock_Clocks where
  made : Bool
  t : (List Int)
deriving Inhabited, DecidableEq
def R_clock_Clocks : Rep clock_Clocks := ⟨2, fun h cs x => ∃ A0 c0, cs = [.bool x.made, .slice A0 x.t.length c0] ∧ SlR ((FI .i64).rep) h A0 c0 x.t, fun s ⟨A0, c0, e, f0⟩ => ⟨A0, c0, e, f0.mono s⟩⟩
theorem R_clock_Clocks_ok : R_clock_Clocks.Ok := ⟨fun ⟨A0, c0, e, _⟩ => by rw [e]; rfl, fun ⟨A0, c0, e, _⟩ v hv => by
  rw [e] at hv
  simp only [List.mem_cons, List.not_mem_nil, or_false] at hv
  rcases hv with rfl | rfl <;> rfl⟩
structure api_Parcel where
  M : api_Message
  Colour : Int
deriving Inhabited, DecidableEq
def E_api_Parcel : Fl api_Parcel := ⟨fun x => [.int .i64 x.M.Key.Time, .int .i64 x.M.Key.From, .int .i64 x.M.Key.Seq, .int .i64 x.M.To, .int .i64 x.M.Value, .int .i64 x.M.Uid, .bool x.M.Anti, .int .i64 x.Colour], 8, fun _ => rfl, fun x v h => by
  simp only [List.mem_cons, List.not_mem_nil, or_false] at h
  rcases h with rfl | rfl | rfl | rfl | rfl | rfl | rfl | rfl <;> rfl⟩
structure link_Way where
  link : api_Link
  most : Int
  l : (List api_Parcel)
deriving Inhabited, DecidableEq
def R_link_Way : Rep link_Way := ⟨6, fun h cs x => ∃ A0 c0, cs = [.int .i64 x.link.From, .int .i64 x.link.To, .int .i64 x.link.Look, .bool x.link.Loose, .int .i64 x.most, .slice A0 x.l.length c0] ∧ SlR E_api_Parcel.rep h A0 c0 x.l, fun s ⟨A0, c0, e, f0⟩ => ⟨A0, c0, e, f0.mono s⟩⟩
theorem R_link_Way_ok : R_link_Way.Ok := ⟨fun ⟨A0, c0, e, _⟩ => by rw [e]; rfl, fun ⟨A0, c0, e, _⟩ v hv => by
  rw [e] at hv
  simp only [List.mem_cons, List.not_mem_nil, or_false] at hv
  rcases hv with rfl | rfl | rfl | rfl | rfl | rfl <;> rfl⟩
structure colour_Token where
  n : Int
  at_ : Int
  counting : Bool
  sum : Int
  least : Int
deriving Inhabited, DecidableEq
def E_colour_Token : Fl colour_Token := ⟨fun x => [.int .i64 x.n, .int .i64 x.at_, .bool x.counting, .int .i64 x.sum, .int .i64 x.least], 5, fun _ => rfl, fun x v h => by
  simp only [List.mem_cons, List.not_mem_nil, or_false] at h
  rcases h with rfl | rfl | rfl | rfl | rfl <;> rfl⟩
structure model_flaw where
  at_ : Int
  why : Int
deriving Inhabited, DecidableEq
def E_model_flaw : Fl model_flaw := ⟨fun x => [.int .i64 x.at_, .int .i64 x.why], 2, fun _ => rfl, fun x v h => by
  simp only [List.mem_cons, List.not_mem_nil, or_false] at h
  rcases h with rfl | rfl <;> rfl⟩
structure api_Pick where
  What : Int
  A : Int
  B : Int
deriving Inhabited, DecidableEq
def E_api_Pick : Fl api_Pick := ⟨fun x => [.int .i64 x.What, .int .i64 x.A, .int .i64 x.B], 3, fun _ => rfl, fun x v h => by
  simp only [List.mem_cons, List.not_mem_nil, or_false] at h
  rcases h with rfl | rfl | rfl <;> rfl⟩
structure api_Entry where
  Event : api_Message
  Before : api_State
  Fault : Int
  Sent : (List api_Message)
deriving Inhabited, DecidableEq
def R_api_Entry : Rep api_Entry := ⟨19, fun h cs x => ∃ A0 c0, cs = [.int .i64 x.Event.Key.Time, .int .i64 x.Event.Key.From, .int .i64 x.Event.Key.Seq, .int .i64 x.Event.To, .int .i64 x.Event.Value, .int .i64 x.Event.Uid, .bool x.Event.Anti, .int .i64 x.Before.Regs.c0, .int .i64 x.Before.Regs.c1, .int .i64 x.Before.Regs.c2, .int .i64 x.Before.Regs.c3, .int .i64 x.Before.Regs.c4, .int .i64 x.Before.Regs.c5, .int .i64 x.Before.Regs.c6, .int .i64 x.Before.Regs.c7, .int .i64 x.Before.Draws, .int .i64 x.Before.Sent, .int .i64 x.Fault, .slice A0 x.Sent.length c0] ∧ SlR E_api_Message.rep h A0 c0 x.Sent, fun s ⟨A0, c0, e, f0⟩ => ⟨A0, c0, e, f0.mono s⟩⟩
theorem R_api_Entry_ok : R_api_Entry.Ok := ⟨fun ⟨A0, c0, e, _⟩ => by rw [e]; rfl, fun ⟨A0, c0, e, _⟩ v hv => by
  rw [e] at hv
  simp only [List.mem_cons, List.not_mem_nil, or_false] at hv
  rcases hv with rfl | rfl | rfl | rfl | rfl | rfl | rfl | rfl | rfl | rfl | rfl | rfl | rfl | rfl | rfl | rfl | rfl | rfl | rfl <;> rfl⟩
structure kernel_halt where
  stop : Int
  why : Int
deriving Inhabited, DecidableEq
def E_kernel_halt : Fl kernel_halt := ⟨fun x => [.int .i64 x.stop, .int .i64 x.why], 2, fun _ => rfl, fun x v h => by
  simp only [List.mem_cons, List.not_mem_nil, or_false] at h
  rcases h with rfl | rfl <;> rfl⟩
def lit_ : ByteArray := ⟨#[]⟩
def lit_2d2d2d : ByteArray := ⟨#[45, 45, 45]⟩
def lit_726e2d : ByteArray := ⟨#[114, 110, 45]⟩
def lit_72722d : ByteArray := ⟨#[114, 114, 45]⟩
def lit_rrr : ByteArray := ⟨#[114, 114, 114]⟩
def lit_702d2d : ByteArray := ⟨#[112, 45, 45]⟩
def lit_72702d : ByteArray := ⟨#[114, 112, 45]⟩
def lit_722d2d : ByteArray := ⟨#[114, 45, 45]⟩
def Ex1 : Array Value → Sem Value := Extern.ReflectliteType.typeOf
def Ex2 : Array Value → Sem Value := Extern.ReflectliteType.relation "AssignableTo" Extern.ReflectliteType.assignableTo
def Ex3 : Array Value → Sem Value := Extern.ReflectliteValue.methodAny (Extern.ReflectliteValue.valueError "reflectlite.Value.Type" 0) fun t _ _ _ => Extern.ReflectliteType.toType t
def Ex4 : Array Value → Sem Value := Extern.ReflectliteType.abiMethod fun t => do pure (.int .u8 (← Extern.Rtype.kind t))
def Ex5 : Array Value → Sem Value := Extern.ReflectliteType.method Extern.ReflectliteType.elem
def Ex6 : Array Value → Sem Value := Extern.ReflectliteType.relation "Implements" Extern.ReflectliteType.implements_
def Ex7 : Array Value → Sem Value := Extern.ReflectliteType.method fun t => do Extern.Rtype.noPackHeld "Comparable" t; pure (.bool (← typeInfo t).comparable)
theorem run_eql_api_Key (x y : Operand) (a b : api_Key) (w : World) : ((eqGuard .eql 80 x y (.agg (E_api_Key.enc a).toArray) (.agg (E_api_Key.enc b).toArray)).bind fun _ => binOp .eql 80 (.agg (E_api_Key.enc a).toArray) (.agg (E_api_Key.enc b).toArray)).run prog w = .ok (.bool (decide (a = b))) w := by
  show ((eqGuard .eql 80 x y _ _) >>= fun _ => binOp .eql 80 _ _).run prog w = _
  rw [Sem.run_bind, run_eqGuard_agg (hm := eqGuardType80)]
  simp only [Result.andThen_ok]
  obtain ⟨a1, a2, a3⟩ := a
  obtain ⟨b4, b5, b6⟩ := b
  simp [E_api_Key, go_sem]
  all_goals (repeat' split)
  all_goals first | (simp [*]; done) | grind | (simp only [Result.ok.injEq, Value.bool.injEq, and_true]; grind)
theorem run_neq_api_Key (x y : Operand) (a b : api_Key) (w : World) : ((eqGuard .neq 80 x y (.agg (E_api_Key.enc a).toArray) (.agg (E_api_Key.enc b).toArray)).bind fun _ => binOp .neq 80 (.agg (E_api_Key.enc a).toArray) (.agg (E_api_Key.enc b).toArray)).run prog w = .ok (.bool (!decide (a = b))) w := by
  show ((eqGuard .neq 80 x y _ _) >>= fun _ => binOp .neq 80 _ _).run prog w = _
  rw [Sem.run_bind, run_eqGuard_agg (hm := eqGuardType80)]
  simp only [Result.andThen_ok]
  obtain ⟨a7, a8, a9⟩ := a
  obtain ⟨b10, b11, b12⟩ := b
  simp [E_api_Key, go_sem]
  all_goals (repeat' split)
  all_goals first | (simp [*]; done) | grind | (simp only [Result.ok.injEq, Value.bool.injEq, and_true]; grind)
def kv_lane_sending (x : lane_sending) : Value := .agg (E_lane_sending.enc x).toArray
theorem keyok_lane_sending : KeyOK prog 248 kv_lane_sending := by
  refine ⟨fun e x w => ?_, fun x y w => ?_, ⟨_, underlying248, fun x y => .inl rfl⟩, fun x => ?_⟩
  · obtain ⟨a0, a1⟩ := x
    show (Instr.checkKey e (9999 + 1) 248 _).run prog w = _
    rw [Instr.checkKey]
    have p0 : ∀ w, (part 3 #[.int .i64 a0, .int .i64 a1] 0).run prog w = .ok (.int .i64 a0) w := fun w => run_part1 isAgg3 rfl
    have c0 : ∀ (m : Int) w, (Instr.checkKey e 9999 3 (.int .i64 m)).run prog w = .ok () w := fun m w => run_checkKey_int1 (n := 9998) underlying3
    have p1 : ∀ w, (part 3 #[.int .i64 a0, .int .i64 a1] 1).run prog w = .ok (.int .i64 a1) w := fun w => run_part1 isAgg3 rfl
    have c1 : ∀ (m : Int) w, (Instr.checkKey e 9999 3 (.int .i64 m)).run prog w = .ok () w := fun m w => run_checkKey_int1 (n := 9998) underlying3
    simp [kv_lane_sending, E_lane_sending, run_underlying underlying248, p0, c0, p1, c1]
  · obtain ⟨a0, a1⟩ := x
    obtain ⟨b0, b1⟩ := y
    simp [kv_lane_sending, E_lane_sending, Op.equal, Op.maxDepth, go_sem]
    all_goals (repeat' split)
    all_goals first | (simp [*]; done) | grind
  · obtain ⟨a0, a1⟩ := x
    simp [kv_lane_sending, E_lane_sending, Instr.sameBits]
def O_log_Log (hf : Hp) (x : log_Log) (b : Nat) : HProp := fun h => ∃ (A_1 : Option Addr) (c_2 : Nat) (A_4 : Option Addr) (c_5 : Nat) (A_7 : Option Addr) (c_8 : Nat) (cs_9 : List Value), SlR E_api_Instr.rep hf A_1 c_2 x.w.Prog ∧ SlR E_api_Link.rep hf A_4 c_5 x.w.Links ∧ RepL R_log_done hf cs_9 x.l ∧ spl [Cl b [.slice A_1 x.w.Prog.length c_2, .int .i64 x.w.Self, .slice A_4 x.w.Links.length c_5, .int .u64 x.w.Seed, .bool x.made, .int .i64 x.state.Regs.c0, .int .i64 x.state.Regs.c1, .int .i64 x.state.Regs.c2, .int .i64 x.state.Regs.c3, .int .i64 x.state.Regs.c4, .int .i64 x.state.Regs.c5, .int .i64 x.state.Regs.c6, .int .i64 x.state.Regs.c7, .int .i64 x.state.Draws, .int .i64 x.state.Sent, .int .i64 x.every, .slice A_7 x.l.length c_8, .bool x.stuck] 225, OSl 230 10 (.slice A_7 x.l.length c_8) x.l.length cs_9] h
theorem O_log_Log.o {B : Base} {w : World} {l : List HProp} {hf : Hp} {x : log_Log} {b : Nat} (hS : St B w (O_log_Log hf x b :: l) hf) : ∃ (A_1 : Option Addr) (c_2 : Nat) (A_4 : Option Addr) (c_5 : Nat) (A_7 : Option Addr) (c_8 : Nat) (cs_9 : List Value), SlR E_api_Instr.rep hf A_1 c_2 x.w.Prog ∧ SlR E_api_Link.rep hf A_4 c_5 x.w.Links ∧ RepL R_log_done hf cs_9 x.l ∧ St B w (Cl b [.slice A_1 x.w.Prog.length c_2, .int .i64 x.w.Self, .slice A_4 x.w.Links.length c_5, .int .u64 x.w.Seed, .bool x.made, .int .i64 x.state.Regs.c0, .int .i64 x.state.Regs.c1, .int .i64 x.state.Regs.c2, .int .i64 x.state.Regs.c3, .int .i64 x.state.Regs.c4, .int .i64 x.state.Regs.c5, .int .i64 x.state.Regs.c6, .int .i64 x.state.Regs.c7, .int .i64 x.state.Draws, .int .i64 x.state.Sent, .int .i64 x.every, .slice A_7 x.l.length c_8, .bool x.stuck] 225 :: OSl 230 10 (.slice A_7 x.l.length c_8) x.l.length cs_9 :: l) hf := by
  obtain ⟨h, ⟨A_1, c_2, A_4, c_5, A_7, c_8, cs_9, hr_3, hr_6, hx_10, hsp⟩, hr⟩ := hS.own
  exact ⟨A_1, c_2, A_4, c_5, A_7, c_8, cs_9, hr_3, hr_6, hx_10, (St.splO (ps := [Cl b [.slice A_1 x.w.Prog.length c_2, .int .i64 x.w.Self, .slice A_4 x.w.Links.length c_5, .int .u64 x.w.Seed, .bool x.made, .int .i64 x.state.Regs.c0, .int .i64 x.state.Regs.c1, .int .i64 x.state.Regs.c2, .int .i64 x.state.Regs.c3, .int .i64 x.state.Regs.c4, .int .i64 x.state.Regs.c5, .int .i64 x.state.Regs.c6, .int .i64 x.state.Regs.c7, .int .i64 x.state.Draws, .int .i64 x.state.Sent, .int .i64 x.every, .slice A_7 x.l.length c_8, .bool x.stuck] 225, OSl 230 10 (.slice A_7 x.l.length c_8) x.l.length cs_9]) ⟨hS.base, hS.sub, h, hsp, hr⟩)⟩
theorem O_log_Log.c {B : Base} {w : World} {l : List HProp} {hf : Hp} {x : log_Log} {b : Nat} {A_1 : Option Addr} {c_2 : Nat} {A_4 : Option Addr} {c_5 : Nat} {A_7 : Option Addr} {c_8 : Nat} {cs_9 : List Value} (hr_3 : SlR E_api_Instr.rep hf A_1 c_2 x.w.Prog) (hr_6 : SlR E_api_Link.rep hf A_4 c_5 x.w.Links) (hx_10 : RepL R_log_done hf cs_9 x.l) (hS : St B w (Cl b [.slice A_1 x.w.Prog.length c_2, .int .i64 x.w.Self, .slice A_4 x.w.Links.length c_5, .int .u64 x.w.Seed, .bool x.made, .int .i64 x.state.Regs.c0, .int .i64 x.state.Regs.c1, .int .i64 x.state.Regs.c2, .int .i64 x.state.Regs.c3, .int .i64 x.state.Regs.c4, .int .i64 x.state.Regs.c5, .int .i64 x.state.Regs.c6, .int .i64 x.state.Regs.c7, .int .i64 x.state.Draws, .int .i64 x.state.Sent, .int .i64 x.every, .slice A_7 x.l.length c_8, .bool x.stuck] 225 :: OSl 230 10 (.slice A_7 x.l.length c_8) x.l.length cs_9 :: l) hf) : St B w (O_log_Log hf x b :: l) hf :=
  (St.splC (ps := [Cl b [.slice A_1 x.w.Prog.length c_2, .int .i64 x.w.Self, .slice A_4 x.w.Links.length c_5, .int .u64 x.w.Seed, .bool x.made, .int .i64 x.state.Regs.c0, .int .i64 x.state.Regs.c1, .int .i64 x.state.Regs.c2, .int .i64 x.state.Regs.c3, .int .i64 x.state.Regs.c4, .int .i64 x.state.Regs.c5, .int .i64 x.state.Regs.c6, .int .i64 x.state.Regs.c7, .int .i64 x.state.Draws, .int .i64 x.state.Sent, .int .i64 x.every, .slice A_7 x.l.length c_8, .bool x.stuck] 225, OSl 230 10 (.slice A_7 x.l.length c_8) x.l.length cs_9]) hS).imp fun h e => ⟨A_1, c_2, A_4, c_5, A_7, c_8, cs_9, hr_3, hr_6, hx_10, e⟩
theorem O_log_Log.m {hf hf' : Hp} (s : Sub hf hf') {x : log_Log} {b : Nat} : ∀ h, O_log_Log hf x b h → O_log_Log hf' x b h := fun h ⟨A_1, c_2, A_4, c_5, A_7, c_8, cs_9, hr_3, hr_6, hx_10, e⟩ => ⟨A_1, c_2, A_4, c_5, A_7, c_8, cs_9, hr_3.mono s, hr_6.mono s, hx_10.mono s, spl_imp (PI.c (fun _ a => a) (PI.c (fun _ a => a) (PI.n))) h e⟩
theorem O_log_Log.l {B : Base} {w : World} {l : List HProp} {hf hf' : Hp} (s : Sub hf hf') {x : log_Log} {b : Nat} (hS : St B w (O_log_Log hf x b :: l) hf') : St B w (O_log_Log hf' x b :: l) hf' := hS.imp (O_log_Log.m s)
structure heap_Heap where
  p_l : (List api_Message)
deriving Inhabited
def O_heap_Heap (hf : Hp) (x : heap_Heap) (b : Nat) : HProp := fun h => ∃ (A_1 : Option Addr) (c_2 : Nat), spl [Cl b [.slice A_1 x.p_l.length c_2, .func (.func 149) #[] #[]] 371, OSf E_api_Message 84 (.slice A_1 x.p_l.length c_2) x.p_l] h
theorem O_heap_Heap.o {B : Base} {w : World} {l : List HProp} {hf : Hp} {x : heap_Heap} {b : Nat} (hS : St B w (O_heap_Heap hf x b :: l) hf) : ∃ (A_1 : Option Addr) (c_2 : Nat), St B w (Cl b [.slice A_1 x.p_l.length c_2, .func (.func 149) #[] #[]] 371 :: OSf E_api_Message 84 (.slice A_1 x.p_l.length c_2) x.p_l :: l) hf := by
  obtain ⟨h, ⟨A_1, c_2, hsp⟩, hr⟩ := hS.own
  exact ⟨A_1, c_2, (St.splO (ps := [Cl b [.slice A_1 x.p_l.length c_2, .func (.func 149) #[] #[]] 371, OSf E_api_Message 84 (.slice A_1 x.p_l.length c_2) x.p_l]) ⟨hS.base, hS.sub, h, hsp, hr⟩)⟩
theorem O_heap_Heap.c {B : Base} {w : World} {l : List HProp} {hf : Hp} {x : heap_Heap} {b : Nat} {A_1 : Option Addr} {c_2 : Nat}  (hS : St B w (Cl b [.slice A_1 x.p_l.length c_2, .func (.func 149) #[] #[]] 371 :: OSf E_api_Message 84 (.slice A_1 x.p_l.length c_2) x.p_l :: l) hf) : St B w (O_heap_Heap hf x b :: l) hf :=
  (St.splC (ps := [Cl b [.slice A_1 x.p_l.length c_2, .func (.func 149) #[] #[]] 371, OSf E_api_Message 84 (.slice A_1 x.p_l.length c_2) x.p_l]) hS).imp fun h e => ⟨A_1, c_2, e⟩
theorem O_heap_Heap.m {hf hf' : Hp} (s : Sub hf hf') {x : heap_Heap} {b : Nat} : ∀ h, O_heap_Heap hf x b h → O_heap_Heap hf' x b h := fun h ⟨A_1, c_2, e⟩ => ⟨A_1, c_2, spl_imp (PI.c (fun _ a => a) (PI.c (fun _ a => a) (PI.n))) h e⟩
theorem O_heap_Heap.l {B : Base} {w : World} {l : List HProp} {hf hf' : Hp} (s : Sub hf hf') {x : heap_Heap} {b : Nat} (hS : St B w (O_heap_Heap hf x b :: l) hf') : St B w (O_heap_Heap hf' x b :: l) hf' := hS.imp (O_heap_Heap.m s)
structure pend_Pend where
  q : heap_Heap
deriving Inhabited
def O_pend_Pend (hf : Hp) (x : pend_Pend) (b : Nat) : HProp := fun h => ∃ (b_1 : Nat), spl [Cl b [.iface 318 (.pointer (some ⟨b_1, 0, none⟩))] 222, O_heap_Heap hf x.q b_1] h
theorem O_pend_Pend.o {B : Base} {w : World} {l : List HProp} {hf : Hp} {x : pend_Pend} {b : Nat} (hS : St B w (O_pend_Pend hf x b :: l) hf) : ∃ (b_1 : Nat), St B w (Cl b [.iface 318 (.pointer (some ⟨b_1, 0, none⟩))] 222 :: O_heap_Heap hf x.q b_1 :: l) hf := by
  obtain ⟨h, ⟨b_1, hsp⟩, hr⟩ := hS.own
  exact ⟨b_1, (St.splO (ps := [Cl b [.iface 318 (.pointer (some ⟨b_1, 0, none⟩))] 222, O_heap_Heap hf x.q b_1]) ⟨hS.base, hS.sub, h, hsp, hr⟩)⟩
theorem O_pend_Pend.c {B : Base} {w : World} {l : List HProp} {hf : Hp} {x : pend_Pend} {b : Nat} {b_1 : Nat}  (hS : St B w (Cl b [.iface 318 (.pointer (some ⟨b_1, 0, none⟩))] 222 :: O_heap_Heap hf x.q b_1 :: l) hf) : St B w (O_pend_Pend hf x b :: l) hf :=
  (St.splC (ps := [Cl b [.iface 318 (.pointer (some ⟨b_1, 0, none⟩))] 222, O_heap_Heap hf x.q b_1]) hS).imp fun h e => ⟨b_1, e⟩
theorem O_pend_Pend.m {hf hf' : Hp} (s : Sub hf hf') {x : pend_Pend} {b : Nat} : ∀ h, O_pend_Pend hf x b h → O_pend_Pend hf' x b h := fun h ⟨b_1, e⟩ => ⟨b_1, spl_imp (PI.c (fun _ a => a) (PI.c (O_heap_Heap.m s) (PI.n))) h e⟩
theorem O_pend_Pend.l {B : Base} {w : World} {l : List HProp} {hf hf' : Hp} (s : Sub hf hf') {x : pend_Pend} {b : Nat} (hS : St B w (O_pend_Pend hf x b :: l) hf') : St B w (O_pend_Pend hf' x b :: l) hf' := hS.imp (O_pend_Pend.m s)
structure lane_Lane where
  m : api_Model
  n : Int
  caps : api_Caps
  ways : (List Int)
  log : log_Log
  wait : pend_Pend
  open_ : (List lane_open)
  orphans : (List api_Message)
  early : List (lane_sending × Int)
  held : List (lane_sending × Bool)
  uid : Int
  setting : api_Setting
  stats : api_Stats
deriving Inhabited
def O_lane_Lane (hf : Hp) (x : lane_Lane) (b : Nat) : HProp := fun h => ∃ (A_1 : Option Addr) (c_2 : Nat) (A_4 : Option Addr) (c_5 : Nat) (A_7 : Option Addr) (c_8 : Nat) (A_10 : Option Addr) (c_11 : Nat) (b_13 : Nat) (b_14 : Nat) (A_15 : Option Addr) (c_16 : Nat) (A_17 : Option Addr) (c_18 : Nat) (b_19 : Nat) (b_20 : Nat), SlR (Rep.sl E_api_Instr.rep) hf A_1 c_2 x.m.Progs ∧ SlR E_api_Link.rep hf A_4 c_5 x.m.Links ∧ SlR E_api_Start.rep hf A_7 c_8 x.m.Starts ∧ SlR ((FI .i64).rep) hf A_10 c_11 x.ways ∧ spl [Cl b [.slice A_1 x.m.Progs.length c_2, .slice A_4 x.m.Links.length c_5, .slice A_7 x.m.Starts.length c_8, .int .u64 x.m.Seed, .int .i64 x.m.End, .int .i64 x.m.Budget, .int .i64 x.n, .int .i64 x.caps.Link, .int .i64 x.caps.Wait, .int .i64 x.caps.Log, .slice A_10 x.ways.length c_11, .pointer (some ⟨b_13, 0, none⟩), .pointer (some ⟨b_14, 0, none⟩), .slice A_15 x.open_.length c_16, .slice A_17 x.orphans.length c_18, .map (some b_19), .map (some b_20), .int .i64 x.uid, .int .i64 x.setting.Mode, .int .i64 x.setting.Every, .int .i64 x.setting.Cancel, .int .i64 x.setting.Reach, .int .i64 x.setting.Queue, .int .i64 x.stats.Done, .int .i64 x.stats.Undone, .int .i64 x.stats.Hits, .int .i64 x.stats.Held] 150, O_log_Log hf x.log b_13, O_pend_Pend hf x.wait b_14, OSf E_lane_open 153 (.slice A_15 x.open_.length c_16) x.open_, OSf E_api_Message 84 (.slice A_17 x.orphans.length c_18) x.orphans, MapF kv_lane_sending (Value.int .i64) b_19 x.early, MapF kv_lane_sending Value.bool b_20 x.held] h
theorem O_lane_Lane.o {B : Base} {w : World} {l : List HProp} {hf : Hp} {x : lane_Lane} {b : Nat} (hS : St B w (O_lane_Lane hf x b :: l) hf) : ∃ (A_1 : Option Addr) (c_2 : Nat) (A_4 : Option Addr) (c_5 : Nat) (A_7 : Option Addr) (c_8 : Nat) (A_10 : Option Addr) (c_11 : Nat) (b_13 : Nat) (b_14 : Nat) (A_15 : Option Addr) (c_16 : Nat) (A_17 : Option Addr) (c_18 : Nat) (b_19 : Nat) (b_20 : Nat), SlR (Rep.sl E_api_Instr.rep) hf A_1 c_2 x.m.Progs ∧ SlR E_api_Link.rep hf A_4 c_5 x.m.Links ∧ SlR E_api_Start.rep hf A_7 c_8 x.m.Starts ∧ SlR ((FI .i64).rep) hf A_10 c_11 x.ways ∧ St B w (Cl b [.slice A_1 x.m.Progs.length c_2, .slice A_4 x.m.Links.length c_5, .slice A_7 x.m.Starts.length c_8, .int .u64 x.m.Seed, .int .i64 x.m.End, .int .i64 x.m.Budget, .int .i64 x.n, .int .i64 x.caps.Link, .int .i64 x.caps.Wait, .int .i64 x.caps.Log, .slice A_10 x.ways.length c_11, .pointer (some ⟨b_13, 0, none⟩), .pointer (some ⟨b_14, 0, none⟩), .slice A_15 x.open_.length c_16, .slice A_17 x.orphans.length c_18, .map (some b_19), .map (some b_20), .int .i64 x.uid, .int .i64 x.setting.Mode, .int .i64 x.setting.Every, .int .i64 x.setting.Cancel, .int .i64 x.setting.Reach, .int .i64 x.setting.Queue, .int .i64 x.stats.Done, .int .i64 x.stats.Undone, .int .i64 x.stats.Hits, .int .i64 x.stats.Held] 150 :: O_log_Log hf x.log b_13 :: O_pend_Pend hf x.wait b_14 :: OSf E_lane_open 153 (.slice A_15 x.open_.length c_16) x.open_ :: OSf E_api_Message 84 (.slice A_17 x.orphans.length c_18) x.orphans :: MapF kv_lane_sending (Value.int .i64) b_19 x.early :: MapF kv_lane_sending Value.bool b_20 x.held :: l) hf := by
  obtain ⟨h, ⟨A_1, c_2, A_4, c_5, A_7, c_8, A_10, c_11, b_13, b_14, A_15, c_16, A_17, c_18, b_19, b_20, hr_3, hr_6, hr_9, hr_12, hsp⟩, hr⟩ := hS.own
  exact ⟨A_1, c_2, A_4, c_5, A_7, c_8, A_10, c_11, b_13, b_14, A_15, c_16, A_17, c_18, b_19, b_20, hr_3, hr_6, hr_9, hr_12, (St.splO (ps := [Cl b [.slice A_1 x.m.Progs.length c_2, .slice A_4 x.m.Links.length c_5, .slice A_7 x.m.Starts.length c_8, .int .u64 x.m.Seed, .int .i64 x.m.End, .int .i64 x.m.Budget, .int .i64 x.n, .int .i64 x.caps.Link, .int .i64 x.caps.Wait, .int .i64 x.caps.Log, .slice A_10 x.ways.length c_11, .pointer (some ⟨b_13, 0, none⟩), .pointer (some ⟨b_14, 0, none⟩), .slice A_15 x.open_.length c_16, .slice A_17 x.orphans.length c_18, .map (some b_19), .map (some b_20), .int .i64 x.uid, .int .i64 x.setting.Mode, .int .i64 x.setting.Every, .int .i64 x.setting.Cancel, .int .i64 x.setting.Reach, .int .i64 x.setting.Queue, .int .i64 x.stats.Done, .int .i64 x.stats.Undone, .int .i64 x.stats.Hits, .int .i64 x.stats.Held] 150, O_log_Log hf x.log b_13, O_pend_Pend hf x.wait b_14, OSf E_lane_open 153 (.slice A_15 x.open_.length c_16) x.open_, OSf E_api_Message 84 (.slice A_17 x.orphans.length c_18) x.orphans, MapF kv_lane_sending (Value.int .i64) b_19 x.early, MapF kv_lane_sending Value.bool b_20 x.held]) ⟨hS.base, hS.sub, h, hsp, hr⟩)⟩
theorem O_lane_Lane.c {B : Base} {w : World} {l : List HProp} {hf : Hp} {x : lane_Lane} {b : Nat} {A_1 : Option Addr} {c_2 : Nat} {A_4 : Option Addr} {c_5 : Nat} {A_7 : Option Addr} {c_8 : Nat} {A_10 : Option Addr} {c_11 : Nat} {b_13 : Nat} {b_14 : Nat} {A_15 : Option Addr} {c_16 : Nat} {A_17 : Option Addr} {c_18 : Nat} {b_19 : Nat} {b_20 : Nat} (hr_3 : SlR (Rep.sl E_api_Instr.rep) hf A_1 c_2 x.m.Progs) (hr_6 : SlR E_api_Link.rep hf A_4 c_5 x.m.Links) (hr_9 : SlR E_api_Start.rep hf A_7 c_8 x.m.Starts) (hr_12 : SlR ((FI .i64).rep) hf A_10 c_11 x.ways) (hS : St B w (Cl b [.slice A_1 x.m.Progs.length c_2, .slice A_4 x.m.Links.length c_5, .slice A_7 x.m.Starts.length c_8, .int .u64 x.m.Seed, .int .i64 x.m.End, .int .i64 x.m.Budget, .int .i64 x.n, .int .i64 x.caps.Link, .int .i64 x.caps.Wait, .int .i64 x.caps.Log, .slice A_10 x.ways.length c_11, .pointer (some ⟨b_13, 0, none⟩), .pointer (some ⟨b_14, 0, none⟩), .slice A_15 x.open_.length c_16, .slice A_17 x.orphans.length c_18, .map (some b_19), .map (some b_20), .int .i64 x.uid, .int .i64 x.setting.Mode, .int .i64 x.setting.Every, .int .i64 x.setting.Cancel, .int .i64 x.setting.Reach, .int .i64 x.setting.Queue, .int .i64 x.stats.Done, .int .i64 x.stats.Undone, .int .i64 x.stats.Hits, .int .i64 x.stats.Held] 150 :: O_log_Log hf x.log b_13 :: O_pend_Pend hf x.wait b_14 :: OSf E_lane_open 153 (.slice A_15 x.open_.length c_16) x.open_ :: OSf E_api_Message 84 (.slice A_17 x.orphans.length c_18) x.orphans :: MapF kv_lane_sending (Value.int .i64) b_19 x.early :: MapF kv_lane_sending Value.bool b_20 x.held :: l) hf) : St B w (O_lane_Lane hf x b :: l) hf :=
  (St.splC (ps := [Cl b [.slice A_1 x.m.Progs.length c_2, .slice A_4 x.m.Links.length c_5, .slice A_7 x.m.Starts.length c_8, .int .u64 x.m.Seed, .int .i64 x.m.End, .int .i64 x.m.Budget, .int .i64 x.n, .int .i64 x.caps.Link, .int .i64 x.caps.Wait, .int .i64 x.caps.Log, .slice A_10 x.ways.length c_11, .pointer (some ⟨b_13, 0, none⟩), .pointer (some ⟨b_14, 0, none⟩), .slice A_15 x.open_.length c_16, .slice A_17 x.orphans.length c_18, .map (some b_19), .map (some b_20), .int .i64 x.uid, .int .i64 x.setting.Mode, .int .i64 x.setting.Every, .int .i64 x.setting.Cancel, .int .i64 x.setting.Reach, .int .i64 x.setting.Queue, .int .i64 x.stats.Done, .int .i64 x.stats.Undone, .int .i64 x.stats.Hits, .int .i64 x.stats.Held] 150, O_log_Log hf x.log b_13, O_pend_Pend hf x.wait b_14, OSf E_lane_open 153 (.slice A_15 x.open_.length c_16) x.open_, OSf E_api_Message 84 (.slice A_17 x.orphans.length c_18) x.orphans, MapF kv_lane_sending (Value.int .i64) b_19 x.early, MapF kv_lane_sending Value.bool b_20 x.held]) hS).imp fun h e => ⟨A_1, c_2, A_4, c_5, A_7, c_8, A_10, c_11, b_13, b_14, A_15, c_16, A_17, c_18, b_19, b_20, hr_3, hr_6, hr_9, hr_12, e⟩
theorem O_lane_Lane.m {hf hf' : Hp} (s : Sub hf hf') {x : lane_Lane} {b : Nat} : ∀ h, O_lane_Lane hf x b h → O_lane_Lane hf' x b h := fun h ⟨A_1, c_2, A_4, c_5, A_7, c_8, A_10, c_11, b_13, b_14, A_15, c_16, A_17, c_18, b_19, b_20, hr_3, hr_6, hr_9, hr_12, e⟩ => ⟨A_1, c_2, A_4, c_5, A_7, c_8, A_10, c_11, b_13, b_14, A_15, c_16, A_17, c_18, b_19, b_20, hr_3.mono s, hr_6.mono s, hr_9.mono s, hr_12.mono s, spl_imp (PI.c (fun _ a => a) (PI.c (O_log_Log.m s) (PI.c (O_pend_Pend.m s) (PI.c (fun _ a => a) (PI.c (fun _ a => a) (PI.c (fun _ a => a) (PI.c (fun _ a => a) (PI.n)))))))) h e⟩
theorem O_lane_Lane.l {B : Base} {w : World} {l : List HProp} {hf hf' : Hp} (s : Sub hf hf') {x : lane_Lane} {b : Nat} (hS : St B w (O_lane_Lane hf x b :: l) hf') : St B w (O_lane_Lane hf' x b :: l) hf' := hS.imp (O_lane_Lane.m s)
def O_colour_Tally (hf : Hp) (x : colour_Tally) (b : Nat) : HProp := fun h => spl [Cl b [.bool x.made, .int .i64 x.colour, .int .i64 x.net.c0, .int .i64 x.net.c1, .int .i64 x.least] 179] h
theorem O_colour_Tally.o {B : Base} {w : World} {l : List HProp} {hf : Hp} {x : colour_Tally} {b : Nat} (hS : St B w (O_colour_Tally hf x b :: l) hf) : St B w (Cl b [.bool x.made, .int .i64 x.colour, .int .i64 x.net.c0, .int .i64 x.net.c1, .int .i64 x.least] 179 :: l) hf := by
  obtain ⟨h, hsp, hr⟩ := hS.own
  exact (St.splO (ps := [Cl b [.bool x.made, .int .i64 x.colour, .int .i64 x.net.c0, .int .i64 x.net.c1, .int .i64 x.least] 179]) ⟨hS.base, hS.sub, h, hsp, hr⟩)
theorem O_colour_Tally.c {B : Base} {w : World} {l : List HProp} {hf : Hp} {x : colour_Tally} {b : Nat}   (hS : St B w (Cl b [.bool x.made, .int .i64 x.colour, .int .i64 x.net.c0, .int .i64 x.net.c1, .int .i64 x.least] 179 :: l) hf) : St B w (O_colour_Tally hf x b :: l) hf :=
  (St.splC (ps := [Cl b [.bool x.made, .int .i64 x.colour, .int .i64 x.net.c0, .int .i64 x.net.c1, .int .i64 x.least] 179]) hS).imp fun h e => e
theorem O_colour_Tally.m {hf hf' : Hp} (s : Sub hf hf') {x : colour_Tally} {b : Nat} : ∀ h, O_colour_Tally hf x b h → O_colour_Tally hf' x b h := fun h e => spl_imp (PI.c (fun _ a => a) (PI.n)) h e
theorem O_colour_Tally.l {B : Base} {w : World} {l : List HProp} {hf hf' : Hp} (s : Sub hf hf') {x : colour_Tally} {b : Nat} (hS : St B w (O_colour_Tally hf x b :: l) hf') : St B w (O_colour_Tally hf' x b :: l) hf' := hS.imp (O_colour_Tally.m s)
def O_clock_Clocks (hf : Hp) (x : clock_Clocks) (b : Nat) : HProp := fun h => ∃ (A_1 : Option Addr) (c_2 : Nat), spl [Cl b [.bool x.made, .slice A_1 x.t.length c_2] 158, OSf (FI .i64) 2 (.slice A_1 x.t.length c_2) x.t] h
theorem O_clock_Clocks.o {B : Base} {w : World} {l : List HProp} {hf : Hp} {x : clock_Clocks} {b : Nat} (hS : St B w (O_clock_Clocks hf x b :: l) hf) : ∃ (A_1 : Option Addr) (c_2 : Nat), St B w (Cl b [.bool x.made, .slice A_1 x.t.length c_2] 158 :: OSf (FI .i64) 2 (.slice A_1 x.t.length c_2) x.t :: l) hf := by
  obtain ⟨h, ⟨A_1, c_2, hsp⟩, hr⟩ := hS.own
  exact ⟨A_1, c_2, (St.splO (ps := [Cl b [.bool x.made, .slice A_1 x.t.length c_2] 158, OSf (FI .i64) 2 (.slice A_1 x.t.length c_2) x.t]) ⟨hS.base, hS.sub, h, hsp, hr⟩)⟩
theorem O_clock_Clocks.c {B : Base} {w : World} {l : List HProp} {hf : Hp} {x : clock_Clocks} {b : Nat} {A_1 : Option Addr} {c_2 : Nat}  (hS : St B w (Cl b [.bool x.made, .slice A_1 x.t.length c_2] 158 :: OSf (FI .i64) 2 (.slice A_1 x.t.length c_2) x.t :: l) hf) : St B w (O_clock_Clocks hf x b :: l) hf :=
  (St.splC (ps := [Cl b [.bool x.made, .slice A_1 x.t.length c_2] 158, OSf (FI .i64) 2 (.slice A_1 x.t.length c_2) x.t]) hS).imp fun h e => ⟨A_1, c_2, e⟩
theorem O_clock_Clocks.m {hf hf' : Hp} (s : Sub hf hf') {x : clock_Clocks} {b : Nat} : ∀ h, O_clock_Clocks hf x b h → O_clock_Clocks hf' x b h := fun h ⟨A_1, c_2, e⟩ => ⟨A_1, c_2, spl_imp (PI.c (fun _ a => a) (PI.c (fun _ a => a) (PI.n))) h e⟩
theorem O_clock_Clocks.l {B : Base} {w : World} {l : List HProp} {hf hf' : Hp} (s : Sub hf hf') {x : clock_Clocks} {b : Nat} (hS : St B w (O_clock_Clocks hf x b :: l) hf') : St B w (O_clock_Clocks hf' x b :: l) hf' := hS.imp (O_clock_Clocks.m s)
structure kernel_place where
  Lane : lane_Lane
  tally : colour_Tally
  clocks : clock_Clocks
  ways : (List Int)
  into : List (Int × Int)
deriving Inhabited
def O_kernel_place (hf : Hp) (x : kernel_place) (b : Nat) : HProp := fun h => ∃ (b_1 : Nat) (b_2 : Nat) (b_3 : Nat) (A_4 : Option Addr) (c_5 : Nat) (b_7 : Nat), SlR ((FI .i64).rep) hf A_4 c_5 x.ways ∧ spl [Cl b [.pointer (some ⟨b_1, 0, none⟩), .pointer (some ⟨b_2, 0, none⟩), .pointer (some ⟨b_3, 0, none⟩), .slice A_4 x.ways.length c_5, .map (some b_7)] 102, O_lane_Lane hf x.Lane b_1, O_colour_Tally hf x.tally b_2, O_clock_Clocks hf x.clocks b_3, MapF (Value.int .i64) (Value.int .i64) b_7 x.into] h
theorem O_kernel_place.o {B : Base} {w : World} {l : List HProp} {hf : Hp} {x : kernel_place} {b : Nat} (hS : St B w (O_kernel_place hf x b :: l) hf) : ∃ (b_1 : Nat) (b_2 : Nat) (b_3 : Nat) (A_4 : Option Addr) (c_5 : Nat) (b_7 : Nat), SlR ((FI .i64).rep) hf A_4 c_5 x.ways ∧ St B w (Cl b [.pointer (some ⟨b_1, 0, none⟩), .pointer (some ⟨b_2, 0, none⟩), .pointer (some ⟨b_3, 0, none⟩), .slice A_4 x.ways.length c_5, .map (some b_7)] 102 :: O_lane_Lane hf x.Lane b_1 :: O_colour_Tally hf x.tally b_2 :: O_clock_Clocks hf x.clocks b_3 :: MapF (Value.int .i64) (Value.int .i64) b_7 x.into :: l) hf := by
  obtain ⟨h, ⟨b_1, b_2, b_3, A_4, c_5, b_7, hr_6, hsp⟩, hr⟩ := hS.own
  exact ⟨b_1, b_2, b_3, A_4, c_5, b_7, hr_6, (St.splO (ps := [Cl b [.pointer (some ⟨b_1, 0, none⟩), .pointer (some ⟨b_2, 0, none⟩), .pointer (some ⟨b_3, 0, none⟩), .slice A_4 x.ways.length c_5, .map (some b_7)] 102, O_lane_Lane hf x.Lane b_1, O_colour_Tally hf x.tally b_2, O_clock_Clocks hf x.clocks b_3, MapF (Value.int .i64) (Value.int .i64) b_7 x.into]) ⟨hS.base, hS.sub, h, hsp, hr⟩)⟩
theorem O_kernel_place.c {B : Base} {w : World} {l : List HProp} {hf : Hp} {x : kernel_place} {b : Nat} {b_1 : Nat} {b_2 : Nat} {b_3 : Nat} {A_4 : Option Addr} {c_5 : Nat} {b_7 : Nat} (hr_6 : SlR ((FI .i64).rep) hf A_4 c_5 x.ways) (hS : St B w (Cl b [.pointer (some ⟨b_1, 0, none⟩), .pointer (some ⟨b_2, 0, none⟩), .pointer (some ⟨b_3, 0, none⟩), .slice A_4 x.ways.length c_5, .map (some b_7)] 102 :: O_lane_Lane hf x.Lane b_1 :: O_colour_Tally hf x.tally b_2 :: O_clock_Clocks hf x.clocks b_3 :: MapF (Value.int .i64) (Value.int .i64) b_7 x.into :: l) hf) : St B w (O_kernel_place hf x b :: l) hf :=
  (St.splC (ps := [Cl b [.pointer (some ⟨b_1, 0, none⟩), .pointer (some ⟨b_2, 0, none⟩), .pointer (some ⟨b_3, 0, none⟩), .slice A_4 x.ways.length c_5, .map (some b_7)] 102, O_lane_Lane hf x.Lane b_1, O_colour_Tally hf x.tally b_2, O_clock_Clocks hf x.clocks b_3, MapF (Value.int .i64) (Value.int .i64) b_7 x.into]) hS).imp fun h e => ⟨b_1, b_2, b_3, A_4, c_5, b_7, hr_6, e⟩
theorem O_kernel_place.m {hf hf' : Hp} (s : Sub hf hf') {x : kernel_place} {b : Nat} : ∀ h, O_kernel_place hf x b h → O_kernel_place hf' x b h := fun h ⟨b_1, b_2, b_3, A_4, c_5, b_7, hr_6, e⟩ => ⟨b_1, b_2, b_3, A_4, c_5, b_7, hr_6.mono s, spl_imp (PI.c (fun _ a => a) (PI.c (O_lane_Lane.m s) (PI.c (O_colour_Tally.m s) (PI.c (O_clock_Clocks.m s) (PI.c (fun _ a => a) (PI.n)))))) h e⟩
theorem O_kernel_place.l {B : Base} {w : World} {l : List HProp} {hf hf' : Hp} (s : Sub hf hf') {x : kernel_place} {b : Nat} (hS : St B w (O_kernel_place hf x b :: l) hf') : St B w (O_kernel_place hf' x b :: l) hf' := hS.imp (O_kernel_place.m s)
def O_link_Way (hf : Hp) (x : link_Way) (b : Nat) : HProp := fun h => ∃ (A_1 : Option Addr) (c_2 : Nat), spl [Cl b [.int .i64 x.link.From, .int .i64 x.link.To, .int .i64 x.link.Look, .bool x.link.Loose, .int .i64 x.most, .slice A_1 x.l.length c_2] 155, OSf E_api_Parcel 90 (.slice A_1 x.l.length c_2) x.l] h
theorem O_link_Way.o {B : Base} {w : World} {l : List HProp} {hf : Hp} {x : link_Way} {b : Nat} (hS : St B w (O_link_Way hf x b :: l) hf) : ∃ (A_1 : Option Addr) (c_2 : Nat), St B w (Cl b [.int .i64 x.link.From, .int .i64 x.link.To, .int .i64 x.link.Look, .bool x.link.Loose, .int .i64 x.most, .slice A_1 x.l.length c_2] 155 :: OSf E_api_Parcel 90 (.slice A_1 x.l.length c_2) x.l :: l) hf := by
  obtain ⟨h, ⟨A_1, c_2, hsp⟩, hr⟩ := hS.own
  exact ⟨A_1, c_2, (St.splO (ps := [Cl b [.int .i64 x.link.From, .int .i64 x.link.To, .int .i64 x.link.Look, .bool x.link.Loose, .int .i64 x.most, .slice A_1 x.l.length c_2] 155, OSf E_api_Parcel 90 (.slice A_1 x.l.length c_2) x.l]) ⟨hS.base, hS.sub, h, hsp, hr⟩)⟩
theorem O_link_Way.c {B : Base} {w : World} {l : List HProp} {hf : Hp} {x : link_Way} {b : Nat} {A_1 : Option Addr} {c_2 : Nat}  (hS : St B w (Cl b [.int .i64 x.link.From, .int .i64 x.link.To, .int .i64 x.link.Look, .bool x.link.Loose, .int .i64 x.most, .slice A_1 x.l.length c_2] 155 :: OSf E_api_Parcel 90 (.slice A_1 x.l.length c_2) x.l :: l) hf) : St B w (O_link_Way hf x b :: l) hf :=
  (St.splC (ps := [Cl b [.int .i64 x.link.From, .int .i64 x.link.To, .int .i64 x.link.Look, .bool x.link.Loose, .int .i64 x.most, .slice A_1 x.l.length c_2] 155, OSf E_api_Parcel 90 (.slice A_1 x.l.length c_2) x.l]) hS).imp fun h e => ⟨A_1, c_2, e⟩
theorem O_link_Way.m {hf hf' : Hp} (s : Sub hf hf') {x : link_Way} {b : Nat} : ∀ h, O_link_Way hf x b h → O_link_Way hf' x b h := fun h ⟨A_1, c_2, e⟩ => ⟨A_1, c_2, spl_imp (PI.c (fun _ a => a) (PI.c (fun _ a => a) (PI.n))) h e⟩
theorem O_link_Way.l {B : Base} {w : World} {l : List HProp} {hf hf' : Hp} (s : Sub hf hf') {x : link_Way} {b : Nat} (hS : St B w (O_link_Way hf x b :: l) hf') : St B w (O_link_Way hf' x b :: l) hf' := hS.imp (O_link_Way.m s)
def O_colour_Token (hf : Hp) (x : colour_Token) (b : Nat) : HProp := fun h => spl [Cl b [.int .i64 x.n, .int .i64 x.at_, .bool x.counting, .int .i64 x.sum, .int .i64 x.least] 184] h
theorem O_colour_Token.o {B : Base} {w : World} {l : List HProp} {hf : Hp} {x : colour_Token} {b : Nat} (hS : St B w (O_colour_Token hf x b :: l) hf) : St B w (Cl b [.int .i64 x.n, .int .i64 x.at_, .bool x.counting, .int .i64 x.sum, .int .i64 x.least] 184 :: l) hf := by
  obtain ⟨h, hsp, hr⟩ := hS.own
  exact (St.splO (ps := [Cl b [.int .i64 x.n, .int .i64 x.at_, .bool x.counting, .int .i64 x.sum, .int .i64 x.least] 184]) ⟨hS.base, hS.sub, h, hsp, hr⟩)
theorem O_colour_Token.c {B : Base} {w : World} {l : List HProp} {hf : Hp} {x : colour_Token} {b : Nat}   (hS : St B w (Cl b [.int .i64 x.n, .int .i64 x.at_, .bool x.counting, .int .i64 x.sum, .int .i64 x.least] 184 :: l) hf) : St B w (O_colour_Token hf x b :: l) hf :=
  (St.splC (ps := [Cl b [.int .i64 x.n, .int .i64 x.at_, .bool x.counting, .int .i64 x.sum, .int .i64 x.least] 184]) hS).imp fun h e => e
theorem O_colour_Token.m {hf hf' : Hp} (s : Sub hf hf') {x : colour_Token} {b : Nat} : ∀ h, O_colour_Token hf x b h → O_colour_Token hf' x b h := fun h e => spl_imp (PI.c (fun _ a => a) (PI.n)) h e
theorem O_colour_Token.l {B : Base} {w : World} {l : List HProp} {hf hf' : Hp} (s : Sub hf hf') {x : colour_Token} {b : Nat} (hS : St B w (O_colour_Token hf x b :: l) hf') : St B w (O_colour_Token hf' x b :: l) hf' := hS.imp (O_colour_Token.m s)
structure kernel_Kernel where
  m : api_Model
  at_ : (List kernel_place)
  ways : (List link_Way)
  token : colour_Token
  global : Int
  window : Int
  width : Int
  history : (List api_Done)
  stop : Int
deriving Inhabited
def O_kernel_Kernel (hf : Hp) (x : kernel_Kernel) (b : Nat) : HProp := fun h => ∃ (A_1 : Option Addr) (c_2 : Nat) (A_4 : Option Addr) (c_5 : Nat) (A_7 : Option Addr) (c_8 : Nat) (A_10 : Option Addr) (c_11 : Nat) (bs_12 : List Nat) (A_14 : Option Addr) (c_15 : Nat) (bs_16 : List Nat) (b_18 : Nat) (A_19 : Option Addr) (c_20 : Nat), SlR (Rep.sl E_api_Instr.rep) hf A_1 c_2 x.m.Progs ∧ SlR E_api_Link.rep hf A_4 c_5 x.m.Links ∧ SlR E_api_Start.rep hf A_7 c_8 x.m.Starts ∧ spl [Cl b [.slice A_1 x.m.Progs.length c_2, .slice A_4 x.m.Links.length c_5, .slice A_7 x.m.Starts.length c_8, .int .u64 x.m.Seed, .int .i64 x.m.End, .int .i64 x.m.Budget, .slice A_10 bs_12.length c_11, .slice A_14 bs_16.length c_15, .pointer (some ⟨b_18, 0, none⟩), .int .i64 x.global, .int .i64 x.window, .int .i64 x.width, .slice A_19 x.history.length c_20, .int .i64 x.stop] 36, OSf FP 95 (.slice A_10 bs_12.length c_11) bs_12, SepL (O_kernel_place hf) x.at_ bs_12, OSf FP 103 (.slice A_14 bs_16.length c_15) bs_16, SepL (O_link_Way hf) x.ways bs_16, O_colour_Token hf x.token b_18, OSf E_api_Done 82 (.slice A_19 x.history.length c_20) x.history] h
theorem O_kernel_Kernel.o {B : Base} {w : World} {l : List HProp} {hf : Hp} {x : kernel_Kernel} {b : Nat} (hS : St B w (O_kernel_Kernel hf x b :: l) hf) : ∃ (A_1 : Option Addr) (c_2 : Nat) (A_4 : Option Addr) (c_5 : Nat) (A_7 : Option Addr) (c_8 : Nat) (A_10 : Option Addr) (c_11 : Nat) (bs_12 : List Nat) (A_14 : Option Addr) (c_15 : Nat) (bs_16 : List Nat) (b_18 : Nat) (A_19 : Option Addr) (c_20 : Nat), SlR (Rep.sl E_api_Instr.rep) hf A_1 c_2 x.m.Progs ∧ SlR E_api_Link.rep hf A_4 c_5 x.m.Links ∧ SlR E_api_Start.rep hf A_7 c_8 x.m.Starts ∧ St B w (Cl b [.slice A_1 x.m.Progs.length c_2, .slice A_4 x.m.Links.length c_5, .slice A_7 x.m.Starts.length c_8, .int .u64 x.m.Seed, .int .i64 x.m.End, .int .i64 x.m.Budget, .slice A_10 bs_12.length c_11, .slice A_14 bs_16.length c_15, .pointer (some ⟨b_18, 0, none⟩), .int .i64 x.global, .int .i64 x.window, .int .i64 x.width, .slice A_19 x.history.length c_20, .int .i64 x.stop] 36 :: OSf FP 95 (.slice A_10 bs_12.length c_11) bs_12 :: SepL (O_kernel_place hf) x.at_ bs_12 :: OSf FP 103 (.slice A_14 bs_16.length c_15) bs_16 :: SepL (O_link_Way hf) x.ways bs_16 :: O_colour_Token hf x.token b_18 :: OSf E_api_Done 82 (.slice A_19 x.history.length c_20) x.history :: l) hf := by
  obtain ⟨h, ⟨A_1, c_2, A_4, c_5, A_7, c_8, A_10, c_11, bs_12, A_14, c_15, bs_16, b_18, A_19, c_20, hr_3, hr_6, hr_9, hsp⟩, hr⟩ := hS.own
  exact ⟨A_1, c_2, A_4, c_5, A_7, c_8, A_10, c_11, bs_12, A_14, c_15, bs_16, b_18, A_19, c_20, hr_3, hr_6, hr_9, (St.splO (ps := [Cl b [.slice A_1 x.m.Progs.length c_2, .slice A_4 x.m.Links.length c_5, .slice A_7 x.m.Starts.length c_8, .int .u64 x.m.Seed, .int .i64 x.m.End, .int .i64 x.m.Budget, .slice A_10 bs_12.length c_11, .slice A_14 bs_16.length c_15, .pointer (some ⟨b_18, 0, none⟩), .int .i64 x.global, .int .i64 x.window, .int .i64 x.width, .slice A_19 x.history.length c_20, .int .i64 x.stop] 36, OSf FP 95 (.slice A_10 bs_12.length c_11) bs_12, SepL (O_kernel_place hf) x.at_ bs_12, OSf FP 103 (.slice A_14 bs_16.length c_15) bs_16, SepL (O_link_Way hf) x.ways bs_16, O_colour_Token hf x.token b_18, OSf E_api_Done 82 (.slice A_19 x.history.length c_20) x.history]) ⟨hS.base, hS.sub, h, hsp, hr⟩)⟩
theorem O_kernel_Kernel.c {B : Base} {w : World} {l : List HProp} {hf : Hp} {x : kernel_Kernel} {b : Nat} {A_1 : Option Addr} {c_2 : Nat} {A_4 : Option Addr} {c_5 : Nat} {A_7 : Option Addr} {c_8 : Nat} {A_10 : Option Addr} {c_11 : Nat} {bs_12 : List Nat} {A_14 : Option Addr} {c_15 : Nat} {bs_16 : List Nat} {b_18 : Nat} {A_19 : Option Addr} {c_20 : Nat} (hr_3 : SlR (Rep.sl E_api_Instr.rep) hf A_1 c_2 x.m.Progs) (hr_6 : SlR E_api_Link.rep hf A_4 c_5 x.m.Links) (hr_9 : SlR E_api_Start.rep hf A_7 c_8 x.m.Starts) (hS : St B w (Cl b [.slice A_1 x.m.Progs.length c_2, .slice A_4 x.m.Links.length c_5, .slice A_7 x.m.Starts.length c_8, .int .u64 x.m.Seed, .int .i64 x.m.End, .int .i64 x.m.Budget, .slice A_10 bs_12.length c_11, .slice A_14 bs_16.length c_15, .pointer (some ⟨b_18, 0, none⟩), .int .i64 x.global, .int .i64 x.window, .int .i64 x.width, .slice A_19 x.history.length c_20, .int .i64 x.stop] 36 :: OSf FP 95 (.slice A_10 bs_12.length c_11) bs_12 :: SepL (O_kernel_place hf) x.at_ bs_12 :: OSf FP 103 (.slice A_14 bs_16.length c_15) bs_16 :: SepL (O_link_Way hf) x.ways bs_16 :: O_colour_Token hf x.token b_18 :: OSf E_api_Done 82 (.slice A_19 x.history.length c_20) x.history :: l) hf) : St B w (O_kernel_Kernel hf x b :: l) hf :=
  (St.splC (ps := [Cl b [.slice A_1 x.m.Progs.length c_2, .slice A_4 x.m.Links.length c_5, .slice A_7 x.m.Starts.length c_8, .int .u64 x.m.Seed, .int .i64 x.m.End, .int .i64 x.m.Budget, .slice A_10 bs_12.length c_11, .slice A_14 bs_16.length c_15, .pointer (some ⟨b_18, 0, none⟩), .int .i64 x.global, .int .i64 x.window, .int .i64 x.width, .slice A_19 x.history.length c_20, .int .i64 x.stop] 36, OSf FP 95 (.slice A_10 bs_12.length c_11) bs_12, SepL (O_kernel_place hf) x.at_ bs_12, OSf FP 103 (.slice A_14 bs_16.length c_15) bs_16, SepL (O_link_Way hf) x.ways bs_16, O_colour_Token hf x.token b_18, OSf E_api_Done 82 (.slice A_19 x.history.length c_20) x.history]) hS).imp fun h e => ⟨A_1, c_2, A_4, c_5, A_7, c_8, A_10, c_11, bs_12, A_14, c_15, bs_16, b_18, A_19, c_20, hr_3, hr_6, hr_9, e⟩
theorem O_kernel_Kernel.m {hf hf' : Hp} (s : Sub hf hf') {x : kernel_Kernel} {b : Nat} : ∀ h, O_kernel_Kernel hf x b h → O_kernel_Kernel hf' x b h := fun h ⟨A_1, c_2, A_4, c_5, A_7, c_8, A_10, c_11, bs_12, A_14, c_15, bs_16, b_18, A_19, c_20, hr_3, hr_6, hr_9, e⟩ => ⟨A_1, c_2, A_4, c_5, A_7, c_8, A_10, c_11, bs_12, A_14, c_15, bs_16, b_18, A_19, c_20, hr_3.mono s, hr_6.mono s, hr_9.mono s, spl_imp (PI.c (fun _ a => a) (PI.c (fun _ a => a) (PI.c (fun _ a => SepL.m (fun _ _ => O_kernel_place.m s) a) (PI.c (fun _ a => a) (PI.c (fun _ a => SepL.m (fun _ _ => O_link_Way.m s) a) (PI.c (O_colour_Token.m s) (PI.c (fun _ a => a) (PI.n)))))))) h e⟩
theorem O_kernel_Kernel.l {B : Base} {w : World} {l : List HProp} {hf hf' : Hp} (s : Sub hf hf') {x : kernel_Kernel} {b : Nat} (hS : St B w (O_kernel_Kernel hf x b :: l) hf') : St B w (O_kernel_Kernel hf' x b :: l) hf' := hS.imp (O_kernel_Kernel.m s)
def tb : List (Nat × Ti) := [(2, ⟨false, 1, [], [], .no⟩),
  (3, ⟨false, 1, [], [.int .i64 0], .no⟩),
  (4, ⟨false, 1, [], [], .no⟩),
  (23, ⟨true, 3, [(0, 1), (1, 1), (2, 1)], [.int .i64 0, .int .i64 0, .int .i64 0], .no⟩),
  (25, ⟨false, 1, [], [], .sl⟩),
  (26, ⟨false, 1, [], [], .sl⟩),
  (27, ⟨false, 1, [], [], .sl⟩),
  (28, ⟨false, 1, [], [], .no⟩),
  (30, ⟨true, 6, [(0, 1), (1, 1), (2, 1), (3, 1), (4, 1), (5, 1)], [.slice none 0 0, .slice none 0 0, .slice none 0 0, .int .u64 0, .int .i64 0, .int .i64 0], .no⟩),
  (31, ⟨false, 1, [], [], .no⟩),
  (32, ⟨false, 1, [], [], .no⟩),
  (33, ⟨false, 1, [], [], .no⟩),
  (34, ⟨false, 1, [], [], .sl⟩),
  (36, ⟨true, 14, [(0, 6), (6, 1), (7, 1), (8, 1), (9, 1), (10, 1), (11, 1), (12, 1), (13, 1)], [.slice none 0 0, .slice none 0 0, .slice none 0 0, .int .u64 0, .int .i64 0, .int .i64 0, .slice none 0 0, .slice none 0 0, .pointer none, .int .i64 0, .int .i64 0, .int .i64 0, .slice none 0 0, .int .i64 0], .no⟩),
  (37, ⟨false, 1, [], [], .int .i64⟩),
  (44, ⟨true, 10, [(0, 8), (8, 1), (9, 1)], [.int .i64 0, .int .i64 0, .int .i64 0, .int .i64 0, .int .i64 0, .int .i64 0, .int .i64 0, .int .i64 0, .int .i64 0, .int .i64 0], .no⟩),
  (47, ⟨true, 5, [(0, 1), (1, 1), (2, 1), (3, 1), (4, 1)], [.int .i64 0, .int .i64 0, .int .i64 0, .int .i64 0, .int .i64 0], .no⟩),
  (52, ⟨false, 1, [], [], .sl⟩),
  (54, ⟨false, 1, [], [.slice none 0 0], .sl⟩),
  (56, ⟨false, 1, [], [], .sl⟩),
  (62, ⟨true, 3, [(0, 1), (1, 1), (2, 1)], [.int .i64 0, .int .i64 0, .int .i64 0], .no⟩),
  (80, ⟨true, 3, [(0, 1), (1, 1), (2, 1)], [.int .i64 0, .int .i64 0, .int .i64 0], .no⟩),
  (82, ⟨true, 5, [(0, 3), (3, 1), (4, 1)], [.int .i64 0, .int .i64 0, .int .i64 0, .int .i64 0, .int .i64 0], .no⟩),
  (84, ⟨true, 7, [(0, 3), (3, 1), (4, 1), (5, 1), (6, 1)], [.int .i64 0, .int .i64 0, .int .i64 0, .int .i64 0, .int .i64 0, .int .i64 0, .bool false], .no⟩),
  (86, ⟨true, 19, [(0, 7), (7, 10), (17, 1), (18, 1)], [.int .i64 0, .int .i64 0, .int .i64 0, .int .i64 0, .int .i64 0, .int .i64 0, .bool false, .int .i64 0, .int .i64 0, .int .i64 0, .int .i64 0, .int .i64 0, .int .i64 0, .int .i64 0, .int .i64 0, .int .i64 0, .int .i64 0, .int .i64 0, .slice none 0 0], .no⟩),
  (90, ⟨true, 8, [(0, 7), (7, 1)], [.int .i64 0, .int .i64 0, .int .i64 0, .int .i64 0, .int .i64 0, .int .i64 0, .bool false, .int .i64 0], .no⟩),
  (96, ⟨false, 1, [], [], .no⟩),
  (97, ⟨false, 1, [], [], .no⟩),
  (98, ⟨false, 1, [], [], .no⟩),
  (99, ⟨false, 1, [], [], .sl⟩),
  (100, ⟨false, 1, [], [], .no⟩),
  (102, ⟨true, 5, [(0, 1), (1, 1), (2, 1), (3, 1), (4, 1)], [.pointer none, .pointer none, .pointer none, .slice none 0 0, .map none], .no⟩),
  (125, ⟨true, 4, [(0, 1), (1, 1), (2, 1), (3, 1)], [.int .i64 0, .int .i64 0, .int .i64 0, .bool false], .no⟩),
  (130, ⟨false, 1, [], [], .no⟩),
  (132, ⟨true, 1, [(0, 1)], [.nilFunc], .no⟩),
  (133, ⟨true, 4, [], [.nilFunc, .nilFunc, .nilFunc, .nilFunc], .no⟩),
  (136, ⟨true, 2, [(0, 1), (1, 1)], [.int .i64 0, .int .i64 0], .ok⟩),
  (138, ⟨false, 1, [], [], .no⟩),
  (140, ⟨false, 1, [], [], .ok⟩),
  (142, ⟨false, 1, [], [], .sl⟩),
  (144, ⟨false, 1, [], [], .no⟩),
  (145, ⟨false, 1, [], [], .no⟩),
  (146, ⟨false, 1, [], [], .sl⟩),
  (148, ⟨false, 1, [], [], .no⟩),
  (150, ⟨true, 27, [(0, 6), (6, 1), (7, 3), (10, 1), (11, 1), (12, 1), (13, 1), (14, 1), (15, 1), (16, 1), (17, 1), (18, 5), (23, 4)], [.slice none 0 0, .slice none 0 0, .slice none 0 0, .int .u64 0, .int .i64 0, .int .i64 0, .int .i64 0, .int .i64 0, .int .i64 0, .int .i64 0, .slice none 0 0, .pointer none, .pointer none, .slice none 0 0, .slice none 0 0, .map none, .map none, .int .i64 0, .int .i64 0, .int .i64 0, .int .i64 0, .int .i64 0, .int .i64 0, .int .i64 0, .int .i64 0, .int .i64 0, .int .i64 0], .no⟩),
  (153, ⟨true, 14, [(0, 7), (7, 7)], [.int .i64 0, .int .i64 0, .int .i64 0, .int .i64 0, .int .i64 0, .int .i64 0, .bool false, .int .i64 0, .int .i64 0, .int .i64 0, .int .i64 0, .int .i64 0, .int .i64 0, .bool false], .no⟩),
  (155, ⟨true, 6, [(0, 4), (4, 1), (5, 1)], [.int .i64 0, .int .i64 0, .int .i64 0, .bool false, .int .i64 0, .slice none 0 0], .no⟩),
  (158, ⟨true, 2, [(0, 1), (1, 1)], [.bool false, .slice none 0 0], .no⟩),
  (162, ⟨false, 1, [], [], .sl⟩),
  (165, ⟨true, 3, [(0, 1), (1, 1), (2, 1)], [.int .i64 0, .int .i64 0, .int .i64 0], .no⟩),
  (168, ⟨true, 4, [(0, 1), (1, 1), (2, 1), (3, 1)], [.slice none 0 0, .int .i64 0, .slice none 0 0, .int .u64 0], .no⟩),
  (179, ⟨true, 5, [(0, 1), (1, 1), (2, 2), (4, 1)], [.bool false, .int .i64 0, .int .i64 0, .int .i64 0, .int .i64 0], .no⟩),
  (184, ⟨true, 5, [(0, 1), (1, 1), (2, 1), (3, 1), (4, 1)], [.int .i64 0, .int .i64 0, .bool false, .int .i64 0, .int .i64 0], .no⟩),
  (188, ⟨true, 3, [], [.pointer none, .pointer none, .int .u64 0], .no⟩),
  (212, ⟨true, 2, [(0, 1), (1, 1)], [.int .i64 0, .int .i64 0], .ok⟩),
  (214, ⟨false, 1, [], [], .ok⟩),
  (220, ⟨false, 1, [], [], .no⟩),
  (222, ⟨true, 1, [(0, 1)], [.nilIface], .no⟩),
  (223, ⟨false, 1, [], [], .sl⟩),
  (225, ⟨true, 18, [(0, 4), (4, 1), (5, 10), (15, 1), (16, 1), (17, 1)], [.slice none 0 0, .int .i64 0, .slice none 0 0, .int .u64 0, .bool false, .int .i64 0, .int .i64 0, .int .i64 0, .int .i64 0, .int .i64 0, .int .i64 0, .int .i64 0, .int .i64 0, .int .i64 0, .int .i64 0, .int .i64 0, .slice none 0 0, .bool false], .no⟩),
  (230, ⟨true, 10, [(0, 7), (7, 1), (8, 1), (9, 1)], [], .no⟩),
  (234, ⟨true, 4, [(0, 1), (1, 1), (2, 1), (3, 1)], [.int .i64 0, .int .i64 0, .int .i64 0, .int .i64 0], .no⟩),
  (248, ⟨true, 2, [(0, 1), (1, 1)], [.int .i64 0, .int .i64 0], .no⟩),
  (264, ⟨false, 1, [], [], .sl⟩),
  (273, ⟨false, 1, [], [], .no⟩),
  (318, ⟨false, 1, [], [], .ok⟩),
  (327, ⟨false, 1, [], [], .ok⟩),
  (329, ⟨true, 1, [(0, 1)], [.slice none 0 0], .no⟩),
  (369, ⟨true, 2, [(0, 1), (1, 1)], [.slice none 0 0, .nilFunc], .no⟩),
  (371, ⟨true, 2, [(0, 2)], [.slice none 0 0, .nilFunc], .no⟩),
  (380, ⟨false, 1, [], [], .ok⟩),
  (382, ⟨true, 2, [(0, 1), (1, 1)], [.int .i64 0, .nilIface], .no⟩),
  (394, ⟨true, 17, [], [.string lit_, .string lit_, .string lit_, .string lit_, .string lit_, .string lit_, .string lit_, .string lit_, .string lit_, .string lit_, .string lit_, .string lit_, .string lit_, .string lit_, .string lit_, .string lit_, .string lit_], .no⟩),
  (435, ⟨false, 1, [], [], .no⟩)]
theorem tbOK : TbOK prog tb :=
  tbc ⟨isAgg2, sizeOf2, .inl rfl, .inl rfl, trivial⟩
  (tbc ⟨isAgg3, sizeOf3, .inl rfl, .inr ⟨_, zeroValue3, rfl⟩, trivial⟩
  (tbc ⟨isAgg4, sizeOf4, .inl rfl, .inl rfl, trivial⟩
  (tbc ⟨isAgg23, sizeOf23, .inr ⟨_, underlying23, (flc rfl sizeOf3 (flc rfl sizeOf3 (flc rfl sizeOf3 trivial)))⟩, .inr ⟨_, zeroValue23, rfl⟩, trivial⟩
  (tbc ⟨isAgg25, sizeOf25, .inl rfl, .inl rfl, ⟨_, underlying25⟩⟩
  (tbc ⟨isAgg26, sizeOf26, .inl rfl, .inl rfl, ⟨_, underlying26⟩⟩
  (tbc ⟨isAgg27, sizeOf27, .inl rfl, .inl rfl, ⟨_, underlying27⟩⟩
  (tbc ⟨isAgg28, sizeOf28, .inl rfl, .inl rfl, trivial⟩
  (tbc ⟨isAgg30, sizeOf30, .inr ⟨_, underlying30, (flc rfl sizeOf25 (flc rfl sizeOf26 (flc rfl sizeOf27 (flc rfl sizeOf28 (flc rfl sizeOf2 (flc rfl sizeOf3 trivial))))))⟩, .inr ⟨_, zeroValue30, rfl⟩, trivial⟩
  (tbc ⟨isAgg31, sizeOf31, .inl rfl, .inl rfl, trivial⟩
  (tbc ⟨isAgg32, sizeOf32, .inl rfl, .inl rfl, trivial⟩
  (tbc ⟨isAgg33, sizeOf33, .inl rfl, .inl rfl, trivial⟩
  (tbc ⟨isAgg34, sizeOf34, .inl rfl, .inl rfl, ⟨_, underlying34⟩⟩
  (tbc ⟨isAgg36, sizeOf36, .inr ⟨_, underlying36, (flc rfl sizeOf30 (flc rfl sizeOf31 (flc rfl sizeOf32 (flc rfl sizeOf33 (flc rfl sizeOf2 (flc rfl sizeOf2 (flc rfl sizeOf2 (flc rfl sizeOf34 (flc rfl sizeOf3 trivial)))))))))⟩, .inr ⟨_, zeroValue36, rfl⟩, trivial⟩
  (tbc ⟨isAgg37, sizeOf37, .inl rfl, .inl rfl, underlying37⟩
  (tbc ⟨isAgg44, sizeOf44, .inr ⟨_, underlying44, (flc rfl sizeOf42 (flc rfl sizeOf3 (flc rfl sizeOf3 trivial)))⟩, .inr ⟨_, zeroValue44, rfl⟩, trivial⟩
  (tbc ⟨isAgg47, sizeOf47, .inr ⟨_, underlying47, (flc rfl sizeOf3 (flc rfl sizeOf3 (flc rfl sizeOf3 (flc rfl sizeOf2 (flc rfl sizeOf3 trivial)))))⟩, .inr ⟨_, zeroValue47, rfl⟩, trivial⟩
  (tbc ⟨isAgg52, sizeOf52, .inl rfl, .inl rfl, ⟨_, underlying52⟩⟩
  (tbc ⟨isAgg54, sizeOf54, .inl rfl, .inr ⟨_, zeroValue54, rfl⟩, ⟨_, underlying54⟩⟩
  (tbc ⟨isAgg56, sizeOf56, .inl rfl, .inl rfl, ⟨_, underlying56⟩⟩
  (tbc ⟨isAgg62, sizeOf62, .inr ⟨_, underlying62, (flc rfl sizeOf3 (flc rfl sizeOf3 (flc rfl sizeOf3 trivial)))⟩, .inr ⟨_, zeroValue62, rfl⟩, trivial⟩
  (tbc ⟨isAgg80, sizeOf80, .inr ⟨_, underlying80, (flc rfl sizeOf2 (flc rfl sizeOf3 (flc rfl sizeOf3 trivial)))⟩, .inr ⟨_, zeroValue80, rfl⟩, trivial⟩
  (tbc ⟨isAgg82, sizeOf82, .inr ⟨_, underlying82, (flc rfl sizeOf80 (flc rfl sizeOf3 (flc rfl sizeOf2 trivial)))⟩, .inr ⟨_, zeroValue82, rfl⟩, trivial⟩
  (tbc ⟨isAgg84, sizeOf84, .inr ⟨_, underlying84, (flc rfl sizeOf80 (flc rfl sizeOf3 (flc rfl sizeOf2 (flc rfl sizeOf3 (flc rfl sizeOf4 trivial)))))⟩, .inr ⟨_, zeroValue84, rfl⟩, trivial⟩
  (tbc ⟨isAgg86, sizeOf86, .inr ⟨_, underlying86, (flc rfl sizeOf84 (flc rfl sizeOf44 (flc rfl sizeOf37 (flc rfl sizeOf52 trivial))))⟩, .inr ⟨_, zeroValue86, rfl⟩, trivial⟩
  (tbc ⟨isAgg90, sizeOf90, .inr ⟨_, underlying90, (flc rfl sizeOf84 (flc rfl sizeOf3 trivial))⟩, .inr ⟨_, zeroValue90, rfl⟩, trivial⟩
  (tbc ⟨isAgg96, sizeOf96, .inl rfl, .inl rfl, trivial⟩
  (tbc ⟨isAgg97, sizeOf97, .inl rfl, .inl rfl, trivial⟩
  (tbc ⟨isAgg98, sizeOf98, .inl rfl, .inl rfl, trivial⟩
  (tbc ⟨isAgg99, sizeOf99, .inl rfl, .inl rfl, ⟨_, underlying99⟩⟩
  (tbc ⟨isAgg100, sizeOf100, .inl rfl, .inl rfl, trivial⟩
  (tbc ⟨isAgg102, sizeOf102, .inr ⟨_, underlying102, (flc rfl sizeOf96 (flc rfl sizeOf97 (flc rfl sizeOf98 (flc rfl sizeOf99 (flc rfl sizeOf100 trivial)))))⟩, .inr ⟨_, zeroValue102, rfl⟩, trivial⟩
  (tbc ⟨isAgg125, sizeOf125, .inr ⟨_, underlying125, (flc rfl sizeOf3 (flc rfl sizeOf3 (flc rfl sizeOf2 (flc rfl sizeOf4 trivial))))⟩, .inr ⟨_, zeroValue125, rfl⟩, trivial⟩
  (tbc ⟨isAgg130, sizeOf130, .inl rfl, .inl rfl, trivial⟩
  (tbc ⟨isAgg132, sizeOf132, .inr ⟨_, underlying132, (flc rfl sizeOf130 trivial)⟩, .inr ⟨_, zeroValue132, rfl⟩, trivial⟩
  (tbc ⟨isAgg133, sizeOf133, .inl rfl, .inr ⟨_, zeroValue133, rfl⟩, trivial⟩
  (tbc ⟨isAgg136, sizeOf136, .inr ⟨_, underlying136, (flc rfl sizeOf3 (flc rfl sizeOf37 trivial))⟩, .inr ⟨_, zeroValue136, rfl⟩, ⟨_, underlying136, rfl⟩⟩
  (tbc ⟨isAgg138, sizeOf138, .inl rfl, .inl rfl, trivial⟩
  (tbc ⟨isAgg140, sizeOf140, .inl rfl, .inl rfl, ⟨_, underlying140, rfl⟩⟩
  (tbc ⟨isAgg142, sizeOf142, .inl rfl, .inl rfl, ⟨_, underlying142⟩⟩
  (tbc ⟨isAgg144, sizeOf144, .inl rfl, .inl rfl, trivial⟩
  (tbc ⟨isAgg145, sizeOf145, .inl rfl, .inl rfl, trivial⟩
  (tbc ⟨isAgg146, sizeOf146, .inl rfl, .inl rfl, ⟨_, underlying146⟩⟩
  (tbc ⟨isAgg148, sizeOf148, .inl rfl, .inl rfl, trivial⟩
  (tbc ⟨isAgg150, sizeOf150, .inr ⟨_, underlying150, (flc rfl sizeOf30 (flc rfl sizeOf3 (flc rfl sizeOf62 (flc rfl sizeOf99 (flc rfl sizeOf144 (flc rfl sizeOf145 (flc rfl sizeOf146 (flc rfl sizeOf52 (flc rfl sizeOf147 (flc rfl sizeOf148 (flc rfl sizeOf3 (flc rfl sizeOf47 (flc rfl sizeOf50 trivial)))))))))))))⟩, .inr ⟨_, zeroValue150, rfl⟩, trivial⟩
  (tbc ⟨isAgg153, sizeOf153, .inr ⟨_, underlying153, (flc rfl sizeOf84 (flc rfl sizeOf84 trivial))⟩, .inr ⟨_, zeroValue153, rfl⟩, trivial⟩
  (tbc ⟨isAgg155, sizeOf155, .inr ⟨_, underlying155, (flc rfl sizeOf125 (flc rfl sizeOf3 (flc rfl sizeOf56 trivial)))⟩, .inr ⟨_, zeroValue155, rfl⟩, trivial⟩
  (tbc ⟨isAgg158, sizeOf158, .inr ⟨_, underlying158, (flc rfl sizeOf4 (flc rfl sizeOf142 trivial))⟩, .inr ⟨_, zeroValue158, rfl⟩, trivial⟩
  (tbc ⟨isAgg162, sizeOf162, .inl rfl, .inl rfl, ⟨_, underlying162⟩⟩
  (tbc ⟨isAgg165, sizeOf165, .inr ⟨_, underlying165, (flc rfl sizeOf3 (flc rfl sizeOf2 (flc rfl sizeOf2 trivial)))⟩, .inr ⟨_, zeroValue165, rfl⟩, trivial⟩
  (tbc ⟨isAgg168, sizeOf168, .inr ⟨_, underlying168, (flc rfl sizeOf162 (flc rfl sizeOf3 (flc rfl sizeOf26 (flc rfl sizeOf28 trivial))))⟩, .inr ⟨_, zeroValue168, rfl⟩, trivial⟩
  (tbc ⟨isAgg179, sizeOf179, .inr ⟨_, underlying179, (flc rfl sizeOf4 (flc rfl sizeOf3 (flc rfl sizeOf177 (flc rfl sizeOf2 trivial))))⟩, .inr ⟨_, zeroValue179, rfl⟩, trivial⟩
  (tbc ⟨isAgg184, sizeOf184, .inr ⟨_, underlying184, (flc rfl sizeOf3 (flc rfl sizeOf3 (flc rfl sizeOf4 (flc rfl sizeOf3 (flc rfl sizeOf2 trivial)))))⟩, .inr ⟨_, zeroValue184, rfl⟩, trivial⟩
  (tbc ⟨isAgg188, sizeOf188, .inl rfl, .inr ⟨_, zeroValue188, rfl⟩, trivial⟩
  (tbc ⟨isAgg212, sizeOf212, .inr ⟨_, underlying212, (flc rfl sizeOf3 (flc rfl sizeOf37 trivial))⟩, .inr ⟨_, zeroValue212, rfl⟩, ⟨_, underlying212, rfl⟩⟩
  (tbc ⟨isAgg214, sizeOf214, .inl rfl, .inl rfl, ⟨_, underlying214, rfl⟩⟩
  (tbc ⟨isAgg220, sizeOf220, .inl rfl, .inl rfl, trivial⟩
  (tbc ⟨isAgg222, sizeOf222, .inr ⟨_, underlying222, (flc rfl sizeOf220 trivial)⟩, .inr ⟨_, zeroValue222, rfl⟩, trivial⟩
  (tbc ⟨isAgg223, sizeOf223, .inl rfl, .inl rfl, ⟨_, underlying223⟩⟩
  (tbc ⟨isAgg225, sizeOf225, .inr ⟨_, underlying225, (flc rfl sizeOf168 (flc rfl sizeOf4 (flc rfl sizeOf44 (flc rfl sizeOf3 (flc rfl sizeOf223 (flc rfl sizeOf4 trivial))))))⟩, .inr ⟨_, zeroValue225, rfl⟩, trivial⟩
  (tbc ⟨isAgg230, sizeOf230, .inr ⟨_, underlying230, (flc rfl sizeOf84 (flc rfl sizeOf37 (flc rfl sizeOf52 (flc rfl sizeOf228 trivial))))⟩, .inl rfl, trivial⟩
  (tbc ⟨isAgg234, sizeOf234, .inr ⟨_, underlying234, (flc rfl sizeOf3 (flc rfl sizeOf3 (flc rfl sizeOf3 (flc rfl sizeOf3 trivial))))⟩, .inr ⟨_, zeroValue234, rfl⟩, trivial⟩
  (tbc ⟨isAgg248, sizeOf248, .inr ⟨_, underlying248, (flc rfl sizeOf3 (flc rfl sizeOf3 trivial))⟩, .inr ⟨_, zeroValue248, rfl⟩, trivial⟩
  (tbc ⟨isAgg264, sizeOf264, .inl rfl, .inl rfl, ⟨_, underlying264⟩⟩
  (tbc ⟨isAgg273, sizeOf273, .inl rfl, .inl rfl, trivial⟩
  (tbc ⟨isAgg318, sizeOf318, .inl rfl, .inl rfl, ⟨_, underlying318, rfl⟩⟩
  (tbc ⟨isAgg327, sizeOf327, .inl rfl, .inl rfl, ⟨_, underlying327, rfl⟩⟩
  (tbc ⟨isAgg329, sizeOf329, .inr ⟨_, underlying329, (flc rfl sizeOf264 trivial)⟩, .inr ⟨_, zeroValue329, rfl⟩, trivial⟩
  (tbc ⟨isAgg369, sizeOf369, .inr ⟨_, underlying369, (flc rfl sizeOf52 (flc rfl sizeOf273 trivial))⟩, .inr ⟨_, zeroValue369, rfl⟩, trivial⟩
  (tbc ⟨isAgg371, sizeOf371, .inr ⟨_, underlying371, (flc rfl sizeOf369 trivial)⟩, .inr ⟨_, zeroValue371, rfl⟩, trivial⟩
  (tbc ⟨isAgg380, sizeOf380, .inl rfl, .inl rfl, ⟨_, underlying380, rfl⟩⟩
  (tbc ⟨isAgg382, sizeOf382, .inr ⟨_, underlying382, (flc rfl sizeOf3 (flc rfl sizeOf138 trivial))⟩, .inr ⟨_, zeroValue382, rfl⟩, trivial⟩
  (tbc ⟨isAgg394, sizeOf394, .inl rfl, .inr ⟨_, zeroValue394, rfl⟩, trivial⟩
  (tbc ⟨isAgg435, sizeOf435, .inl rfl, .inl rfl, trivial⟩
  (trivial))))))))))))))))))))))))))))))))))))))))))))))))))))))))))))))))))))))))))
theorem rr {B : Base} {w : World} {l r : List HProp} {hf : Hp} {N : Fr} {env : Env} {ops : Array Oper} {Q : Exit → Act → World → Prop} {rest : List Oper} {L : List Pc} (ps : List Nat) (hS : St B w l hf) [Rf l L r] (h : runL tb N.n ops (fun env L os => denK L r fun l => ∀ w, St B w l hf → RL prog N ops Q os env w) ps env L rest [] []) : RL prog N ops Q rest env w := runL_top tbOK ps hS h
theorem rq {B : Base} {w : World} {l r : List HProp} {hf : Hp} {N : Fr} {env : Env} {ops : Array Oper} {Q : Exit → Act → World → Prop} {L : List Pc} {t0 : List Nat} {ts : List (List Nat)} {Ss : List (World → Prop)} {pl : Pl} (ps : List Nat) (hS : St B w l hf) [Rf l L r] (h : runP tb N.n ops t0 (fun env pl => RP prog N ops Q (sL ((fun w => St B w l hf) :: Ss)) (tL (t0 :: ts)) pl env w) L ps env pl [] []) : RP prog N ops Q (sL ((fun w => St B w l hf) :: Ss)) (tL (t0 :: ts)) pl env w := runP_top tbOK ps hS h
theorem rz {B : Base} {w : World} {l r : List HProp} {hf : Hp} {env : Env} {L : List Pc} {fn : Func} {n : Nat} {rs : List ResultVar} {K : Value → World → Prop} (js : List Nat) (hr : fn.results = rs.toArray) (hS : St B w l hf) [Rf l L r] (h : rsK tb env L rs js [] [] fun vs => K (tup vs) w) : RQ ⟨n, [], true⟩ (bodyPost prog fn (Ret K) .ret) env w := rzT tbOK js hr hS h
theorem rzE {B : Base} {w : World} {l r : List HProp} {hf : Hp} {env : Env} {L : List Pc} {fn : Func} {n : Nat} {rs : List ResultVar} {K : Value → World → Prop} (js : List Nat) (hr : fn.results = rs.toArray) (hS : St B w l hf) [Rf l L r] (h : rsK tb env L rs js [] [] fun vs => K (tup vs) w) : RQ ⟨n, [], true⟩ (bodyPost prog fn (Ret K) .normal) env w := rzTE tbOK js hr hS h
theorem dk {B : Base} {w : World} {l lk : List HProp} {hf : Hp} {N : Fr} {env : Env} {Q : Exit → Act → World → Prop} {id : Nat} {os : List Oper} (ps t1 : List Nat) (hS : St B w l hf) (hK : ∀ w, St B w l hf → St B w lk hf) [hQ : NoT Q] (h : ∀ w, St B w l hf → RP prog N os.toArray Q (sL [fun w => St B w lk hf]) (tL [t1]) (plD ps) env w) (hB : (Nat.beq (plD ps).len os.length && (Region.noSelect os.toArray && tailB os.toArray (tL [t1]) && planOK os.toArray (tL [t1]) (plD ps) (Array.replicate os.length false))) = true := by kernel_rfl) : RC prog N Q (.region id os.toArray true) env w := pS t1 hS hK follows hB h
theorem dr {B : Base} {w : World} {l : List HProp} {hf : Hp} {N : Fr} {env : Env} {Q : Exit → Act → World → Prop} {id : Nat} {os : List Oper} (ps t1 : List Nat) (hS : St B w l hf) [hQ : NoT Q] (h : ∀ w, St B w l hf → RP prog N os.toArray Q (sL [fun w => St B w l hf]) (tL [t1]) (plD ps) env w) (hB : (Nat.beq (plD ps).len os.length && (Region.noSelect os.toArray && tailB os.toArray (tL [t1]) && planOK os.toArray (tL [t1]) (plD ps) (Array.replicate os.length false))) = true := by kernel_rfl) : RC prog N Q (.region id os.toArray true) env w := pS t1 hS (fun _ h => h) follows hB h
theorem r0 {w : World} {N : Fr} {env env' : Env} {ops : Array Oper} {Q : Exit → Act → World → Prop} {rest os' : List Oper} (k : Nat) (h : rn0 tb N.n ops k env rest = some (env', os')) (hr : RL prog N ops Q os' env' w) : RL prog N ops Q rest env w := rn0_ok tbOK k h hr
@[reducible] def C_api_Model (x : api_Model) (A0 : Option Addr) (c0 : Nat) (A1 : Option Addr) (c1 : Nat) (A2 : Option Addr) (c2 : Nat) : List Value := [.slice A0 x.Progs.length c0, .slice A1 x.Links.length c1, .slice A2 x.Starts.length c2, .int .u64 x.Seed, .int .i64 x.End, .int .i64 x.Budget]
@[reducible] def C_api_Instr (x : api_Instr) : List Value := [.int .i64 x.Op, .int .i64 x.A, .int .i64 x.B, .int .i64 x.C]
@[reducible] def C_api_Link (x : api_Link) : List Value := [.int .i64 x.From, .int .i64 x.To, .int .i64 x.Look, .bool x.Loose]
@[reducible] def C_api_World (x : api_World) (A0 : Option Addr) (c0 : Nat) (A1 : Option Addr) (c1 : Nat) : List Value := [.slice A0 x.Prog.length c0, .int .i64 x.Self, .slice A1 x.Links.length c1, .int .u64 x.Seed]
@[reducible] def C_api_Caps (x : api_Caps) : List Value := [.int .i64 x.Link, .int .i64 x.Wait, .int .i64 x.Log]
@[reducible] def C_api_Key (x : api_Key) : List Value := [.int .i64 x.Time, .int .i64 x.From, .int .i64 x.Seq]
@[reducible] def C_api_Pick (x : api_Pick) : List Value := [.int .i64 x.What, .int .i64 x.A, .int .i64 x.B]
@[reducible] def C_api_State (x : api_State) : List Value := [.int .i64 x.Regs.c0, .int .i64 x.Regs.c1, .int .i64 x.Regs.c2, .int .i64 x.Regs.c3, .int .i64 x.Regs.c4, .int .i64 x.Regs.c5, .int .i64 x.Regs.c6, .int .i64 x.Regs.c7, .int .i64 x.Draws, .int .i64 x.Sent]
@[reducible] def C_log_done (x : log_done) (A0 : Option Addr) (c0 : Nat) (b1 : Nat) : List Value := [.int .i64 x.event.Key.Time, .int .i64 x.event.Key.From, .int .i64 x.event.Key.Seq, .int .i64 x.event.To, .int .i64 x.event.Value, .int .i64 x.event.Uid, .bool x.event.Anti, .int .i64 x.fault, .slice A0 x.sent.length c0, .pointer (pz b1 x.ahead.has)]
@[reducible] def C_api_Message (x : api_Message) : List Value := [.int .i64 x.Key.Time, .int .i64 x.Key.From, .int .i64 x.Key.Seq, .int .i64 x.To, .int .i64 x.Value, .int .i64 x.Uid, .bool x.Anti]
@[reducible] def C_api_Entry (x : api_Entry) (A0 : Option Addr) (c0 : Nat) : List Value := [.int .i64 x.Event.Key.Time, .int .i64 x.Event.Key.From, .int .i64 x.Event.Key.Seq, .int .i64 x.Event.To, .int .i64 x.Event.Value, .int .i64 x.Event.Uid, .bool x.Event.Anti, .int .i64 x.Before.Regs.c0, .int .i64 x.Before.Regs.c1, .int .i64 x.Before.Regs.c2, .int .i64 x.Before.Regs.c3, .int .i64 x.Before.Regs.c4, .int .i64 x.Before.Regs.c5, .int .i64 x.Before.Regs.c6, .int .i64 x.Before.Regs.c7, .int .i64 x.Before.Draws, .int .i64 x.Before.Sent, .int .i64 x.Fault, .slice A0 x.Sent.length c0]
@[reducible] def C_lane_Lane (x : lane_Lane) (A0 : Option Addr) (c0 : Nat) (A1 : Option Addr) (c1 : Nat) (A2 : Option Addr) (c2 : Nat) (A3 : Option Addr) (c3 : Nat) (b4 : Nat) (b5 : Nat) (A6 : Option Addr) (c6 : Nat) (A7 : Option Addr) (c7 : Nat) (b8 : Nat) (b9 : Nat) : List Value := [.slice A0 x.m.Progs.length c0, .slice A1 x.m.Links.length c1, .slice A2 x.m.Starts.length c2, .int .u64 x.m.Seed, .int .i64 x.m.End, .int .i64 x.m.Budget, .int .i64 x.n, .int .i64 x.caps.Link, .int .i64 x.caps.Wait, .int .i64 x.caps.Log, .slice A3 x.ways.length c3, .pointer (some ⟨b4, 0, none⟩), .pointer (some ⟨b5, 0, none⟩), .slice A6 x.open_.length c6, .slice A7 x.orphans.length c7, .map (some b8), .map (some b9), .int .i64 x.uid, .int .i64 x.setting.Mode, .int .i64 x.setting.Every, .int .i64 x.setting.Cancel, .int .i64 x.setting.Reach, .int .i64 x.setting.Queue, .int .i64 x.stats.Done, .int .i64 x.stats.Undone, .int .i64 x.stats.Hits, .int .i64 x.stats.Held]
end Go.Proofs.Gx
