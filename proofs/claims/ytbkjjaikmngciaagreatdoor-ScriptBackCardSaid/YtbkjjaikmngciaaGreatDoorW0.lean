/-
  The data of the walks: printed by wip/gx.py.
-/
import Derived.Test.YtbkjjaikmngciaaGreatDoorSl25
import Derived.KernelRfl
import Derived.Test.YtbkjjaikmngciaaGreatDoorProg
import Derived.Test.YtbkjjaikmngciaaGreatDoorShelf
set_option linter.unusedVariables false
set_option linter.unusedSimpArgs false
set_option maxRecDepth 100000
set_option maxHeartbeats 4000000
namespace Go.Proofs.Gx
open Go.Sl Tryz
theorem follows : prog.follows .mixedOrders = true := by kernel_rfl
def zfn : Nat → Int := fun _ => 0
structure api_Instr where
  Op : Int
  A : Int
  B : Int
  C : Int
deriving Inhabited, DecidableEq
def E_api_Instr : Fl api_Instr := ⟨fun x => [.int .i64 x.Op, .int .i64 x.A, .int .i64 x.B, .int .i64 x.C], 4, fun _ => rfl, fun x v h => by
  simp only [List.mem_cons, List.not_mem_nil, or_false] at h
  rcases h with rfl | rfl | rfl | rfl <;> rfl⟩
structure api_Link where
  From : Int
  To : Int
  Look : Int
  Loose : Bool
deriving Inhabited, DecidableEq
def E_api_Link : Fl api_Link := ⟨fun x => [.int .i64 x.From, .int .i64 x.To, .int .i64 x.Look, .bool x.Loose], 4, fun _ => rfl, fun x v h => by
  simp only [List.mem_cons, List.not_mem_nil, or_false] at h
  rcases h with rfl | rfl | rfl | rfl <;> rfl⟩
structure api_Start where
  To : Int
  Time : Int
  Value : Int
deriving Inhabited, DecidableEq
def E_api_Start : Fl api_Start := ⟨fun x => [.int .i64 x.To, .int .i64 x.Time, .int .i64 x.Value], 3, fun _ => rfl, fun x v h => by
  simp only [List.mem_cons, List.not_mem_nil, or_false] at h
  rcases h with rfl | rfl | rfl <;> rfl⟩
structure api_Model where
  Progs : (List (List api_Instr))
  Links : (List api_Link)
  Starts : (List api_Start)
  Seed : Int
  End : Int
  Budget : Int
deriving Inhabited, DecidableEq
def R_api_Model : Rep api_Model := ⟨6, fun h cs x => ∃ A0 c0 A1 c1 A2 c2, cs = [.slice A0 x.Progs.length c0, .slice A1 x.Links.length c1, .slice A2 x.Starts.length c2, .int .u64 x.Seed, .int .i64 x.End, .int .i64 x.Budget] ∧ SlR (Rep.sl E_api_Instr.rep) h A0 c0 x.Progs ∧ SlR E_api_Link.rep h A1 c1 x.Links ∧ SlR E_api_Start.rep h A2 c2 x.Starts, fun s ⟨A0, c0, A1, c1, A2, c2, e, f0, f1, f2⟩ => ⟨A0, c0, A1, c1, A2, c2, e, f0.mono s, f1.mono s, f2.mono s⟩⟩
theorem R_api_Model_ok : R_api_Model.Ok := ⟨fun ⟨A0, c0, A1, c1, A2, c2, e, _⟩ => by rw [e]; rfl, fun ⟨A0, c0, A1, c1, A2, c2, e, _⟩ v hv => by
  rw [e] at hv
  simp only [List.mem_cons, List.not_mem_nil, or_false] at hv
  rcases hv with rfl | rfl | rfl | rfl | rfl | rfl <;> rfl⟩
structure api_Caps where
  Link : Int
  Wait : Int
  Log : Int
deriving Inhabited, DecidableEq
def E_api_Caps : Fl api_Caps := ⟨fun x => [.int .i64 x.Link, .int .i64 x.Wait, .int .i64 x.Log], 3, fun _ => rfl, fun x v h => by
  simp only [List.mem_cons, List.not_mem_nil, or_false] at h
  rcases h with rfl | rfl | rfl <;> rfl⟩
structure api_Pick where
  What : Int
  A : Int
  B : Int
deriving Inhabited, DecidableEq
def E_api_Pick : Fl api_Pick := ⟨fun x => [.int .i64 x.What, .int .i64 x.A, .int .i64 x.B], 3, fun _ => rfl, fun x v h => by
  simp only [List.mem_cons, List.not_mem_nil, or_false] at h
  rcases h with rfl | rfl | rfl <;> rfl⟩
structure isochronref21vtext where
  s : ByteArray
  e : Int
deriving Inhabited, DecidableEq
def E_isochronref21vtext : Fl isochronref21vtext := ⟨fun x => [.string x.s, .int .i64 x.e], 2, fun _ => rfl, fun x v h => by
  simp only [List.mem_cons, List.not_mem_nil, or_false] at h
  rcases h with rfl | rfl <;> rfl⟩
structure script_reader where
  m : api_Model
  c : api_Caps
  picks : (List api_Pick)
deriving Inhabited, DecidableEq
def R_script_reader : Rep script_reader := ⟨10, fun h cs x => ∃ A0 c0 A1 c1 A2 c2 A3 c3, cs = [.slice A0 x.m.Progs.length c0, .slice A1 x.m.Links.length c1, .slice A2 x.m.Starts.length c2, .int .u64 x.m.Seed, .int .i64 x.m.End, .int .i64 x.m.Budget, .int .i64 x.c.Link, .int .i64 x.c.Wait, .int .i64 x.c.Log, .slice A3 x.picks.length c3] ∧ SlR (Rep.sl E_api_Instr.rep) h A0 c0 x.m.Progs ∧ SlR E_api_Link.rep h A1 c1 x.m.Links ∧ SlR E_api_Start.rep h A2 c2 x.m.Starts ∧ SlR E_api_Pick.rep h A3 c3 x.picks, fun s ⟨A0, c0, A1, c1, A2, c2, A3, c3, e, f0, f1, f2, f3⟩ => ⟨A0, c0, A1, c1, A2, c2, A3, c3, e, f0.mono s, f1.mono s, f2.mono s, f3.mono s⟩⟩
theorem R_script_reader_ok : R_script_reader.Ok := ⟨fun ⟨A0, c0, A1, c1, A2, c2, A3, c3, e, _⟩ => by rw [e]; rfl, fun ⟨A0, c0, A1, c1, A2, c2, A3, c3, e, _⟩ v hv => by
  rw [e] at hv
  simp only [List.mem_cons, List.not_mem_nil, or_false] at hv
  rcases hv with rfl | rfl | rfl | rfl | rfl | rfl | rfl | rfl | rfl | rfl <;> rfl⟩
structure api_Key where
  Time : Int
  From : Int
  Seq : Int
deriving Inhabited, DecidableEq
def E_api_Key : Fl api_Key := ⟨fun x => [.int .i64 x.Time, .int .i64 x.From, .int .i64 x.Seq], 3, fun _ => rfl, fun x v h => by
  simp only [List.mem_cons, List.not_mem_nil, or_false] at h
  rcases h with rfl | rfl | rfl <;> rfl⟩
structure api_Done where
  Key : api_Key
  To : Int
  Value : Int
deriving Inhabited, DecidableEq
def E_api_Done : Fl api_Done := ⟨fun x => [.int .i64 x.Key.Time, .int .i64 x.Key.From, .int .i64 x.Key.Seq, .int .i64 x.To, .int .i64 x.Value], 5, fun _ => rfl, fun x v h => by
  simp only [List.mem_cons, List.not_mem_nil, or_false] at h
  rcases h with rfl | rfl | rfl | rfl | rfl <;> rfl⟩
structure Arr8xInti64 where
  c0 : Int
  c1 : Int
  c2 : Int
  c3 : Int
  c4 : Int
  c5 : Int
  c6 : Int
  c7 : Int
deriving Inhabited, DecidableEq
def E_Arr8xInti64 : Fl Arr8xInti64 := ⟨fun x => [.int .i64 x.c0, .int .i64 x.c1, .int .i64 x.c2, .int .i64 x.c3, .int .i64 x.c4, .int .i64 x.c5, .int .i64 x.c6, .int .i64 x.c7], 8, fun _ => rfl, fun x v h => by
  simp only [List.mem_cons, List.not_mem_nil, or_false] at h
  rcases h with rfl | rfl | rfl | rfl | rfl | rfl | rfl | rfl <;> rfl⟩
structure api_State where
  Regs : Arr8xInti64
  Draws : Int
  Sent : Int
deriving Inhabited, DecidableEq
def E_api_State : Fl api_State := ⟨fun x => [.int .i64 x.Regs.c0, .int .i64 x.Regs.c1, .int .i64 x.Regs.c2, .int .i64 x.Regs.c3, .int .i64 x.Regs.c4, .int .i64 x.Regs.c5, .int .i64 x.Regs.c6, .int .i64 x.Regs.c7, .int .i64 x.Draws, .int .i64 x.Sent], 10, fun _ => rfl, fun x v h => by
  simp only [List.mem_cons, List.not_mem_nil, or_false] at h
  rcases h with rfl | rfl | rfl | rfl | rfl | rfl | rfl | rfl | rfl | rfl <;> rfl⟩
structure api_World where
  Prog : (List api_Instr)
  Self : Int
  Links : (List api_Link)
  Seed : Int
deriving Inhabited, DecidableEq
def R_api_World : Rep api_World := ⟨4, fun h cs x => ∃ A0 c0 A1 c1, cs = [.slice A0 x.Prog.length c0, .int .i64 x.Self, .slice A1 x.Links.length c1, .int .u64 x.Seed] ∧ SlR E_api_Instr.rep h A0 c0 x.Prog ∧ SlR E_api_Link.rep h A1 c1 x.Links, fun s ⟨A0, c0, A1, c1, e, f0, f1⟩ => ⟨A0, c0, A1, c1, e, f0.mono s, f1.mono s⟩⟩
theorem R_api_World_ok : R_api_World.Ok := ⟨fun ⟨A0, c0, A1, c1, e, _⟩ => by rw [e]; rfl, fun ⟨A0, c0, A1, c1, e, _⟩ v hv => by
  rw [e] at hv
  simp only [List.mem_cons, List.not_mem_nil, or_false] at hv
  rcases hv with rfl | rfl | rfl | rfl <;> rfl⟩
structure api_Message where
  Key : api_Key
  To : Int
  Value : Int
  Uid : Int
  Anti : Bool
deriving Inhabited, DecidableEq
def E_api_Message : Fl api_Message := ⟨fun x => [.int .i64 x.Key.Time, .int .i64 x.Key.From, .int .i64 x.Key.Seq, .int .i64 x.To, .int .i64 x.Value, .int .i64 x.Uid, .bool x.Anti], 7, fun _ => rfl, fun x v h => by
  simp only [List.mem_cons, List.not_mem_nil, or_false] at h
  rcases h with rfl | rfl | rfl | rfl | rfl | rfl | rfl <;> rfl⟩
structure log_done where
  event : api_Message
  fault : Int
  sent : (List api_Message)
  ahead : (Pt api_State)
deriving Inhabited, DecidableEq
def R_log_done : Rep log_done := ⟨10, fun h cs x => ∃ A0 c0 b1, cs = [.int .i64 x.event.Key.Time, .int .i64 x.event.Key.From, .int .i64 x.event.Key.Seq, .int .i64 x.event.To, .int .i64 x.event.Value, .int .i64 x.event.Uid, .bool x.event.Anti, .int .i64 x.fault, .slice A0 x.sent.length c0, .pointer (pz b1 x.ahead.has)] ∧ SlR E_api_Message.rep h A0 c0 x.sent ∧ PtR E_api_State h b1 64 x.ahead, fun s ⟨A0, c0, b1, e, f0, f1⟩ => ⟨A0, c0, b1, e, f0.mono s, f1.mono s⟩⟩
theorem R_log_done_ok : R_log_done.Ok := ⟨fun ⟨A0, c0, b1, e, _⟩ => by rw [e]; rfl, fun ⟨A0, c0, b1, e, _⟩ v hv => by
  rw [e] at hv
  simp only [List.mem_cons, List.not_mem_nil, or_false] at hv
  rcases hv with rfl | rfl | rfl | rfl | rfl | rfl | rfl | rfl | rfl | rfl <;> rfl⟩
structure log_Log where
  w : api_World
  made : Bool
  state : api_State
  every : Int
  l : (List log_done)
  stuck : Bool
deriving Inhabited, DecidableEq
def R_log_Log : Rep log_Log := ⟨18, fun h cs x => ∃ A0 c0 A1 c1 A2 c2, cs = [.slice A0 x.w.Prog.length c0, .int .i64 x.w.Self, .slice A1 x.w.Links.length c1, .int .u64 x.w.Seed, .bool x.made, .int .i64 x.state.Regs.c0, .int .i64 x.state.Regs.c1, .int .i64 x.state.Regs.c2, .int .i64 x.state.Regs.c3, .int .i64 x.state.Regs.c4, .int .i64 x.state.Regs.c5, .int .i64 x.state.Regs.c6, .int .i64 x.state.Regs.c7, .int .i64 x.state.Draws, .int .i64 x.state.Sent, .int .i64 x.every, .slice A2 x.l.length c2, .bool x.stuck] ∧ SlR E_api_Instr.rep h A0 c0 x.w.Prog ∧ SlR E_api_Link.rep h A1 c1 x.w.Links ∧ SlR R_log_done h A2 c2 x.l, fun s ⟨A0, c0, A1, c1, A2, c2, e, f0, f1, f2⟩ => ⟨A0, c0, A1, c1, A2, c2, e, f0.mono s, f1.mono s, f2.mono s⟩⟩
theorem R_log_Log_ok : R_log_Log.Ok := ⟨fun ⟨A0, c0, A1, c1, A2, c2, e, _⟩ => by rw [e]; rfl, fun ⟨A0, c0, A1, c1, A2, c2, e, _⟩ v hv => by
  rw [e] at hv
  simp only [List.mem_cons, List.not_mem_nil, or_false] at hv
  rcases hv with rfl | rfl | rfl | rfl | rfl | rfl | rfl | rfl | rfl | rfl | rfl | rfl | rfl | rfl | rfl | rfl | rfl | rfl <;> rfl⟩
structure lane_open where
  by_ : api_Message
  m : api_Message
deriving Inhabited, DecidableEq
def E_lane_open : Fl lane_open := ⟨fun x => [.int .i64 x.by_.Key.Time, .int .i64 x.by_.Key.From, .int .i64 x.by_.Key.Seq, .int .i64 x.by_.To, .int .i64 x.by_.Value, .int .i64 x.by_.Uid, .bool x.by_.Anti, .int .i64 x.m.Key.Time, .int .i64 x.m.Key.From, .int .i64 x.m.Key.Seq, .int .i64 x.m.To, .int .i64 x.m.Value, .int .i64 x.m.Uid, .bool x.m.Anti], 14, fun _ => rfl, fun x v h => by
  simp only [List.mem_cons, List.not_mem_nil, or_false] at h
  rcases h with rfl | rfl | rfl | rfl | rfl | rfl | rfl | rfl | rfl | rfl | rfl | rfl | rfl | rfl <;> rfl⟩
structure lane_sending where
  from_ : Int
  uid : Int
deriving Inhabited, DecidableEq
def E_lane_sending : Fl lane_sending := ⟨fun x => [.int .i64 x.from_, .int .i64 x.uid], 2, fun _ => rfl, fun x v h => by
  simp only [List.mem_cons, List.not_mem_nil, or_false] at h
  rcases h with rfl | rfl <;> rfl⟩
structure api_Setting where
  Mode : Int
  Every : Int
  Cancel : Int
  Reach : Int
  Queue : Int
deriving Inhabited, DecidableEq
def E_api_Setting : Fl api_Setting := ⟨fun x => [.int .i64 x.Mode, .int .i64 x.Every, .int .i64 x.Cancel, .int .i64 x.Reach, .int .i64 x.Queue], 5, fun _ => rfl, fun x v h => by
  simp only [List.mem_cons, List.not_mem_nil, or_false] at h
  rcases h with rfl | rfl | rfl | rfl | rfl <;> rfl⟩
structure api_Stats where
  Done : Int
  Undone : Int
  Hits : Int
  Held : Int
deriving Inhabited, DecidableEq
def E_api_Stats : Fl api_Stats := ⟨fun x => [.int .i64 x.Done, .int .i64 x.Undone, .int .i64 x.Hits, .int .i64 x.Held], 4, fun _ => rfl, fun x v h => by
  simp only [List.mem_cons, List.not_mem_nil, or_false] at h
  rcases h with rfl | rfl | rfl | rfl <;> rfl⟩
structure Arr2xInti64 where
  c0 : Int
  c1 : Int
deriving Inhabited, DecidableEq
def E_Arr2xInti64 : Fl Arr2xInti64 := ⟨fun x => [.int .i64 x.c0, .int .i64 x.c1], 2, fun _ => rfl, fun x v h => by
  simp only [List.mem_cons, List.not_mem_nil, or_false] at h
  rcases h with rfl | rfl <;> rfl⟩
structure colour_Tally where
  made : Bool
  colour : Int
  net : Arr2xInti64
  least : Int
deriving Inhabited, DecidableEq
def E_colour_Tally : Fl colour_Tally := ⟨fun x => [.bool x.made, .int .i64 x.colour, .int .i64 x.net.c0, .int .i64 x.net.c1, .int .i64 x.least], 5, fun _ => rfl, fun x v h => by
  simp only [List.mem_cons, List.not_mem_nil, or_false] at h
  rcases h with rfl | rfl | rfl | rfl | rfl <;> rfl⟩
structure clock_Clocks where
  made : Bool
  t : (List Int)
deriving Inhabited, DecidableEq
def R_clock_Clocks : Rep clock_Clocks := ⟨2, fun h cs x => ∃ A0 c0, cs = [.bool x.made, .slice A0 x.t.length c0] ∧ SlR ((FI .i64).rep) h A0 c0 x.t, fun s ⟨A0, c0, e, f0⟩ => ⟨A0, c0, e, f0.mono s⟩⟩
theorem R_clock_Clocks_ok : R_clock_Clocks.Ok := ⟨fun ⟨A0, c0, e, _⟩ => by rw [e]; rfl, fun ⟨A0, c0, e, _⟩ v hv => by
  rw [e] at hv
  simp only [List.mem_cons, List.not_mem_nil, or_false] at hv
  rcases hv with rfl | rfl <;> rfl⟩
structure api_Parcel where
  M : api_Message
  Colour : Int
deriving Inhabited, DecidableEq
def E_api_Parcel : Fl api_Parcel := ⟨fun x => [.int .i64 x.M.Key.Time, .int .i64 x.M.Key.From, .int .i64 x.M.Key.Seq, .int .i64 x.M.To, .int .i64 x.M.Value, .int .i64 x.M.Uid, .bool x.M.Anti, .int .i64 x.Colour], 8, fun _ => rfl, fun x v h => by
  simp only [List.mem_cons, List.not_mem_nil, or_false] at h
  rcases h with rfl | rfl | rfl | rfl | rfl | rfl | rfl | rfl <;> rfl⟩
structure link_Way where
  link : api_Link
  most : Int
  l : (List api_Parcel)
deriving Inhabited, DecidableEq
def R_link_Way : Rep link_Way := ⟨6, fun h cs x => ∃ A0 c0, cs = [.int .i64 x.link.From, .int .i64 x.link.To, .int .i64 x.link.Look, .bool x.link.Loose, .int .i64 x.most, .slice A0 x.l.length c0] ∧ SlR E_api_Parcel.rep h A0 c0 x.l, fun s ⟨A0, c0, e, f0⟩ => ⟨A0, c0, e, f0.mono s⟩⟩
theorem R_link_Way_ok : R_link_Way.Ok := ⟨fun ⟨A0, c0, e, _⟩ => by rw [e]; rfl, fun ⟨A0, c0, e, _⟩ v hv => by
  rw [e] at hv
  simp only [List.mem_cons, List.not_mem_nil, or_false] at hv
  rcases hv with rfl | rfl | rfl | rfl | rfl | rfl <;> rfl⟩
structure colour_Token where
  n : Int
  at_ : Int
  counting : Bool
  sum : Int
  least : Int
deriving Inhabited, DecidableEq
def E_colour_Token : Fl colour_Token := ⟨fun x => [.int .i64 x.n, .int .i64 x.at_, .bool x.counting, .int .i64 x.sum, .int .i64 x.least], 5, fun _ => rfl, fun x v h => by
  simp only [List.mem_cons, List.not_mem_nil, or_false] at h
  rcases h with rfl | rfl | rfl | rfl | rfl <;> rfl⟩
structure model_flaw where
  at_ : Int
  why : Int
deriving Inhabited, DecidableEq
def E_model_flaw : Fl model_flaw := ⟨fun x => [.int .i64 x.at_, .int .i64 x.why], 2, fun _ => rfl, fun x v h => by
  simp only [List.mem_cons, List.not_mem_nil, or_false] at h
  rcases h with rfl | rfl <;> rfl⟩
structure api_Entry where
  Event : api_Message
  Before : api_State
  Fault : Int
  Sent : (List api_Message)
deriving Inhabited, DecidableEq
def R_api_Entry : Rep api_Entry := ⟨19, fun h cs x => ∃ A0 c0, cs = [.int .i64 x.Event.Key.Time, .int .i64 x.Event.Key.From, .int .i64 x.Event.Key.Seq, .int .i64 x.Event.To, .int .i64 x.Event.Value, .int .i64 x.Event.Uid, .bool x.Event.Anti, .int .i64 x.Before.Regs.c0, .int .i64 x.Before.Regs.c1, .int .i64 x.Before.Regs.c2, .int .i64 x.Before.Regs.c3, .int .i64 x.Before.Regs.c4, .int .i64 x.Before.Regs.c5, .int .i64 x.Before.Regs.c6, .int .i64 x.Before.Regs.c7, .int .i64 x.Before.Draws, .int .i64 x.Before.Sent, .int .i64 x.Fault, .slice A0 x.Sent.length c0] ∧ SlR E_api_Message.rep h A0 c0 x.Sent, fun s ⟨A0, c0, e, f0⟩ => ⟨A0, c0, e, f0.mono s⟩⟩
theorem R_api_Entry_ok : R_api_Entry.Ok := ⟨fun ⟨A0, c0, e, _⟩ => by rw [e]; rfl, fun ⟨A0, c0, e, _⟩ v hv => by
  rw [e] at hv
  simp only [List.mem_cons, List.not_mem_nil, or_false] at hv
  rcases hv with rfl | rfl | rfl | rfl | rfl | rfl | rfl | rfl | rfl | rfl | rfl | rfl | rfl | rfl | rfl | rfl | rfl | rfl | rfl <;> rfl⟩
structure kernel_halt where
  stop : Int
  why : Int
deriving Inhabited, DecidableEq
def E_kernel_halt : Fl kernel_halt := ⟨fun x => [.int .i64 x.stop, .int .i64 x.why], 2, fun _ => rfl, fun x v h => by
  simp only [List.mem_cons, List.not_mem_nil, or_false] at h
  rcases h with rfl | rfl <;> rfl⟩
structure api_Result where
  History : (List api_Done)
  States : (List api_State)
  Stop : Int
deriving Inhabited, DecidableEq
def R_api_Result : Rep api_Result := ⟨3, fun h cs x => ∃ A0 c0 A1 c1, cs = [.slice A0 x.History.length c0, .slice A1 x.States.length c1, .int .i64 x.Stop] ∧ SlR E_api_Done.rep h A0 c0 x.History ∧ SlR E_api_State.rep h A1 c1 x.States, fun s ⟨A0, c0, A1, c1, e, f0, f1⟩ => ⟨A0, c0, A1, c1, e, f0.mono s, f1.mono s⟩⟩
theorem R_api_Result_ok : R_api_Result.Ok := ⟨fun ⟨A0, c0, A1, c1, e, _⟩ => by rw [e]; rfl, fun ⟨A0, c0, A1, c1, e, _⟩ v hv => by
  rw [e] at hv
  simp only [List.mem_cons, List.not_mem_nil, or_false] at hv
  rcases hv with rfl | rfl | rfl <;> rfl⟩
def lit_ : ByteArray := ⟨#[]⟩
def lit_seed : ByteArray := ⟨#[115, 101, 101, 100]⟩
def lit_20 : ByteArray := ⟨#[32]⟩
def lit_0a : ByteArray := ⟨#[10]⟩
def lit_end : ByteArray := ⟨#[101, 110, 100]⟩
def lit_budget : ByteArray := ⟨#[98, 117, 100, 103, 101, 116]⟩
def lit_caps : ByteArray := ⟨#[99, 97, 112, 115]⟩
def lit_lane : ByteArray := ⟨#[108, 97, 110, 101]⟩
def lit_op : ByteArray := ⟨#[111, 112]⟩
def lit_link : ByteArray := ⟨#[108, 105, 110, 107]⟩
def lit_start : ByteArray := ⟨#[115, 116, 97, 114, 116]⟩
def lit_pick : ByteArray := ⟨#[112, 105, 99, 107]⟩
def lit_2d : ByteArray := ⟨#[45]⟩
def lit_6c616e650a7069636b2032203020300a7069636b203220302030 : ByteArray := ⟨#[108, 97, 110, 101, 10, 112, 105, 99, 107, 32, 50, 32, 48, 32, 48, 10, 112, 105, 99, 107, 32, 50, 32, 48, 32, 48]⟩
def lit_23 : ByteArray := ⟨#[35]⟩
def lit_2d2d2d : ByteArray := ⟨#[45, 45, 45]⟩
def lit_726e2d : ByteArray := ⟨#[114, 110, 45]⟩
def lit_72722d : ByteArray := ⟨#[114, 114, 45]⟩
def lit_rrr : ByteArray := ⟨#[114, 114, 114]⟩
def lit_702d2d : ByteArray := ⟨#[112, 45, 45]⟩
def lit_72702d : ByteArray := ⟨#[114, 112, 45]⟩
def lit_722d2d : ByteArray := ⟨#[114, 45, 45]⟩
def lit_did : ByteArray := ⟨#[100, 105, 100]⟩
def lit_state : ByteArray := ⟨#[115, 116, 97, 116, 101]⟩
def lit_stop : ByteArray := ⟨#[115, 116, 111, 112]⟩
def lit_7374617465203020302030203020302030203020300a73746f7020310a : ByteArray := ⟨#[115, 116, 97, 116, 101, 32, 48, 32, 48, 32, 48, 32, 48, 32, 48, 32, 48, 32, 48, 32, 48, 10, 115, 116, 111, 112, 32, 49, 10]⟩
def Ex1 : Array Value → Sem Value := Extern.ReflectliteType.typeOf
def Ex2 : Array Value → Sem Value := Extern.ReflectliteType.relation "AssignableTo" Extern.ReflectliteType.assignableTo
def Ex3 : Array Value → Sem Value := Extern.ReflectliteValue.methodAny (Extern.ReflectliteValue.valueError "reflectlite.Value.Type" 0) fun t _ _ _ => Extern.ReflectliteType.toType t
def Ex4 : Array Value → Sem Value := Extern.ReflectliteType.abiMethod fun t => do pure (.int .u8 (← Extern.Rtype.kind t))
def Ex5 : Array Value → Sem Value := Extern.ReflectliteType.method Extern.ReflectliteType.elem
def Ex6 : Array Value → Sem Value := Extern.ReflectliteType.relation "Implements" Extern.ReflectliteType.implements_
def Ex7 : Array Value → Sem Value := Extern.ReflectliteType.method fun t => do Extern.Rtype.noPackHeld "Comparable" t; pure (.bool (← typeInfo t).comparable)
theorem run_eql_api_Key (x y : Operand) (a b : api_Key) (w : World) : ((eqGuard .eql 59 x y (.agg (E_api_Key.enc a).toArray) (.agg (E_api_Key.enc b).toArray)).bind fun _ => binOp .eql 59 (.agg (E_api_Key.enc a).toArray) (.agg (E_api_Key.enc b).toArray)).run prog w = .ok (.bool (decide (a = b))) w := by
  show ((eqGuard .eql 59 x y _ _) >>= fun _ => binOp .eql 59 _ _).run prog w = _
  rw [Sem.run_bind, run_eqGuard_agg (hm := eqGuardType59)]
  simp only [Result.andThen_ok]
  obtain ⟨a1, a2, a3⟩ := a
  obtain ⟨b4, b5, b6⟩ := b
  simp [E_api_Key, go_sem]
  all_goals (repeat' split)
  all_goals first | (simp [*]; done) | grind | (simp only [Result.ok.injEq, Value.bool.injEq, and_true]; grind)
theorem run_neq_api_Key (x y : Operand) (a b : api_Key) (w : World) : ((eqGuard .neq 59 x y (.agg (E_api_Key.enc a).toArray) (.agg (E_api_Key.enc b).toArray)).bind fun _ => binOp .neq 59 (.agg (E_api_Key.enc a).toArray) (.agg (E_api_Key.enc b).toArray)).run prog w = .ok (.bool (!decide (a = b))) w := by
  show ((eqGuard .neq 59 x y _ _) >>= fun _ => binOp .neq 59 _ _).run prog w = _
  rw [Sem.run_bind, run_eqGuard_agg (hm := eqGuardType59)]
  simp only [Result.andThen_ok]
  obtain ⟨a7, a8, a9⟩ := a
  obtain ⟨b10, b11, b12⟩ := b
  simp [E_api_Key, go_sem]
  all_goals (repeat' split)
  all_goals first | (simp [*]; done) | grind | (simp only [Result.ok.injEq, Value.bool.injEq, and_true]; grind)
theorem run_eql_api_Instr (x y : Operand) (a b : api_Instr) (w : World) : ((eqGuard .eql 74 x y (.agg (E_api_Instr.enc a).toArray) (.agg (E_api_Instr.enc b).toArray)).bind fun _ => binOp .eql 74 (.agg (E_api_Instr.enc a).toArray) (.agg (E_api_Instr.enc b).toArray)).run prog w = .ok (.bool (decide (a = b))) w := by
  show ((eqGuard .eql 74 x y _ _) >>= fun _ => binOp .eql 74 _ _).run prog w = _
  rw [Sem.run_bind, run_eqGuard_agg (hm := eqGuardType74)]
  simp only [Result.andThen_ok]
  obtain ⟨a1, a2, a3, a4⟩ := a
  obtain ⟨b5, b6, b7, b8⟩ := b
  simp [E_api_Instr, go_sem]
  all_goals (repeat' split)
  all_goals first | (simp [*]; done) | grind | (simp only [Result.ok.injEq, Value.bool.injEq, and_true]; grind)
theorem run_neq_api_Instr (x y : Operand) (a b : api_Instr) (w : World) : ((eqGuard .neq 74 x y (.agg (E_api_Instr.enc a).toArray) (.agg (E_api_Instr.enc b).toArray)).bind fun _ => binOp .neq 74 (.agg (E_api_Instr.enc a).toArray) (.agg (E_api_Instr.enc b).toArray)).run prog w = .ok (.bool (!decide (a = b))) w := by
  show ((eqGuard .neq 74 x y _ _) >>= fun _ => binOp .neq 74 _ _).run prog w = _
  rw [Sem.run_bind, run_eqGuard_agg (hm := eqGuardType74)]
  simp only [Result.andThen_ok]
  obtain ⟨a9, a10, a11, a12⟩ := a
  obtain ⟨b13, b14, b15, b16⟩ := b
  simp [E_api_Instr, go_sem]
  all_goals (repeat' split)
  all_goals first | (simp [*]; done) | grind | (simp only [Result.ok.injEq, Value.bool.injEq, and_true]; grind)
theorem run_eql_api_Caps (x y : Operand) (a b : api_Caps) (w : World) : ((eqGuard .eql 36 x y (.agg (E_api_Caps.enc a).toArray) (.agg (E_api_Caps.enc b).toArray)).bind fun _ => binOp .eql 36 (.agg (E_api_Caps.enc a).toArray) (.agg (E_api_Caps.enc b).toArray)).run prog w = .ok (.bool (decide (a = b))) w := by
  show ((eqGuard .eql 36 x y _ _) >>= fun _ => binOp .eql 36 _ _).run prog w = _
  rw [Sem.run_bind, run_eqGuard_agg (hm := eqGuardType36)]
  simp only [Result.andThen_ok]
  obtain ⟨a1, a2, a3⟩ := a
  obtain ⟨b4, b5, b6⟩ := b
  simp [E_api_Caps, go_sem]
  all_goals (repeat' split)
  all_goals first | (simp [*]; done) | grind | (simp only [Result.ok.injEq, Value.bool.injEq, and_true]; grind)
theorem run_neq_api_Caps (x y : Operand) (a b : api_Caps) (w : World) : ((eqGuard .neq 36 x y (.agg (E_api_Caps.enc a).toArray) (.agg (E_api_Caps.enc b).toArray)).bind fun _ => binOp .neq 36 (.agg (E_api_Caps.enc a).toArray) (.agg (E_api_Caps.enc b).toArray)).run prog w = .ok (.bool (!decide (a = b))) w := by
  show ((eqGuard .neq 36 x y _ _) >>= fun _ => binOp .neq 36 _ _).run prog w = _
  rw [Sem.run_bind, run_eqGuard_agg (hm := eqGuardType36)]
  simp only [Result.andThen_ok]
  obtain ⟨a7, a8, a9⟩ := a
  obtain ⟨b10, b11, b12⟩ := b
  simp [E_api_Caps, go_sem]
  all_goals (repeat' split)
  all_goals first | (simp [*]; done) | grind | (simp only [Result.ok.injEq, Value.bool.injEq, and_true]; grind)
theorem run_eql_api_Link (x y : Operand) (a b : api_Link) (w : World) : ((eqGuard .eql 76 x y (.agg (E_api_Link.enc a).toArray) (.agg (E_api_Link.enc b).toArray)).bind fun _ => binOp .eql 76 (.agg (E_api_Link.enc a).toArray) (.agg (E_api_Link.enc b).toArray)).run prog w = .ok (.bool (decide (a = b))) w := by
  show ((eqGuard .eql 76 x y _ _) >>= fun _ => binOp .eql 76 _ _).run prog w = _
  rw [Sem.run_bind, run_eqGuard_agg (hm := eqGuardType76)]
  simp only [Result.andThen_ok]
  obtain ⟨a1, a2, a3, a4⟩ := a
  obtain ⟨b5, b6, b7, b8⟩ := b
  simp [E_api_Link, go_sem]
  all_goals (repeat' split)
  all_goals first | (simp [*]; done) | grind | (simp only [Result.ok.injEq, Value.bool.injEq, and_true]; grind)
theorem run_neq_api_Link (x y : Operand) (a b : api_Link) (w : World) : ((eqGuard .neq 76 x y (.agg (E_api_Link.enc a).toArray) (.agg (E_api_Link.enc b).toArray)).bind fun _ => binOp .neq 76 (.agg (E_api_Link.enc a).toArray) (.agg (E_api_Link.enc b).toArray)).run prog w = .ok (.bool (!decide (a = b))) w := by
  show ((eqGuard .neq 76 x y _ _) >>= fun _ => binOp .neq 76 _ _).run prog w = _
  rw [Sem.run_bind, run_eqGuard_agg (hm := eqGuardType76)]
  simp only [Result.andThen_ok]
  obtain ⟨a9, a10, a11, a12⟩ := a
  obtain ⟨b13, b14, b15, b16⟩ := b
  simp [E_api_Link, go_sem]
  all_goals (repeat' split)
  all_goals first | (simp [*]; done) | grind | (simp only [Result.ok.injEq, Value.bool.injEq, and_true]; grind)
theorem run_eql_api_Start (x y : Operand) (a b : api_Start) (w : World) : ((eqGuard .eql 78 x y (.agg (E_api_Start.enc a).toArray) (.agg (E_api_Start.enc b).toArray)).bind fun _ => binOp .eql 78 (.agg (E_api_Start.enc a).toArray) (.agg (E_api_Start.enc b).toArray)).run prog w = .ok (.bool (decide (a = b))) w := by
  show ((eqGuard .eql 78 x y _ _) >>= fun _ => binOp .eql 78 _ _).run prog w = _
  rw [Sem.run_bind, run_eqGuard_agg (hm := eqGuardType78)]
  simp only [Result.andThen_ok]
  obtain ⟨a1, a2, a3⟩ := a
  obtain ⟨b4, b5, b6⟩ := b
  simp [E_api_Start, go_sem]
  all_goals (repeat' split)
  all_goals first | (simp [*]; done) | grind | (simp only [Result.ok.injEq, Value.bool.injEq, and_true]; grind)
theorem run_neq_api_Start (x y : Operand) (a b : api_Start) (w : World) : ((eqGuard .neq 78 x y (.agg (E_api_Start.enc a).toArray) (.agg (E_api_Start.enc b).toArray)).bind fun _ => binOp .neq 78 (.agg (E_api_Start.enc a).toArray) (.agg (E_api_Start.enc b).toArray)).run prog w = .ok (.bool (!decide (a = b))) w := by
  show ((eqGuard .neq 78 x y _ _) >>= fun _ => binOp .neq 78 _ _).run prog w = _
  rw [Sem.run_bind, run_eqGuard_agg (hm := eqGuardType78)]
  simp only [Result.andThen_ok]
  obtain ⟨a7, a8, a9⟩ := a
  obtain ⟨b10, b11, b12⟩ := b
  simp [E_api_Start, go_sem]
  all_goals (repeat' split)
  all_goals first | (simp [*]; done) | grind | (simp only [Result.ok.injEq, Value.bool.injEq, and_true]; grind)
theorem run_eql_api_Pick (x y : Operand) (a b : api_Pick) (w : World) : ((eqGuard .eql 80 x y (.agg (E_api_Pick.enc a).toArray) (.agg (E_api_Pick.enc b).toArray)).bind fun _ => binOp .eql 80 (.agg (E_api_Pick.enc a).toArray) (.agg (E_api_Pick.enc b).toArray)).run prog w = .ok (.bool (decide (a = b))) w := by
  show ((eqGuard .eql 80 x y _ _) >>= fun _ => binOp .eql 80 _ _).run prog w = _
  rw [Sem.run_bind, run_eqGuard_agg (hm := eqGuardType80)]
  simp only [Result.andThen_ok]
  obtain ⟨a1, a2, a3⟩ := a
  obtain ⟨b4, b5, b6⟩ := b
  simp [E_api_Pick, go_sem]
  all_goals (repeat' split)
  all_goals first | (simp [*]; done) | grind | (simp only [Result.ok.injEq, Value.bool.injEq, and_true]; grind)
theorem run_neq_api_Pick (x y : Operand) (a b : api_Pick) (w : World) : ((eqGuard .neq 80 x y (.agg (E_api_Pick.enc a).toArray) (.agg (E_api_Pick.enc b).toArray)).bind fun _ => binOp .neq 80 (.agg (E_api_Pick.enc a).toArray) (.agg (E_api_Pick.enc b).toArray)).run prog w = .ok (.bool (!decide (a = b))) w := by
  show ((eqGuard .neq 80 x y _ _) >>= fun _ => binOp .neq 80 _ _).run prog w = _
  rw [Sem.run_bind, run_eqGuard_agg (hm := eqGuardType80)]
  simp only [Result.andThen_ok]
  obtain ⟨a7, a8, a9⟩ := a
  obtain ⟨b10, b11, b12⟩ := b
  simp [E_api_Pick, go_sem]
  all_goals (repeat' split)
  all_goals first | (simp [*]; done) | grind | (simp only [Result.ok.injEq, Value.bool.injEq, and_true]; grind)
def kv_lane_sending (x : lane_sending) : Value := .agg (E_lane_sending.enc x).toArray
theorem keyok_lane_sending : KeyOK prog 260 kv_lane_sending := by
  refine ⟨fun e x w => ?_, fun x y w => ?_, ⟨_, underlying260, fun x y => .inl rfl⟩, fun x => ?_⟩
  · obtain ⟨a0, a1⟩ := x
    show (Instr.checkKey e (9999 + 1) 260 _).run prog w = _
    rw [Instr.checkKey]
    have p0 : ∀ w, (part 3 #[.int .i64 a0, .int .i64 a1] 0).run prog w = .ok (.int .i64 a0) w := fun w => run_part1 isAgg3 rfl
    have c0 : ∀ (m : Int) w, (Instr.checkKey e 9999 3 (.int .i64 m)).run prog w = .ok () w := fun m w => run_checkKey_int1 (n := 9998) underlying3
    have p1 : ∀ w, (part 3 #[.int .i64 a0, .int .i64 a1] 1).run prog w = .ok (.int .i64 a1) w := fun w => run_part1 isAgg3 rfl
    have c1 : ∀ (m : Int) w, (Instr.checkKey e 9999 3 (.int .i64 m)).run prog w = .ok () w := fun m w => run_checkKey_int1 (n := 9998) underlying3
    simp [kv_lane_sending, E_lane_sending, run_underlying underlying260, p0, c0, p1, c1]
  · obtain ⟨a0, a1⟩ := x
    obtain ⟨b0, b1⟩ := y
    simp [kv_lane_sending, E_lane_sending, Op.equal, Op.maxDepth, go_sem]
    all_goals (repeat' split)
    all_goals first | (simp [*]; done) | grind
  · obtain ⟨a0, a1⟩ := x
    simp [kv_lane_sending, E_lane_sending, Instr.sameBits]
def O_script_reader (hf : Hp) (x : script_reader) (b : Nat) : HProp := fun h => ∃ (A_1 : Option Addr) (c_2 : Nat) (hs_3 : List (Option Addr × Nat × Nat)) (A_5 : Option Addr) (c_6 : Nat) (A_7 : Option Addr) (c_8 : Nat) (A_9 : Option Addr) (c_10 : Nat), spl [Cl b [.slice A_1 hs_3.length c_2, .slice A_5 x.m.Links.length c_6, .slice A_7 x.m.Starts.length c_8, .int .u64 x.m.Seed, .int .i64 x.m.End, .int .i64 x.m.Budget, .int .i64 x.c.Link, .int .i64 x.c.Wait, .int .i64 x.c.Log, .slice A_9 x.picks.length c_10] 95, OSf FSl 72 (.slice A_1 hs_3.length c_2) hs_3, SepL (ORw E_api_Instr 74) x.m.Progs hs_3, OSf E_api_Link 76 (.slice A_5 x.m.Links.length c_6) x.m.Links, OSf E_api_Start 78 (.slice A_7 x.m.Starts.length c_8) x.m.Starts, OSf E_api_Pick 80 (.slice A_9 x.picks.length c_10) x.picks] h
theorem O_script_reader.o {B : Base} {w : World} {l : List HProp} {hf : Hp} {x : script_reader} {b : Nat} (hS : St B w (O_script_reader hf x b :: l) hf) : ∃ (A_1 : Option Addr) (c_2 : Nat) (hs_3 : List (Option Addr × Nat × Nat)) (A_5 : Option Addr) (c_6 : Nat) (A_7 : Option Addr) (c_8 : Nat) (A_9 : Option Addr) (c_10 : Nat), St B w (Cl b [.slice A_1 hs_3.length c_2, .slice A_5 x.m.Links.length c_6, .slice A_7 x.m.Starts.length c_8, .int .u64 x.m.Seed, .int .i64 x.m.End, .int .i64 x.m.Budget, .int .i64 x.c.Link, .int .i64 x.c.Wait, .int .i64 x.c.Log, .slice A_9 x.picks.length c_10] 95 :: OSf FSl 72 (.slice A_1 hs_3.length c_2) hs_3 :: SepL (ORw E_api_Instr 74) x.m.Progs hs_3 :: OSf E_api_Link 76 (.slice A_5 x.m.Links.length c_6) x.m.Links :: OSf E_api_Start 78 (.slice A_7 x.m.Starts.length c_8) x.m.Starts :: OSf E_api_Pick 80 (.slice A_9 x.picks.length c_10) x.picks :: l) hf := by
  obtain ⟨h, ⟨A_1, c_2, hs_3, A_5, c_6, A_7, c_8, A_9, c_10, hsp⟩, hr⟩ := hS.own
  exact ⟨A_1, c_2, hs_3, A_5, c_6, A_7, c_8, A_9, c_10, (St.splO (ps := [Cl b [.slice A_1 hs_3.length c_2, .slice A_5 x.m.Links.length c_6, .slice A_7 x.m.Starts.length c_8, .int .u64 x.m.Seed, .int .i64 x.m.End, .int .i64 x.m.Budget, .int .i64 x.c.Link, .int .i64 x.c.Wait, .int .i64 x.c.Log, .slice A_9 x.picks.length c_10] 95, OSf FSl 72 (.slice A_1 hs_3.length c_2) hs_3, SepL (ORw E_api_Instr 74) x.m.Progs hs_3, OSf E_api_Link 76 (.slice A_5 x.m.Links.length c_6) x.m.Links, OSf E_api_Start 78 (.slice A_7 x.m.Starts.length c_8) x.m.Starts, OSf E_api_Pick 80 (.slice A_9 x.picks.length c_10) x.picks]) ⟨hS.base, hS.sub, h, hsp, hr⟩)⟩
theorem O_script_reader.c {B : Base} {w : World} {l : List HProp} {hf : Hp} {x : script_reader} {b : Nat} {A_1 : Option Addr} {c_2 : Nat} {hs_3 : List (Option Addr × Nat × Nat)} {A_5 : Option Addr} {c_6 : Nat} {A_7 : Option Addr} {c_8 : Nat} {A_9 : Option Addr} {c_10 : Nat}  (hS : St B w (Cl b [.slice A_1 hs_3.length c_2, .slice A_5 x.m.Links.length c_6, .slice A_7 x.m.Starts.length c_8, .int .u64 x.m.Seed, .int .i64 x.m.End, .int .i64 x.m.Budget, .int .i64 x.c.Link, .int .i64 x.c.Wait, .int .i64 x.c.Log, .slice A_9 x.picks.length c_10] 95 :: OSf FSl 72 (.slice A_1 hs_3.length c_2) hs_3 :: SepL (ORw E_api_Instr 74) x.m.Progs hs_3 :: OSf E_api_Link 76 (.slice A_5 x.m.Links.length c_6) x.m.Links :: OSf E_api_Start 78 (.slice A_7 x.m.Starts.length c_8) x.m.Starts :: OSf E_api_Pick 80 (.slice A_9 x.picks.length c_10) x.picks :: l) hf) : St B w (O_script_reader hf x b :: l) hf :=
  (St.splC (ps := [Cl b [.slice A_1 hs_3.length c_2, .slice A_5 x.m.Links.length c_6, .slice A_7 x.m.Starts.length c_8, .int .u64 x.m.Seed, .int .i64 x.m.End, .int .i64 x.m.Budget, .int .i64 x.c.Link, .int .i64 x.c.Wait, .int .i64 x.c.Log, .slice A_9 x.picks.length c_10] 95, OSf FSl 72 (.slice A_1 hs_3.length c_2) hs_3, SepL (ORw E_api_Instr 74) x.m.Progs hs_3, OSf E_api_Link 76 (.slice A_5 x.m.Links.length c_6) x.m.Links, OSf E_api_Start 78 (.slice A_7 x.m.Starts.length c_8) x.m.Starts, OSf E_api_Pick 80 (.slice A_9 x.picks.length c_10) x.picks]) hS).imp fun h e => ⟨A_1, c_2, hs_3, A_5, c_6, A_7, c_8, A_9, c_10, e⟩
theorem O_script_reader.m {hf hf' : Hp} (s : Sub hf hf') {x : script_reader} {b : Nat} : ∀ h, O_script_reader hf x b h → O_script_reader hf' x b h := fun h ⟨A_1, c_2, hs_3, A_5, c_6, A_7, c_8, A_9, c_10, e⟩ => ⟨A_1, c_2, hs_3, A_5, c_6, A_7, c_8, A_9, c_10, spl_imp (PI.c (fun _ a => a) (PI.c (fun _ a => a) (PI.c (fun _ a => a) (PI.c (fun _ a => a) (PI.c (fun _ a => a) (PI.c (fun _ a => a) (PI.n))))))) h e⟩
theorem O_script_reader.l {B : Base} {w : World} {l : List HProp} {hf hf' : Hp} (s : Sub hf hf') {x : script_reader} {b : Nat} (hS : St B w (O_script_reader hf x b :: l) hf') : St B w (O_script_reader hf' x b :: l) hf' := hS.imp (O_script_reader.m s)
def O_log_Log (hf : Hp) (x : log_Log) (b : Nat) : HProp := fun h => ∃ (A_1 : Option Addr) (c_2 : Nat) (A_4 : Option Addr) (c_5 : Nat) (A_7 : Option Addr) (c_8 : Nat) (cs_9 : List Value), SlR E_api_Instr.rep hf A_1 c_2 x.w.Prog ∧ SlR E_api_Link.rep hf A_4 c_5 x.w.Links ∧ RepL R_log_done hf cs_9 x.l ∧ spl [Cl b [.slice A_1 x.w.Prog.length c_2, .int .i64 x.w.Self, .slice A_4 x.w.Links.length c_5, .int .u64 x.w.Seed, .bool x.made, .int .i64 x.state.Regs.c0, .int .i64 x.state.Regs.c1, .int .i64 x.state.Regs.c2, .int .i64 x.state.Regs.c3, .int .i64 x.state.Regs.c4, .int .i64 x.state.Regs.c5, .int .i64 x.state.Regs.c6, .int .i64 x.state.Regs.c7, .int .i64 x.state.Draws, .int .i64 x.state.Sent, .int .i64 x.every, .slice A_7 x.l.length c_8, .bool x.stuck] 252, OSl 390 10 (.slice A_7 x.l.length c_8) x.l.length cs_9] h
theorem O_log_Log.o {B : Base} {w : World} {l : List HProp} {hf : Hp} {x : log_Log} {b : Nat} (hS : St B w (O_log_Log hf x b :: l) hf) : ∃ (A_1 : Option Addr) (c_2 : Nat) (A_4 : Option Addr) (c_5 : Nat) (A_7 : Option Addr) (c_8 : Nat) (cs_9 : List Value), SlR E_api_Instr.rep hf A_1 c_2 x.w.Prog ∧ SlR E_api_Link.rep hf A_4 c_5 x.w.Links ∧ RepL R_log_done hf cs_9 x.l ∧ St B w (Cl b [.slice A_1 x.w.Prog.length c_2, .int .i64 x.w.Self, .slice A_4 x.w.Links.length c_5, .int .u64 x.w.Seed, .bool x.made, .int .i64 x.state.Regs.c0, .int .i64 x.state.Regs.c1, .int .i64 x.state.Regs.c2, .int .i64 x.state.Regs.c3, .int .i64 x.state.Regs.c4, .int .i64 x.state.Regs.c5, .int .i64 x.state.Regs.c6, .int .i64 x.state.Regs.c7, .int .i64 x.state.Draws, .int .i64 x.state.Sent, .int .i64 x.every, .slice A_7 x.l.length c_8, .bool x.stuck] 252 :: OSl 390 10 (.slice A_7 x.l.length c_8) x.l.length cs_9 :: l) hf := by
  obtain ⟨h, ⟨A_1, c_2, A_4, c_5, A_7, c_8, cs_9, hr_3, hr_6, hx_10, hsp⟩, hr⟩ := hS.own
  exact ⟨A_1, c_2, A_4, c_5, A_7, c_8, cs_9, hr_3, hr_6, hx_10, (St.splO (ps := [Cl b [.slice A_1 x.w.Prog.length c_2, .int .i64 x.w.Self, .slice A_4 x.w.Links.length c_5, .int .u64 x.w.Seed, .bool x.made, .int .i64 x.state.Regs.c0, .int .i64 x.state.Regs.c1, .int .i64 x.state.Regs.c2, .int .i64 x.state.Regs.c3, .int .i64 x.state.Regs.c4, .int .i64 x.state.Regs.c5, .int .i64 x.state.Regs.c6, .int .i64 x.state.Regs.c7, .int .i64 x.state.Draws, .int .i64 x.state.Sent, .int .i64 x.every, .slice A_7 x.l.length c_8, .bool x.stuck] 252, OSl 390 10 (.slice A_7 x.l.length c_8) x.l.length cs_9]) ⟨hS.base, hS.sub, h, hsp, hr⟩)⟩
theorem O_log_Log.c {B : Base} {w : World} {l : List HProp} {hf : Hp} {x : log_Log} {b : Nat} {A_1 : Option Addr} {c_2 : Nat} {A_4 : Option Addr} {c_5 : Nat} {A_7 : Option Addr} {c_8 : Nat} {cs_9 : List Value} (hr_3 : SlR E_api_Instr.rep hf A_1 c_2 x.w.Prog) (hr_6 : SlR E_api_Link.rep hf A_4 c_5 x.w.Links) (hx_10 : RepL R_log_done hf cs_9 x.l) (hS : St B w (Cl b [.slice A_1 x.w.Prog.length c_2, .int .i64 x.w.Self, .slice A_4 x.w.Links.length c_5, .int .u64 x.w.Seed, .bool x.made, .int .i64 x.state.Regs.c0, .int .i64 x.state.Regs.c1, .int .i64 x.state.Regs.c2, .int .i64 x.state.Regs.c3, .int .i64 x.state.Regs.c4, .int .i64 x.state.Regs.c5, .int .i64 x.state.Regs.c6, .int .i64 x.state.Regs.c7, .int .i64 x.state.Draws, .int .i64 x.state.Sent, .int .i64 x.every, .slice A_7 x.l.length c_8, .bool x.stuck] 252 :: OSl 390 10 (.slice A_7 x.l.length c_8) x.l.length cs_9 :: l) hf) : St B w (O_log_Log hf x b :: l) hf :=
  (St.splC (ps := [Cl b [.slice A_1 x.w.Prog.length c_2, .int .i64 x.w.Self, .slice A_4 x.w.Links.length c_5, .int .u64 x.w.Seed, .bool x.made, .int .i64 x.state.Regs.c0, .int .i64 x.state.Regs.c1, .int .i64 x.state.Regs.c2, .int .i64 x.state.Regs.c3, .int .i64 x.state.Regs.c4, .int .i64 x.state.Regs.c5, .int .i64 x.state.Regs.c6, .int .i64 x.state.Regs.c7, .int .i64 x.state.Draws, .int .i64 x.state.Sent, .int .i64 x.every, .slice A_7 x.l.length c_8, .bool x.stuck] 252, OSl 390 10 (.slice A_7 x.l.length c_8) x.l.length cs_9]) hS).imp fun h e => ⟨A_1, c_2, A_4, c_5, A_7, c_8, cs_9, hr_3, hr_6, hx_10, e⟩
theorem O_log_Log.m {hf hf' : Hp} (s : Sub hf hf') {x : log_Log} {b : Nat} : ∀ h, O_log_Log hf x b h → O_log_Log hf' x b h := fun h ⟨A_1, c_2, A_4, c_5, A_7, c_8, cs_9, hr_3, hr_6, hx_10, e⟩ => ⟨A_1, c_2, A_4, c_5, A_7, c_8, cs_9, hr_3.mono s, hr_6.mono s, hx_10.mono s, spl_imp (PI.c (fun _ a => a) (PI.c (fun _ a => a) (PI.n))) h e⟩
theorem O_log_Log.l {B : Base} {w : World} {l : List HProp} {hf hf' : Hp} (s : Sub hf hf') {x : log_Log} {b : Nat} (hS : St B w (O_log_Log hf x b :: l) hf') : St B w (O_log_Log hf' x b :: l) hf' := hS.imp (O_log_Log.m s)
structure heap_Heap where
  p_l : (List api_Message)
deriving Inhabited
def O_heap_Heap (hf : Hp) (x : heap_Heap) (b : Nat) : HProp := fun h => ∃ (A_1 : Option Addr) (c_2 : Nat), spl [Cl b [.slice A_1 x.p_l.length c_2, .func (.func 163) #[] #[]] 374, OSf E_api_Message 226 (.slice A_1 x.p_l.length c_2) x.p_l] h
theorem O_heap_Heap.o {B : Base} {w : World} {l : List HProp} {hf : Hp} {x : heap_Heap} {b : Nat} (hS : St B w (O_heap_Heap hf x b :: l) hf) : ∃ (A_1 : Option Addr) (c_2 : Nat), St B w (Cl b [.slice A_1 x.p_l.length c_2, .func (.func 163) #[] #[]] 374 :: OSf E_api_Message 226 (.slice A_1 x.p_l.length c_2) x.p_l :: l) hf := by
  obtain ⟨h, ⟨A_1, c_2, hsp⟩, hr⟩ := hS.own
  exact ⟨A_1, c_2, (St.splO (ps := [Cl b [.slice A_1 x.p_l.length c_2, .func (.func 163) #[] #[]] 374, OSf E_api_Message 226 (.slice A_1 x.p_l.length c_2) x.p_l]) ⟨hS.base, hS.sub, h, hsp, hr⟩)⟩
theorem O_heap_Heap.c {B : Base} {w : World} {l : List HProp} {hf : Hp} {x : heap_Heap} {b : Nat} {A_1 : Option Addr} {c_2 : Nat}  (hS : St B w (Cl b [.slice A_1 x.p_l.length c_2, .func (.func 163) #[] #[]] 374 :: OSf E_api_Message 226 (.slice A_1 x.p_l.length c_2) x.p_l :: l) hf) : St B w (O_heap_Heap hf x b :: l) hf :=
  (St.splC (ps := [Cl b [.slice A_1 x.p_l.length c_2, .func (.func 163) #[] #[]] 374, OSf E_api_Message 226 (.slice A_1 x.p_l.length c_2) x.p_l]) hS).imp fun h e => ⟨A_1, c_2, e⟩
theorem O_heap_Heap.m {hf hf' : Hp} (s : Sub hf hf') {x : heap_Heap} {b : Nat} : ∀ h, O_heap_Heap hf x b h → O_heap_Heap hf' x b h := fun h ⟨A_1, c_2, e⟩ => ⟨A_1, c_2, spl_imp (PI.c (fun _ a => a) (PI.c (fun _ a => a) (PI.n))) h e⟩
theorem O_heap_Heap.l {B : Base} {w : World} {l : List HProp} {hf hf' : Hp} (s : Sub hf hf') {x : heap_Heap} {b : Nat} (hS : St B w (O_heap_Heap hf x b :: l) hf') : St B w (O_heap_Heap hf' x b :: l) hf' := hS.imp (O_heap_Heap.m s)
structure pend_Pend where
  q : heap_Heap
deriving Inhabited
def O_pend_Pend (hf : Hp) (x : pend_Pend) (b : Nat) : HProp := fun h => ∃ (b_1 : Nat), spl [Cl b [.iface 301 (.pointer (some ⟨b_1, 0, none⟩))] 257, O_heap_Heap hf x.q b_1] h
theorem O_pend_Pend.o {B : Base} {w : World} {l : List HProp} {hf : Hp} {x : pend_Pend} {b : Nat} (hS : St B w (O_pend_Pend hf x b :: l) hf) : ∃ (b_1 : Nat), St B w (Cl b [.iface 301 (.pointer (some ⟨b_1, 0, none⟩))] 257 :: O_heap_Heap hf x.q b_1 :: l) hf := by
  obtain ⟨h, ⟨b_1, hsp⟩, hr⟩ := hS.own
  exact ⟨b_1, (St.splO (ps := [Cl b [.iface 301 (.pointer (some ⟨b_1, 0, none⟩))] 257, O_heap_Heap hf x.q b_1]) ⟨hS.base, hS.sub, h, hsp, hr⟩)⟩
theorem O_pend_Pend.c {B : Base} {w : World} {l : List HProp} {hf : Hp} {x : pend_Pend} {b : Nat} {b_1 : Nat}  (hS : St B w (Cl b [.iface 301 (.pointer (some ⟨b_1, 0, none⟩))] 257 :: O_heap_Heap hf x.q b_1 :: l) hf) : St B w (O_pend_Pend hf x b :: l) hf :=
  (St.splC (ps := [Cl b [.iface 301 (.pointer (some ⟨b_1, 0, none⟩))] 257, O_heap_Heap hf x.q b_1]) hS).imp fun h e => ⟨b_1, e⟩
theorem O_pend_Pend.m {hf hf' : Hp} (s : Sub hf hf') {x : pend_Pend} {b : Nat} : ∀ h, O_pend_Pend hf x b h → O_pend_Pend hf' x b h := fun h ⟨b_1, e⟩ => ⟨b_1, spl_imp (PI.c (fun _ a => a) (PI.c (O_heap_Heap.m s) (PI.n))) h e⟩
theorem O_pend_Pend.l {B : Base} {w : World} {l : List HProp} {hf hf' : Hp} (s : Sub hf hf') {x : pend_Pend} {b : Nat} (hS : St B w (O_pend_Pend hf x b :: l) hf') : St B w (O_pend_Pend hf' x b :: l) hf' := hS.imp (O_pend_Pend.m s)
structure lane_Lane where
  m : api_Model
  n : Int
  caps : api_Caps
  ways : (List Int)
  log : log_Log
  wait : pend_Pend
  open_ : (List lane_open)
  orphans : (List api_Message)
  early : List (lane_sending × Int)
  held : List (lane_sending × Bool)
  uid : Int
  setting : api_Setting
  stats : api_Stats
deriving Inhabited
def O_lane_Lane (hf : Hp) (x : lane_Lane) (b : Nat) : HProp := fun h => ∃ (A_1 : Option Addr) (c_2 : Nat) (A_4 : Option Addr) (c_5 : Nat) (A_7 : Option Addr) (c_8 : Nat) (A_10 : Option Addr) (c_11 : Nat) (b_13 : Nat) (b_14 : Nat) (A_15 : Option Addr) (c_16 : Nat) (A_17 : Option Addr) (c_18 : Nat) (b_19 : Nat) (b_20 : Nat), SlR (Rep.sl E_api_Instr.rep) hf A_1 c_2 x.m.Progs ∧ SlR E_api_Link.rep hf A_4 c_5 x.m.Links ∧ SlR E_api_Start.rep hf A_7 c_8 x.m.Starts ∧ SlR ((FI .i64).rep) hf A_10 c_11 x.ways ∧ spl [Cl b [.slice A_1 x.m.Progs.length c_2, .slice A_4 x.m.Links.length c_5, .slice A_7 x.m.Starts.length c_8, .int .u64 x.m.Seed, .int .i64 x.m.End, .int .i64 x.m.Budget, .int .i64 x.n, .int .i64 x.caps.Link, .int .i64 x.caps.Wait, .int .i64 x.caps.Log, .slice A_10 x.ways.length c_11, .pointer (some ⟨b_13, 0, none⟩), .pointer (some ⟨b_14, 0, none⟩), .slice A_15 x.open_.length c_16, .slice A_17 x.orphans.length c_18, .map (some b_19), .map (some b_20), .int .i64 x.uid, .int .i64 x.setting.Mode, .int .i64 x.setting.Every, .int .i64 x.setting.Cancel, .int .i64 x.setting.Reach, .int .i64 x.setting.Queue, .int .i64 x.stats.Done, .int .i64 x.stats.Undone, .int .i64 x.stats.Hits, .int .i64 x.stats.Held] 219, O_log_Log hf x.log b_13, O_pend_Pend hf x.wait b_14, OSf E_lane_open 316 (.slice A_15 x.open_.length c_16) x.open_, OSf E_api_Message 226 (.slice A_17 x.orphans.length c_18) x.orphans, MapF kv_lane_sending (Value.int .i64) b_19 x.early, MapF kv_lane_sending Value.bool b_20 x.held] h
theorem O_lane_Lane.o {B : Base} {w : World} {l : List HProp} {hf : Hp} {x : lane_Lane} {b : Nat} (hS : St B w (O_lane_Lane hf x b :: l) hf) : ∃ (A_1 : Option Addr) (c_2 : Nat) (A_4 : Option Addr) (c_5 : Nat) (A_7 : Option Addr) (c_8 : Nat) (A_10 : Option Addr) (c_11 : Nat) (b_13 : Nat) (b_14 : Nat) (A_15 : Option Addr) (c_16 : Nat) (A_17 : Option Addr) (c_18 : Nat) (b_19 : Nat) (b_20 : Nat), SlR (Rep.sl E_api_Instr.rep) hf A_1 c_2 x.m.Progs ∧ SlR E_api_Link.rep hf A_4 c_5 x.m.Links ∧ SlR E_api_Start.rep hf A_7 c_8 x.m.Starts ∧ SlR ((FI .i64).rep) hf A_10 c_11 x.ways ∧ St B w (Cl b [.slice A_1 x.m.Progs.length c_2, .slice A_4 x.m.Links.length c_5, .slice A_7 x.m.Starts.length c_8, .int .u64 x.m.Seed, .int .i64 x.m.End, .int .i64 x.m.Budget, .int .i64 x.n, .int .i64 x.caps.Link, .int .i64 x.caps.Wait, .int .i64 x.caps.Log, .slice A_10 x.ways.length c_11, .pointer (some ⟨b_13, 0, none⟩), .pointer (some ⟨b_14, 0, none⟩), .slice A_15 x.open_.length c_16, .slice A_17 x.orphans.length c_18, .map (some b_19), .map (some b_20), .int .i64 x.uid, .int .i64 x.setting.Mode, .int .i64 x.setting.Every, .int .i64 x.setting.Cancel, .int .i64 x.setting.Reach, .int .i64 x.setting.Queue, .int .i64 x.stats.Done, .int .i64 x.stats.Undone, .int .i64 x.stats.Hits, .int .i64 x.stats.Held] 219 :: O_log_Log hf x.log b_13 :: O_pend_Pend hf x.wait b_14 :: OSf E_lane_open 316 (.slice A_15 x.open_.length c_16) x.open_ :: OSf E_api_Message 226 (.slice A_17 x.orphans.length c_18) x.orphans :: MapF kv_lane_sending (Value.int .i64) b_19 x.early :: MapF kv_lane_sending Value.bool b_20 x.held :: l) hf := by
  obtain ⟨h, ⟨A_1, c_2, A_4, c_5, A_7, c_8, A_10, c_11, b_13, b_14, A_15, c_16, A_17, c_18, b_19, b_20, hr_3, hr_6, hr_9, hr_12, hsp⟩, hr⟩ := hS.own
  exact ⟨A_1, c_2, A_4, c_5, A_7, c_8, A_10, c_11, b_13, b_14, A_15, c_16, A_17, c_18, b_19, b_20, hr_3, hr_6, hr_9, hr_12, (St.splO (ps := [Cl b [.slice A_1 x.m.Progs.length c_2, .slice A_4 x.m.Links.length c_5, .slice A_7 x.m.Starts.length c_8, .int .u64 x.m.Seed, .int .i64 x.m.End, .int .i64 x.m.Budget, .int .i64 x.n, .int .i64 x.caps.Link, .int .i64 x.caps.Wait, .int .i64 x.caps.Log, .slice A_10 x.ways.length c_11, .pointer (some ⟨b_13, 0, none⟩), .pointer (some ⟨b_14, 0, none⟩), .slice A_15 x.open_.length c_16, .slice A_17 x.orphans.length c_18, .map (some b_19), .map (some b_20), .int .i64 x.uid, .int .i64 x.setting.Mode, .int .i64 x.setting.Every, .int .i64 x.setting.Cancel, .int .i64 x.setting.Reach, .int .i64 x.setting.Queue, .int .i64 x.stats.Done, .int .i64 x.stats.Undone, .int .i64 x.stats.Hits, .int .i64 x.stats.Held] 219, O_log_Log hf x.log b_13, O_pend_Pend hf x.wait b_14, OSf E_lane_open 316 (.slice A_15 x.open_.length c_16) x.open_, OSf E_api_Message 226 (.slice A_17 x.orphans.length c_18) x.orphans, MapF kv_lane_sending (Value.int .i64) b_19 x.early, MapF kv_lane_sending Value.bool b_20 x.held]) ⟨hS.base, hS.sub, h, hsp, hr⟩)⟩
theorem O_lane_Lane.c {B : Base} {w : World} {l : List HProp} {hf : Hp} {x : lane_Lane} {b : Nat} {A_1 : Option Addr} {c_2 : Nat} {A_4 : Option Addr} {c_5 : Nat} {A_7 : Option Addr} {c_8 : Nat} {A_10 : Option Addr} {c_11 : Nat} {b_13 : Nat} {b_14 : Nat} {A_15 : Option Addr} {c_16 : Nat} {A_17 : Option Addr} {c_18 : Nat} {b_19 : Nat} {b_20 : Nat} (hr_3 : SlR (Rep.sl E_api_Instr.rep) hf A_1 c_2 x.m.Progs) (hr_6 : SlR E_api_Link.rep hf A_4 c_5 x.m.Links) (hr_9 : SlR E_api_Start.rep hf A_7 c_8 x.m.Starts) (hr_12 : SlR ((FI .i64).rep) hf A_10 c_11 x.ways) (hS : St B w (Cl b [.slice A_1 x.m.Progs.length c_2, .slice A_4 x.m.Links.length c_5, .slice A_7 x.m.Starts.length c_8, .int .u64 x.m.Seed, .int .i64 x.m.End, .int .i64 x.m.Budget, .int .i64 x.n, .int .i64 x.caps.Link, .int .i64 x.caps.Wait, .int .i64 x.caps.Log, .slice A_10 x.ways.length c_11, .pointer (some ⟨b_13, 0, none⟩), .pointer (some ⟨b_14, 0, none⟩), .slice A_15 x.open_.length c_16, .slice A_17 x.orphans.length c_18, .map (some b_19), .map (some b_20), .int .i64 x.uid, .int .i64 x.setting.Mode, .int .i64 x.setting.Every, .int .i64 x.setting.Cancel, .int .i64 x.setting.Reach, .int .i64 x.setting.Queue, .int .i64 x.stats.Done, .int .i64 x.stats.Undone, .int .i64 x.stats.Hits, .int .i64 x.stats.Held] 219 :: O_log_Log hf x.log b_13 :: O_pend_Pend hf x.wait b_14 :: OSf E_lane_open 316 (.slice A_15 x.open_.length c_16) x.open_ :: OSf E_api_Message 226 (.slice A_17 x.orphans.length c_18) x.orphans :: MapF kv_lane_sending (Value.int .i64) b_19 x.early :: MapF kv_lane_sending Value.bool b_20 x.held :: l) hf) : St B w (O_lane_Lane hf x b :: l) hf :=
  (St.splC (ps := [Cl b [.slice A_1 x.m.Progs.length c_2, .slice A_4 x.m.Links.length c_5, .slice A_7 x.m.Starts.length c_8, .int .u64 x.m.Seed, .int .i64 x.m.End, .int .i64 x.m.Budget, .int .i64 x.n, .int .i64 x.caps.Link, .int .i64 x.caps.Wait, .int .i64 x.caps.Log, .slice A_10 x.ways.length c_11, .pointer (some ⟨b_13, 0, none⟩), .pointer (some ⟨b_14, 0, none⟩), .slice A_15 x.open_.length c_16, .slice A_17 x.orphans.length c_18, .map (some b_19), .map (some b_20), .int .i64 x.uid, .int .i64 x.setting.Mode, .int .i64 x.setting.Every, .int .i64 x.setting.Cancel, .int .i64 x.setting.Reach, .int .i64 x.setting.Queue, .int .i64 x.stats.Done, .int .i64 x.stats.Undone, .int .i64 x.stats.Hits, .int .i64 x.stats.Held] 219, O_log_Log hf x.log b_13, O_pend_Pend hf x.wait b_14, OSf E_lane_open 316 (.slice A_15 x.open_.length c_16) x.open_, OSf E_api_Message 226 (.slice A_17 x.orphans.length c_18) x.orphans, MapF kv_lane_sending (Value.int .i64) b_19 x.early, MapF kv_lane_sending Value.bool b_20 x.held]) hS).imp fun h e => ⟨A_1, c_2, A_4, c_5, A_7, c_8, A_10, c_11, b_13, b_14, A_15, c_16, A_17, c_18, b_19, b_20, hr_3, hr_6, hr_9, hr_12, e⟩
theorem O_lane_Lane.m {hf hf' : Hp} (s : Sub hf hf') {x : lane_Lane} {b : Nat} : ∀ h, O_lane_Lane hf x b h → O_lane_Lane hf' x b h := fun h ⟨A_1, c_2, A_4, c_5, A_7, c_8, A_10, c_11, b_13, b_14, A_15, c_16, A_17, c_18, b_19, b_20, hr_3, hr_6, hr_9, hr_12, e⟩ => ⟨A_1, c_2, A_4, c_5, A_7, c_8, A_10, c_11, b_13, b_14, A_15, c_16, A_17, c_18, b_19, b_20, hr_3.mono s, hr_6.mono s, hr_9.mono s, hr_12.mono s, spl_imp (PI.c (fun _ a => a) (PI.c (O_log_Log.m s) (PI.c (O_pend_Pend.m s) (PI.c (fun _ a => a) (PI.c (fun _ a => a) (PI.c (fun _ a => a) (PI.c (fun _ a => a) (PI.n)))))))) h e⟩
theorem O_lane_Lane.l {B : Base} {w : World} {l : List HProp} {hf hf' : Hp} (s : Sub hf hf') {x : lane_Lane} {b : Nat} (hS : St B w (O_lane_Lane hf x b :: l) hf') : St B w (O_lane_Lane hf' x b :: l) hf' := hS.imp (O_lane_Lane.m s)
def O_colour_Tally (hf : Hp) (x : colour_Tally) (b : Nat) : HProp := fun h => spl [Cl b [.bool x.made, .int .i64 x.colour, .int .i64 x.net.c0, .int .i64 x.net.c1, .int .i64 x.least] 230] h
theorem O_colour_Tally.o {B : Base} {w : World} {l : List HProp} {hf : Hp} {x : colour_Tally} {b : Nat} (hS : St B w (O_colour_Tally hf x b :: l) hf) : St B w (Cl b [.bool x.made, .int .i64 x.colour, .int .i64 x.net.c0, .int .i64 x.net.c1, .int .i64 x.least] 230 :: l) hf := by
  obtain ⟨h, hsp, hr⟩ := hS.own
  exact (St.splO (ps := [Cl b [.bool x.made, .int .i64 x.colour, .int .i64 x.net.c0, .int .i64 x.net.c1, .int .i64 x.least] 230]) ⟨hS.base, hS.sub, h, hsp, hr⟩)
theorem O_colour_Tally.c {B : Base} {w : World} {l : List HProp} {hf : Hp} {x : colour_Tally} {b : Nat}   (hS : St B w (Cl b [.bool x.made, .int .i64 x.colour, .int .i64 x.net.c0, .int .i64 x.net.c1, .int .i64 x.least] 230 :: l) hf) : St B w (O_colour_Tally hf x b :: l) hf :=
  (St.splC (ps := [Cl b [.bool x.made, .int .i64 x.colour, .int .i64 x.net.c0, .int .i64 x.net.c1, .int .i64 x.least] 230]) hS).imp fun h e => e
theorem O_colour_Tally.m {hf hf' : Hp} (s : Sub hf hf') {x : colour_Tally} {b : Nat} : ∀ h, O_colour_Tally hf x b h → O_colour_Tally hf' x b h := fun h e => spl_imp (PI.c (fun _ a => a) (PI.n)) h e
theorem O_colour_Tally.l {B : Base} {w : World} {l : List HProp} {hf hf' : Hp} (s : Sub hf hf') {x : colour_Tally} {b : Nat} (hS : St B w (O_colour_Tally hf x b :: l) hf') : St B w (O_colour_Tally hf' x b :: l) hf' := hS.imp (O_colour_Tally.m s)
def O_clock_Clocks (hf : Hp) (x : clock_Clocks) (b : Nat) : HProp := fun h => ∃ (A_1 : Option Addr) (c_2 : Nat), spl [Cl b [.bool x.made, .slice A_1 x.t.length c_2] 234, OSf (FI .i64) 2 (.slice A_1 x.t.length c_2) x.t] h
theorem O_clock_Clocks.o {B : Base} {w : World} {l : List HProp} {hf : Hp} {x : clock_Clocks} {b : Nat} (hS : St B w (O_clock_Clocks hf x b :: l) hf) : ∃ (A_1 : Option Addr) (c_2 : Nat), St B w (Cl b [.bool x.made, .slice A_1 x.t.length c_2] 234 :: OSf (FI .i64) 2 (.slice A_1 x.t.length c_2) x.t :: l) hf := by
  obtain ⟨h, ⟨A_1, c_2, hsp⟩, hr⟩ := hS.own
  exact ⟨A_1, c_2, (St.splO (ps := [Cl b [.bool x.made, .slice A_1 x.t.length c_2] 234, OSf (FI .i64) 2 (.slice A_1 x.t.length c_2) x.t]) ⟨hS.base, hS.sub, h, hsp, hr⟩)⟩
theorem O_clock_Clocks.c {B : Base} {w : World} {l : List HProp} {hf : Hp} {x : clock_Clocks} {b : Nat} {A_1 : Option Addr} {c_2 : Nat}  (hS : St B w (Cl b [.bool x.made, .slice A_1 x.t.length c_2] 234 :: OSf (FI .i64) 2 (.slice A_1 x.t.length c_2) x.t :: l) hf) : St B w (O_clock_Clocks hf x b :: l) hf :=
  (St.splC (ps := [Cl b [.bool x.made, .slice A_1 x.t.length c_2] 234, OSf (FI .i64) 2 (.slice A_1 x.t.length c_2) x.t]) hS).imp fun h e => ⟨A_1, c_2, e⟩
theorem O_clock_Clocks.m {hf hf' : Hp} (s : Sub hf hf') {x : clock_Clocks} {b : Nat} : ∀ h, O_clock_Clocks hf x b h → O_clock_Clocks hf' x b h := fun h ⟨A_1, c_2, e⟩ => ⟨A_1, c_2, spl_imp (PI.c (fun _ a => a) (PI.c (fun _ a => a) (PI.n))) h e⟩
theorem O_clock_Clocks.l {B : Base} {w : World} {l : List HProp} {hf hf' : Hp} (s : Sub hf hf') {x : clock_Clocks} {b : Nat} (hS : St B w (O_clock_Clocks hf x b :: l) hf') : St B w (O_clock_Clocks hf' x b :: l) hf' := hS.imp (O_clock_Clocks.m s)
structure kernel_place where
  Lane : lane_Lane
  tally : colour_Tally
  clocks : clock_Clocks
  ways : (List Int)
  into : List (Int × Int)
deriving Inhabited
def O_kernel_place (hf : Hp) (x : kernel_place) (b : Nat) : HProp := fun h => ∃ (b_1 : Nat) (b_2 : Nat) (b_3 : Nat) (A_4 : Option Addr) (c_5 : Nat) (b_7 : Nat), SlR ((FI .i64).rep) hf A_4 c_5 x.ways ∧ spl [Cl b [.pointer (some ⟨b_1, 0, none⟩), .pointer (some ⟨b_2, 0, none⟩), .pointer (some ⟨b_3, 0, none⟩), .slice A_4 x.ways.length c_5, .map (some b_7)] 176, O_lane_Lane hf x.Lane b_1, O_colour_Tally hf x.tally b_2, O_clock_Clocks hf x.clocks b_3, MapF (Value.int .i64) (Value.int .i64) b_7 x.into] h
theorem O_kernel_place.o {B : Base} {w : World} {l : List HProp} {hf : Hp} {x : kernel_place} {b : Nat} (hS : St B w (O_kernel_place hf x b :: l) hf) : ∃ (b_1 : Nat) (b_2 : Nat) (b_3 : Nat) (A_4 : Option Addr) (c_5 : Nat) (b_7 : Nat), SlR ((FI .i64).rep) hf A_4 c_5 x.ways ∧ St B w (Cl b [.pointer (some ⟨b_1, 0, none⟩), .pointer (some ⟨b_2, 0, none⟩), .pointer (some ⟨b_3, 0, none⟩), .slice A_4 x.ways.length c_5, .map (some b_7)] 176 :: O_lane_Lane hf x.Lane b_1 :: O_colour_Tally hf x.tally b_2 :: O_clock_Clocks hf x.clocks b_3 :: MapF (Value.int .i64) (Value.int .i64) b_7 x.into :: l) hf := by
  obtain ⟨h, ⟨b_1, b_2, b_3, A_4, c_5, b_7, hr_6, hsp⟩, hr⟩ := hS.own
  exact ⟨b_1, b_2, b_3, A_4, c_5, b_7, hr_6, (St.splO (ps := [Cl b [.pointer (some ⟨b_1, 0, none⟩), .pointer (some ⟨b_2, 0, none⟩), .pointer (some ⟨b_3, 0, none⟩), .slice A_4 x.ways.length c_5, .map (some b_7)] 176, O_lane_Lane hf x.Lane b_1, O_colour_Tally hf x.tally b_2, O_clock_Clocks hf x.clocks b_3, MapF (Value.int .i64) (Value.int .i64) b_7 x.into]) ⟨hS.base, hS.sub, h, hsp, hr⟩)⟩
theorem O_kernel_place.c {B : Base} {w : World} {l : List HProp} {hf : Hp} {x : kernel_place} {b : Nat} {b_1 : Nat} {b_2 : Nat} {b_3 : Nat} {A_4 : Option Addr} {c_5 : Nat} {b_7 : Nat} (hr_6 : SlR ((FI .i64).rep) hf A_4 c_5 x.ways) (hS : St B w (Cl b [.pointer (some ⟨b_1, 0, none⟩), .pointer (some ⟨b_2, 0, none⟩), .pointer (some ⟨b_3, 0, none⟩), .slice A_4 x.ways.length c_5, .map (some b_7)] 176 :: O_lane_Lane hf x.Lane b_1 :: O_colour_Tally hf x.tally b_2 :: O_clock_Clocks hf x.clocks b_3 :: MapF (Value.int .i64) (Value.int .i64) b_7 x.into :: l) hf) : St B w (O_kernel_place hf x b :: l) hf :=
  (St.splC (ps := [Cl b [.pointer (some ⟨b_1, 0, none⟩), .pointer (some ⟨b_2, 0, none⟩), .pointer (some ⟨b_3, 0, none⟩), .slice A_4 x.ways.length c_5, .map (some b_7)] 176, O_lane_Lane hf x.Lane b_1, O_colour_Tally hf x.tally b_2, O_clock_Clocks hf x.clocks b_3, MapF (Value.int .i64) (Value.int .i64) b_7 x.into]) hS).imp fun h e => ⟨b_1, b_2, b_3, A_4, c_5, b_7, hr_6, e⟩
theorem O_kernel_place.m {hf hf' : Hp} (s : Sub hf hf') {x : kernel_place} {b : Nat} : ∀ h, O_kernel_place hf x b h → O_kernel_place hf' x b h := fun h ⟨b_1, b_2, b_3, A_4, c_5, b_7, hr_6, e⟩ => ⟨b_1, b_2, b_3, A_4, c_5, b_7, hr_6.mono s, spl_imp (PI.c (fun _ a => a) (PI.c (O_lane_Lane.m s) (PI.c (O_colour_Tally.m s) (PI.c (O_clock_Clocks.m s) (PI.c (fun _ a => a) (PI.n)))))) h e⟩
theorem O_kernel_place.l {B : Base} {w : World} {l : List HProp} {hf hf' : Hp} (s : Sub hf hf') {x : kernel_place} {b : Nat} (hS : St B w (O_kernel_place hf x b :: l) hf') : St B w (O_kernel_place hf' x b :: l) hf' := hS.imp (O_kernel_place.m s)
def O_link_Way (hf : Hp) (x : link_Way) (b : Nat) : HProp := fun h => ∃ (A_1 : Option Addr) (c_2 : Nat), spl [Cl b [.int .i64 x.link.From, .int .i64 x.link.To, .int .i64 x.link.Look, .bool x.link.Loose, .int .i64 x.most, .slice A_1 x.l.length c_2] 237, OSf E_api_Parcel 270 (.slice A_1 x.l.length c_2) x.l] h
theorem O_link_Way.o {B : Base} {w : World} {l : List HProp} {hf : Hp} {x : link_Way} {b : Nat} (hS : St B w (O_link_Way hf x b :: l) hf) : ∃ (A_1 : Option Addr) (c_2 : Nat), St B w (Cl b [.int .i64 x.link.From, .int .i64 x.link.To, .int .i64 x.link.Look, .bool x.link.Loose, .int .i64 x.most, .slice A_1 x.l.length c_2] 237 :: OSf E_api_Parcel 270 (.slice A_1 x.l.length c_2) x.l :: l) hf := by
  obtain ⟨h, ⟨A_1, c_2, hsp⟩, hr⟩ := hS.own
  exact ⟨A_1, c_2, (St.splO (ps := [Cl b [.int .i64 x.link.From, .int .i64 x.link.To, .int .i64 x.link.Look, .bool x.link.Loose, .int .i64 x.most, .slice A_1 x.l.length c_2] 237, OSf E_api_Parcel 270 (.slice A_1 x.l.length c_2) x.l]) ⟨hS.base, hS.sub, h, hsp, hr⟩)⟩
theorem O_link_Way.c {B : Base} {w : World} {l : List HProp} {hf : Hp} {x : link_Way} {b : Nat} {A_1 : Option Addr} {c_2 : Nat}  (hS : St B w (Cl b [.int .i64 x.link.From, .int .i64 x.link.To, .int .i64 x.link.Look, .bool x.link.Loose, .int .i64 x.most, .slice A_1 x.l.length c_2] 237 :: OSf E_api_Parcel 270 (.slice A_1 x.l.length c_2) x.l :: l) hf) : St B w (O_link_Way hf x b :: l) hf :=
  (St.splC (ps := [Cl b [.int .i64 x.link.From, .int .i64 x.link.To, .int .i64 x.link.Look, .bool x.link.Loose, .int .i64 x.most, .slice A_1 x.l.length c_2] 237, OSf E_api_Parcel 270 (.slice A_1 x.l.length c_2) x.l]) hS).imp fun h e => ⟨A_1, c_2, e⟩
theorem O_link_Way.m {hf hf' : Hp} (s : Sub hf hf') {x : link_Way} {b : Nat} : ∀ h, O_link_Way hf x b h → O_link_Way hf' x b h := fun h ⟨A_1, c_2, e⟩ => ⟨A_1, c_2, spl_imp (PI.c (fun _ a => a) (PI.c (fun _ a => a) (PI.n))) h e⟩
theorem O_link_Way.l {B : Base} {w : World} {l : List HProp} {hf hf' : Hp} (s : Sub hf hf') {x : link_Way} {b : Nat} (hS : St B w (O_link_Way hf x b :: l) hf') : St B w (O_link_Way hf' x b :: l) hf' := hS.imp (O_link_Way.m s)
def O_colour_Token (hf : Hp) (x : colour_Token) (b : Nat) : HProp := fun h => spl [Cl b [.int .i64 x.n, .int .i64 x.at_, .bool x.counting, .int .i64 x.sum, .int .i64 x.least] 239] h
theorem O_colour_Token.o {B : Base} {w : World} {l : List HProp} {hf : Hp} {x : colour_Token} {b : Nat} (hS : St B w (O_colour_Token hf x b :: l) hf) : St B w (Cl b [.int .i64 x.n, .int .i64 x.at_, .bool x.counting, .int .i64 x.sum, .int .i64 x.least] 239 :: l) hf := by
  obtain ⟨h, hsp, hr⟩ := hS.own
  exact (St.splO (ps := [Cl b [.int .i64 x.n, .int .i64 x.at_, .bool x.counting, .int .i64 x.sum, .int .i64 x.least] 239]) ⟨hS.base, hS.sub, h, hsp, hr⟩)
theorem O_colour_Token.c {B : Base} {w : World} {l : List HProp} {hf : Hp} {x : colour_Token} {b : Nat}   (hS : St B w (Cl b [.int .i64 x.n, .int .i64 x.at_, .bool x.counting, .int .i64 x.sum, .int .i64 x.least] 239 :: l) hf) : St B w (O_colour_Token hf x b :: l) hf :=
  (St.splC (ps := [Cl b [.int .i64 x.n, .int .i64 x.at_, .bool x.counting, .int .i64 x.sum, .int .i64 x.least] 239]) hS).imp fun h e => e
theorem O_colour_Token.m {hf hf' : Hp} (s : Sub hf hf') {x : colour_Token} {b : Nat} : ∀ h, O_colour_Token hf x b h → O_colour_Token hf' x b h := fun h e => spl_imp (PI.c (fun _ a => a) (PI.n)) h e
theorem O_colour_Token.l {B : Base} {w : World} {l : List HProp} {hf hf' : Hp} (s : Sub hf hf') {x : colour_Token} {b : Nat} (hS : St B w (O_colour_Token hf x b :: l) hf') : St B w (O_colour_Token hf' x b :: l) hf' := hS.imp (O_colour_Token.m s)
structure kernel_Kernel where
  m : api_Model
  at_ : (List kernel_place)
  ways : (List link_Way)
  token : colour_Token
  global : Int
  window : Int
  width : Int
  history : (List api_Done)
  stop : Int
deriving Inhabited
def O_kernel_Kernel (hf : Hp) (x : kernel_Kernel) (b : Nat) : HProp := fun h => ∃ (A_1 : Option Addr) (c_2 : Nat) (A_4 : Option Addr) (c_5 : Nat) (A_7 : Option Addr) (c_8 : Nat) (A_10 : Option Addr) (c_11 : Nat) (bs_12 : List Nat) (A_14 : Option Addr) (c_15 : Nat) (bs_16 : List Nat) (b_18 : Nat) (A_19 : Option Addr) (c_20 : Nat), SlR (Rep.sl E_api_Instr.rep) hf A_1 c_2 x.m.Progs ∧ SlR E_api_Link.rep hf A_4 c_5 x.m.Links ∧ SlR E_api_Start.rep hf A_7 c_8 x.m.Starts ∧ spl [Cl b [.slice A_1 x.m.Progs.length c_2, .slice A_4 x.m.Links.length c_5, .slice A_7 x.m.Starts.length c_8, .int .u64 x.m.Seed, .int .i64 x.m.End, .int .i64 x.m.Budget, .slice A_10 bs_12.length c_11, .slice A_14 bs_16.length c_15, .pointer (some ⟨b_18, 0, none⟩), .int .i64 x.global, .int .i64 x.window, .int .i64 x.width, .slice A_19 x.history.length c_20, .int .i64 x.stop] 135, OSf FP 169 (.slice A_10 bs_12.length c_11) bs_12, SepL (O_kernel_place hf) x.at_ bs_12, OSf FP 179 (.slice A_14 bs_16.length c_15) bs_16, SepL (O_link_Way hf) x.ways bs_16, O_colour_Token hf x.token b_18, OSf E_api_Done 61 (.slice A_19 x.history.length c_20) x.history] h
theorem O_kernel_Kernel.o {B : Base} {w : World} {l : List HProp} {hf : Hp} {x : kernel_Kernel} {b : Nat} (hS : St B w (O_kernel_Kernel hf x b :: l) hf) : ∃ (A_1 : Option Addr) (c_2 : Nat) (A_4 : Option Addr) (c_5 : Nat) (A_7 : Option Addr) (c_8 : Nat) (A_10 : Option Addr) (c_11 : Nat) (bs_12 : List Nat) (A_14 : Option Addr) (c_15 : Nat) (bs_16 : List Nat) (b_18 : Nat) (A_19 : Option Addr) (c_20 : Nat), SlR (Rep.sl E_api_Instr.rep) hf A_1 c_2 x.m.Progs ∧ SlR E_api_Link.rep hf A_4 c_5 x.m.Links ∧ SlR E_api_Start.rep hf A_7 c_8 x.m.Starts ∧ St B w (Cl b [.slice A_1 x.m.Progs.length c_2, .slice A_4 x.m.Links.length c_5, .slice A_7 x.m.Starts.length c_8, .int .u64 x.m.Seed, .int .i64 x.m.End, .int .i64 x.m.Budget, .slice A_10 bs_12.length c_11, .slice A_14 bs_16.length c_15, .pointer (some ⟨b_18, 0, none⟩), .int .i64 x.global, .int .i64 x.window, .int .i64 x.width, .slice A_19 x.history.length c_20, .int .i64 x.stop] 135 :: OSf FP 169 (.slice A_10 bs_12.length c_11) bs_12 :: SepL (O_kernel_place hf) x.at_ bs_12 :: OSf FP 179 (.slice A_14 bs_16.length c_15) bs_16 :: SepL (O_link_Way hf) x.ways bs_16 :: O_colour_Token hf x.token b_18 :: OSf E_api_Done 61 (.slice A_19 x.history.length c_20) x.history :: l) hf := by
  obtain ⟨h, ⟨A_1, c_2, A_4, c_5, A_7, c_8, A_10, c_11, bs_12, A_14, c_15, bs_16, b_18, A_19, c_20, hr_3, hr_6, hr_9, hsp⟩, hr⟩ := hS.own
  exact ⟨A_1, c_2, A_4, c_5, A_7, c_8, A_10, c_11, bs_12, A_14, c_15, bs_16, b_18, A_19, c_20, hr_3, hr_6, hr_9, (St.splO (ps := [Cl b [.slice A_1 x.m.Progs.length c_2, .slice A_4 x.m.Links.length c_5, .slice A_7 x.m.Starts.length c_8, .int .u64 x.m.Seed, .int .i64 x.m.End, .int .i64 x.m.Budget, .slice A_10 bs_12.length c_11, .slice A_14 bs_16.length c_15, .pointer (some ⟨b_18, 0, none⟩), .int .i64 x.global, .int .i64 x.window, .int .i64 x.width, .slice A_19 x.history.length c_20, .int .i64 x.stop] 135, OSf FP 169 (.slice A_10 bs_12.length c_11) bs_12, SepL (O_kernel_place hf) x.at_ bs_12, OSf FP 179 (.slice A_14 bs_16.length c_15) bs_16, SepL (O_link_Way hf) x.ways bs_16, O_colour_Token hf x.token b_18, OSf E_api_Done 61 (.slice A_19 x.history.length c_20) x.history]) ⟨hS.base, hS.sub, h, hsp, hr⟩)⟩
theorem O_kernel_Kernel.c {B : Base} {w : World} {l : List HProp} {hf : Hp} {x : kernel_Kernel} {b : Nat} {A_1 : Option Addr} {c_2 : Nat} {A_4 : Option Addr} {c_5 : Nat} {A_7 : Option Addr} {c_8 : Nat} {A_10 : Option Addr} {c_11 : Nat} {bs_12 : List Nat} {A_14 : Option Addr} {c_15 : Nat} {bs_16 : List Nat} {b_18 : Nat} {A_19 : Option Addr} {c_20 : Nat} (hr_3 : SlR (Rep.sl E_api_Instr.rep) hf A_1 c_2 x.m.Progs) (hr_6 : SlR E_api_Link.rep hf A_4 c_5 x.m.Links) (hr_9 : SlR E_api_Start.rep hf A_7 c_8 x.m.Starts) (hS : St B w (Cl b [.slice A_1 x.m.Progs.length c_2, .slice A_4 x.m.Links.length c_5, .slice A_7 x.m.Starts.length c_8, .int .u64 x.m.Seed, .int .i64 x.m.End, .int .i64 x.m.Budget, .slice A_10 bs_12.length c_11, .slice A_14 bs_16.length c_15, .pointer (some ⟨b_18, 0, none⟩), .int .i64 x.global, .int .i64 x.window, .int .i64 x.width, .slice A_19 x.history.length c_20, .int .i64 x.stop] 135 :: OSf FP 169 (.slice A_10 bs_12.length c_11) bs_12 :: SepL (O_kernel_place hf) x.at_ bs_12 :: OSf FP 179 (.slice A_14 bs_16.length c_15) bs_16 :: SepL (O_link_Way hf) x.ways bs_16 :: O_colour_Token hf x.token b_18 :: OSf E_api_Done 61 (.slice A_19 x.history.length c_20) x.history :: l) hf) : St B w (O_kernel_Kernel hf x b :: l) hf :=
  (St.splC (ps := [Cl b [.slice A_1 x.m.Progs.length c_2, .slice A_4 x.m.Links.length c_5, .slice A_7 x.m.Starts.length c_8, .int .u64 x.m.Seed, .int .i64 x.m.End, .int .i64 x.m.Budget, .slice A_10 bs_12.length c_11, .slice A_14 bs_16.length c_15, .pointer (some ⟨b_18, 0, none⟩), .int .i64 x.global, .int .i64 x.window, .int .i64 x.width, .slice A_19 x.history.length c_20, .int .i64 x.stop] 135, OSf FP 169 (.slice A_10 bs_12.length c_11) bs_12, SepL (O_kernel_place hf) x.at_ bs_12, OSf FP 179 (.slice A_14 bs_16.length c_15) bs_16, SepL (O_link_Way hf) x.ways bs_16, O_colour_Token hf x.token b_18, OSf E_api_Done 61 (.slice A_19 x.history.length c_20) x.history]) hS).imp fun h e => ⟨A_1, c_2, A_4, c_5, A_7, c_8, A_10, c_11, bs_12, A_14, c_15, bs_16, b_18, A_19, c_20, hr_3, hr_6, hr_9, e⟩
theorem O_kernel_Kernel.m {hf hf' : Hp} (s : Sub hf hf') {x : kernel_Kernel} {b : Nat} : ∀ h, O_kernel_Kernel hf x b h → O_kernel_Kernel hf' x b h := fun h ⟨A_1, c_2, A_4, c_5, A_7, c_8, A_10, c_11, bs_12, A_14, c_15, bs_16, b_18, A_19, c_20, hr_3, hr_6, hr_9, e⟩ => ⟨A_1, c_2, A_4, c_5, A_7, c_8, A_10, c_11, bs_12, A_14, c_15, bs_16, b_18, A_19, c_20, hr_3.mono s, hr_6.mono s, hr_9.mono s, spl_imp (PI.c (fun _ a => a) (PI.c (fun _ a => a) (PI.c (fun _ a => SepL.m (fun _ _ => O_kernel_place.m s) a) (PI.c (fun _ a => a) (PI.c (fun _ a => SepL.m (fun _ _ => O_link_Way.m s) a) (PI.c (O_colour_Token.m s) (PI.c (fun _ a => a) (PI.n)))))))) h e⟩
theorem O_kernel_Kernel.l {B : Base} {w : World} {l : List HProp} {hf hf' : Hp} (s : Sub hf hf') {x : kernel_Kernel} {b : Nat} (hS : St B w (O_kernel_Kernel hf x b :: l) hf') : St B w (O_kernel_Kernel hf' x b :: l) hf' := hS.imp (O_kernel_Kernel.m s)
def tb : List (Nat × Ti) := [(2, ⟨false, 1, [], [], .int .i64⟩),
  (3, ⟨false, 1, [], [.int .i64 0], .no⟩),
  (4, ⟨false, 1, [], [], .no⟩),
  (5, ⟨false, 1, [], [], .int .u8⟩),
  (9, ⟨false, 1, [], [], .str⟩),
  (22, ⟨false, 1, [], [], .sl⟩),
  (23, ⟨false, 1, [], [], .sl⟩),
  (25, ⟨true, 3, [(0, 1), (1, 1), (2, 1)], [.slice none 0 0, .slice none 0 0, .int .i64 0], .no⟩),
  (29, ⟨false, 1, [], [], .sl⟩),
  (30, ⟨false, 1, [], [], .sl⟩),
  (31, ⟨false, 1, [], [], .sl⟩),
  (32, ⟨false, 1, [], [], .int .u64⟩),
  (34, ⟨true, 6, [(0, 1), (1, 1), (2, 1), (3, 1), (4, 1), (5, 1)], [.slice none 0 0, .slice none 0 0, .slice none 0 0, .int .u64 0, .int .i64 0, .int .i64 0], .no⟩),
  (36, ⟨true, 3, [(0, 1), (1, 1), (2, 1)], [.int .i64 0, .int .i64 0, .int .i64 0], .no⟩),
  (37, ⟨false, 1, [], [], .sl⟩),
  (38, ⟨false, 1, [], [], .int .i64⟩),
  (51, ⟨false, 1, [], [], .sl⟩),
  (53, ⟨false, 1, [], [], .no⟩),
  (59, ⟨true, 3, [(0, 1), (1, 1), (2, 1)], [.int .i64 0, .int .i64 0, .int .i64 0], .no⟩),
  (61, ⟨true, 5, [(0, 3), (3, 1), (4, 1)], [.int .i64 0, .int .i64 0, .int .i64 0, .int .i64 0, .int .i64 0], .no⟩),
  (64, ⟨true, 10, [(0, 8), (8, 1), (9, 1)], [.int .i64 0, .int .i64 0, .int .i64 0, .int .i64 0, .int .i64 0, .int .i64 0, .int .i64 0, .int .i64 0, .int .i64 0, .int .i64 0], .no⟩),
  (70, ⟨true, 3, [(0, 2), (2, 1)], [.pointer none, .slice none 0 0, .bool false], .no⟩),
  (72, ⟨false, 1, [], [], .sl⟩),
  (74, ⟨true, 4, [(0, 1), (1, 1), (2, 1), (3, 1)], [.int .i64 0, .int .i64 0, .int .i64 0, .int .i64 0], .no⟩),
  (76, ⟨true, 4, [(0, 1), (1, 1), (2, 1), (3, 1)], [.int .i64 0, .int .i64 0, .int .i64 0, .bool false], .no⟩),
  (78, ⟨true, 3, [(0, 1), (1, 1), (2, 1)], [.int .i64 0, .int .i64 0, .int .i64 0], .no⟩),
  (80, ⟨true, 3, [(0, 1), (1, 1), (2, 1)], [.int .i64 0, .int .i64 0, .int .i64 0], .no⟩),
  (84, ⟨true, 2, [(0, 1), (1, 1)], [.string lit_, .int .i64 0], .no⟩),
  (89, ⟨false, 1, [], [.pointer none], .ok⟩),
  (91, ⟨false, 1, [], [], .ok⟩),
  (93, ⟨true, 2, [(0, 1), (1, 1)], [.int .i64 0, .int .i64 0], .no⟩),
  (95, ⟨true, 10, [(0, 6), (6, 3), (9, 1)], [.slice none 0 0, .slice none 0 0, .slice none 0 0, .int .u64 0, .int .i64 0, .int .i64 0, .int .i64 0, .int .i64 0, .int .i64 0, .slice none 0 0], .no⟩),
  (100, ⟨false, 1, [], [], .sl⟩),
  (101, ⟨false, 1, [], [], .sl⟩),
  (110, ⟨true, 3, [], [.pointer none, .pointer none, .int .u64 0], .no⟩),
  (131, ⟨false, 1, [], [], .no⟩),
  (132, ⟨false, 1, [], [], .no⟩),
  (133, ⟨false, 1, [], [], .no⟩),
  (135, ⟨true, 14, [(0, 6), (6, 1), (7, 1), (8, 1), (9, 1), (10, 1), (11, 1), (12, 1), (13, 1)], [.slice none 0 0, .slice none 0 0, .slice none 0 0, .int .u64 0, .int .i64 0, .int .i64 0, .slice none 0 0, .slice none 0 0, .pointer none, .int .i64 0, .int .i64 0, .int .i64 0, .slice none 0 0, .int .i64 0], .no⟩),
  (155, ⟨false, 1, [], [], .sl⟩),
  (166, ⟨false, 1, [], [], .no⟩),
  (170, ⟨false, 1, [], [], .no⟩),
  (173, ⟨false, 1, [], [], .no⟩),
  (174, ⟨false, 1, [], [], .no⟩),
  (176, ⟨true, 5, [(0, 1), (1, 1), (2, 1), (3, 1), (4, 1)], [.pointer none, .pointer none, .pointer none, .slice none 0 0, .map none], .no⟩),
  (194, ⟨false, 1, [], [], .no⟩),
  (196, ⟨true, 1, [(0, 1)], [.nilFunc], .no⟩),
  (197, ⟨true, 4, [], [.nilFunc, .nilFunc, .nilFunc, .nilFunc], .no⟩),
  (200, ⟨true, 2, [(0, 1), (1, 1)], [.int .i64 0, .int .i64 0], .ok⟩),
  (201, ⟨false, 1, [], [], .ok⟩),
  (204, ⟨true, 4, [(0, 1), (1, 1), (2, 1), (3, 1)], [.slice none 0 0, .int .i64 0, .slice none 0 0, .int .u64 0], .no⟩),
  (208, ⟨false, 1, [], [], .no⟩),
  (210, ⟨true, 5, [(0, 1), (1, 1), (2, 1), (3, 1), (4, 1)], [.int .i64 0, .int .i64 0, .int .i64 0, .int .i64 0, .int .i64 0], .no⟩),
  (212, ⟨false, 1, [], [], .no⟩),
  (213, ⟨false, 1, [], [], .no⟩),
  (214, ⟨false, 1, [], [], .sl⟩),
  (215, ⟨false, 1, [], [], .sl⟩),
  (219, ⟨true, 27, [(0, 6), (6, 1), (7, 3), (10, 1), (11, 1), (12, 1), (13, 1), (14, 1), (15, 1), (16, 1), (17, 1), (18, 5), (23, 4)], [.slice none 0 0, .slice none 0 0, .slice none 0 0, .int .u64 0, .int .i64 0, .int .i64 0, .int .i64 0, .int .i64 0, .int .i64 0, .int .i64 0, .slice none 0 0, .pointer none, .pointer none, .slice none 0 0, .slice none 0 0, .map none, .map none, .int .i64 0, .int .i64 0, .int .i64 0, .int .i64 0, .int .i64 0, .int .i64 0, .int .i64 0, .int .i64 0, .int .i64 0, .int .i64 0], .no⟩),
  (226, ⟨true, 7, [(0, 3), (3, 1), (4, 1), (5, 1), (6, 1)], [.int .i64 0, .int .i64 0, .int .i64 0, .int .i64 0, .int .i64 0, .int .i64 0, .bool false], .no⟩),
  (230, ⟨true, 5, [(0, 1), (1, 1), (2, 2), (4, 1)], [.bool false, .int .i64 0, .int .i64 0, .int .i64 0, .int .i64 0], .no⟩),
  (234, ⟨true, 2, [(0, 1), (1, 1)], [.bool false, .slice none 0 0], .no⟩),
  (237, ⟨true, 6, [(0, 4), (4, 1), (5, 1)], [.int .i64 0, .int .i64 0, .int .i64 0, .bool false, .int .i64 0, .slice none 0 0], .no⟩),
  (239, ⟨true, 5, [(0, 1), (1, 1), (2, 1), (3, 1), (4, 1)], [.int .i64 0, .int .i64 0, .bool false, .int .i64 0, .int .i64 0], .no⟩),
  (250, ⟨false, 1, [], [], .sl⟩),
  (252, ⟨true, 18, [(0, 4), (4, 1), (5, 10), (15, 1), (16, 1), (17, 1)], [.slice none 0 0, .int .i64 0, .slice none 0 0, .int .u64 0, .bool false, .int .i64 0, .int .i64 0, .int .i64 0, .int .i64 0, .int .i64 0, .int .i64 0, .int .i64 0, .int .i64 0, .int .i64 0, .int .i64 0, .int .i64 0, .slice none 0 0, .bool false], .no⟩),
  (254, ⟨false, 1, [], [], .no⟩),
  (257, ⟨true, 1, [(0, 1)], [.nilIface], .no⟩),
  (260, ⟨true, 2, [(0, 1), (1, 1)], [.int .i64 0, .int .i64 0], .no⟩),
  (279, ⟨true, 2, [(0, 1), (1, 1)], [.int .i64 0, .int .i64 0], .ok⟩),
  (280, ⟨false, 1, [], [], .ok⟩),
  (301, ⟨false, 1, [], [], .ok⟩),
  (316, ⟨true, 14, [(0, 7), (7, 7)], [.int .i64 0, .int .i64 0, .int .i64 0, .int .i64 0, .int .i64 0, .int .i64 0, .bool false, .int .i64 0, .int .i64 0, .int .i64 0, .int .i64 0, .int .i64 0, .int .i64 0, .bool false], .no⟩),
  (317, ⟨false, 1, [], [], .no⟩),
  (324, ⟨true, 19, [(0, 7), (7, 10), (17, 1), (18, 1)], [.int .i64 0, .int .i64 0, .int .i64 0, .int .i64 0, .int .i64 0, .int .i64 0, .bool false, .int .i64 0, .int .i64 0, .int .i64 0, .int .i64 0, .int .i64 0, .int .i64 0, .int .i64 0, .int .i64 0, .int .i64 0, .int .i64 0, .int .i64 0, .slice none 0 0], .no⟩),
  (339, ⟨false, 1, [], [.slice none 0 0], .sl⟩),
  (368, ⟨false, 1, [], [], .ok⟩),
  (370, ⟨true, 1, [(0, 1)], [.slice none 0 0], .no⟩),
  (372, ⟨true, 2, [(0, 1), (1, 1)], [.slice none 0 0, .nilFunc], .no⟩),
  (374, ⟨true, 2, [(0, 2)], [.slice none 0 0, .nilFunc], .no⟩),
  (390, ⟨true, 10, [(0, 7), (7, 1), (8, 1), (9, 1)], [], .no⟩),
  (419, ⟨false, 1, [], [], .ok⟩),
  (421, ⟨true, 2, [(0, 1), (1, 1)], [.int .i64 0, .nilIface], .no⟩),
  (434, ⟨true, 17, [], [.string lit_, .string lit_, .string lit_, .string lit_, .string lit_, .string lit_, .string lit_, .string lit_, .string lit_, .string lit_, .string lit_, .string lit_, .string lit_, .string lit_, .string lit_, .string lit_, .string lit_], .no⟩),
  (489, ⟨false, 1, [], [], .no⟩)]
theorem tbOK : TbOK prog tb :=
  tbc ⟨isAgg2, sizeOf2, .inl rfl, .inl rfl, underlying2⟩
  (tbc ⟨isAgg3, sizeOf3, .inl rfl, .inr ⟨_, zeroValue3, rfl⟩, trivial⟩
  (tbc ⟨isAgg4, sizeOf4, .inl rfl, .inl rfl, trivial⟩
  (tbc ⟨isAgg5, sizeOf5, .inl rfl, .inl rfl, underlying5⟩
  (tbc ⟨isAgg9, sizeOf9, .inl rfl, .inl rfl, underlying9⟩
  (tbc ⟨isAgg22, sizeOf22, .inl rfl, .inl rfl, ⟨_, underlying22⟩⟩
  (tbc ⟨isAgg23, sizeOf23, .inl rfl, .inl rfl, ⟨_, underlying23⟩⟩
  (tbc ⟨isAgg25, sizeOf25, .inr ⟨_, underlying25, (flc rfl sizeOf22 (flc rfl sizeOf23 (flc rfl sizeOf3 trivial)))⟩, .inr ⟨_, zeroValue25, rfl⟩, trivial⟩
  (tbc ⟨isAgg29, sizeOf29, .inl rfl, .inl rfl, ⟨_, underlying29⟩⟩
  (tbc ⟨isAgg30, sizeOf30, .inl rfl, .inl rfl, ⟨_, underlying30⟩⟩
  (tbc ⟨isAgg31, sizeOf31, .inl rfl, .inl rfl, ⟨_, underlying31⟩⟩
  (tbc ⟨isAgg32, sizeOf32, .inl rfl, .inl rfl, underlying32⟩
  (tbc ⟨isAgg34, sizeOf34, .inr ⟨_, underlying34, (flc rfl sizeOf29 (flc rfl sizeOf30 (flc rfl sizeOf31 (flc rfl sizeOf32 (flc rfl sizeOf2 (flc rfl sizeOf3 trivial))))))⟩, .inr ⟨_, zeroValue34, rfl⟩, trivial⟩
  (tbc ⟨isAgg36, sizeOf36, .inr ⟨_, underlying36, (flc rfl sizeOf3 (flc rfl sizeOf3 (flc rfl sizeOf3 trivial)))⟩, .inr ⟨_, zeroValue36, rfl⟩, trivial⟩
  (tbc ⟨isAgg37, sizeOf37, .inl rfl, .inl rfl, ⟨_, underlying37⟩⟩
  (tbc ⟨isAgg38, sizeOf38, .inl rfl, .inl rfl, underlying38⟩
  (tbc ⟨isAgg51, sizeOf51, .inl rfl, .inl rfl, ⟨_, underlying51⟩⟩
  (tbc ⟨isAgg53, sizeOf53, .inl rfl, .inl rfl, trivial⟩
  (tbc ⟨isAgg59, sizeOf59, .inr ⟨_, underlying59, (flc rfl sizeOf2 (flc rfl sizeOf3 (flc rfl sizeOf3 trivial)))⟩, .inr ⟨_, zeroValue59, rfl⟩, trivial⟩
  (tbc ⟨isAgg61, sizeOf61, .inr ⟨_, underlying61, (flc rfl sizeOf59 (flc rfl sizeOf3 (flc rfl sizeOf2 trivial)))⟩, .inr ⟨_, zeroValue61, rfl⟩, trivial⟩
  (tbc ⟨isAgg64, sizeOf64, .inr ⟨_, underlying64, (flc rfl sizeOf62 (flc rfl sizeOf3 (flc rfl sizeOf3 trivial)))⟩, .inr ⟨_, zeroValue64, rfl⟩, trivial⟩
  (tbc ⟨isAgg70, sizeOf70, .inr ⟨_, underlying70, (flc rfl sizeOf50 (flc rfl sizeOf4 trivial))⟩, .inr ⟨_, zeroValue70, rfl⟩, trivial⟩
  (tbc ⟨isAgg72, sizeOf72, .inl rfl, .inl rfl, ⟨_, underlying72⟩⟩
  (tbc ⟨isAgg74, sizeOf74, .inr ⟨_, underlying74, (flc rfl sizeOf3 (flc rfl sizeOf3 (flc rfl sizeOf3 (flc rfl sizeOf3 trivial))))⟩, .inr ⟨_, zeroValue74, rfl⟩, trivial⟩
  (tbc ⟨isAgg76, sizeOf76, .inr ⟨_, underlying76, (flc rfl sizeOf3 (flc rfl sizeOf3 (flc rfl sizeOf2 (flc rfl sizeOf4 trivial))))⟩, .inr ⟨_, zeroValue76, rfl⟩, trivial⟩
  (tbc ⟨isAgg78, sizeOf78, .inr ⟨_, underlying78, (flc rfl sizeOf3 (flc rfl sizeOf2 (flc rfl sizeOf2 trivial)))⟩, .inr ⟨_, zeroValue78, rfl⟩, trivial⟩
  (tbc ⟨isAgg80, sizeOf80, .inr ⟨_, underlying80, (flc rfl sizeOf3 (flc rfl sizeOf3 (flc rfl sizeOf3 trivial)))⟩, .inr ⟨_, zeroValue80, rfl⟩, trivial⟩
  (tbc ⟨isAgg84, sizeOf84, .inr ⟨_, underlying84, (flc rfl sizeOf9 (flc rfl sizeOf3 trivial))⟩, .inr ⟨_, zeroValue84, rfl⟩, trivial⟩
  (tbc ⟨isAgg89, sizeOf89, .inl rfl, .inr ⟨_, zeroValue89, rfl⟩, ⟨_, underlying89, rfl⟩⟩
  (tbc ⟨isAgg91, sizeOf91, .inl rfl, .inl rfl, ⟨_, underlying91, rfl⟩⟩
  (tbc ⟨isAgg93, sizeOf93, .inr ⟨_, underlying93, (flc rfl sizeOf3 (flc rfl sizeOf38 trivial))⟩, .inr ⟨_, zeroValue93, rfl⟩, trivial⟩
  (tbc ⟨isAgg95, sizeOf95, .inr ⟨_, underlying95, (flc rfl sizeOf34 (flc rfl sizeOf36 (flc rfl sizeOf37 trivial)))⟩, .inr ⟨_, zeroValue95, rfl⟩, trivial⟩
  (tbc ⟨isAgg100, sizeOf100, .inl rfl, .inl rfl, ⟨_, underlying100⟩⟩
  (tbc ⟨isAgg101, sizeOf101, .inl rfl, .inl rfl, ⟨_, underlying101⟩⟩
  (tbc ⟨isAgg110, sizeOf110, .inl rfl, .inr ⟨_, zeroValue110, rfl⟩, trivial⟩
  (tbc ⟨isAgg131, sizeOf131, .inl rfl, .inl rfl, trivial⟩
  (tbc ⟨isAgg132, sizeOf132, .inl rfl, .inl rfl, trivial⟩
  (tbc ⟨isAgg133, sizeOf133, .inl rfl, .inl rfl, trivial⟩
  (tbc ⟨isAgg135, sizeOf135, .inr ⟨_, underlying135, (flc rfl sizeOf34 (flc rfl sizeOf131 (flc rfl sizeOf132 (flc rfl sizeOf133 (flc rfl sizeOf2 (flc rfl sizeOf2 (flc rfl sizeOf2 (flc rfl sizeOf22 (flc rfl sizeOf3 trivial)))))))))⟩, .inr ⟨_, zeroValue135, rfl⟩, trivial⟩
  (tbc ⟨isAgg155, sizeOf155, .inl rfl, .inl rfl, ⟨_, underlying155⟩⟩
  (tbc ⟨isAgg166, sizeOf166, .inl rfl, .inl rfl, trivial⟩
  (tbc ⟨isAgg170, sizeOf170, .inl rfl, .inl rfl, trivial⟩
  (tbc ⟨isAgg173, sizeOf173, .inl rfl, .inl rfl, trivial⟩
  (tbc ⟨isAgg174, sizeOf174, .inl rfl, .inl rfl, trivial⟩
  (tbc ⟨isAgg176, sizeOf176, .inr ⟨_, underlying176, (flc rfl sizeOf166 (flc rfl sizeOf170 (flc rfl sizeOf174 (flc rfl sizeOf100 (flc rfl sizeOf173 trivial)))))⟩, .inr ⟨_, zeroValue176, rfl⟩, trivial⟩
  (tbc ⟨isAgg194, sizeOf194, .inl rfl, .inl rfl, trivial⟩
  (tbc ⟨isAgg196, sizeOf196, .inr ⟨_, underlying196, (flc rfl sizeOf194 trivial)⟩, .inr ⟨_, zeroValue196, rfl⟩, trivial⟩
  (tbc ⟨isAgg197, sizeOf197, .inl rfl, .inr ⟨_, zeroValue197, rfl⟩, trivial⟩
  (tbc ⟨isAgg200, sizeOf200, .inr ⟨_, underlying200, (flc rfl sizeOf3 (flc rfl sizeOf38 trivial))⟩, .inr ⟨_, zeroValue200, rfl⟩, ⟨_, underlying200, rfl⟩⟩
  (tbc ⟨isAgg201, sizeOf201, .inl rfl, .inl rfl, ⟨_, underlying201, rfl⟩⟩
  (tbc ⟨isAgg204, sizeOf204, .inr ⟨_, underlying204, (flc rfl sizeOf72 (flc rfl sizeOf3 (flc rfl sizeOf30 (flc rfl sizeOf32 trivial))))⟩, .inr ⟨_, zeroValue204, rfl⟩, trivial⟩
  (tbc ⟨isAgg208, sizeOf208, .inl rfl, .inl rfl, trivial⟩
  (tbc ⟨isAgg210, sizeOf210, .inr ⟨_, underlying210, (flc rfl sizeOf3 (flc rfl sizeOf3 (flc rfl sizeOf3 (flc rfl sizeOf2 (flc rfl sizeOf3 trivial)))))⟩, .inr ⟨_, zeroValue210, rfl⟩, trivial⟩
  (tbc ⟨isAgg212, sizeOf212, .inl rfl, .inl rfl, trivial⟩
  (tbc ⟨isAgg213, sizeOf213, .inl rfl, .inl rfl, trivial⟩
  (tbc ⟨isAgg214, sizeOf214, .inl rfl, .inl rfl, ⟨_, underlying214⟩⟩
  (tbc ⟨isAgg215, sizeOf215, .inl rfl, .inl rfl, ⟨_, underlying215⟩⟩
  (tbc ⟨isAgg219, sizeOf219, .inr ⟨_, underlying219, (flc rfl sizeOf34 (flc rfl sizeOf3 (flc rfl sizeOf36 (flc rfl sizeOf100 (flc rfl sizeOf212 (flc rfl sizeOf213 (flc rfl sizeOf214 (flc rfl sizeOf215 (flc rfl sizeOf207 (flc rfl sizeOf208 (flc rfl sizeOf3 (flc rfl sizeOf210 (flc rfl sizeOf217 trivial)))))))))))))⟩, .inr ⟨_, zeroValue219, rfl⟩, trivial⟩
  (tbc ⟨isAgg226, sizeOf226, .inr ⟨_, underlying226, (flc rfl sizeOf59 (flc rfl sizeOf3 (flc rfl sizeOf2 (flc rfl sizeOf3 (flc rfl sizeOf4 trivial)))))⟩, .inr ⟨_, zeroValue226, rfl⟩, trivial⟩
  (tbc ⟨isAgg230, sizeOf230, .inr ⟨_, underlying230, (flc rfl sizeOf4 (flc rfl sizeOf3 (flc rfl sizeOf228 (flc rfl sizeOf2 trivial))))⟩, .inr ⟨_, zeroValue230, rfl⟩, trivial⟩
  (tbc ⟨isAgg234, sizeOf234, .inr ⟨_, underlying234, (flc rfl sizeOf4 (flc rfl sizeOf51 trivial))⟩, .inr ⟨_, zeroValue234, rfl⟩, trivial⟩
  (tbc ⟨isAgg237, sizeOf237, .inr ⟨_, underlying237, (flc rfl sizeOf76 (flc rfl sizeOf3 (flc rfl sizeOf235 trivial)))⟩, .inr ⟨_, zeroValue237, rfl⟩, trivial⟩
  (tbc ⟨isAgg239, sizeOf239, .inr ⟨_, underlying239, (flc rfl sizeOf3 (flc rfl sizeOf3 (flc rfl sizeOf4 (flc rfl sizeOf3 (flc rfl sizeOf2 trivial)))))⟩, .inr ⟨_, zeroValue239, rfl⟩, trivial⟩
  (tbc ⟨isAgg250, sizeOf250, .inl rfl, .inl rfl, ⟨_, underlying250⟩⟩
  (tbc ⟨isAgg252, sizeOf252, .inr ⟨_, underlying252, (flc rfl sizeOf204 (flc rfl sizeOf4 (flc rfl sizeOf64 (flc rfl sizeOf3 (flc rfl sizeOf250 (flc rfl sizeOf4 trivial))))))⟩, .inr ⟨_, zeroValue252, rfl⟩, trivial⟩
  (tbc ⟨isAgg254, sizeOf254, .inl rfl, .inl rfl, trivial⟩
  (tbc ⟨isAgg257, sizeOf257, .inr ⟨_, underlying257, (flc rfl sizeOf254 trivial)⟩, .inr ⟨_, zeroValue257, rfl⟩, trivial⟩
  (tbc ⟨isAgg260, sizeOf260, .inr ⟨_, underlying260, (flc rfl sizeOf3 (flc rfl sizeOf3 trivial))⟩, .inr ⟨_, zeroValue260, rfl⟩, trivial⟩
  (tbc ⟨isAgg279, sizeOf279, .inr ⟨_, underlying279, (flc rfl sizeOf3 (flc rfl sizeOf38 trivial))⟩, .inr ⟨_, zeroValue279, rfl⟩, ⟨_, underlying279, rfl⟩⟩
  (tbc ⟨isAgg280, sizeOf280, .inl rfl, .inl rfl, ⟨_, underlying280, rfl⟩⟩
  (tbc ⟨isAgg301, sizeOf301, .inl rfl, .inl rfl, ⟨_, underlying301, rfl⟩⟩
  (tbc ⟨isAgg316, sizeOf316, .inr ⟨_, underlying316, (flc rfl sizeOf226 (flc rfl sizeOf226 trivial))⟩, .inr ⟨_, zeroValue316, rfl⟩, trivial⟩
  (tbc ⟨isAgg317, sizeOf317, .inl rfl, .inl rfl, trivial⟩
  (tbc ⟨isAgg324, sizeOf324, .inr ⟨_, underlying324, (flc rfl sizeOf226 (flc rfl sizeOf64 (flc rfl sizeOf38 (flc rfl sizeOf215 trivial))))⟩, .inr ⟨_, zeroValue324, rfl⟩, trivial⟩
  (tbc ⟨isAgg339, sizeOf339, .inl rfl, .inr ⟨_, zeroValue339, rfl⟩, ⟨_, underlying339⟩⟩
  (tbc ⟨isAgg368, sizeOf368, .inl rfl, .inl rfl, ⟨_, underlying368, rfl⟩⟩
  (tbc ⟨isAgg370, sizeOf370, .inr ⟨_, underlying370, (flc rfl sizeOf155 trivial)⟩, .inr ⟨_, zeroValue370, rfl⟩, trivial⟩
  (tbc ⟨isAgg372, sizeOf372, .inr ⟨_, underlying372, (flc rfl sizeOf215 (flc rfl sizeOf317 trivial))⟩, .inr ⟨_, zeroValue372, rfl⟩, trivial⟩
  (tbc ⟨isAgg374, sizeOf374, .inr ⟨_, underlying374, (flc rfl sizeOf372 trivial)⟩, .inr ⟨_, zeroValue374, rfl⟩, trivial⟩
  (tbc ⟨isAgg390, sizeOf390, .inr ⟨_, underlying390, (flc rfl sizeOf226 (flc rfl sizeOf38 (flc rfl sizeOf215 (flc rfl sizeOf388 trivial))))⟩, .inl rfl, trivial⟩
  (tbc ⟨isAgg419, sizeOf419, .inl rfl, .inl rfl, ⟨_, underlying419, rfl⟩⟩
  (tbc ⟨isAgg421, sizeOf421, .inr ⟨_, underlying421, (flc rfl sizeOf3 (flc rfl sizeOf53 trivial))⟩, .inr ⟨_, zeroValue421, rfl⟩, trivial⟩
  (tbc ⟨isAgg434, sizeOf434, .inl rfl, .inr ⟨_, zeroValue434, rfl⟩, trivial⟩
  (tbc ⟨isAgg489, sizeOf489, .inl rfl, .inl rfl, trivial⟩
  (trivial))))))))))))))))))))))))))))))))))))))))))))))))))))))))))))))))))))))))))))))))))))
theorem rr {B : Base} {w : World} {l r : List HProp} {hf : Hp} {N : Fr} {env : Env} {ops : Array Oper} {Q : Exit → Act → World → Prop} {rest : List Oper} {L : List Pc} (ps : List Nat) (hS : St B w l hf) [Rf l L r] (h : runL tb N.n ops (fun env L os => denK L r fun l => ∀ w, St B w l hf → RL prog N ops Q os env w) ps env L rest [] []) : RL prog N ops Q rest env w := runL_top tbOK ps hS h
theorem rq {B : Base} {w : World} {l r : List HProp} {hf : Hp} {N : Fr} {env : Env} {ops : Array Oper} {Q : Exit → Act → World → Prop} {L : List Pc} {t0 : List Nat} {ts : List (List Nat)} {Ss : List (World → Prop)} {pl : Pl} (ps : List Nat) (hS : St B w l hf) [Rf l L r] (h : runP tb N.n ops t0 (fun env pl => RP prog N ops Q (sL ((fun w => St B w l hf) :: Ss)) (tL (t0 :: ts)) pl env w) L ps env pl [] []) : RP prog N ops Q (sL ((fun w => St B w l hf) :: Ss)) (tL (t0 :: ts)) pl env w := runP_top tbOK ps hS h
theorem rz {B : Base} {w : World} {l r : List HProp} {hf : Hp} {env : Env} {L : List Pc} {fn : Func} {n : Nat} {rs : List ResultVar} {K : Value → World → Prop} (js : List Nat) (hr : fn.results = rs.toArray) (hS : St B w l hf) [Rf l L r] (h : rsK tb env L rs js [] [] fun vs => K (tup vs) w) : RQ ⟨n, [], true⟩ (bodyPost prog fn (Ret K) .ret) env w := rzT tbOK js hr hS h
theorem rzE {B : Base} {w : World} {l r : List HProp} {hf : Hp} {env : Env} {L : List Pc} {fn : Func} {n : Nat} {rs : List ResultVar} {K : Value → World → Prop} (js : List Nat) (hr : fn.results = rs.toArray) (hS : St B w l hf) [Rf l L r] (h : rsK tb env L rs js [] [] fun vs => K (tup vs) w) : RQ ⟨n, [], true⟩ (bodyPost prog fn (Ret K) .normal) env w := rzTE tbOK js hr hS h
theorem dk {B : Base} {w : World} {l lk : List HProp} {hf : Hp} {N : Fr} {env : Env} {Q : Exit → Act → World → Prop} {id : Nat} {os : List Oper} (ps t1 : List Nat) (hS : St B w l hf) (hK : ∀ w, St B w l hf → St B w lk hf) [hQ : NoT Q] (h : ∀ w, St B w l hf → RP prog N os.toArray Q (sL [fun w => St B w lk hf]) (tL [t1]) (plD ps) env w) (hB : (Nat.beq (plD ps).len os.length && (Region.noSelect os.toArray && tailB os.toArray (tL [t1]) && planOK os.toArray (tL [t1]) (plD ps) (Array.replicate os.length false))) = true := by kernel_rfl) : RC prog N Q (.region id os.toArray true) env w := pS t1 hS hK follows hB h
theorem dr {B : Base} {w : World} {l : List HProp} {hf : Hp} {N : Fr} {env : Env} {Q : Exit → Act → World → Prop} {id : Nat} {os : List Oper} (ps t1 : List Nat) (hS : St B w l hf) [hQ : NoT Q] (h : ∀ w, St B w l hf → RP prog N os.toArray Q (sL [fun w => St B w l hf]) (tL [t1]) (plD ps) env w) (hB : (Nat.beq (plD ps).len os.length && (Region.noSelect os.toArray && tailB os.toArray (tL [t1]) && planOK os.toArray (tL [t1]) (plD ps) (Array.replicate os.length false))) = true := by kernel_rfl) : RC prog N Q (.region id os.toArray true) env w := pS t1 hS (fun _ h => h) follows hB h
theorem r0 {w : World} {N : Fr} {env env' : Env} {ops : Array Oper} {Q : Exit → Act → World → Prop} {rest os' : List Oper} (k : Nat) (h : rn0 tb N.n ops k env rest = some (env', os')) (hr : RL prog N ops Q os' env' w) : RL prog N ops Q rest env w := rn0_ok tbOK k h hr
variable {B : Base} {w : World} {l : List HProp} {hf : Hp}
theorem bld_copy {b : Nat} {p v : Value} {rest : List Value} {T : TypeId} (hT : liesAt prog prog.depth T ((rest.length + 2) / prog.cellsOf T) 0 50 1 = true) (hp : p = .pointer none ∨ p = pV b) (hS : St B w (Cl b (p :: v :: rest) T :: l) hf) :
    Calls prog 27 #[pV b] w (Ret fun u w => u = .tuple #[] ∧ St B w (Cl b (pV b :: v :: rest) T :: l) hf) := by
  obtain ⟨j, hj, hjs⟩ := Option.map_eq_some_iff.1 (show (prog.info? 50).map (·.size) = some 2 by kernel_rfl)
  have hsh : ∀ {w : World} {q : Value}, St B w (Cl b (q :: v :: rest) T :: l) hf → w.shape? b = some (T, rest.length + 2) := fun h => by
    have := h.blk 0 rfl
    simp [World.shape?, this]
  rcases hp with rfl | rfl
  · refine en (args := [pV b]) func27 rfl ntmps27 rfl (sr (pn 2 rfl ?_))
    refine RL.s (Vl.fa 0 underlying50 rfl sizeOf47 rfl rfl) rfl (RL.s (Vl.ld 0 hS isAgg47 rfl rfl rfl) rfl ?_)
    refine RL.s (Vl.bin (v := .bool true) rfl rfl (by kernel_rfl)) rfl (ln (jt (RC.region (pn 2 rfl ?_))))
    refine RL.s (Vl.cv (v' := pV b) rfl (Lib.run_to_unsafe w ⟨b, 0, none⟩ underlying47 underlying107 hj (by rw [hjs]; decide) (hsh hS) (Nat.succ_pos _))) rfl ?_
    refine RL.s (Vl.extern (ls := [.tmp 9]) (v := pV b) rfl func39 (by kernel_rfl) (by kernel_rfl) (by kernel_rfl) (e := Extern.AbiNoEscape.same) (by kernel_rfl) (fun w => rfl)) rfl ?_
    refine RL.s (Vl.cv (v' := pV b) rfl (Lib.run_from_unsafe w ⟨b, 0, none⟩ underlying107 underlying47 hj (hsh hS) hT)) rfl (pn 1 rfl ?_)
    refine RL.s (Vl.fa 0 underlying50 rfl sizeOf47 rfl rfl) rfl (RL.e0 (OW.store (vs := [pV b]) 0 hS rfl rfl rfl rfl sizeOf47 rfl rfl rfl rfl) rfl ?_)
    rintro _ w ⟨rfl, hS⟩
    exact RL.nil (rt results27 rfl ⟨rfl, hS⟩)
  · refine en (args := [pV b]) func27 rfl ntmps27 rfl (sr (pn 2 rfl ?_))
    refine RL.s (Vl.fa 0 underlying50 rfl sizeOf47 rfl rfl) rfl (RL.s (Vl.ld 0 hS isAgg47 rfl rfl rfl) rfl ?_)
    refine RL.s (Vl.bin (v := .bool false) rfl rfl (by kernel_rfl)) rfl (ln (RC.condF rfl (sr (pn 2 rfl ?_))))
    refine RL.s (Vl.fa 0 underlying50 rfl sizeOf47 rfl rfl) rfl (RL.s (Vl.ld 0 hS isAgg47 rfl rfl rfl) rfl (pn 1 rfl ?_))
    refine RL.s (Vl.ptrNe (r := .bool false) rfl rfl (Lib.run_neq_ptr_same w _ underlying47 hj)) rfl (ln (RC.condF rfl ?_))
    exact RC.skip (rt results27 rfl ⟨rfl, hS⟩)
theorem bld_write {b : Nat} {rest : List Value} {T : TypeId} {s : ByteArray} (t : ByteArray) (hT : liesAt prog prog.depth T ((rest.length + 2) / prog.cellsOf T) 0 50 1 = true) (hb : s.size + t.size ≤ 140737488355328) (hS : St B w (Bd T 5 rest s b :: l) hf) :
    Calls prog 14 #[pV b, .string t] w (Ret fun u w => u = .tuple #[.int .i64 t.size, .nilIface] ∧ St B w (Bd T 5 rest (s ++ t) b :: l) hf) := by
  obtain ⟨i, hi, hi'⟩ := Option.map_eq_some_iff.1 (show (prog.info? 5).map (fun i => (i.zero, i.size, i.bytes)) = some (some (.int .u8 0), 1, 1) by kernel_rfl)
  simp only [Prod.mk.injEq] at hi'
  obtain ⟨p, v, hp, hv, hS⟩ := Bd.o hS
  refine en (args := [pV b, .string t]) func14 rfl ntmps14 rfl (sr (pn 2 rfl (ln (sr (pn 1 rfl ?_)))))
  refine RL.e (OW.call (ls := [.tmp 6]) rfl rfl call27 rfl (bld_copy hT hp hS)) rfl rfl ?_
  rintro _ w ⟨rfl, hS⟩
  refine ln (sr (pn 3 rfl ?_))
  refine RL.s (Vl.fa 1 underlying50 rfl sizeOf48 rfl rfl) rfl (RL.s (Vl.ld 0 hS isAgg48 rfl rfl rfl) rfl (pn 1 rfl ?_))
  refine RL.e (OW.app2 (K := fun v' w => St B w (OSl 5 1 v' (s.size + t.size) (Lib.strCells s ++ Lib.strCells t) :: Cl b (pV b :: v :: rest) T :: l) hf ∧ Off0 v') rfl rfl (St.appendStr (hS.perm (List.Perm.swap _ _ _)) hv underlying48 underlying9 hi hi'.1 hi'.2.1 hi'.2.2 t hb)) rfl rfl ?_
  rintro v' w ⟨hS, hv'⟩
  refine pn 1 rfl ?_
  refine RL.s (Vl.fa 1 underlying50 rfl sizeOf48 rfl rfl) rfl (RL.e0 (OW.store (vs := [v']) 1 hS rfl rfl rfl hv'.cells sizeOf48 rfl hv'.one rfl rfl) rfl ?_)
  rintro _ w ⟨rfl, hS⟩
  refine ln (sr (pn 1 rfl (RL.s (Vl.lenStr underlying9 rfl) rfl (pn 2 rfl (ln (RC.ret ?_))))))
  refine rt results14 rfl ⟨rfl, ?_⟩
  have hc := Bd.c (e := 5) (s := s ++ t) (rest := rest) (T := T) (.inr rfl) hv' (by
    rw [show (s ++ t).size = s.size + t.size from ByteArray.size_append, show Lib.strCells (s ++ t) = Lib.strCells s ++ Lib.strCells t by simp [Lib.strCells, ByteArray.data_append]]
    have hS : St B w (OSl 5 1 v' (s.size + t.size) (Lib.strCells s ++ Lib.strCells t) :: Cl b (pV b :: v' :: rest) T :: l) hf := hS
    exact hS.perm (List.Perm.swap _ _ _))
  exact hc
theorem bld_len {b : Nat} {rest : List Value} {T : TypeId} {s : ByteArray} (hS : St B w (Bd T 5 rest s b :: l) hf) :
    Calls prog 21 #[pV b] w (Ret fun u w => u = .int .i64 s.size ∧ St B w (Bd T 5 rest s b :: l) hf) := by
  obtain ⟨p, v, hp, hv, hS⟩ := Bd.o hS
  have hv2 : ∃ A c, v = .slice A s.size c := by
    obtain ⟨h1p, ⟨hlx, hA⟩, _⟩ := (hS.perm (List.Perm.swap _ _ _)).own
    rcases hA with ⟨rfl, h0, _⟩ | ⟨gb, o, cap, cur, rfl, _⟩
    · rw [h0]; exact ⟨_, _, rfl⟩
    · exact ⟨_, _, rfl⟩
  obtain ⟨A, c, rfl⟩ := hv2
  refine en (args := [pV b]) func21 rfl ntmps21 rfl (sr (pn 1 rfl (ln (sr (pn 2 rfl ?_)))))
  refine RL.s (Vl.fa 1 underlying50 rfl sizeOf48 rfl rfl) rfl (RL.s (Vl.ld 0 hS isAgg48 rfl rfl rfl) rfl ?_)
  refine RL.s (Vl.lenSl underlying48 rfl) rfl (pn 1 rfl (ln (RC.ret ?_)))
  exact rt results21 rfl ⟨rfl, Bd.c hp hv hS⟩
theorem bld_string {b : Nat} {rest : List Value} {T : TypeId} {s : ByteArray} (hS : St B w (Bd T 5 rest s b :: l) hf) :
    Calls prog 16 #[pV b] w (Ret fun u w => u = .string s ∧ St B w l hf) := by
  obtain ⟨p, v, hp, hv, hS⟩ := Bd.o hS
  have hv2 : (v = .slice none 0 0 ∧ s.size = 0) ∨ ∃ g c, v = .slice (some ⟨g, 0, none⟩) s.size c ∧ c ≠ 0 := by
    obtain ⟨h1p, ⟨hlx, hA⟩, _⟩ := (hS.perm (List.Perm.swap _ _ _)).own
    rcases hA with ⟨rfl, h0, _⟩ | ⟨gb, o, cap, cur, rfl, _⟩
    · exact .inl ⟨rfl, h0⟩
    · rcases hv with hv | ⟨_, _, _, hv, hc⟩
      · cases hv
      · cases hv; exact .inr ⟨_, _, rfl, hc⟩
  refine en (args := [pV b]) func16 rfl ntmps16 rfl (sr (pn 1 rfl (ln (RC.seq ?_))))
  refine RC.planS (plD [1, 4, 7, 10, 13, 16, 19, 22, 25, 28, 32, 35]) [10, 11] hS (fun w hS => hS) rfl rfl (by kernel_rfl) ?_ fun w hS => ?_
  · exact NoTmp.then NoTmp.body
  refine RP.s 0 0 rfl rfl hS (fun w hS => Vl.move rfl) rfl (RP.s 0 1 rfl rfl hS (fun w hS => Vl.nilCheck rfl) rfl ?_)
  refine RP.s 0 2 rfl rfl hS (fun w hS => Vl.fa 1 underlying50 rfl sizeOf48 rfl rfl) rfl (RP.s 0 3 rfl rfl hS (fun w hS => Vl.ld 0 hS isAgg48 rfl rfl rfl) rfl ?_)
  rcases hv2 with ⟨rfl, h0⟩ | ⟨g, c, rfl, hc⟩
  · refine RP.s (v := .pointer none) 0 4 rfl rfl hS (fun w hS => Vl.usd rfl (Lib.run_unsafeSliceData_nil w _ _ _ _)) rfl ?_
    refine RP.s 0 5 rfl rfl hS (fun w hS => Vl.move rfl) rfl (RP.s 0 6 rfl rfl hS (fun w hS => Vl.nilCheck rfl) rfl ?_)
    refine RP.s 0 7 rfl rfl hS (fun w hS => Vl.fa 1 underlying50 rfl sizeOf48 rfl rfl) rfl (RP.s 0 8 rfl rfl hS (fun w hS => Vl.ld 0 hS isAgg48 rfl rfl rfl) rfl ?_)
    refine RP.s 0 9 rfl rfl hS (fun w hS => Vl.lenSl underlying48 rfl) rfl ?_
    refine RP.e 10 rfl (OW.ust (K := fun v' w' => v' = .string s ∧ w' = w) rfl rfl ⟨_, _, Lib.run_unsafeString_none w _ _ _ _, by obtain rfl : s = ByteArray.empty := ByteArray.ext (Array.eq_empty_of_size_eq_zero h0); rfl, rfl⟩) rfl rfl ?_
    rintro _ _ ⟨rfl, rfl⟩
    refine ⟨kp ⟨(by intro hx; cases hx), trivial⟩, ?_⟩
    refine RP.v1 11 rfl (Vl.assign rfl) rfl rfl (RP.nil (RQ.then_n (RC.ret ?_)))
    exact rt results16 rfl ⟨rfl, hS.drop.drop⟩
  · refine RP.s (v := .pointer (some ⟨g, 0, none⟩)) 0 4 rfl rfl hS (fun w hS => Vl.usd rfl (Lib.run_unsafeSliceData_row w _ _ _ _ _ hc)) rfl ?_
    refine RP.s 0 5 rfl rfl hS (fun w hS => Vl.move rfl) rfl (RP.s 0 6 rfl rfl hS (fun w hS => Vl.nilCheck rfl) rfl ?_)
    refine RP.s 0 7 rfl rfl hS (fun w hS => Vl.fa 1 underlying50 rfl sizeOf48 rfl rfl) rfl (RP.s 0 8 rfl rfl hS (fun w hS => Vl.ld 0 hS isAgg48 rfl rfl rfl) rfl ?_)
    refine RP.s 0 9 rfl rfl hS (fun w hS => Vl.lenSl underlying48 rfl) rfl ?_
    refine RP.e 10 rfl (OW.ust (K := fun v' w' => v' = .string s ∧ St B w' l hf) rfl rfl ?_) rfl rfl ?_
    · by_cases h0 : s.size = 0
      · rw [h0]
        exact ⟨_, _, Lib.run_unsafeString_none w _ _ _ _, by obtain rfl : s = ByteArray.empty := ByteArray.ext (Array.eq_empty_of_size_eq_zero h0); rfl, hS.drop.drop⟩
      · have hS1 : St B w (OSl 5 1 (.slice (some ⟨g, 0, none⟩) s.size c) s.size (Lib.byteCells s.data.toList) :: Cl b (p :: .slice (some ⟨g, 0, none⟩) s.size c :: rest) T :: l) hf := hS.perm (List.Perm.swap _ _ _)
        obtain ⟨k1, k2⟩ := St.unsafeStr (P := prog) (it := 2) (ty := 9) hS1 underlying97 (show prog.cellsOf 5 = 1 by kernel_rfl) h0
        exact ⟨_, _, k1, by simp, k2.drop⟩
    rintro _ w ⟨rfl, hS⟩
    refine ⟨kp ⟨(by intro hx; cases hx), trivial⟩, ?_⟩
    refine RP.v1 11 rfl (Vl.assign rfl) rfl rfl (RP.nil (RQ.then_n (RC.ret ?_)))
    exact rt results16 rfl ⟨rfl, hS⟩

theorem bldT50 : liesAt prog prog.depth 50 (2 / prog.cellsOf 50) 0 50 1 = true := by kernel_rfl
theorem bldT70 : liesAt prog prog.depth 70 (3 / prog.cellsOf 70) 0 50 1 = true := by kernel_rfl
@[reducible] def C_api_Model (x : api_Model) (A0 : Option Addr) (c0 : Nat) (A1 : Option Addr) (c1 : Nat) (A2 : Option Addr) (c2 : Nat) : List Value := [.slice A0 x.Progs.length c0, .slice A1 x.Links.length c1, .slice A2 x.Starts.length c2, .int .u64 x.Seed, .int .i64 x.End, .int .i64 x.Budget]
@[reducible] def C_api_Instr (x : api_Instr) : List Value := [.int .i64 x.Op, .int .i64 x.A, .int .i64 x.B, .int .i64 x.C]
@[reducible] def C_api_Link (x : api_Link) : List Value := [.int .i64 x.From, .int .i64 x.To, .int .i64 x.Look, .bool x.Loose]
@[reducible] def C_api_World (x : api_World) (A0 : Option Addr) (c0 : Nat) (A1 : Option Addr) (c1 : Nat) : List Value := [.slice A0 x.Prog.length c0, .int .i64 x.Self, .slice A1 x.Links.length c1, .int .u64 x.Seed]
@[reducible] def C_api_Start (x : api_Start) : List Value := [.int .i64 x.To, .int .i64 x.Time, .int .i64 x.Value]
@[reducible] def C_api_Caps (x : api_Caps) : List Value := [.int .i64 x.Link, .int .i64 x.Wait, .int .i64 x.Log]
@[reducible] def C_api_Pick (x : api_Pick) : List Value := [.int .i64 x.What, .int .i64 x.A, .int .i64 x.B]
@[reducible] def C_api_Key (x : api_Key) : List Value := [.int .i64 x.Time, .int .i64 x.From, .int .i64 x.Seq]
@[reducible] def C_api_Result (x : api_Result) (A0 : Option Addr) (c0 : Nat) (A1 : Option Addr) (c1 : Nat) : List Value := [.slice A0 x.History.length c0, .slice A1 x.States.length c1, .int .i64 x.Stop]
@[reducible] def C_api_State (x : api_State) : List Value := [.int .i64 x.Regs.c0, .int .i64 x.Regs.c1, .int .i64 x.Regs.c2, .int .i64 x.Regs.c3, .int .i64 x.Regs.c4, .int .i64 x.Regs.c5, .int .i64 x.Regs.c6, .int .i64 x.Regs.c7, .int .i64 x.Draws, .int .i64 x.Sent]
@[reducible] def C_log_done (x : log_done) (A0 : Option Addr) (c0 : Nat) (b1 : Nat) : List Value := [.int .i64 x.event.Key.Time, .int .i64 x.event.Key.From, .int .i64 x.event.Key.Seq, .int .i64 x.event.To, .int .i64 x.event.Value, .int .i64 x.event.Uid, .bool x.event.Anti, .int .i64 x.fault, .slice A0 x.sent.length c0, .pointer (pz b1 x.ahead.has)]
@[reducible] def C_api_Done (x : api_Done) : List Value := [.int .i64 x.Key.Time, .int .i64 x.Key.From, .int .i64 x.Key.Seq, .int .i64 x.To, .int .i64 x.Value]
@[reducible] def C_api_Message (x : api_Message) : List Value := [.int .i64 x.Key.Time, .int .i64 x.Key.From, .int .i64 x.Key.Seq, .int .i64 x.To, .int .i64 x.Value, .int .i64 x.Uid, .bool x.Anti]
@[reducible] def C_api_Entry (x : api_Entry) (A0 : Option Addr) (c0 : Nat) : List Value := [.int .i64 x.Event.Key.Time, .int .i64 x.Event.Key.From, .int .i64 x.Event.Key.Seq, .int .i64 x.Event.To, .int .i64 x.Event.Value, .int .i64 x.Event.Uid, .bool x.Event.Anti, .int .i64 x.Before.Regs.c0, .int .i64 x.Before.Regs.c1, .int .i64 x.Before.Regs.c2, .int .i64 x.Before.Regs.c3, .int .i64 x.Before.Regs.c4, .int .i64 x.Before.Regs.c5, .int .i64 x.Before.Regs.c6, .int .i64 x.Before.Regs.c7, .int .i64 x.Before.Draws, .int .i64 x.Before.Sent, .int .i64 x.Fault, .slice A0 x.Sent.length c0]
@[reducible] def C_lane_Lane (x : lane_Lane) (A0 : Option Addr) (c0 : Nat) (A1 : Option Addr) (c1 : Nat) (A2 : Option Addr) (c2 : Nat) (A3 : Option Addr) (c3 : Nat) (b4 : Nat) (b5 : Nat) (A6 : Option Addr) (c6 : Nat) (A7 : Option Addr) (c7 : Nat) (b8 : Nat) (b9 : Nat) : List Value := [.slice A0 x.m.Progs.length c0, .slice A1 x.m.Links.length c1, .slice A2 x.m.Starts.length c2, .int .u64 x.m.Seed, .int .i64 x.m.End, .int .i64 x.m.Budget, .int .i64 x.n, .int .i64 x.caps.Link, .int .i64 x.caps.Wait, .int .i64 x.caps.Log, .slice A3 x.ways.length c3, .pointer (some ⟨b4, 0, none⟩), .pointer (some ⟨b5, 0, none⟩), .slice A6 x.open_.length c6, .slice A7 x.orphans.length c7, .map (some b8), .map (some b9), .int .i64 x.uid, .int .i64 x.setting.Mode, .int .i64 x.setting.Every, .int .i64 x.setting.Cancel, .int .i64 x.setting.Reach, .int .i64 x.setting.Queue, .int .i64 x.stats.Done, .int .i64 x.stats.Undone, .int .i64 x.stats.Hits, .int .i64 x.stats.Held]
end Go.Proofs.Gx
