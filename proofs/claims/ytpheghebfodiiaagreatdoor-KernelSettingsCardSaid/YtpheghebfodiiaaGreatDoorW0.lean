/-
  The data of the walks: printed by wip/gx.py.
-/
import Derived.Test.YtpheghebfodiiaaGreatDoorSl27
import Derived.KernelRfl
import Derived.Test.YtpheghebfodiiaaGreatDoorProg
set_option linter.unusedVariables false
set_option linter.unusedSimpArgs false
set_option maxRecDepth 100000
set_option maxHeartbeats 4000000
namespace Go.Proofs.Gx
open Go.Sl Tryz
theorem follows : prog.follows .mixedOrders = true := by kernel_rfl
def zfn : Nat → Int := fun _ => 0
structure api_Instr where
  Op : Int
  A : Int
  B : Int
  C : Int
deriving Inhabited, DecidableEq
def E_api_Instr : Fl api_Instr := ⟨fun x => [.int .i64 x.Op, .int .i64 x.A, .int .i64 x.B, .int .i64 x.C], 4, fun _ => rfl, fun x v h => by
  simp only [List.mem_cons, List.not_mem_nil, or_false] at h
  rcases h with rfl | rfl | rfl | rfl <;> rfl⟩
structure api_Link where
  From : Int
  To : Int
  Look : Int
  Loose : Bool
deriving Inhabited, DecidableEq
def E_api_Link : Fl api_Link := ⟨fun x => [.int .i64 x.From, .int .i64 x.To, .int .i64 x.Look, .bool x.Loose], 4, fun _ => rfl, fun x v h => by
  simp only [List.mem_cons, List.not_mem_nil, or_false] at h
  rcases h with rfl | rfl | rfl | rfl <;> rfl⟩
structure api_Start where
  To : Int
  Time : Int
  Value : Int
deriving Inhabited, DecidableEq
def E_api_Start : Fl api_Start := ⟨fun x => [.int .i64 x.To, .int .i64 x.Time, .int .i64 x.Value], 3, fun _ => rfl, fun x v h => by
  simp only [List.mem_cons, List.not_mem_nil, or_false] at h
  rcases h with rfl | rfl | rfl <;> rfl⟩
structure api_Model where
  Progs : (List (List api_Instr))
  Links : (List api_Link)
  Starts : (List api_Start)
  Seed : Int
  End : Int
  Budget : Int
deriving Inhabited, DecidableEq
def R_api_Model : Rep api_Model := ⟨6, fun h cs x => ∃ A0 c0 A1 c1 A2 c2, cs = [.slice A0 x.Progs.length c0, .slice A1 x.Links.length c1, .slice A2 x.Starts.length c2, .int .u64 x.Seed, .int .i64 x.End, .int .i64 x.Budget] ∧ SlR (Rep.sl E_api_Instr.rep) h A0 c0 x.Progs ∧ SlR E_api_Link.rep h A1 c1 x.Links ∧ SlR E_api_Start.rep h A2 c2 x.Starts, fun s ⟨A0, c0, A1, c1, A2, c2, e, f0, f1, f2⟩ => ⟨A0, c0, A1, c1, A2, c2, e, f0.mono s, f1.mono s, f2.mono s⟩⟩
theorem R_api_Model_ok : R_api_Model.Ok := ⟨fun ⟨A0, c0, A1, c1, A2, c2, e, _⟩ => by rw [e]; rfl, fun ⟨A0, c0, A1, c1, A2, c2, e, _⟩ v hv => by
  rw [e] at hv
  simp only [List.mem_cons, List.not_mem_nil, or_false] at hv
  rcases hv with rfl | rfl | rfl | rfl | rfl | rfl <;> rfl⟩
structure api_Caps where
  Link : Int
  Wait : Int
  Log : Int
deriving Inhabited, DecidableEq
def E_api_Caps : Fl api_Caps := ⟨fun x => [.int .i64 x.Link, .int .i64 x.Wait, .int .i64 x.Log], 3, fun _ => rfl, fun x v h => by
  simp only [List.mem_cons, List.not_mem_nil, or_false] at h
  rcases h with rfl | rfl | rfl <;> rfl⟩
structure api_Key where
  Time : Int
  From : Int
  Seq : Int
deriving Inhabited, DecidableEq
def E_api_Key : Fl api_Key := ⟨fun x => [.int .i64 x.Time, .int .i64 x.From, .int .i64 x.Seq], 3, fun _ => rfl, fun x v h => by
  simp only [List.mem_cons, List.not_mem_nil, or_false] at h
  rcases h with rfl | rfl | rfl <;> rfl⟩
structure api_Done where
  Key : api_Key
  To : Int
  Value : Int
deriving Inhabited, DecidableEq
def E_api_Done : Fl api_Done := ⟨fun x => [.int .i64 x.Key.Time, .int .i64 x.Key.From, .int .i64 x.Key.Seq, .int .i64 x.To, .int .i64 x.Value], 5, fun _ => rfl, fun x v h => by
  simp only [List.mem_cons, List.not_mem_nil, or_false] at h
  rcases h with rfl | rfl | rfl | rfl | rfl <;> rfl⟩
structure api_World where
  Prog : (List api_Instr)
  Self : Int
  Links : (List api_Link)
  Seed : Int
deriving Inhabited, DecidableEq
def R_api_World : Rep api_World := ⟨4, fun h cs x => ∃ A0 c0 A1 c1, cs = [.slice A0 x.Prog.length c0, .int .i64 x.Self, .slice A1 x.Links.length c1, .int .u64 x.Seed] ∧ SlR E_api_Instr.rep h A0 c0 x.Prog ∧ SlR E_api_Link.rep h A1 c1 x.Links, fun s ⟨A0, c0, A1, c1, e, f0, f1⟩ => ⟨A0, c0, A1, c1, e, f0.mono s, f1.mono s⟩⟩
theorem R_api_World_ok : R_api_World.Ok := ⟨fun ⟨A0, c0, A1, c1, e, _⟩ => by rw [e]; rfl, fun ⟨A0, c0, A1, c1, e, _⟩ v hv => by
  rw [e] at hv
  simp only [List.mem_cons, List.not_mem_nil, or_false] at hv
  rcases hv with rfl | rfl | rfl | rfl <;> rfl⟩
structure Arr8xInti64 where
  c0 : Int
  c1 : Int
  c2 : Int
  c3 : Int
  c4 : Int
  c5 : Int
  c6 : Int
  c7 : Int
deriving Inhabited, DecidableEq
def E_Arr8xInti64 : Fl Arr8xInti64 := ⟨fun x => [.int .i64 x.c0, .int .i64 x.c1, .int .i64 x.c2, .int .i64 x.c3, .int .i64 x.c4, .int .i64 x.c5, .int .i64 x.c6, .int .i64 x.c7], 8, fun _ => rfl, fun x v h => by
  simp only [List.mem_cons, List.not_mem_nil, or_false] at h
  rcases h with rfl | rfl | rfl | rfl | rfl | rfl | rfl | rfl <;> rfl⟩
structure api_State where
  Regs : Arr8xInti64
  Draws : Int
  Sent : Int
deriving Inhabited, DecidableEq
def E_api_State : Fl api_State := ⟨fun x => [.int .i64 x.Regs.c0, .int .i64 x.Regs.c1, .int .i64 x.Regs.c2, .int .i64 x.Regs.c3, .int .i64 x.Regs.c4, .int .i64 x.Regs.c5, .int .i64 x.Regs.c6, .int .i64 x.Regs.c7, .int .i64 x.Draws, .int .i64 x.Sent], 10, fun _ => rfl, fun x v h => by
  simp only [List.mem_cons, List.not_mem_nil, or_false] at h
  rcases h with rfl | rfl | rfl | rfl | rfl | rfl | rfl | rfl | rfl | rfl <;> rfl⟩
structure api_Message where
  Key : api_Key
  To : Int
  Value : Int
  Uid : Int
  Anti : Bool
deriving Inhabited, DecidableEq
def E_api_Message : Fl api_Message := ⟨fun x => [.int .i64 x.Key.Time, .int .i64 x.Key.From, .int .i64 x.Key.Seq, .int .i64 x.To, .int .i64 x.Value, .int .i64 x.Uid, .bool x.Anti], 7, fun _ => rfl, fun x v h => by
  simp only [List.mem_cons, List.not_mem_nil, or_false] at h
  rcases h with rfl | rfl | rfl | rfl | rfl | rfl | rfl <;> rfl⟩
structure log_done where
  event : api_Message
  fault : Int
  sent : (List api_Message)
  ahead : (Pt api_State)
deriving Inhabited, DecidableEq
def R_log_done : Rep log_done := ⟨10, fun h cs x => ∃ A0 c0 b1, cs = [.int .i64 x.event.Key.Time, .int .i64 x.event.Key.From, .int .i64 x.event.Key.Seq, .int .i64 x.event.To, .int .i64 x.event.Value, .int .i64 x.event.Uid, .bool x.event.Anti, .int .i64 x.fault, .slice A0 x.sent.length c0, .pointer (pz b1 x.ahead.has)] ∧ SlR E_api_Message.rep h A0 c0 x.sent ∧ PtR E_api_State h b1 108 x.ahead, fun s ⟨A0, c0, b1, e, f0, f1⟩ => ⟨A0, c0, b1, e, f0.mono s, f1.mono s⟩⟩
theorem R_log_done_ok : R_log_done.Ok := ⟨fun ⟨A0, c0, b1, e, _⟩ => by rw [e]; rfl, fun ⟨A0, c0, b1, e, _⟩ v hv => by
  rw [e] at hv
  simp only [List.mem_cons, List.not_mem_nil, or_false] at hv
  rcases hv with rfl | rfl | rfl | rfl | rfl | rfl | rfl | rfl | rfl | rfl <;> rfl⟩
structure log_Log where
  w : api_World
  made : Bool
  state : api_State
  every : Int
  l : (List log_done)
  stuck : Bool
deriving Inhabited, DecidableEq
def R_log_Log : Rep log_Log := ⟨18, fun h cs x => ∃ A0 c0 A1 c1 A2 c2, cs = [.slice A0 x.w.Prog.length c0, .int .i64 x.w.Self, .slice A1 x.w.Links.length c1, .int .u64 x.w.Seed, .bool x.made, .int .i64 x.state.Regs.c0, .int .i64 x.state.Regs.c1, .int .i64 x.state.Regs.c2, .int .i64 x.state.Regs.c3, .int .i64 x.state.Regs.c4, .int .i64 x.state.Regs.c5, .int .i64 x.state.Regs.c6, .int .i64 x.state.Regs.c7, .int .i64 x.state.Draws, .int .i64 x.state.Sent, .int .i64 x.every, .slice A2 x.l.length c2, .bool x.stuck] ∧ SlR E_api_Instr.rep h A0 c0 x.w.Prog ∧ SlR E_api_Link.rep h A1 c1 x.w.Links ∧ SlR R_log_done h A2 c2 x.l, fun s ⟨A0, c0, A1, c1, A2, c2, e, f0, f1, f2⟩ => ⟨A0, c0, A1, c1, A2, c2, e, f0.mono s, f1.mono s, f2.mono s⟩⟩
theorem R_log_Log_ok : R_log_Log.Ok := ⟨fun ⟨A0, c0, A1, c1, A2, c2, e, _⟩ => by rw [e]; rfl, fun ⟨A0, c0, A1, c1, A2, c2, e, _⟩ v hv => by
  rw [e] at hv
  simp only [List.mem_cons, List.not_mem_nil, or_false] at hv
  rcases hv with rfl | rfl | rfl | rfl | rfl | rfl | rfl | rfl | rfl | rfl | rfl | rfl | rfl | rfl | rfl | rfl | rfl | rfl <;> rfl⟩
structure ladder_bottom where
  l : (List api_Message)
deriving Inhabited, DecidableEq
def R_ladder_bottom : Rep ladder_bottom := ⟨1, fun h cs x => ∃ A0 c0, cs = [.slice A0 x.l.length c0] ∧ SlR E_api_Message.rep h A0 c0 x.l, fun s ⟨A0, c0, e, f0⟩ => ⟨A0, c0, e, f0.mono s⟩⟩
theorem R_ladder_bottom_ok : R_ladder_bottom.Ok := ⟨fun ⟨A0, c0, e, _⟩ => by rw [e]; rfl, fun ⟨A0, c0, e, _⟩ v hv => by
  rw [e] at hv
  simp only [List.mem_cons, List.not_mem_nil, or_false] at hv
  rcases hv with rfl <;> rfl⟩
structure ladder_Ladder where
  bottom : ladder_bottom
  most : Int
  rungs : (List (List api_Message))
deriving Inhabited, DecidableEq
def R_ladder_Ladder : Rep ladder_Ladder := ⟨3, fun h cs x => ∃ A0 c0 A1 c1, cs = [.slice A0 x.bottom.l.length c0, .int .i64 x.most, .slice A1 x.rungs.length c1] ∧ SlR E_api_Message.rep h A0 c0 x.bottom.l ∧ SlR (Rep.sl E_api_Message.rep) h A1 c1 x.rungs, fun s ⟨A0, c0, A1, c1, e, f0, f1⟩ => ⟨A0, c0, A1, c1, e, f0.mono s, f1.mono s⟩⟩
theorem R_ladder_Ladder_ok : R_ladder_Ladder.Ok := ⟨fun ⟨A0, c0, A1, c1, e, _⟩ => by rw [e]; rfl, fun ⟨A0, c0, A1, c1, e, _⟩ v hv => by
  rw [e] at hv
  simp only [List.mem_cons, List.not_mem_nil, or_false] at hv
  rcases hv with rfl | rfl | rfl <;> rfl⟩
structure lane_open where
  by_ : api_Message
  m : api_Message
deriving Inhabited, DecidableEq
def E_lane_open : Fl lane_open := ⟨fun x => [.int .i64 x.by_.Key.Time, .int .i64 x.by_.Key.From, .int .i64 x.by_.Key.Seq, .int .i64 x.by_.To, .int .i64 x.by_.Value, .int .i64 x.by_.Uid, .bool x.by_.Anti, .int .i64 x.m.Key.Time, .int .i64 x.m.Key.From, .int .i64 x.m.Key.Seq, .int .i64 x.m.To, .int .i64 x.m.Value, .int .i64 x.m.Uid, .bool x.m.Anti], 14, fun _ => rfl, fun x v h => by
  simp only [List.mem_cons, List.not_mem_nil, or_false] at h
  rcases h with rfl | rfl | rfl | rfl | rfl | rfl | rfl | rfl | rfl | rfl | rfl | rfl | rfl | rfl <;> rfl⟩
structure lane_sending where
  from_ : Int
  uid : Int
deriving Inhabited, DecidableEq
def E_lane_sending : Fl lane_sending := ⟨fun x => [.int .i64 x.from_, .int .i64 x.uid], 2, fun _ => rfl, fun x v h => by
  simp only [List.mem_cons, List.not_mem_nil, or_false] at h
  rcases h with rfl | rfl <;> rfl⟩
structure api_Setting where
  Mode : Int
  Every : Int
  Cancel : Int
  Reach : Int
  Queue : Int
deriving Inhabited, DecidableEq
def E_api_Setting : Fl api_Setting := ⟨fun x => [.int .i64 x.Mode, .int .i64 x.Every, .int .i64 x.Cancel, .int .i64 x.Reach, .int .i64 x.Queue], 5, fun _ => rfl, fun x v h => by
  simp only [List.mem_cons, List.not_mem_nil, or_false] at h
  rcases h with rfl | rfl | rfl | rfl | rfl <;> rfl⟩
structure api_Stats where
  Done : Int
  Undone : Int
  Hits : Int
  Held : Int
deriving Inhabited, DecidableEq
def E_api_Stats : Fl api_Stats := ⟨fun x => [.int .i64 x.Done, .int .i64 x.Undone, .int .i64 x.Hits, .int .i64 x.Held], 4, fun _ => rfl, fun x v h => by
  simp only [List.mem_cons, List.not_mem_nil, or_false] at h
  rcases h with rfl | rfl | rfl | rfl <;> rfl⟩
structure Arr2xInti64 where
  c0 : Int
  c1 : Int
deriving Inhabited, DecidableEq
def E_Arr2xInti64 : Fl Arr2xInti64 := ⟨fun x => [.int .i64 x.c0, .int .i64 x.c1], 2, fun _ => rfl, fun x v h => by
  simp only [List.mem_cons, List.not_mem_nil, or_false] at h
  rcases h with rfl | rfl <;> rfl⟩
structure colour_Tally where
  made : Bool
  colour : Int
  net : Arr2xInti64
  least : Int
deriving Inhabited, DecidableEq
def E_colour_Tally : Fl colour_Tally := ⟨fun x => [.bool x.made, .int .i64 x.colour, .int .i64 x.net.c0, .int .i64 x.net.c1, .int .i64 x.least], 5, fun _ => rfl, fun x v h => by
  simp only [List.mem_cons, List.not_mem_nil, or_false] at h
  rcases h with rfl | rfl | rfl | rfl | rfl <;> rfl⟩
structure clock_Clocks where
  made : Bool
  t : (List Int)
deriving Inhabited, DecidableEq
def R_clock_Clocks : Rep clock_Clocks := ⟨2, fun h cs x => ∃ A0 c0, cs = [.bool x.made, .slice A0 x.t.length c0] ∧ SlR ((FI .i64).rep) h A0 c0 x.t, fun s ⟨A0, c0, e, f0⟩ => ⟨A0, c0, e, f0.mono s⟩⟩
theorem R_clock_Clocks_ok : R_clock_Clocks.Ok := ⟨fun ⟨A0, c0, e, _⟩ => by rw [e]; rfl, fun ⟨A0, c0, e, _⟩ v hv => by
  rw [e] at hv
  simp only [List.mem_cons, List.not_mem_nil, or_false] at hv
  rcases hv with rfl | rfl <;> rfl⟩
structure api_Parcel where
  M : api_Message
  Colour : Int
deriving Inhabited, DecidableEq
def E_api_Parcel : Fl api_Parcel := ⟨fun x => [.int .i64 x.M.Key.Time, .int .i64 x.M.Key.From, .int .i64 x.M.Key.Seq, .int .i64 x.M.To, .int .i64 x.M.Value, .int .i64 x.M.Uid, .bool x.M.Anti, .int .i64 x.Colour], 8, fun _ => rfl, fun x v h => by
  simp only [List.mem_cons, List.not_mem_nil, or_false] at h
  rcases h with rfl | rfl | rfl | rfl | rfl | rfl | rfl | rfl <;> rfl⟩
structure link_Way where
  link : api_Link
  most : Int
  l : (List api_Parcel)
deriving Inhabited, DecidableEq
def R_link_Way : Rep link_Way := ⟨6, fun h cs x => ∃ A0 c0, cs = [.int .i64 x.link.From, .int .i64 x.link.To, .int .i64 x.link.Look, .bool x.link.Loose, .int .i64 x.most, .slice A0 x.l.length c0] ∧ SlR E_api_Parcel.rep h A0 c0 x.l, fun s ⟨A0, c0, e, f0⟩ => ⟨A0, c0, e, f0.mono s⟩⟩
theorem R_link_Way_ok : R_link_Way.Ok := ⟨fun ⟨A0, c0, e, _⟩ => by rw [e]; rfl, fun ⟨A0, c0, e, _⟩ v hv => by
  rw [e] at hv
  simp only [List.mem_cons, List.not_mem_nil, or_false] at hv
  rcases hv with rfl | rfl | rfl | rfl | rfl | rfl <;> rfl⟩
structure colour_Token where
  n : Int
  at_ : Int
  counting : Bool
  sum : Int
  least : Int
deriving Inhabited, DecidableEq
def E_colour_Token : Fl colour_Token := ⟨fun x => [.int .i64 x.n, .int .i64 x.at_, .bool x.counting, .int .i64 x.sum, .int .i64 x.least], 5, fun _ => rfl, fun x v h => by
  simp only [List.mem_cons, List.not_mem_nil, or_false] at h
  rcases h with rfl | rfl | rfl | rfl | rfl <;> rfl⟩
structure model_flaw where
  at_ : Int
  why : Int
deriving Inhabited, DecidableEq
def E_model_flaw : Fl model_flaw := ⟨fun x => [.int .i64 x.at_, .int .i64 x.why], 2, fun _ => rfl, fun x v h => by
  simp only [List.mem_cons, List.not_mem_nil, or_false] at h
  rcases h with rfl | rfl <;> rfl⟩
structure api_Pick where
  What : Int
  A : Int
  B : Int
deriving Inhabited, DecidableEq
def E_api_Pick : Fl api_Pick := ⟨fun x => [.int .i64 x.What, .int .i64 x.A, .int .i64 x.B], 3, fun _ => rfl, fun x v h => by
  simp only [List.mem_cons, List.not_mem_nil, or_false] at h
  rcases h with rfl | rfl | rfl <;> rfl⟩
structure api_Entry where
  Event : api_Message
  Before : api_State
  Fault : Int
  Sent : (List api_Message)
deriving Inhabited, DecidableEq
def R_api_Entry : Rep api_Entry := ⟨19, fun h cs x => ∃ A0 c0, cs = [.int .i64 x.Event.Key.Time, .int .i64 x.Event.Key.From, .int .i64 x.Event.Key.Seq, .int .i64 x.Event.To, .int .i64 x.Event.Value, .int .i64 x.Event.Uid, .bool x.Event.Anti, .int .i64 x.Before.Regs.c0, .int .i64 x.Before.Regs.c1, .int .i64 x.Before.Regs.c2, .int .i64 x.Before.Regs.c3, .int .i64 x.Before.Regs.c4, .int .i64 x.Before.Regs.c5, .int .i64 x.Before.Regs.c6, .int .i64 x.Before.Regs.c7, .int .i64 x.Before.Draws, .int .i64 x.Before.Sent, .int .i64 x.Fault, .slice A0 x.Sent.length c0] ∧ SlR E_api_Message.rep h A0 c0 x.Sent, fun s ⟨A0, c0, e, f0⟩ => ⟨A0, c0, e, f0.mono s⟩⟩
theorem R_api_Entry_ok : R_api_Entry.Ok := ⟨fun ⟨A0, c0, e, _⟩ => by rw [e]; rfl, fun ⟨A0, c0, e, _⟩ v hv => by
  rw [e] at hv
  simp only [List.mem_cons, List.not_mem_nil, or_false] at hv
  rcases hv with rfl | rfl | rfl | rfl | rfl | rfl | rfl | rfl | rfl | rfl | rfl | rfl | rfl | rfl | rfl | rfl | rfl | rfl | rfl <;> rfl⟩
structure kernel_halt where
  stop : Int
  why : Int
deriving Inhabited, DecidableEq
def E_kernel_halt : Fl kernel_halt := ⟨fun x => [.int .i64 x.stop, .int .i64 x.why], 2, fun _ => rfl, fun x v h => by
  simp only [List.mem_cons, List.not_mem_nil, or_false] at h
  rcases h with rfl | rfl <;> rfl⟩
structure tune_bound where
  least : Int
  most : Int
deriving Inhabited, DecidableEq
def E_tune_bound : Fl tune_bound := ⟨fun x => [.int .i64 x.least, .int .i64 x.most], 2, fun _ => rfl, fun x v h => by
  simp only [List.mem_cons, List.not_mem_nil, or_false] at h
  rcases h with rfl | rfl <;> rfl⟩
structure Arr5xtune_bound where
  c0 : tune_bound
  c1 : tune_bound
  c2 : tune_bound
  c3 : tune_bound
  c4 : tune_bound
deriving Inhabited, DecidableEq
def E_Arr5xtune_bound : Fl Arr5xtune_bound := ⟨fun x => [.int .i64 x.c0.least, .int .i64 x.c0.most, .int .i64 x.c1.least, .int .i64 x.c1.most, .int .i64 x.c2.least, .int .i64 x.c2.most, .int .i64 x.c3.least, .int .i64 x.c3.most, .int .i64 x.c4.least, .int .i64 x.c4.most], 10, fun _ => rfl, fun x v h => by
  simp only [List.mem_cons, List.not_mem_nil, or_false] at h
  rcases h with rfl | rfl | rfl | rfl | rfl | rfl | rfl | rfl | rfl | rfl <;> rfl⟩
def lit_ : ByteArray := ⟨#[]⟩
def lit_2d2d2d : ByteArray := ⟨#[45, 45, 45]⟩
def lit_726e2d : ByteArray := ⟨#[114, 110, 45]⟩
def lit_72722d : ByteArray := ⟨#[114, 114, 45]⟩
def lit_rrr : ByteArray := ⟨#[114, 114, 114]⟩
def lit_702d2d : ByteArray := ⟨#[112, 45, 45]⟩
def lit_72702d : ByteArray := ⟨#[114, 112, 45]⟩
def lit_722d2d : ByteArray := ⟨#[114, 45, 45]⟩
def Ex1 : Array Value → Sem Value := Extern.ReflectliteType.typeOf
def Ex2 : Array Value → Sem Value := Extern.ReflectliteType.relation "AssignableTo" Extern.ReflectliteType.assignableTo
def Ex3 : Array Value → Sem Value := Extern.ReflectliteValue.methodAny (Extern.ReflectliteValue.valueError "reflectlite.Value.Type" 0) fun t _ _ _ => Extern.ReflectliteType.toType t
def Ex4 : Array Value → Sem Value := Extern.ReflectliteType.abiMethod fun t => do pure (.int .u8 (← Extern.Rtype.kind t))
def Ex5 : Array Value → Sem Value := Extern.ReflectliteType.method Extern.ReflectliteType.elem
def Ex6 : Array Value → Sem Value := Extern.ReflectliteType.relation "Implements" Extern.ReflectliteType.implements_
def Ex7 : Array Value → Sem Value := Extern.ReflectliteType.method fun t => do Extern.Rtype.noPackHeld "Comparable" t; pure (.bool (← typeInfo t).comparable)
theorem run_eql_api_Key (x y : Operand) (a b : api_Key) (w : World) : ((eqGuard .eql 113 x y (.agg (E_api_Key.enc a).toArray) (.agg (E_api_Key.enc b).toArray)).bind fun _ => binOp .eql 113 (.agg (E_api_Key.enc a).toArray) (.agg (E_api_Key.enc b).toArray)).run prog w = .ok (.bool (decide (a = b))) w := by
  show ((eqGuard .eql 113 x y _ _) >>= fun _ => binOp .eql 113 _ _).run prog w = _
  rw [Sem.run_bind, run_eqGuard_agg (hm := eqGuardType113)]
  simp only [Result.andThen_ok]
  obtain ⟨a1, a2, a3⟩ := a
  obtain ⟨b4, b5, b6⟩ := b
  simp [E_api_Key, go_sem]
  all_goals (repeat' split)
  all_goals first | (simp [*]; done) | grind | (simp only [Result.ok.injEq, Value.bool.injEq, and_true]; grind)
theorem run_neq_api_Key (x y : Operand) (a b : api_Key) (w : World) : ((eqGuard .neq 113 x y (.agg (E_api_Key.enc a).toArray) (.agg (E_api_Key.enc b).toArray)).bind fun _ => binOp .neq 113 (.agg (E_api_Key.enc a).toArray) (.agg (E_api_Key.enc b).toArray)).run prog w = .ok (.bool (!decide (a = b))) w := by
  show ((eqGuard .neq 113 x y _ _) >>= fun _ => binOp .neq 113 _ _).run prog w = _
  rw [Sem.run_bind, run_eqGuard_agg (hm := eqGuardType113)]
  simp only [Result.andThen_ok]
  obtain ⟨a7, a8, a9⟩ := a
  obtain ⟨b10, b11, b12⟩ := b
  simp [E_api_Key, go_sem]
  all_goals (repeat' split)
  all_goals first | (simp [*]; done) | grind | (simp only [Result.ok.injEq, Value.bool.injEq, and_true]; grind)
theorem run_eql_api_Setting (x y : Operand) (a b : api_Setting) (w : World) : ((eqGuard .eql 36 x y (.agg (E_api_Setting.enc a).toArray) (.agg (E_api_Setting.enc b).toArray)).bind fun _ => binOp .eql 36 (.agg (E_api_Setting.enc a).toArray) (.agg (E_api_Setting.enc b).toArray)).run prog w = .ok (.bool (decide (a = b))) w := by
  show ((eqGuard .eql 36 x y _ _) >>= fun _ => binOp .eql 36 _ _).run prog w = _
  rw [Sem.run_bind, run_eqGuard_agg (hm := eqGuardType36)]
  simp only [Result.andThen_ok]
  obtain ⟨a1, a2, a3, a4, a5⟩ := a
  obtain ⟨b6, b7, b8, b9, b10⟩ := b
  simp [E_api_Setting, go_sem]
  all_goals (repeat' split)
  all_goals first | (simp [*]; done) | grind | (simp only [Result.ok.injEq, Value.bool.injEq, and_true]; grind)
theorem run_neq_api_Setting (x y : Operand) (a b : api_Setting) (w : World) : ((eqGuard .neq 36 x y (.agg (E_api_Setting.enc a).toArray) (.agg (E_api_Setting.enc b).toArray)).bind fun _ => binOp .neq 36 (.agg (E_api_Setting.enc a).toArray) (.agg (E_api_Setting.enc b).toArray)).run prog w = .ok (.bool (!decide (a = b))) w := by
  show ((eqGuard .neq 36 x y _ _) >>= fun _ => binOp .neq 36 _ _).run prog w = _
  rw [Sem.run_bind, run_eqGuard_agg (hm := eqGuardType36)]
  simp only [Result.andThen_ok]
  obtain ⟨a11, a12, a13, a14, a15⟩ := a
  obtain ⟨b16, b17, b18, b19, b20⟩ := b
  simp [E_api_Setting, go_sem]
  all_goals (repeat' split)
  all_goals first | (simp [*]; done) | grind | (simp only [Result.ok.injEq, Value.bool.injEq, and_true]; grind)
def kv_lane_sending (x : lane_sending) : Value := .agg (E_lane_sending.enc x).toArray
theorem keyok_lane_sending : KeyOK prog 159 kv_lane_sending := by
  refine ⟨fun e x w => ?_, fun x y w => ?_, ⟨_, underlying159, fun x y => .inl rfl⟩, fun x => ?_⟩
  · obtain ⟨a0, a1⟩ := x
    show (Instr.checkKey e (9999 + 1) 159 _).run prog w = _
    rw [Instr.checkKey]
    have p0 : ∀ w, (part 3 #[.int .i64 a0, .int .i64 a1] 0).run prog w = .ok (.int .i64 a0) w := fun w => run_part1 isAgg3 rfl
    have c0 : ∀ (m : Int) w, (Instr.checkKey e 9999 3 (.int .i64 m)).run prog w = .ok () w := fun m w => run_checkKey_int1 (n := 9998) underlying3
    have p1 : ∀ w, (part 3 #[.int .i64 a0, .int .i64 a1] 1).run prog w = .ok (.int .i64 a1) w := fun w => run_part1 isAgg3 rfl
    have c1 : ∀ (m : Int) w, (Instr.checkKey e 9999 3 (.int .i64 m)).run prog w = .ok () w := fun m w => run_checkKey_int1 (n := 9998) underlying3
    simp [kv_lane_sending, E_lane_sending, run_underlying underlying159, p0, c0, p1, c1]
  · obtain ⟨a0, a1⟩ := x
    obtain ⟨b0, b1⟩ := y
    simp [kv_lane_sending, E_lane_sending, Op.equal, Op.maxDepth, go_sem]
    all_goals (repeat' split)
    all_goals first | (simp [*]; done) | grind
  · obtain ⟨a0, a1⟩ := x
    simp [kv_lane_sending, E_lane_sending, Instr.sameBits]
def O_log_Log (hf : Hp) (x : log_Log) (b : Nat) : HProp := fun h => ∃ (A_1 : Option Addr) (c_2 : Nat) (A_4 : Option Addr) (c_5 : Nat) (A_7 : Option Addr) (c_8 : Nat) (cs_9 : List Value), SlR E_api_Instr.rep hf A_1 c_2 x.w.Prog ∧ SlR E_api_Link.rep hf A_4 c_5 x.w.Links ∧ RepL R_log_done hf cs_9 x.l ∧ spl [Cl b [.slice A_1 x.w.Prog.length c_2, .int .i64 x.w.Self, .slice A_4 x.w.Links.length c_5, .int .u64 x.w.Seed, .bool x.made, .int .i64 x.state.Regs.c0, .int .i64 x.state.Regs.c1, .int .i64 x.state.Regs.c2, .int .i64 x.state.Regs.c3, .int .i64 x.state.Regs.c4, .int .i64 x.state.Regs.c5, .int .i64 x.state.Regs.c6, .int .i64 x.state.Regs.c7, .int .i64 x.state.Draws, .int .i64 x.state.Sent, .int .i64 x.every, .slice A_7 x.l.length c_8, .bool x.stuck] 149, OSl 286 10 (.slice A_7 x.l.length c_8) x.l.length cs_9] h
theorem O_log_Log.o {B : Base} {w : World} {l : List HProp} {hf : Hp} {x : log_Log} {b : Nat} (hS : St B w (O_log_Log hf x b :: l) hf) : ∃ (A_1 : Option Addr) (c_2 : Nat) (A_4 : Option Addr) (c_5 : Nat) (A_7 : Option Addr) (c_8 : Nat) (cs_9 : List Value), SlR E_api_Instr.rep hf A_1 c_2 x.w.Prog ∧ SlR E_api_Link.rep hf A_4 c_5 x.w.Links ∧ RepL R_log_done hf cs_9 x.l ∧ St B w (Cl b [.slice A_1 x.w.Prog.length c_2, .int .i64 x.w.Self, .slice A_4 x.w.Links.length c_5, .int .u64 x.w.Seed, .bool x.made, .int .i64 x.state.Regs.c0, .int .i64 x.state.Regs.c1, .int .i64 x.state.Regs.c2, .int .i64 x.state.Regs.c3, .int .i64 x.state.Regs.c4, .int .i64 x.state.Regs.c5, .int .i64 x.state.Regs.c6, .int .i64 x.state.Regs.c7, .int .i64 x.state.Draws, .int .i64 x.state.Sent, .int .i64 x.every, .slice A_7 x.l.length c_8, .bool x.stuck] 149 :: OSl 286 10 (.slice A_7 x.l.length c_8) x.l.length cs_9 :: l) hf := by
  obtain ⟨h, ⟨A_1, c_2, A_4, c_5, A_7, c_8, cs_9, hr_3, hr_6, hx_10, hsp⟩, hr⟩ := hS.own
  exact ⟨A_1, c_2, A_4, c_5, A_7, c_8, cs_9, hr_3, hr_6, hx_10, (St.splO (ps := [Cl b [.slice A_1 x.w.Prog.length c_2, .int .i64 x.w.Self, .slice A_4 x.w.Links.length c_5, .int .u64 x.w.Seed, .bool x.made, .int .i64 x.state.Regs.c0, .int .i64 x.state.Regs.c1, .int .i64 x.state.Regs.c2, .int .i64 x.state.Regs.c3, .int .i64 x.state.Regs.c4, .int .i64 x.state.Regs.c5, .int .i64 x.state.Regs.c6, .int .i64 x.state.Regs.c7, .int .i64 x.state.Draws, .int .i64 x.state.Sent, .int .i64 x.every, .slice A_7 x.l.length c_8, .bool x.stuck] 149, OSl 286 10 (.slice A_7 x.l.length c_8) x.l.length cs_9]) ⟨hS.base, hS.sub, h, hsp, hr⟩)⟩
theorem O_log_Log.c {B : Base} {w : World} {l : List HProp} {hf : Hp} {x : log_Log} {b : Nat} {A_1 : Option Addr} {c_2 : Nat} {A_4 : Option Addr} {c_5 : Nat} {A_7 : Option Addr} {c_8 : Nat} {cs_9 : List Value} (hr_3 : SlR E_api_Instr.rep hf A_1 c_2 x.w.Prog) (hr_6 : SlR E_api_Link.rep hf A_4 c_5 x.w.Links) (hx_10 : RepL R_log_done hf cs_9 x.l) (hS : St B w (Cl b [.slice A_1 x.w.Prog.length c_2, .int .i64 x.w.Self, .slice A_4 x.w.Links.length c_5, .int .u64 x.w.Seed, .bool x.made, .int .i64 x.state.Regs.c0, .int .i64 x.state.Regs.c1, .int .i64 x.state.Regs.c2, .int .i64 x.state.Regs.c3, .int .i64 x.state.Regs.c4, .int .i64 x.state.Regs.c5, .int .i64 x.state.Regs.c6, .int .i64 x.state.Regs.c7, .int .i64 x.state.Draws, .int .i64 x.state.Sent, .int .i64 x.every, .slice A_7 x.l.length c_8, .bool x.stuck] 149 :: OSl 286 10 (.slice A_7 x.l.length c_8) x.l.length cs_9 :: l) hf) : St B w (O_log_Log hf x b :: l) hf :=
  (St.splC (ps := [Cl b [.slice A_1 x.w.Prog.length c_2, .int .i64 x.w.Self, .slice A_4 x.w.Links.length c_5, .int .u64 x.w.Seed, .bool x.made, .int .i64 x.state.Regs.c0, .int .i64 x.state.Regs.c1, .int .i64 x.state.Regs.c2, .int .i64 x.state.Regs.c3, .int .i64 x.state.Regs.c4, .int .i64 x.state.Regs.c5, .int .i64 x.state.Regs.c6, .int .i64 x.state.Regs.c7, .int .i64 x.state.Draws, .int .i64 x.state.Sent, .int .i64 x.every, .slice A_7 x.l.length c_8, .bool x.stuck] 149, OSl 286 10 (.slice A_7 x.l.length c_8) x.l.length cs_9]) hS).imp fun h e => ⟨A_1, c_2, A_4, c_5, A_7, c_8, cs_9, hr_3, hr_6, hx_10, e⟩
theorem O_log_Log.m {hf hf' : Hp} (s : Sub hf hf') {x : log_Log} {b : Nat} : ∀ h, O_log_Log hf x b h → O_log_Log hf' x b h := fun h ⟨A_1, c_2, A_4, c_5, A_7, c_8, cs_9, hr_3, hr_6, hx_10, e⟩ => ⟨A_1, c_2, A_4, c_5, A_7, c_8, cs_9, hr_3.mono s, hr_6.mono s, hx_10.mono s, spl_imp (PI.c (fun _ a => a) (PI.c (fun _ a => a) (PI.n))) h e⟩
theorem O_log_Log.l {B : Base} {w : World} {l : List HProp} {hf hf' : Hp} (s : Sub hf hf') {x : log_Log} {b : Nat} (hS : St B w (O_log_Log hf x b :: l) hf') : St B w (O_log_Log hf' x b :: l) hf' := hS.imp (O_log_Log.m s)
structure heap_Heap where
  p_l : (List api_Message)
deriving Inhabited
def O_heap_Heap (hf : Hp) (x : heap_Heap) (b : Nat) : HProp := fun h => ∃ (A_1 : Option Addr) (c_2 : Nat), spl [Cl b [.slice A_1 x.p_l.length c_2, .func (.func 97) #[] #[]] 270, OSf E_api_Message 115 (.slice A_1 x.p_l.length c_2) x.p_l] h
theorem O_heap_Heap.o {B : Base} {w : World} {l : List HProp} {hf : Hp} {x : heap_Heap} {b : Nat} (hS : St B w (O_heap_Heap hf x b :: l) hf) : ∃ (A_1 : Option Addr) (c_2 : Nat), St B w (Cl b [.slice A_1 x.p_l.length c_2, .func (.func 97) #[] #[]] 270 :: OSf E_api_Message 115 (.slice A_1 x.p_l.length c_2) x.p_l :: l) hf := by
  obtain ⟨h, ⟨A_1, c_2, hsp⟩, hr⟩ := hS.own
  exact ⟨A_1, c_2, (St.splO (ps := [Cl b [.slice A_1 x.p_l.length c_2, .func (.func 97) #[] #[]] 270, OSf E_api_Message 115 (.slice A_1 x.p_l.length c_2) x.p_l]) ⟨hS.base, hS.sub, h, hsp, hr⟩)⟩
theorem O_heap_Heap.c {B : Base} {w : World} {l : List HProp} {hf : Hp} {x : heap_Heap} {b : Nat} {A_1 : Option Addr} {c_2 : Nat}  (hS : St B w (Cl b [.slice A_1 x.p_l.length c_2, .func (.func 97) #[] #[]] 270 :: OSf E_api_Message 115 (.slice A_1 x.p_l.length c_2) x.p_l :: l) hf) : St B w (O_heap_Heap hf x b :: l) hf :=
  (St.splC (ps := [Cl b [.slice A_1 x.p_l.length c_2, .func (.func 97) #[] #[]] 270, OSf E_api_Message 115 (.slice A_1 x.p_l.length c_2) x.p_l]) hS).imp fun h e => ⟨A_1, c_2, e⟩
theorem O_heap_Heap.m {hf hf' : Hp} (s : Sub hf hf') {x : heap_Heap} {b : Nat} : ∀ h, O_heap_Heap hf x b h → O_heap_Heap hf' x b h := fun h ⟨A_1, c_2, e⟩ => ⟨A_1, c_2, spl_imp (PI.c (fun _ a => a) (PI.c (fun _ a => a) (PI.n))) h e⟩
theorem O_heap_Heap.l {B : Base} {w : World} {l : List HProp} {hf hf' : Hp} (s : Sub hf hf') {x : heap_Heap} {b : Nat} (hS : St B w (O_heap_Heap hf x b :: l) hf') : St B w (O_heap_Heap hf' x b :: l) hf' := hS.imp (O_heap_Heap.m s)
structure calendar_Calendar where
  width : Int
  days : List (Int × List api_Message)
  n : Int
deriving Inhabited
def O_calendar_Calendar (hf : Hp) (x : calendar_Calendar) (b : Nat) : HProp := fun h => ∃ (b_1 : Nat) (hs_2 : List (Int × Hdr)), RowsW E_api_Message.rep hf hs_2 x.days ∧ spl [Cl b [.int .i64 x.width, .map (some b_1), .int .i64 x.n] 273, MapF (Value.int .i64) hV b_1 hs_2] h
theorem O_calendar_Calendar.o {B : Base} {w : World} {l : List HProp} {hf : Hp} {x : calendar_Calendar} {b : Nat} (hS : St B w (O_calendar_Calendar hf x b :: l) hf) : ∃ (b_1 : Nat) (hs_2 : List (Int × Hdr)), RowsW E_api_Message.rep hf hs_2 x.days ∧ St B w (Cl b [.int .i64 x.width, .map (some b_1), .int .i64 x.n] 273 :: MapF (Value.int .i64) hV b_1 hs_2 :: l) hf := by
  obtain ⟨h, ⟨b_1, hs_2, hw_3, hsp⟩, hr⟩ := hS.own
  exact ⟨b_1, hs_2, hw_3, (St.splO (ps := [Cl b [.int .i64 x.width, .map (some b_1), .int .i64 x.n] 273, MapF (Value.int .i64) hV b_1 hs_2]) ⟨hS.base, hS.sub, h, hsp, hr⟩)⟩
theorem O_calendar_Calendar.c {B : Base} {w : World} {l : List HProp} {hf : Hp} {x : calendar_Calendar} {b : Nat} {b_1 : Nat} {hs_2 : List (Int × Hdr)} (hw_3 : RowsW E_api_Message.rep hf hs_2 x.days) (hS : St B w (Cl b [.int .i64 x.width, .map (some b_1), .int .i64 x.n] 273 :: MapF (Value.int .i64) hV b_1 hs_2 :: l) hf) : St B w (O_calendar_Calendar hf x b :: l) hf :=
  (St.splC (ps := [Cl b [.int .i64 x.width, .map (some b_1), .int .i64 x.n] 273, MapF (Value.int .i64) hV b_1 hs_2]) hS).imp fun h e => ⟨b_1, hs_2, hw_3, e⟩
theorem O_calendar_Calendar.m {hf hf' : Hp} (s : Sub hf hf') {x : calendar_Calendar} {b : Nat} : ∀ h, O_calendar_Calendar hf x b h → O_calendar_Calendar hf' x b h := fun h ⟨b_1, hs_2, hw_3, e⟩ => ⟨b_1, hs_2, hw_3.mono s, spl_imp (PI.c (fun _ a => a) (PI.c (fun _ a => a) (PI.n))) h e⟩
theorem O_calendar_Calendar.l {B : Base} {w : World} {l : List HProp} {hf hf' : Hp} (s : Sub hf hf') {x : calendar_Calendar} {b : Nat} (hS : St B w (O_calendar_Calendar hf x b :: l) hf') : St B w (O_calendar_Calendar hf' x b :: l) hf' := hS.imp (O_calendar_Calendar.m s)
def O_ladder_Ladder (hf : Hp) (x : ladder_Ladder) (b : Nat) : HProp := fun h => ∃ (A_1 : Option Addr) (c_2 : Nat) (A_3 : Option Addr) (c_4 : Nat) (hs_5 : List (Option Addr × Nat × Nat)), spl [Cl b [.slice A_1 x.bottom.l.length c_2, .int .i64 x.most, .slice A_3 hs_5.length c_4] 278, OSf E_api_Message 115 (.slice A_1 x.bottom.l.length c_2) x.bottom.l, OSf FSl 399 (.slice A_3 hs_5.length c_4) hs_5, SepL (ORw E_api_Message 115) x.rungs hs_5] h
theorem O_ladder_Ladder.o {B : Base} {w : World} {l : List HProp} {hf : Hp} {x : ladder_Ladder} {b : Nat} (hS : St B w (O_ladder_Ladder hf x b :: l) hf) : ∃ (A_1 : Option Addr) (c_2 : Nat) (A_3 : Option Addr) (c_4 : Nat) (hs_5 : List (Option Addr × Nat × Nat)), St B w (Cl b [.slice A_1 x.bottom.l.length c_2, .int .i64 x.most, .slice A_3 hs_5.length c_4] 278 :: OSf E_api_Message 115 (.slice A_1 x.bottom.l.length c_2) x.bottom.l :: OSf FSl 399 (.slice A_3 hs_5.length c_4) hs_5 :: SepL (ORw E_api_Message 115) x.rungs hs_5 :: l) hf := by
  obtain ⟨h, ⟨A_1, c_2, A_3, c_4, hs_5, hsp⟩, hr⟩ := hS.own
  exact ⟨A_1, c_2, A_3, c_4, hs_5, (St.splO (ps := [Cl b [.slice A_1 x.bottom.l.length c_2, .int .i64 x.most, .slice A_3 hs_5.length c_4] 278, OSf E_api_Message 115 (.slice A_1 x.bottom.l.length c_2) x.bottom.l, OSf FSl 399 (.slice A_3 hs_5.length c_4) hs_5, SepL (ORw E_api_Message 115) x.rungs hs_5]) ⟨hS.base, hS.sub, h, hsp, hr⟩)⟩
theorem O_ladder_Ladder.c {B : Base} {w : World} {l : List HProp} {hf : Hp} {x : ladder_Ladder} {b : Nat} {A_1 : Option Addr} {c_2 : Nat} {A_3 : Option Addr} {c_4 : Nat} {hs_5 : List (Option Addr × Nat × Nat)}  (hS : St B w (Cl b [.slice A_1 x.bottom.l.length c_2, .int .i64 x.most, .slice A_3 hs_5.length c_4] 278 :: OSf E_api_Message 115 (.slice A_1 x.bottom.l.length c_2) x.bottom.l :: OSf FSl 399 (.slice A_3 hs_5.length c_4) hs_5 :: SepL (ORw E_api_Message 115) x.rungs hs_5 :: l) hf) : St B w (O_ladder_Ladder hf x b :: l) hf :=
  (St.splC (ps := [Cl b [.slice A_1 x.bottom.l.length c_2, .int .i64 x.most, .slice A_3 hs_5.length c_4] 278, OSf E_api_Message 115 (.slice A_1 x.bottom.l.length c_2) x.bottom.l, OSf FSl 399 (.slice A_3 hs_5.length c_4) hs_5, SepL (ORw E_api_Message 115) x.rungs hs_5]) hS).imp fun h e => ⟨A_1, c_2, A_3, c_4, hs_5, e⟩
theorem O_ladder_Ladder.m {hf hf' : Hp} (s : Sub hf hf') {x : ladder_Ladder} {b : Nat} : ∀ h, O_ladder_Ladder hf x b h → O_ladder_Ladder hf' x b h := fun h ⟨A_1, c_2, A_3, c_4, hs_5, e⟩ => ⟨A_1, c_2, A_3, c_4, hs_5, spl_imp (PI.c (fun _ a => a) (PI.c (fun _ a => a) (PI.c (fun _ a => a) (PI.c (fun _ a => a) (PI.n))))) h e⟩
theorem O_ladder_Ladder.l {B : Base} {w : World} {l : List HProp} {hf hf' : Hp} (s : Sub hf hf') {x : ladder_Ladder} {b : Nat} (hS : St B w (O_ladder_Ladder hf x b :: l) hf') : St B w (O_ladder_Ladder hf' x b :: l) hf' := hS.imp (O_ladder_Ladder.m s)
inductive Q_pend_Pend where
  | c0 (y : heap_Heap)
  | c1 (y : calendar_Calendar)
  | c2 (y : ladder_Ladder)
deriving Inhabited
structure pend_Pend where
  q : Q_pend_Pend
deriving Inhabited
def Q_pend_Pend.on {α : Type} (q : Q_pend_Pend) (f0 : heap_Heap → α) (f1 : calendar_Calendar → α) (f2 : ladder_Ladder → α) : α := match q with
  | .c0 y => f0 y
  | .c1 y => f1 y
  | .c2 y => f2 y
theorem Q_pend_Pend.h0 {β : Type} {φ : β → Prop} {q : Q_pend_Pend} {f0 : heap_Heap → Option β} {f1 : calendar_Calendar → Option β} {f2 : ladder_Ladder → Option β} {y : heap_Heap} (hx : q = .c0 y) (h : Holds φ (q.on f0 f1 f2)) : Holds φ (f0 y) := by
  subst hx
  exact h
theorem Q_pend_Pend.h1 {β : Type} {φ : β → Prop} {q : Q_pend_Pend} {f0 : heap_Heap → Option β} {f1 : calendar_Calendar → Option β} {f2 : ladder_Ladder → Option β} {y : calendar_Calendar} (hx : q = .c1 y) (h : Holds φ (q.on f0 f1 f2)) : Holds φ (f1 y) := by
  subst hx
  exact h
theorem Q_pend_Pend.h2 {β : Type} {φ : β → Prop} {q : Q_pend_Pend} {f0 : heap_Heap → Option β} {f1 : calendar_Calendar → Option β} {f2 : ladder_Ladder → Option β} {y : ladder_Ladder} (hx : q = .c2 y) (h : Holds φ (q.on f0 f1 f2)) : Holds φ (f2 y) := by
  subst hx
  exact h
def O_pend_Pend (hf : Hp) (x : pend_Pend) (b : Nat) : HProp := fun h => match x.q with
  | .c0 y => ∃ b_1 : Nat, spl [Cl b [.iface 206 (.pointer (some ⟨b_1, 0, none⟩))] 154, O_heap_Heap hf y b_1] h
  | .c1 y => ∃ b_1 : Nat, spl [Cl b [.iface 208 (.pointer (some ⟨b_1, 0, none⟩))] 154, O_calendar_Calendar hf y b_1] h
  | .c2 y => ∃ b_1 : Nat, spl [Cl b [.iface 211 (.pointer (some ⟨b_1, 0, none⟩))] 154, O_ladder_Ladder hf y b_1] h
theorem O_pend_Pend.o0 {B : Base} {w : World} {l : List HProp} {hf : Hp} {x : pend_Pend} {b : Nat} {y : heap_Heap} (hx : x.q = .c0 y) (hS : St B w (O_pend_Pend hf x b :: l) hf) : ∃ b_1 : Nat, St B w (Cl b [.iface 206 (.pointer (some ⟨b_1, 0, none⟩))] 154 :: O_heap_Heap hf y b_1 :: l) hf := by
  obtain ⟨h, hsp, hr⟩ := hS.own
  have hsp : O_pend_Pend hf x b h := hsp
  unfold O_pend_Pend at hsp
  rw [hx] at hsp
  obtain ⟨b_1, hsp⟩ := hsp
  exact ⟨b_1, St.splO (ps := [Cl b [.iface 206 (.pointer (some ⟨b_1, 0, none⟩))] 154, O_heap_Heap hf y b_1]) ⟨hS.base, hS.sub, h, hsp, hr⟩⟩
theorem O_pend_Pend.c0 {B : Base} {w : World} {l : List HProp} {hf : Hp} {x : pend_Pend} {b : Nat} {y : heap_Heap} {b_1 : Nat} (hx : x.q = .c0 y) (hS : St B w (Cl b [.iface 206 (.pointer (some ⟨b_1, 0, none⟩))] 154 :: O_heap_Heap hf y b_1 :: l) hf) : St B w (O_pend_Pend hf x b :: l) hf :=
  (St.splC (ps := [Cl b [.iface 206 (.pointer (some ⟨b_1, 0, none⟩))] 154, O_heap_Heap hf y b_1]) hS).imp fun h e => by
    unfold O_pend_Pend
    rw [hx]
    exact ⟨b_1, e⟩
theorem O_pend_Pend.o1 {B : Base} {w : World} {l : List HProp} {hf : Hp} {x : pend_Pend} {b : Nat} {y : calendar_Calendar} (hx : x.q = .c1 y) (hS : St B w (O_pend_Pend hf x b :: l) hf) : ∃ b_1 : Nat, St B w (Cl b [.iface 208 (.pointer (some ⟨b_1, 0, none⟩))] 154 :: O_calendar_Calendar hf y b_1 :: l) hf := by
  obtain ⟨h, hsp, hr⟩ := hS.own
  have hsp : O_pend_Pend hf x b h := hsp
  unfold O_pend_Pend at hsp
  rw [hx] at hsp
  obtain ⟨b_1, hsp⟩ := hsp
  exact ⟨b_1, St.splO (ps := [Cl b [.iface 208 (.pointer (some ⟨b_1, 0, none⟩))] 154, O_calendar_Calendar hf y b_1]) ⟨hS.base, hS.sub, h, hsp, hr⟩⟩
theorem O_pend_Pend.c1 {B : Base} {w : World} {l : List HProp} {hf : Hp} {x : pend_Pend} {b : Nat} {y : calendar_Calendar} {b_1 : Nat} (hx : x.q = .c1 y) (hS : St B w (Cl b [.iface 208 (.pointer (some ⟨b_1, 0, none⟩))] 154 :: O_calendar_Calendar hf y b_1 :: l) hf) : St B w (O_pend_Pend hf x b :: l) hf :=
  (St.splC (ps := [Cl b [.iface 208 (.pointer (some ⟨b_1, 0, none⟩))] 154, O_calendar_Calendar hf y b_1]) hS).imp fun h e => by
    unfold O_pend_Pend
    rw [hx]
    exact ⟨b_1, e⟩
theorem O_pend_Pend.o2 {B : Base} {w : World} {l : List HProp} {hf : Hp} {x : pend_Pend} {b : Nat} {y : ladder_Ladder} (hx : x.q = .c2 y) (hS : St B w (O_pend_Pend hf x b :: l) hf) : ∃ b_1 : Nat, St B w (Cl b [.iface 211 (.pointer (some ⟨b_1, 0, none⟩))] 154 :: O_ladder_Ladder hf y b_1 :: l) hf := by
  obtain ⟨h, hsp, hr⟩ := hS.own
  have hsp : O_pend_Pend hf x b h := hsp
  unfold O_pend_Pend at hsp
  rw [hx] at hsp
  obtain ⟨b_1, hsp⟩ := hsp
  exact ⟨b_1, St.splO (ps := [Cl b [.iface 211 (.pointer (some ⟨b_1, 0, none⟩))] 154, O_ladder_Ladder hf y b_1]) ⟨hS.base, hS.sub, h, hsp, hr⟩⟩
theorem O_pend_Pend.c2 {B : Base} {w : World} {l : List HProp} {hf : Hp} {x : pend_Pend} {b : Nat} {y : ladder_Ladder} {b_1 : Nat} (hx : x.q = .c2 y) (hS : St B w (Cl b [.iface 211 (.pointer (some ⟨b_1, 0, none⟩))] 154 :: O_ladder_Ladder hf y b_1 :: l) hf) : St B w (O_pend_Pend hf x b :: l) hf :=
  (St.splC (ps := [Cl b [.iface 211 (.pointer (some ⟨b_1, 0, none⟩))] 154, O_ladder_Ladder hf y b_1]) hS).imp fun h e => by
    unfold O_pend_Pend
    rw [hx]
    exact ⟨b_1, e⟩
theorem O_pend_Pend.m {hf hf' : Hp} (s : Sub hf hf') {x : pend_Pend} {b : Nat} : ∀ h, O_pend_Pend hf x b h → O_pend_Pend hf' x b h := fun h hh => by
  unfold O_pend_Pend at hh ⊢
  cases hx : x.q with
  | c0 y =>
    rw [hx] at hh
    obtain ⟨b_1, hh⟩ := hh
    exact ⟨b_1, spl_imp (PI.c (fun _ a => a) (PI.c (O_heap_Heap.m s) (PI.n))) h hh⟩
  | c1 y =>
    rw [hx] at hh
    obtain ⟨b_1, hh⟩ := hh
    exact ⟨b_1, spl_imp (PI.c (fun _ a => a) (PI.c (O_calendar_Calendar.m s) (PI.n))) h hh⟩
  | c2 y =>
    rw [hx] at hh
    obtain ⟨b_1, hh⟩ := hh
    exact ⟨b_1, spl_imp (PI.c (fun _ a => a) (PI.c (O_ladder_Ladder.m s) (PI.n))) h hh⟩
theorem O_pend_Pend.l {B : Base} {w : World} {l : List HProp} {hf hf' : Hp} (s : Sub hf hf') {x : pend_Pend} {b : Nat} (hS : St B w (O_pend_Pend hf x b :: l) hf') : St B w (O_pend_Pend hf' x b :: l) hf' := hS.imp (O_pend_Pend.m s)
structure lane_Lane where
  m : api_Model
  n : Int
  caps : api_Caps
  ways : (List Int)
  log : log_Log
  wait : pend_Pend
  open_ : (List lane_open)
  orphans : (List api_Message)
  early : List (lane_sending × Int)
  held : List (lane_sending × Bool)
  uid : Int
  setting : api_Setting
  stats : api_Stats
deriving Inhabited
def O_lane_Lane (hf : Hp) (x : lane_Lane) (b : Nat) : HProp := fun h => ∃ (A_1 : Option Addr) (c_2 : Nat) (A_4 : Option Addr) (c_5 : Nat) (A_7 : Option Addr) (c_8 : Nat) (A_10 : Option Addr) (c_11 : Nat) (b_13 : Nat) (b_14 : Nat) (A_15 : Option Addr) (c_16 : Nat) (A_17 : Option Addr) (c_18 : Nat) (b_19 : Nat) (b_20 : Nat), SlR (Rep.sl E_api_Instr.rep) hf A_1 c_2 x.m.Progs ∧ SlR E_api_Link.rep hf A_4 c_5 x.m.Links ∧ SlR E_api_Start.rep hf A_7 c_8 x.m.Starts ∧ SlR ((FI .i64).rep) hf A_10 c_11 x.ways ∧ spl [Cl b [.slice A_1 x.m.Progs.length c_2, .slice A_4 x.m.Links.length c_5, .slice A_7 x.m.Starts.length c_8, .int .u64 x.m.Seed, .int .i64 x.m.End, .int .i64 x.m.Budget, .int .i64 x.n, .int .i64 x.caps.Link, .int .i64 x.caps.Wait, .int .i64 x.caps.Log, .slice A_10 x.ways.length c_11, .pointer (some ⟨b_13, 0, none⟩), .pointer (some ⟨b_14, 0, none⟩), .slice A_15 x.open_.length c_16, .slice A_17 x.orphans.length c_18, .map (some b_19), .map (some b_20), .int .i64 x.uid, .int .i64 x.setting.Mode, .int .i64 x.setting.Every, .int .i64 x.setting.Cancel, .int .i64 x.setting.Reach, .int .i64 x.setting.Queue, .int .i64 x.stats.Done, .int .i64 x.stats.Undone, .int .i64 x.stats.Hits, .int .i64 x.stats.Held] 103, O_log_Log hf x.log b_13, O_pend_Pend hf x.wait b_14, OSf E_lane_open 221 (.slice A_15 x.open_.length c_16) x.open_, OSf E_api_Message 115 (.slice A_17 x.orphans.length c_18) x.orphans, MapF kv_lane_sending (Value.int .i64) b_19 x.early, MapF kv_lane_sending Value.bool b_20 x.held] h
theorem O_lane_Lane.o {B : Base} {w : World} {l : List HProp} {hf : Hp} {x : lane_Lane} {b : Nat} (hS : St B w (O_lane_Lane hf x b :: l) hf) : ∃ (A_1 : Option Addr) (c_2 : Nat) (A_4 : Option Addr) (c_5 : Nat) (A_7 : Option Addr) (c_8 : Nat) (A_10 : Option Addr) (c_11 : Nat) (b_13 : Nat) (b_14 : Nat) (A_15 : Option Addr) (c_16 : Nat) (A_17 : Option Addr) (c_18 : Nat) (b_19 : Nat) (b_20 : Nat), SlR (Rep.sl E_api_Instr.rep) hf A_1 c_2 x.m.Progs ∧ SlR E_api_Link.rep hf A_4 c_5 x.m.Links ∧ SlR E_api_Start.rep hf A_7 c_8 x.m.Starts ∧ SlR ((FI .i64).rep) hf A_10 c_11 x.ways ∧ St B w (Cl b [.slice A_1 x.m.Progs.length c_2, .slice A_4 x.m.Links.length c_5, .slice A_7 x.m.Starts.length c_8, .int .u64 x.m.Seed, .int .i64 x.m.End, .int .i64 x.m.Budget, .int .i64 x.n, .int .i64 x.caps.Link, .int .i64 x.caps.Wait, .int .i64 x.caps.Log, .slice A_10 x.ways.length c_11, .pointer (some ⟨b_13, 0, none⟩), .pointer (some ⟨b_14, 0, none⟩), .slice A_15 x.open_.length c_16, .slice A_17 x.orphans.length c_18, .map (some b_19), .map (some b_20), .int .i64 x.uid, .int .i64 x.setting.Mode, .int .i64 x.setting.Every, .int .i64 x.setting.Cancel, .int .i64 x.setting.Reach, .int .i64 x.setting.Queue, .int .i64 x.stats.Done, .int .i64 x.stats.Undone, .int .i64 x.stats.Hits, .int .i64 x.stats.Held] 103 :: O_log_Log hf x.log b_13 :: O_pend_Pend hf x.wait b_14 :: OSf E_lane_open 221 (.slice A_15 x.open_.length c_16) x.open_ :: OSf E_api_Message 115 (.slice A_17 x.orphans.length c_18) x.orphans :: MapF kv_lane_sending (Value.int .i64) b_19 x.early :: MapF kv_lane_sending Value.bool b_20 x.held :: l) hf := by
  obtain ⟨h, ⟨A_1, c_2, A_4, c_5, A_7, c_8, A_10, c_11, b_13, b_14, A_15, c_16, A_17, c_18, b_19, b_20, hr_3, hr_6, hr_9, hr_12, hsp⟩, hr⟩ := hS.own
  exact ⟨A_1, c_2, A_4, c_5, A_7, c_8, A_10, c_11, b_13, b_14, A_15, c_16, A_17, c_18, b_19, b_20, hr_3, hr_6, hr_9, hr_12, (St.splO (ps := [Cl b [.slice A_1 x.m.Progs.length c_2, .slice A_4 x.m.Links.length c_5, .slice A_7 x.m.Starts.length c_8, .int .u64 x.m.Seed, .int .i64 x.m.End, .int .i64 x.m.Budget, .int .i64 x.n, .int .i64 x.caps.Link, .int .i64 x.caps.Wait, .int .i64 x.caps.Log, .slice A_10 x.ways.length c_11, .pointer (some ⟨b_13, 0, none⟩), .pointer (some ⟨b_14, 0, none⟩), .slice A_15 x.open_.length c_16, .slice A_17 x.orphans.length c_18, .map (some b_19), .map (some b_20), .int .i64 x.uid, .int .i64 x.setting.Mode, .int .i64 x.setting.Every, .int .i64 x.setting.Cancel, .int .i64 x.setting.Reach, .int .i64 x.setting.Queue, .int .i64 x.stats.Done, .int .i64 x.stats.Undone, .int .i64 x.stats.Hits, .int .i64 x.stats.Held] 103, O_log_Log hf x.log b_13, O_pend_Pend hf x.wait b_14, OSf E_lane_open 221 (.slice A_15 x.open_.length c_16) x.open_, OSf E_api_Message 115 (.slice A_17 x.orphans.length c_18) x.orphans, MapF kv_lane_sending (Value.int .i64) b_19 x.early, MapF kv_lane_sending Value.bool b_20 x.held]) ⟨hS.base, hS.sub, h, hsp, hr⟩)⟩
theorem O_lane_Lane.c {B : Base} {w : World} {l : List HProp} {hf : Hp} {x : lane_Lane} {b : Nat} {A_1 : Option Addr} {c_2 : Nat} {A_4 : Option Addr} {c_5 : Nat} {A_7 : Option Addr} {c_8 : Nat} {A_10 : Option Addr} {c_11 : Nat} {b_13 : Nat} {b_14 : Nat} {A_15 : Option Addr} {c_16 : Nat} {A_17 : Option Addr} {c_18 : Nat} {b_19 : Nat} {b_20 : Nat} (hr_3 : SlR (Rep.sl E_api_Instr.rep) hf A_1 c_2 x.m.Progs) (hr_6 : SlR E_api_Link.rep hf A_4 c_5 x.m.Links) (hr_9 : SlR E_api_Start.rep hf A_7 c_8 x.m.Starts) (hr_12 : SlR ((FI .i64).rep) hf A_10 c_11 x.ways) (hS : St B w (Cl b [.slice A_1 x.m.Progs.length c_2, .slice A_4 x.m.Links.length c_5, .slice A_7 x.m.Starts.length c_8, .int .u64 x.m.Seed, .int .i64 x.m.End, .int .i64 x.m.Budget, .int .i64 x.n, .int .i64 x.caps.Link, .int .i64 x.caps.Wait, .int .i64 x.caps.Log, .slice A_10 x.ways.length c_11, .pointer (some ⟨b_13, 0, none⟩), .pointer (some ⟨b_14, 0, none⟩), .slice A_15 x.open_.length c_16, .slice A_17 x.orphans.length c_18, .map (some b_19), .map (some b_20), .int .i64 x.uid, .int .i64 x.setting.Mode, .int .i64 x.setting.Every, .int .i64 x.setting.Cancel, .int .i64 x.setting.Reach, .int .i64 x.setting.Queue, .int .i64 x.stats.Done, .int .i64 x.stats.Undone, .int .i64 x.stats.Hits, .int .i64 x.stats.Held] 103 :: O_log_Log hf x.log b_13 :: O_pend_Pend hf x.wait b_14 :: OSf E_lane_open 221 (.slice A_15 x.open_.length c_16) x.open_ :: OSf E_api_Message 115 (.slice A_17 x.orphans.length c_18) x.orphans :: MapF kv_lane_sending (Value.int .i64) b_19 x.early :: MapF kv_lane_sending Value.bool b_20 x.held :: l) hf) : St B w (O_lane_Lane hf x b :: l) hf :=
  (St.splC (ps := [Cl b [.slice A_1 x.m.Progs.length c_2, .slice A_4 x.m.Links.length c_5, .slice A_7 x.m.Starts.length c_8, .int .u64 x.m.Seed, .int .i64 x.m.End, .int .i64 x.m.Budget, .int .i64 x.n, .int .i64 x.caps.Link, .int .i64 x.caps.Wait, .int .i64 x.caps.Log, .slice A_10 x.ways.length c_11, .pointer (some ⟨b_13, 0, none⟩), .pointer (some ⟨b_14, 0, none⟩), .slice A_15 x.open_.length c_16, .slice A_17 x.orphans.length c_18, .map (some b_19), .map (some b_20), .int .i64 x.uid, .int .i64 x.setting.Mode, .int .i64 x.setting.Every, .int .i64 x.setting.Cancel, .int .i64 x.setting.Reach, .int .i64 x.setting.Queue, .int .i64 x.stats.Done, .int .i64 x.stats.Undone, .int .i64 x.stats.Hits, .int .i64 x.stats.Held] 103, O_log_Log hf x.log b_13, O_pend_Pend hf x.wait b_14, OSf E_lane_open 221 (.slice A_15 x.open_.length c_16) x.open_, OSf E_api_Message 115 (.slice A_17 x.orphans.length c_18) x.orphans, MapF kv_lane_sending (Value.int .i64) b_19 x.early, MapF kv_lane_sending Value.bool b_20 x.held]) hS).imp fun h e => ⟨A_1, c_2, A_4, c_5, A_7, c_8, A_10, c_11, b_13, b_14, A_15, c_16, A_17, c_18, b_19, b_20, hr_3, hr_6, hr_9, hr_12, e⟩
theorem O_lane_Lane.m {hf hf' : Hp} (s : Sub hf hf') {x : lane_Lane} {b : Nat} : ∀ h, O_lane_Lane hf x b h → O_lane_Lane hf' x b h := fun h ⟨A_1, c_2, A_4, c_5, A_7, c_8, A_10, c_11, b_13, b_14, A_15, c_16, A_17, c_18, b_19, b_20, hr_3, hr_6, hr_9, hr_12, e⟩ => ⟨A_1, c_2, A_4, c_5, A_7, c_8, A_10, c_11, b_13, b_14, A_15, c_16, A_17, c_18, b_19, b_20, hr_3.mono s, hr_6.mono s, hr_9.mono s, hr_12.mono s, spl_imp (PI.c (fun _ a => a) (PI.c (O_log_Log.m s) (PI.c (O_pend_Pend.m s) (PI.c (fun _ a => a) (PI.c (fun _ a => a) (PI.c (fun _ a => a) (PI.c (fun _ a => a) (PI.n)))))))) h e⟩
theorem O_lane_Lane.l {B : Base} {w : World} {l : List HProp} {hf hf' : Hp} (s : Sub hf hf') {x : lane_Lane} {b : Nat} (hS : St B w (O_lane_Lane hf x b :: l) hf') : St B w (O_lane_Lane hf' x b :: l) hf' := hS.imp (O_lane_Lane.m s)
def O_colour_Tally (hf : Hp) (x : colour_Tally) (b : Nat) : HProp := fun h => spl [Cl b [.bool x.made, .int .i64 x.colour, .int .i64 x.net.c0, .int .i64 x.net.c1, .int .i64 x.least] 119] h
theorem O_colour_Tally.o {B : Base} {w : World} {l : List HProp} {hf : Hp} {x : colour_Tally} {b : Nat} (hS : St B w (O_colour_Tally hf x b :: l) hf) : St B w (Cl b [.bool x.made, .int .i64 x.colour, .int .i64 x.net.c0, .int .i64 x.net.c1, .int .i64 x.least] 119 :: l) hf := by
  obtain ⟨h, hsp, hr⟩ := hS.own
  exact (St.splO (ps := [Cl b [.bool x.made, .int .i64 x.colour, .int .i64 x.net.c0, .int .i64 x.net.c1, .int .i64 x.least] 119]) ⟨hS.base, hS.sub, h, hsp, hr⟩)
theorem O_colour_Tally.c {B : Base} {w : World} {l : List HProp} {hf : Hp} {x : colour_Tally} {b : Nat}   (hS : St B w (Cl b [.bool x.made, .int .i64 x.colour, .int .i64 x.net.c0, .int .i64 x.net.c1, .int .i64 x.least] 119 :: l) hf) : St B w (O_colour_Tally hf x b :: l) hf :=
  (St.splC (ps := [Cl b [.bool x.made, .int .i64 x.colour, .int .i64 x.net.c0, .int .i64 x.net.c1, .int .i64 x.least] 119]) hS).imp fun h e => e
theorem O_colour_Tally.m {hf hf' : Hp} (s : Sub hf hf') {x : colour_Tally} {b : Nat} : ∀ h, O_colour_Tally hf x b h → O_colour_Tally hf' x b h := fun h e => spl_imp (PI.c (fun _ a => a) (PI.n)) h e
theorem O_colour_Tally.l {B : Base} {w : World} {l : List HProp} {hf hf' : Hp} (s : Sub hf hf') {x : colour_Tally} {b : Nat} (hS : St B w (O_colour_Tally hf x b :: l) hf') : St B w (O_colour_Tally hf' x b :: l) hf' := hS.imp (O_colour_Tally.m s)
def O_clock_Clocks (hf : Hp) (x : clock_Clocks) (b : Nat) : HProp := fun h => ∃ (A_1 : Option Addr) (c_2 : Nat), spl [Cl b [.bool x.made, .slice A_1 x.t.length c_2] 124, OSf (FI .i64) 2 (.slice A_1 x.t.length c_2) x.t] h
theorem O_clock_Clocks.o {B : Base} {w : World} {l : List HProp} {hf : Hp} {x : clock_Clocks} {b : Nat} (hS : St B w (O_clock_Clocks hf x b :: l) hf) : ∃ (A_1 : Option Addr) (c_2 : Nat), St B w (Cl b [.bool x.made, .slice A_1 x.t.length c_2] 124 :: OSf (FI .i64) 2 (.slice A_1 x.t.length c_2) x.t :: l) hf := by
  obtain ⟨h, ⟨A_1, c_2, hsp⟩, hr⟩ := hS.own
  exact ⟨A_1, c_2, (St.splO (ps := [Cl b [.bool x.made, .slice A_1 x.t.length c_2] 124, OSf (FI .i64) 2 (.slice A_1 x.t.length c_2) x.t]) ⟨hS.base, hS.sub, h, hsp, hr⟩)⟩
theorem O_clock_Clocks.c {B : Base} {w : World} {l : List HProp} {hf : Hp} {x : clock_Clocks} {b : Nat} {A_1 : Option Addr} {c_2 : Nat}  (hS : St B w (Cl b [.bool x.made, .slice A_1 x.t.length c_2] 124 :: OSf (FI .i64) 2 (.slice A_1 x.t.length c_2) x.t :: l) hf) : St B w (O_clock_Clocks hf x b :: l) hf :=
  (St.splC (ps := [Cl b [.bool x.made, .slice A_1 x.t.length c_2] 124, OSf (FI .i64) 2 (.slice A_1 x.t.length c_2) x.t]) hS).imp fun h e => ⟨A_1, c_2, e⟩
theorem O_clock_Clocks.m {hf hf' : Hp} (s : Sub hf hf') {x : clock_Clocks} {b : Nat} : ∀ h, O_clock_Clocks hf x b h → O_clock_Clocks hf' x b h := fun h ⟨A_1, c_2, e⟩ => ⟨A_1, c_2, spl_imp (PI.c (fun _ a => a) (PI.c (fun _ a => a) (PI.n))) h e⟩
theorem O_clock_Clocks.l {B : Base} {w : World} {l : List HProp} {hf hf' : Hp} (s : Sub hf hf') {x : clock_Clocks} {b : Nat} (hS : St B w (O_clock_Clocks hf x b :: l) hf') : St B w (O_clock_Clocks hf' x b :: l) hf' := hS.imp (O_clock_Clocks.m s)
structure kernel_place where
  Lane : lane_Lane
  tally : colour_Tally
  clocks : clock_Clocks
  ways : (List Int)
  into : List (Int × Int)
deriving Inhabited
def O_kernel_place (hf : Hp) (x : kernel_place) (b : Nat) : HProp := fun h => ∃ (b_1 : Nat) (b_2 : Nat) (b_3 : Nat) (A_4 : Option Addr) (c_5 : Nat) (b_7 : Nat), SlR ((FI .i64).rep) hf A_4 c_5 x.ways ∧ spl [Cl b [.pointer (some ⟨b_1, 0, none⟩), .pointer (some ⟨b_2, 0, none⟩), .pointer (some ⟨b_3, 0, none⟩), .slice A_4 x.ways.length c_5, .map (some b_7)] 61, O_lane_Lane hf x.Lane b_1, O_colour_Tally hf x.tally b_2, O_clock_Clocks hf x.clocks b_3, MapF (Value.int .i64) (Value.int .i64) b_7 x.into] h
theorem O_kernel_place.o {B : Base} {w : World} {l : List HProp} {hf : Hp} {x : kernel_place} {b : Nat} (hS : St B w (O_kernel_place hf x b :: l) hf) : ∃ (b_1 : Nat) (b_2 : Nat) (b_3 : Nat) (A_4 : Option Addr) (c_5 : Nat) (b_7 : Nat), SlR ((FI .i64).rep) hf A_4 c_5 x.ways ∧ St B w (Cl b [.pointer (some ⟨b_1, 0, none⟩), .pointer (some ⟨b_2, 0, none⟩), .pointer (some ⟨b_3, 0, none⟩), .slice A_4 x.ways.length c_5, .map (some b_7)] 61 :: O_lane_Lane hf x.Lane b_1 :: O_colour_Tally hf x.tally b_2 :: O_clock_Clocks hf x.clocks b_3 :: MapF (Value.int .i64) (Value.int .i64) b_7 x.into :: l) hf := by
  obtain ⟨h, ⟨b_1, b_2, b_3, A_4, c_5, b_7, hr_6, hsp⟩, hr⟩ := hS.own
  exact ⟨b_1, b_2, b_3, A_4, c_5, b_7, hr_6, (St.splO (ps := [Cl b [.pointer (some ⟨b_1, 0, none⟩), .pointer (some ⟨b_2, 0, none⟩), .pointer (some ⟨b_3, 0, none⟩), .slice A_4 x.ways.length c_5, .map (some b_7)] 61, O_lane_Lane hf x.Lane b_1, O_colour_Tally hf x.tally b_2, O_clock_Clocks hf x.clocks b_3, MapF (Value.int .i64) (Value.int .i64) b_7 x.into]) ⟨hS.base, hS.sub, h, hsp, hr⟩)⟩
theorem O_kernel_place.c {B : Base} {w : World} {l : List HProp} {hf : Hp} {x : kernel_place} {b : Nat} {b_1 : Nat} {b_2 : Nat} {b_3 : Nat} {A_4 : Option Addr} {c_5 : Nat} {b_7 : Nat} (hr_6 : SlR ((FI .i64).rep) hf A_4 c_5 x.ways) (hS : St B w (Cl b [.pointer (some ⟨b_1, 0, none⟩), .pointer (some ⟨b_2, 0, none⟩), .pointer (some ⟨b_3, 0, none⟩), .slice A_4 x.ways.length c_5, .map (some b_7)] 61 :: O_lane_Lane hf x.Lane b_1 :: O_colour_Tally hf x.tally b_2 :: O_clock_Clocks hf x.clocks b_3 :: MapF (Value.int .i64) (Value.int .i64) b_7 x.into :: l) hf) : St B w (O_kernel_place hf x b :: l) hf :=
  (St.splC (ps := [Cl b [.pointer (some ⟨b_1, 0, none⟩), .pointer (some ⟨b_2, 0, none⟩), .pointer (some ⟨b_3, 0, none⟩), .slice A_4 x.ways.length c_5, .map (some b_7)] 61, O_lane_Lane hf x.Lane b_1, O_colour_Tally hf x.tally b_2, O_clock_Clocks hf x.clocks b_3, MapF (Value.int .i64) (Value.int .i64) b_7 x.into]) hS).imp fun h e => ⟨b_1, b_2, b_3, A_4, c_5, b_7, hr_6, e⟩
theorem O_kernel_place.m {hf hf' : Hp} (s : Sub hf hf') {x : kernel_place} {b : Nat} : ∀ h, O_kernel_place hf x b h → O_kernel_place hf' x b h := fun h ⟨b_1, b_2, b_3, A_4, c_5, b_7, hr_6, e⟩ => ⟨b_1, b_2, b_3, A_4, c_5, b_7, hr_6.mono s, spl_imp (PI.c (fun _ a => a) (PI.c (O_lane_Lane.m s) (PI.c (O_colour_Tally.m s) (PI.c (O_clock_Clocks.m s) (PI.c (fun _ a => a) (PI.n)))))) h e⟩
theorem O_kernel_place.l {B : Base} {w : World} {l : List HProp} {hf hf' : Hp} (s : Sub hf hf') {x : kernel_place} {b : Nat} (hS : St B w (O_kernel_place hf x b :: l) hf') : St B w (O_kernel_place hf' x b :: l) hf' := hS.imp (O_kernel_place.m s)
def O_link_Way (hf : Hp) (x : link_Way) (b : Nat) : HProp := fun h => ∃ (A_1 : Option Addr) (c_2 : Nat), spl [Cl b [.int .i64 x.link.From, .int .i64 x.link.To, .int .i64 x.link.Look, .bool x.link.Loose, .int .i64 x.most, .slice A_1 x.l.length c_2] 128, OSf E_api_Parcel 169 (.slice A_1 x.l.length c_2) x.l] h
theorem O_link_Way.o {B : Base} {w : World} {l : List HProp} {hf : Hp} {x : link_Way} {b : Nat} (hS : St B w (O_link_Way hf x b :: l) hf) : ∃ (A_1 : Option Addr) (c_2 : Nat), St B w (Cl b [.int .i64 x.link.From, .int .i64 x.link.To, .int .i64 x.link.Look, .bool x.link.Loose, .int .i64 x.most, .slice A_1 x.l.length c_2] 128 :: OSf E_api_Parcel 169 (.slice A_1 x.l.length c_2) x.l :: l) hf := by
  obtain ⟨h, ⟨A_1, c_2, hsp⟩, hr⟩ := hS.own
  exact ⟨A_1, c_2, (St.splO (ps := [Cl b [.int .i64 x.link.From, .int .i64 x.link.To, .int .i64 x.link.Look, .bool x.link.Loose, .int .i64 x.most, .slice A_1 x.l.length c_2] 128, OSf E_api_Parcel 169 (.slice A_1 x.l.length c_2) x.l]) ⟨hS.base, hS.sub, h, hsp, hr⟩)⟩
theorem O_link_Way.c {B : Base} {w : World} {l : List HProp} {hf : Hp} {x : link_Way} {b : Nat} {A_1 : Option Addr} {c_2 : Nat}  (hS : St B w (Cl b [.int .i64 x.link.From, .int .i64 x.link.To, .int .i64 x.link.Look, .bool x.link.Loose, .int .i64 x.most, .slice A_1 x.l.length c_2] 128 :: OSf E_api_Parcel 169 (.slice A_1 x.l.length c_2) x.l :: l) hf) : St B w (O_link_Way hf x b :: l) hf :=
  (St.splC (ps := [Cl b [.int .i64 x.link.From, .int .i64 x.link.To, .int .i64 x.link.Look, .bool x.link.Loose, .int .i64 x.most, .slice A_1 x.l.length c_2] 128, OSf E_api_Parcel 169 (.slice A_1 x.l.length c_2) x.l]) hS).imp fun h e => ⟨A_1, c_2, e⟩
theorem O_link_Way.m {hf hf' : Hp} (s : Sub hf hf') {x : link_Way} {b : Nat} : ∀ h, O_link_Way hf x b h → O_link_Way hf' x b h := fun h ⟨A_1, c_2, e⟩ => ⟨A_1, c_2, spl_imp (PI.c (fun _ a => a) (PI.c (fun _ a => a) (PI.n))) h e⟩
theorem O_link_Way.l {B : Base} {w : World} {l : List HProp} {hf hf' : Hp} (s : Sub hf hf') {x : link_Way} {b : Nat} (hS : St B w (O_link_Way hf x b :: l) hf') : St B w (O_link_Way hf' x b :: l) hf' := hS.imp (O_link_Way.m s)
def O_colour_Token (hf : Hp) (x : colour_Token) (b : Nat) : HProp := fun h => spl [Cl b [.int .i64 x.n, .int .i64 x.at_, .bool x.counting, .int .i64 x.sum, .int .i64 x.least] 130] h
theorem O_colour_Token.o {B : Base} {w : World} {l : List HProp} {hf : Hp} {x : colour_Token} {b : Nat} (hS : St B w (O_colour_Token hf x b :: l) hf) : St B w (Cl b [.int .i64 x.n, .int .i64 x.at_, .bool x.counting, .int .i64 x.sum, .int .i64 x.least] 130 :: l) hf := by
  obtain ⟨h, hsp, hr⟩ := hS.own
  exact (St.splO (ps := [Cl b [.int .i64 x.n, .int .i64 x.at_, .bool x.counting, .int .i64 x.sum, .int .i64 x.least] 130]) ⟨hS.base, hS.sub, h, hsp, hr⟩)
theorem O_colour_Token.c {B : Base} {w : World} {l : List HProp} {hf : Hp} {x : colour_Token} {b : Nat}   (hS : St B w (Cl b [.int .i64 x.n, .int .i64 x.at_, .bool x.counting, .int .i64 x.sum, .int .i64 x.least] 130 :: l) hf) : St B w (O_colour_Token hf x b :: l) hf :=
  (St.splC (ps := [Cl b [.int .i64 x.n, .int .i64 x.at_, .bool x.counting, .int .i64 x.sum, .int .i64 x.least] 130]) hS).imp fun h e => e
theorem O_colour_Token.m {hf hf' : Hp} (s : Sub hf hf') {x : colour_Token} {b : Nat} : ∀ h, O_colour_Token hf x b h → O_colour_Token hf' x b h := fun h e => spl_imp (PI.c (fun _ a => a) (PI.n)) h e
theorem O_colour_Token.l {B : Base} {w : World} {l : List HProp} {hf hf' : Hp} (s : Sub hf hf') {x : colour_Token} {b : Nat} (hS : St B w (O_colour_Token hf x b :: l) hf') : St B w (O_colour_Token hf' x b :: l) hf' := hS.imp (O_colour_Token.m s)
structure kernel_Kernel where
  m : api_Model
  at_ : (List kernel_place)
  ways : (List link_Way)
  token : colour_Token
  global : Int
  window : Int
  width : Int
  history : (List api_Done)
  stop : Int
deriving Inhabited
def O_kernel_Kernel (hf : Hp) (x : kernel_Kernel) (b : Nat) : HProp := fun h => ∃ (A_1 : Option Addr) (c_2 : Nat) (A_4 : Option Addr) (c_5 : Nat) (A_7 : Option Addr) (c_8 : Nat) (A_10 : Option Addr) (c_11 : Nat) (bs_12 : List Nat) (A_14 : Option Addr) (c_15 : Nat) (bs_16 : List Nat) (b_18 : Nat) (A_19 : Option Addr) (c_20 : Nat), SlR (Rep.sl E_api_Instr.rep) hf A_1 c_2 x.m.Progs ∧ SlR E_api_Link.rep hf A_4 c_5 x.m.Links ∧ SlR E_api_Start.rep hf A_7 c_8 x.m.Starts ∧ spl [Cl b [.slice A_1 x.m.Progs.length c_2, .slice A_4 x.m.Links.length c_5, .slice A_7 x.m.Starts.length c_8, .int .u64 x.m.Seed, .int .i64 x.m.End, .int .i64 x.m.Budget, .slice A_10 bs_12.length c_11, .slice A_14 bs_16.length c_15, .pointer (some ⟨b_18, 0, none⟩), .int .i64 x.global, .int .i64 x.window, .int .i64 x.width, .slice A_19 x.history.length c_20, .int .i64 x.stop] 48, OSf FP 53 (.slice A_10 bs_12.length c_11) bs_12, SepL (O_kernel_place hf) x.at_ bs_12, OSf FP 66 (.slice A_14 bs_16.length c_15) bs_16, SepL (O_link_Way hf) x.ways bs_16, O_colour_Token hf x.token b_18, OSf E_api_Done 251 (.slice A_19 x.history.length c_20) x.history] h
theorem O_kernel_Kernel.o {B : Base} {w : World} {l : List HProp} {hf : Hp} {x : kernel_Kernel} {b : Nat} (hS : St B w (O_kernel_Kernel hf x b :: l) hf) : ∃ (A_1 : Option Addr) (c_2 : Nat) (A_4 : Option Addr) (c_5 : Nat) (A_7 : Option Addr) (c_8 : Nat) (A_10 : Option Addr) (c_11 : Nat) (bs_12 : List Nat) (A_14 : Option Addr) (c_15 : Nat) (bs_16 : List Nat) (b_18 : Nat) (A_19 : Option Addr) (c_20 : Nat), SlR (Rep.sl E_api_Instr.rep) hf A_1 c_2 x.m.Progs ∧ SlR E_api_Link.rep hf A_4 c_5 x.m.Links ∧ SlR E_api_Start.rep hf A_7 c_8 x.m.Starts ∧ St B w (Cl b [.slice A_1 x.m.Progs.length c_2, .slice A_4 x.m.Links.length c_5, .slice A_7 x.m.Starts.length c_8, .int .u64 x.m.Seed, .int .i64 x.m.End, .int .i64 x.m.Budget, .slice A_10 bs_12.length c_11, .slice A_14 bs_16.length c_15, .pointer (some ⟨b_18, 0, none⟩), .int .i64 x.global, .int .i64 x.window, .int .i64 x.width, .slice A_19 x.history.length c_20, .int .i64 x.stop] 48 :: OSf FP 53 (.slice A_10 bs_12.length c_11) bs_12 :: SepL (O_kernel_place hf) x.at_ bs_12 :: OSf FP 66 (.slice A_14 bs_16.length c_15) bs_16 :: SepL (O_link_Way hf) x.ways bs_16 :: O_colour_Token hf x.token b_18 :: OSf E_api_Done 251 (.slice A_19 x.history.length c_20) x.history :: l) hf := by
  obtain ⟨h, ⟨A_1, c_2, A_4, c_5, A_7, c_8, A_10, c_11, bs_12, A_14, c_15, bs_16, b_18, A_19, c_20, hr_3, hr_6, hr_9, hsp⟩, hr⟩ := hS.own
  exact ⟨A_1, c_2, A_4, c_5, A_7, c_8, A_10, c_11, bs_12, A_14, c_15, bs_16, b_18, A_19, c_20, hr_3, hr_6, hr_9, (St.splO (ps := [Cl b [.slice A_1 x.m.Progs.length c_2, .slice A_4 x.m.Links.length c_5, .slice A_7 x.m.Starts.length c_8, .int .u64 x.m.Seed, .int .i64 x.m.End, .int .i64 x.m.Budget, .slice A_10 bs_12.length c_11, .slice A_14 bs_16.length c_15, .pointer (some ⟨b_18, 0, none⟩), .int .i64 x.global, .int .i64 x.window, .int .i64 x.width, .slice A_19 x.history.length c_20, .int .i64 x.stop] 48, OSf FP 53 (.slice A_10 bs_12.length c_11) bs_12, SepL (O_kernel_place hf) x.at_ bs_12, OSf FP 66 (.slice A_14 bs_16.length c_15) bs_16, SepL (O_link_Way hf) x.ways bs_16, O_colour_Token hf x.token b_18, OSf E_api_Done 251 (.slice A_19 x.history.length c_20) x.history]) ⟨hS.base, hS.sub, h, hsp, hr⟩)⟩
theorem O_kernel_Kernel.c {B : Base} {w : World} {l : List HProp} {hf : Hp} {x : kernel_Kernel} {b : Nat} {A_1 : Option Addr} {c_2 : Nat} {A_4 : Option Addr} {c_5 : Nat} {A_7 : Option Addr} {c_8 : Nat} {A_10 : Option Addr} {c_11 : Nat} {bs_12 : List Nat} {A_14 : Option Addr} {c_15 : Nat} {bs_16 : List Nat} {b_18 : Nat} {A_19 : Option Addr} {c_20 : Nat} (hr_3 : SlR (Rep.sl E_api_Instr.rep) hf A_1 c_2 x.m.Progs) (hr_6 : SlR E_api_Link.rep hf A_4 c_5 x.m.Links) (hr_9 : SlR E_api_Start.rep hf A_7 c_8 x.m.Starts) (hS : St B w (Cl b [.slice A_1 x.m.Progs.length c_2, .slice A_4 x.m.Links.length c_5, .slice A_7 x.m.Starts.length c_8, .int .u64 x.m.Seed, .int .i64 x.m.End, .int .i64 x.m.Budget, .slice A_10 bs_12.length c_11, .slice A_14 bs_16.length c_15, .pointer (some ⟨b_18, 0, none⟩), .int .i64 x.global, .int .i64 x.window, .int .i64 x.width, .slice A_19 x.history.length c_20, .int .i64 x.stop] 48 :: OSf FP 53 (.slice A_10 bs_12.length c_11) bs_12 :: SepL (O_kernel_place hf) x.at_ bs_12 :: OSf FP 66 (.slice A_14 bs_16.length c_15) bs_16 :: SepL (O_link_Way hf) x.ways bs_16 :: O_colour_Token hf x.token b_18 :: OSf E_api_Done 251 (.slice A_19 x.history.length c_20) x.history :: l) hf) : St B w (O_kernel_Kernel hf x b :: l) hf :=
  (St.splC (ps := [Cl b [.slice A_1 x.m.Progs.length c_2, .slice A_4 x.m.Links.length c_5, .slice A_7 x.m.Starts.length c_8, .int .u64 x.m.Seed, .int .i64 x.m.End, .int .i64 x.m.Budget, .slice A_10 bs_12.length c_11, .slice A_14 bs_16.length c_15, .pointer (some ⟨b_18, 0, none⟩), .int .i64 x.global, .int .i64 x.window, .int .i64 x.width, .slice A_19 x.history.length c_20, .int .i64 x.stop] 48, OSf FP 53 (.slice A_10 bs_12.length c_11) bs_12, SepL (O_kernel_place hf) x.at_ bs_12, OSf FP 66 (.slice A_14 bs_16.length c_15) bs_16, SepL (O_link_Way hf) x.ways bs_16, O_colour_Token hf x.token b_18, OSf E_api_Done 251 (.slice A_19 x.history.length c_20) x.history]) hS).imp fun h e => ⟨A_1, c_2, A_4, c_5, A_7, c_8, A_10, c_11, bs_12, A_14, c_15, bs_16, b_18, A_19, c_20, hr_3, hr_6, hr_9, e⟩
theorem O_kernel_Kernel.m {hf hf' : Hp} (s : Sub hf hf') {x : kernel_Kernel} {b : Nat} : ∀ h, O_kernel_Kernel hf x b h → O_kernel_Kernel hf' x b h := fun h ⟨A_1, c_2, A_4, c_5, A_7, c_8, A_10, c_11, bs_12, A_14, c_15, bs_16, b_18, A_19, c_20, hr_3, hr_6, hr_9, e⟩ => ⟨A_1, c_2, A_4, c_5, A_7, c_8, A_10, c_11, bs_12, A_14, c_15, bs_16, b_18, A_19, c_20, hr_3.mono s, hr_6.mono s, hr_9.mono s, spl_imp (PI.c (fun _ a => a) (PI.c (fun _ a => a) (PI.c (fun _ a => SepL.m (fun _ _ => O_kernel_place.m s) a) (PI.c (fun _ a => a) (PI.c (fun _ a => SepL.m (fun _ _ => O_link_Way.m s) a) (PI.c (O_colour_Token.m s) (PI.c (fun _ a => a) (PI.n)))))))) h e⟩
theorem O_kernel_Kernel.l {B : Base} {w : World} {l : List HProp} {hf hf' : Hp} (s : Sub hf hf') {x : kernel_Kernel} {b : Nat} (hS : St B w (O_kernel_Kernel hf x b :: l) hf') : St B w (O_kernel_Kernel hf' x b :: l) hf' := hS.imp (O_kernel_Kernel.m s)
def tb : List (Nat × Ti) := [(2, ⟨false, 1, [], [], .no⟩),
  (3, ⟨false, 1, [], [.int .i64 0], .int .i64⟩),
  (4, ⟨false, 1, [], [], .no⟩),
  (22, ⟨false, 1, [], [], .sl⟩),
  (23, ⟨false, 1, [], [], .sl⟩),
  (24, ⟨false, 1, [], [], .sl⟩),
  (25, ⟨false, 1, [], [], .no⟩),
  (27, ⟨true, 6, [(0, 1), (1, 1), (2, 1), (3, 1), (4, 1), (5, 1)], [.slice none 0 0, .slice none 0 0, .slice none 0 0, .int .u64 0, .int .i64 0, .int .i64 0], .no⟩),
  (29, ⟨true, 3, [(0, 1), (1, 1), (2, 1)], [.int .i64 0, .int .i64 0, .int .i64 0], .no⟩),
  (31, ⟨false, 1, [], [], .int .i64⟩),
  (36, ⟨true, 5, [(0, 1), (1, 1), (2, 1), (3, 1), (4, 1)], [.int .i64 0, .int .i64 0, .int .i64 0, .int .i64 0, .int .i64 0], .no⟩),
  (40, ⟨true, 3, [(0, 1), (1, 1), (2, 1)], [.int .i64 0, .int .i64 0, .int .i64 0], .no⟩),
  (43, ⟨false, 1, [], [], .no⟩),
  (44, ⟨false, 1, [], [], .no⟩),
  (45, ⟨false, 1, [], [], .no⟩),
  (46, ⟨false, 1, [], [], .sl⟩),
  (48, ⟨true, 14, [(0, 6), (6, 1), (7, 1), (8, 1), (9, 1), (10, 1), (11, 1), (12, 1), (13, 1)], [.slice none 0 0, .slice none 0 0, .slice none 0 0, .int .u64 0, .int .i64 0, .int .i64 0, .slice none 0 0, .slice none 0 0, .pointer none, .int .i64 0, .int .i64 0, .int .i64 0, .slice none 0 0, .int .i64 0], .no⟩),
  (50, ⟨false, 1, [], [], .no⟩),
  (54, ⟨false, 1, [], [], .no⟩),
  (56, ⟨false, 1, [], [], .sl⟩),
  (58, ⟨false, 1, [], [], .no⟩),
  (59, ⟨false, 1, [], [], .no⟩),
  (61, ⟨true, 5, [(0, 1), (1, 1), (2, 1), (3, 1), (4, 1)], [.pointer none, .pointer none, .pointer none, .slice none 0 0, .map none], .no⟩),
  (65, ⟨true, 4, [(0, 1), (1, 1), (2, 1), (3, 1)], [.int .i64 0, .int .i64 0, .int .i64 0, .bool false], .no⟩),
  (77, ⟨false, 1, [], [], .no⟩),
  (79, ⟨true, 1, [(0, 1)], [.nilFunc], .no⟩),
  (80, ⟨true, 4, [], [.nilFunc, .nilFunc, .nilFunc, .nilFunc], .no⟩),
  (83, ⟨true, 2, [(0, 1), (1, 1)], [.int .i64 0, .int .i64 0], .ok⟩),
  (85, ⟨false, 1, [], [], .no⟩),
  (87, ⟨false, 1, [], [], .ok⟩),
  (89, ⟨false, 1, [], [], .sl⟩),
  (91, ⟨true, 4, [(0, 1), (1, 1), (2, 1), (3, 1)], [.slice none 0 0, .int .i64 0, .slice none 0 0, .int .u64 0], .no⟩),
  (95, ⟨false, 1, [], [], .no⟩),
  (96, ⟨false, 1, [], [], .no⟩),
  (97, ⟨false, 1, [], [], .no⟩),
  (98, ⟨false, 1, [], [], .sl⟩),
  (99, ⟨false, 1, [], [], .sl⟩),
  (103, ⟨true, 27, [(0, 6), (6, 1), (7, 3), (10, 1), (11, 1), (12, 1), (13, 1), (14, 1), (15, 1), (16, 1), (17, 1), (18, 5), (23, 4)], [.slice none 0 0, .slice none 0 0, .slice none 0 0, .int .u64 0, .int .i64 0, .int .i64 0, .int .i64 0, .int .i64 0, .int .i64 0, .int .i64 0, .slice none 0 0, .pointer none, .pointer none, .slice none 0 0, .slice none 0 0, .map none, .map none, .int .i64 0, .int .i64 0, .int .i64 0, .int .i64 0, .int .i64 0, .int .i64 0, .int .i64 0, .int .i64 0, .int .i64 0, .int .i64 0], .no⟩),
  (108, ⟨true, 10, [(0, 8), (8, 1), (9, 1)], [.int .i64 0, .int .i64 0, .int .i64 0, .int .i64 0, .int .i64 0, .int .i64 0, .int .i64 0, .int .i64 0, .int .i64 0, .int .i64 0], .no⟩),
  (113, ⟨true, 3, [(0, 1), (1, 1), (2, 1)], [.int .i64 0, .int .i64 0, .int .i64 0], .no⟩),
  (115, ⟨true, 7, [(0, 3), (3, 1), (4, 1), (5, 1), (6, 1)], [.int .i64 0, .int .i64 0, .int .i64 0, .int .i64 0, .int .i64 0, .int .i64 0, .bool false], .no⟩),
  (119, ⟨true, 5, [(0, 1), (1, 1), (2, 2), (4, 1)], [.bool false, .int .i64 0, .int .i64 0, .int .i64 0, .int .i64 0], .no⟩),
  (122, ⟨false, 1, [], [], .sl⟩),
  (124, ⟨true, 2, [(0, 1), (1, 1)], [.bool false, .slice none 0 0], .no⟩),
  (128, ⟨true, 6, [(0, 4), (4, 1), (5, 1)], [.int .i64 0, .int .i64 0, .int .i64 0, .bool false, .int .i64 0, .slice none 0 0], .no⟩),
  (130, ⟨true, 5, [(0, 1), (1, 1), (2, 1), (3, 1), (4, 1)], [.int .i64 0, .int .i64 0, .bool false, .int .i64 0, .int .i64 0], .no⟩),
  (134, ⟨true, 3, [], [.pointer none, .pointer none, .int .u64 0], .no⟩),
  (147, ⟨false, 1, [], [], .sl⟩),
  (149, ⟨true, 18, [(0, 4), (4, 1), (5, 10), (15, 1), (16, 1), (17, 1)], [.slice none 0 0, .int .i64 0, .slice none 0 0, .int .u64 0, .bool false, .int .i64 0, .int .i64 0, .int .i64 0, .int .i64 0, .int .i64 0, .int .i64 0, .int .i64 0, .int .i64 0, .int .i64 0, .int .i64 0, .int .i64 0, .slice none 0 0, .bool false], .no⟩),
  (151, ⟨false, 1, [], [], .no⟩),
  (154, ⟨true, 1, [(0, 1)], [.nilIface], .no⟩),
  (156, ⟨true, 3, [(0, 1), (1, 1), (2, 1)], [.int .i64 0, .int .i64 0, .int .i64 0], .no⟩),
  (159, ⟨true, 2, [(0, 1), (1, 1)], [.int .i64 0, .int .i64 0], .no⟩),
  (177, ⟨true, 2, [(0, 1), (1, 1)], [.int .i64 0, .int .i64 0], .ok⟩),
  (179, ⟨false, 1, [], [], .ok⟩),
  (201, ⟨false, 1, [], [], .sl⟩),
  (206, ⟨false, 1, [], [], .ok⟩),
  (208, ⟨false, 1, [], [], .ok⟩),
  (211, ⟨false, 1, [], [], .ok⟩),
  (221, ⟨true, 14, [(0, 7), (7, 7)], [.int .i64 0, .int .i64 0, .int .i64 0, .int .i64 0, .int .i64 0, .int .i64 0, .bool false, .int .i64 0, .int .i64 0, .int .i64 0, .int .i64 0, .int .i64 0, .int .i64 0, .bool false], .no⟩),
  (222, ⟨false, 1, [], [], .no⟩),
  (229, ⟨true, 19, [(0, 7), (7, 10), (17, 1), (18, 1)], [.int .i64 0, .int .i64 0, .int .i64 0, .int .i64 0, .int .i64 0, .int .i64 0, .bool false, .int .i64 0, .int .i64 0, .int .i64 0, .int .i64 0, .int .i64 0, .int .i64 0, .int .i64 0, .int .i64 0, .int .i64 0, .int .i64 0, .int .i64 0, .slice none 0 0], .no⟩),
  (245, ⟨false, 1, [], [.slice none 0 0], .sl⟩),
  (251, ⟨true, 5, [(0, 3), (3, 1), (4, 1)], [.int .i64 0, .int .i64 0, .int .i64 0, .int .i64 0, .int .i64 0], .no⟩),
  (264, ⟨false, 1, [], [], .ok⟩),
  (266, ⟨true, 1, [(0, 1)], [.slice none 0 0], .no⟩),
  (268, ⟨true, 2, [(0, 1), (1, 1)], [.slice none 0 0, .nilFunc], .no⟩),
  (270, ⟨true, 2, [(0, 2)], [.slice none 0 0, .nilFunc], .no⟩),
  (271, ⟨false, 1, [], [], .no⟩),
  (273, ⟨true, 3, [(0, 1), (1, 1), (2, 1)], [.int .i64 0, .map none, .int .i64 0], .no⟩),
  (275, ⟨true, 1, [(0, 1)], [], .no⟩),
  (276, ⟨false, 1, [], [], .no⟩),
  (278, ⟨true, 3, [(0, 1), (1, 1), (2, 1)], [.slice none 0 0, .int .i64 0, .slice none 0 0], .no⟩),
  (286, ⟨true, 10, [(0, 7), (7, 1), (8, 1), (9, 1)], [], .no⟩),
  (307, ⟨true, 2, [(0, 1), (1, 1)], [.int .i64 0, .int .i64 0], .no⟩),
  (308, ⟨true, 10, [], [.int .i64 0, .int .i64 0, .int .i64 0, .int .i64 0, .int .i64 0, .int .i64 0, .int .i64 0, .int .i64 0, .int .i64 0, .int .i64 0], .no⟩),
  (312, ⟨true, 4, [(0, 1), (1, 1), (2, 1), (3, 1)], [.int .i64 0, .int .i64 0, .int .i64 0, .int .i64 0], .no⟩),
  (314, ⟨false, 1, [], [], .ok⟩),
  (316, ⟨true, 2, [(0, 1), (1, 1)], [.int .i64 0, .nilIface], .no⟩),
  (329, ⟨true, 17, [], [.string lit_, .string lit_, .string lit_, .string lit_, .string lit_, .string lit_, .string lit_, .string lit_, .string lit_, .string lit_, .string lit_, .string lit_, .string lit_, .string lit_, .string lit_, .string lit_, .string lit_], .no⟩),
  (342, ⟨false, 1, [], [], .int .u64⟩),
  (388, ⟨false, 1, [], [], .no⟩),
  (399, ⟨false, 1, [], [], .sl⟩)]
theorem tbOK : TbOK prog tb :=
  tbc ⟨isAgg2, sizeOf2, .inl rfl, .inl rfl, trivial⟩
  (tbc ⟨isAgg3, sizeOf3, .inl rfl, .inr ⟨_, zeroValue3, rfl⟩, underlying3⟩
  (tbc ⟨isAgg4, sizeOf4, .inl rfl, .inl rfl, trivial⟩
  (tbc ⟨isAgg22, sizeOf22, .inl rfl, .inl rfl, ⟨_, underlying22⟩⟩
  (tbc ⟨isAgg23, sizeOf23, .inl rfl, .inl rfl, ⟨_, underlying23⟩⟩
  (tbc ⟨isAgg24, sizeOf24, .inl rfl, .inl rfl, ⟨_, underlying24⟩⟩
  (tbc ⟨isAgg25, sizeOf25, .inl rfl, .inl rfl, trivial⟩
  (tbc ⟨isAgg27, sizeOf27, .inr ⟨_, underlying27, (flc rfl sizeOf22 (flc rfl sizeOf23 (flc rfl sizeOf24 (flc rfl sizeOf25 (flc rfl sizeOf2 (flc rfl sizeOf3 trivial))))))⟩, .inr ⟨_, zeroValue27, rfl⟩, trivial⟩
  (tbc ⟨isAgg29, sizeOf29, .inr ⟨_, underlying29, (flc rfl sizeOf3 (flc rfl sizeOf3 (flc rfl sizeOf3 trivial)))⟩, .inr ⟨_, zeroValue29, rfl⟩, trivial⟩
  (tbc ⟨isAgg31, sizeOf31, .inl rfl, .inl rfl, underlying31⟩
  (tbc ⟨isAgg36, sizeOf36, .inr ⟨_, underlying36, (flc rfl sizeOf3 (flc rfl sizeOf3 (flc rfl sizeOf3 (flc rfl sizeOf2 (flc rfl sizeOf3 trivial)))))⟩, .inr ⟨_, zeroValue36, rfl⟩, trivial⟩
  (tbc ⟨isAgg40, sizeOf40, .inr ⟨_, underlying40, (flc rfl sizeOf3 (flc rfl sizeOf3 (flc rfl sizeOf3 trivial)))⟩, .inr ⟨_, zeroValue40, rfl⟩, trivial⟩
  (tbc ⟨isAgg43, sizeOf43, .inl rfl, .inl rfl, trivial⟩
  (tbc ⟨isAgg44, sizeOf44, .inl rfl, .inl rfl, trivial⟩
  (tbc ⟨isAgg45, sizeOf45, .inl rfl, .inl rfl, trivial⟩
  (tbc ⟨isAgg46, sizeOf46, .inl rfl, .inl rfl, ⟨_, underlying46⟩⟩
  (tbc ⟨isAgg48, sizeOf48, .inr ⟨_, underlying48, (flc rfl sizeOf27 (flc rfl sizeOf43 (flc rfl sizeOf44 (flc rfl sizeOf45 (flc rfl sizeOf2 (flc rfl sizeOf2 (flc rfl sizeOf2 (flc rfl sizeOf46 (flc rfl sizeOf3 trivial)))))))))⟩, .inr ⟨_, zeroValue48, rfl⟩, trivial⟩
  (tbc ⟨isAgg50, sizeOf50, .inl rfl, .inl rfl, trivial⟩
  (tbc ⟨isAgg54, sizeOf54, .inl rfl, .inl rfl, trivial⟩
  (tbc ⟨isAgg56, sizeOf56, .inl rfl, .inl rfl, ⟨_, underlying56⟩⟩
  (tbc ⟨isAgg58, sizeOf58, .inl rfl, .inl rfl, trivial⟩
  (tbc ⟨isAgg59, sizeOf59, .inl rfl, .inl rfl, trivial⟩
  (tbc ⟨isAgg61, sizeOf61, .inr ⟨_, underlying61, (flc rfl sizeOf50 (flc rfl sizeOf54 (flc rfl sizeOf59 (flc rfl sizeOf56 (flc rfl sizeOf58 trivial)))))⟩, .inr ⟨_, zeroValue61, rfl⟩, trivial⟩
  (tbc ⟨isAgg65, sizeOf65, .inr ⟨_, underlying65, (flc rfl sizeOf3 (flc rfl sizeOf3 (flc rfl sizeOf2 (flc rfl sizeOf4 trivial))))⟩, .inr ⟨_, zeroValue65, rfl⟩, trivial⟩
  (tbc ⟨isAgg77, sizeOf77, .inl rfl, .inl rfl, trivial⟩
  (tbc ⟨isAgg79, sizeOf79, .inr ⟨_, underlying79, (flc rfl sizeOf77 trivial)⟩, .inr ⟨_, zeroValue79, rfl⟩, trivial⟩
  (tbc ⟨isAgg80, sizeOf80, .inl rfl, .inr ⟨_, zeroValue80, rfl⟩, trivial⟩
  (tbc ⟨isAgg83, sizeOf83, .inr ⟨_, underlying83, (flc rfl sizeOf3 (flc rfl sizeOf31 trivial))⟩, .inr ⟨_, zeroValue83, rfl⟩, ⟨_, underlying83, rfl⟩⟩
  (tbc ⟨isAgg85, sizeOf85, .inl rfl, .inl rfl, trivial⟩
  (tbc ⟨isAgg87, sizeOf87, .inl rfl, .inl rfl, ⟨_, underlying87, rfl⟩⟩
  (tbc ⟨isAgg89, sizeOf89, .inl rfl, .inl rfl, ⟨_, underlying89⟩⟩
  (tbc ⟨isAgg91, sizeOf91, .inr ⟨_, underlying91, (flc rfl sizeOf89 (flc rfl sizeOf3 (flc rfl sizeOf23 (flc rfl sizeOf25 trivial))))⟩, .inr ⟨_, zeroValue91, rfl⟩, trivial⟩
  (tbc ⟨isAgg95, sizeOf95, .inl rfl, .inl rfl, trivial⟩
  (tbc ⟨isAgg96, sizeOf96, .inl rfl, .inl rfl, trivial⟩
  (tbc ⟨isAgg97, sizeOf97, .inl rfl, .inl rfl, trivial⟩
  (tbc ⟨isAgg98, sizeOf98, .inl rfl, .inl rfl, ⟨_, underlying98⟩⟩
  (tbc ⟨isAgg99, sizeOf99, .inl rfl, .inl rfl, ⟨_, underlying99⟩⟩
  (tbc ⟨isAgg103, sizeOf103, .inr ⟨_, underlying103, (flc rfl sizeOf27 (flc rfl sizeOf3 (flc rfl sizeOf29 (flc rfl sizeOf56 (flc rfl sizeOf96 (flc rfl sizeOf97 (flc rfl sizeOf98 (flc rfl sizeOf99 (flc rfl sizeOf94 (flc rfl sizeOf95 (flc rfl sizeOf3 (flc rfl sizeOf36 (flc rfl sizeOf101 trivial)))))))))))))⟩, .inr ⟨_, zeroValue103, rfl⟩, trivial⟩
  (tbc ⟨isAgg108, sizeOf108, .inr ⟨_, underlying108, (flc rfl sizeOf106 (flc rfl sizeOf3 (flc rfl sizeOf3 trivial)))⟩, .inr ⟨_, zeroValue108, rfl⟩, trivial⟩
  (tbc ⟨isAgg113, sizeOf113, .inr ⟨_, underlying113, (flc rfl sizeOf2 (flc rfl sizeOf3 (flc rfl sizeOf3 trivial)))⟩, .inr ⟨_, zeroValue113, rfl⟩, trivial⟩
  (tbc ⟨isAgg115, sizeOf115, .inr ⟨_, underlying115, (flc rfl sizeOf113 (flc rfl sizeOf3 (flc rfl sizeOf2 (flc rfl sizeOf3 (flc rfl sizeOf4 trivial)))))⟩, .inr ⟨_, zeroValue115, rfl⟩, trivial⟩
  (tbc ⟨isAgg119, sizeOf119, .inr ⟨_, underlying119, (flc rfl sizeOf4 (flc rfl sizeOf3 (flc rfl sizeOf117 (flc rfl sizeOf2 trivial))))⟩, .inr ⟨_, zeroValue119, rfl⟩, trivial⟩
  (tbc ⟨isAgg122, sizeOf122, .inl rfl, .inl rfl, ⟨_, underlying122⟩⟩
  (tbc ⟨isAgg124, sizeOf124, .inr ⟨_, underlying124, (flc rfl sizeOf4 (flc rfl sizeOf122 trivial))⟩, .inr ⟨_, zeroValue124, rfl⟩, trivial⟩
  (tbc ⟨isAgg128, sizeOf128, .inr ⟨_, underlying128, (flc rfl sizeOf65 (flc rfl sizeOf3 (flc rfl sizeOf126 trivial)))⟩, .inr ⟨_, zeroValue128, rfl⟩, trivial⟩
  (tbc ⟨isAgg130, sizeOf130, .inr ⟨_, underlying130, (flc rfl sizeOf3 (flc rfl sizeOf3 (flc rfl sizeOf4 (flc rfl sizeOf3 (flc rfl sizeOf2 trivial)))))⟩, .inr ⟨_, zeroValue130, rfl⟩, trivial⟩
  (tbc ⟨isAgg134, sizeOf134, .inl rfl, .inr ⟨_, zeroValue134, rfl⟩, trivial⟩
  (tbc ⟨isAgg147, sizeOf147, .inl rfl, .inl rfl, ⟨_, underlying147⟩⟩
  (tbc ⟨isAgg149, sizeOf149, .inr ⟨_, underlying149, (flc rfl sizeOf91 (flc rfl sizeOf4 (flc rfl sizeOf108 (flc rfl sizeOf3 (flc rfl sizeOf147 (flc rfl sizeOf4 trivial))))))⟩, .inr ⟨_, zeroValue149, rfl⟩, trivial⟩
  (tbc ⟨isAgg151, sizeOf151, .inl rfl, .inl rfl, trivial⟩
  (tbc ⟨isAgg154, sizeOf154, .inr ⟨_, underlying154, (flc rfl sizeOf151 trivial)⟩, .inr ⟨_, zeroValue154, rfl⟩, trivial⟩
  (tbc ⟨isAgg156, sizeOf156, .inr ⟨_, underlying156, (flc rfl sizeOf3 (flc rfl sizeOf2 (flc rfl sizeOf2 trivial)))⟩, .inr ⟨_, zeroValue156, rfl⟩, trivial⟩
  (tbc ⟨isAgg159, sizeOf159, .inr ⟨_, underlying159, (flc rfl sizeOf3 (flc rfl sizeOf3 trivial))⟩, .inr ⟨_, zeroValue159, rfl⟩, trivial⟩
  (tbc ⟨isAgg177, sizeOf177, .inr ⟨_, underlying177, (flc rfl sizeOf3 (flc rfl sizeOf31 trivial))⟩, .inr ⟨_, zeroValue177, rfl⟩, ⟨_, underlying177, rfl⟩⟩
  (tbc ⟨isAgg179, sizeOf179, .inl rfl, .inl rfl, ⟨_, underlying179, rfl⟩⟩
  (tbc ⟨isAgg201, sizeOf201, .inl rfl, .inl rfl, ⟨_, underlying201⟩⟩
  (tbc ⟨isAgg206, sizeOf206, .inl rfl, .inl rfl, ⟨_, underlying206, rfl⟩⟩
  (tbc ⟨isAgg208, sizeOf208, .inl rfl, .inl rfl, ⟨_, underlying208, rfl⟩⟩
  (tbc ⟨isAgg211, sizeOf211, .inl rfl, .inl rfl, ⟨_, underlying211, rfl⟩⟩
  (tbc ⟨isAgg221, sizeOf221, .inr ⟨_, underlying221, (flc rfl sizeOf115 (flc rfl sizeOf115 trivial))⟩, .inr ⟨_, zeroValue221, rfl⟩, trivial⟩
  (tbc ⟨isAgg222, sizeOf222, .inl rfl, .inl rfl, trivial⟩
  (tbc ⟨isAgg229, sizeOf229, .inr ⟨_, underlying229, (flc rfl sizeOf115 (flc rfl sizeOf108 (flc rfl sizeOf31 (flc rfl sizeOf99 trivial))))⟩, .inr ⟨_, zeroValue229, rfl⟩, trivial⟩
  (tbc ⟨isAgg245, sizeOf245, .inl rfl, .inr ⟨_, zeroValue245, rfl⟩, ⟨_, underlying245⟩⟩
  (tbc ⟨isAgg251, sizeOf251, .inr ⟨_, underlying251, (flc rfl sizeOf113 (flc rfl sizeOf3 (flc rfl sizeOf2 trivial)))⟩, .inr ⟨_, zeroValue251, rfl⟩, trivial⟩
  (tbc ⟨isAgg264, sizeOf264, .inl rfl, .inl rfl, ⟨_, underlying264, rfl⟩⟩
  (tbc ⟨isAgg266, sizeOf266, .inr ⟨_, underlying266, (flc rfl sizeOf201 trivial)⟩, .inr ⟨_, zeroValue266, rfl⟩, trivial⟩
  (tbc ⟨isAgg268, sizeOf268, .inr ⟨_, underlying268, (flc rfl sizeOf99 (flc rfl sizeOf222 trivial))⟩, .inr ⟨_, zeroValue268, rfl⟩, trivial⟩
  (tbc ⟨isAgg270, sizeOf270, .inr ⟨_, underlying270, (flc rfl sizeOf268 trivial)⟩, .inr ⟨_, zeroValue270, rfl⟩, trivial⟩
  (tbc ⟨isAgg271, sizeOf271, .inl rfl, .inl rfl, trivial⟩
  (tbc ⟨isAgg273, sizeOf273, .inr ⟨_, underlying273, (flc rfl sizeOf2 (flc rfl sizeOf271 (flc rfl sizeOf3 trivial)))⟩, .inr ⟨_, zeroValue273, rfl⟩, trivial⟩
  (tbc ⟨isAgg275, sizeOf275, .inr ⟨_, underlying275, (flc rfl sizeOf99 trivial)⟩, .inl rfl, trivial⟩
  (tbc ⟨isAgg276, sizeOf276, .inl rfl, .inl rfl, trivial⟩
  (tbc ⟨isAgg278, sizeOf278, .inr ⟨_, underlying278, (flc rfl sizeOf275 (flc rfl sizeOf3 (flc rfl sizeOf276 trivial)))⟩, .inr ⟨_, zeroValue278, rfl⟩, trivial⟩
  (tbc ⟨isAgg286, sizeOf286, .inr ⟨_, underlying286, (flc rfl sizeOf115 (flc rfl sizeOf31 (flc rfl sizeOf99 (flc rfl sizeOf284 trivial))))⟩, .inl rfl, trivial⟩
  (tbc ⟨isAgg307, sizeOf307, .inr ⟨_, underlying307, (flc rfl sizeOf2 (flc rfl sizeOf2 trivial))⟩, .inr ⟨_, zeroValue307, rfl⟩, trivial⟩
  (tbc ⟨isAgg308, sizeOf308, .inl rfl, .inr ⟨_, zeroValue308, rfl⟩, trivial⟩
  (tbc ⟨isAgg312, sizeOf312, .inr ⟨_, underlying312, (flc rfl sizeOf3 (flc rfl sizeOf3 (flc rfl sizeOf3 (flc rfl sizeOf3 trivial))))⟩, .inr ⟨_, zeroValue312, rfl⟩, trivial⟩
  (tbc ⟨isAgg314, sizeOf314, .inl rfl, .inl rfl, ⟨_, underlying314, rfl⟩⟩
  (tbc ⟨isAgg316, sizeOf316, .inr ⟨_, underlying316, (flc rfl sizeOf3 (flc rfl sizeOf85 trivial))⟩, .inr ⟨_, zeroValue316, rfl⟩, trivial⟩
  (tbc ⟨isAgg329, sizeOf329, .inl rfl, .inr ⟨_, zeroValue329, rfl⟩, trivial⟩
  (tbc ⟨isAgg342, sizeOf342, .inl rfl, .inl rfl, underlying342⟩
  (tbc ⟨isAgg388, sizeOf388, .inl rfl, .inl rfl, trivial⟩
  (tbc ⟨isAgg399, sizeOf399, .inl rfl, .inl rfl, ⟨_, underlying399⟩⟩
  (trivial)))))))))))))))))))))))))))))))))))))))))))))))))))))))))))))))))))))))))))))))))))
theorem rr {B : Base} {w : World} {l r : List HProp} {hf : Hp} {N : Fr} {env : Env} {ops : Array Oper} {Q : Exit → Act → World → Prop} {rest : List Oper} {L : List Pc} (ps : List Nat) (hS : St B w l hf) [Rf l L r] (h : runL tb N.n ops (fun env L os => denK L r fun l => ∀ w, St B w l hf → RL prog N ops Q os env w) ps env L rest [] []) : RL prog N ops Q rest env w := runL_top tbOK ps hS h
theorem rq {B : Base} {w : World} {l r : List HProp} {hf : Hp} {N : Fr} {env : Env} {ops : Array Oper} {Q : Exit → Act → World → Prop} {L : List Pc} {t0 : List Nat} {ts : List (List Nat)} {Ss : List (World → Prop)} {pl : Pl} (ps : List Nat) (hS : St B w l hf) [Rf l L r] (h : runP tb N.n ops t0 (fun env pl => RP prog N ops Q (sL ((fun w => St B w l hf) :: Ss)) (tL (t0 :: ts)) pl env w) L ps env pl [] []) : RP prog N ops Q (sL ((fun w => St B w l hf) :: Ss)) (tL (t0 :: ts)) pl env w := runP_top tbOK ps hS h
theorem rz {B : Base} {w : World} {l r : List HProp} {hf : Hp} {env : Env} {L : List Pc} {fn : Func} {n : Nat} {rs : List ResultVar} {K : Value → World → Prop} (js : List Nat) (hr : fn.results = rs.toArray) (hS : St B w l hf) [Rf l L r] (h : rsK tb env L rs js [] [] fun vs => K (tup vs) w) : RQ ⟨n, [], true⟩ (bodyPost prog fn (Ret K) .ret) env w := rzT tbOK js hr hS h
theorem rzE {B : Base} {w : World} {l r : List HProp} {hf : Hp} {env : Env} {L : List Pc} {fn : Func} {n : Nat} {rs : List ResultVar} {K : Value → World → Prop} (js : List Nat) (hr : fn.results = rs.toArray) (hS : St B w l hf) [Rf l L r] (h : rsK tb env L rs js [] [] fun vs => K (tup vs) w) : RQ ⟨n, [], true⟩ (bodyPost prog fn (Ret K) .normal) env w := rzTE tbOK js hr hS h
theorem dk {B : Base} {w : World} {l lk : List HProp} {hf : Hp} {N : Fr} {env : Env} {Q : Exit → Act → World → Prop} {id : Nat} {os : List Oper} (ps t1 : List Nat) (hS : St B w l hf) (hK : ∀ w, St B w l hf → St B w lk hf) [hQ : NoT Q] (h : ∀ w, St B w l hf → RP prog N os.toArray Q (sL [fun w => St B w lk hf]) (tL [t1]) (plD ps) env w) (hB : (Nat.beq (plD ps).len os.length && (Region.noSelect os.toArray && tailB os.toArray (tL [t1]) && planOK os.toArray (tL [t1]) (plD ps) (Array.replicate os.length false))) = true := by kernel_rfl) : RC prog N Q (.region id os.toArray true) env w := pS t1 hS hK follows hB h
theorem dr {B : Base} {w : World} {l : List HProp} {hf : Hp} {N : Fr} {env : Env} {Q : Exit → Act → World → Prop} {id : Nat} {os : List Oper} (ps t1 : List Nat) (hS : St B w l hf) [hQ : NoT Q] (h : ∀ w, St B w l hf → RP prog N os.toArray Q (sL [fun w => St B w l hf]) (tL [t1]) (plD ps) env w) (hB : (Nat.beq (plD ps).len os.length && (Region.noSelect os.toArray && tailB os.toArray (tL [t1]) && planOK os.toArray (tL [t1]) (plD ps) (Array.replicate os.length false))) = true := by kernel_rfl) : RC prog N Q (.region id os.toArray true) env w := pS t1 hS (fun _ h => h) follows hB h
theorem r0 {w : World} {N : Fr} {env env' : Env} {ops : Array Oper} {Q : Exit → Act → World → Prop} {rest os' : List Oper} (k : Nat) (h : rn0 tb N.n ops k env rest = some (env', os')) (hr : RL prog N ops Q os' env' w) : RL prog N ops Q rest env w := rn0_ok tbOK k h hr
@[reducible] def C_api_Model (x : api_Model) (A0 : Option Addr) (c0 : Nat) (A1 : Option Addr) (c1 : Nat) (A2 : Option Addr) (c2 : Nat) : List Value := [.slice A0 x.Progs.length c0, .slice A1 x.Links.length c1, .slice A2 x.Starts.length c2, .int .u64 x.Seed, .int .i64 x.End, .int .i64 x.Budget]
@[reducible] def C_api_Instr (x : api_Instr) : List Value := [.int .i64 x.Op, .int .i64 x.A, .int .i64 x.B, .int .i64 x.C]
@[reducible] def C_api_Link (x : api_Link) : List Value := [.int .i64 x.From, .int .i64 x.To, .int .i64 x.Look, .bool x.Loose]
@[reducible] def C_api_World (x : api_World) (A0 : Option Addr) (c0 : Nat) (A1 : Option Addr) (c1 : Nat) : List Value := [.slice A0 x.Prog.length c0, .int .i64 x.Self, .slice A1 x.Links.length c1, .int .u64 x.Seed]
@[reducible] def C_api_Caps (x : api_Caps) : List Value := [.int .i64 x.Link, .int .i64 x.Wait, .int .i64 x.Log]
@[reducible] def C_api_Key (x : api_Key) : List Value := [.int .i64 x.Time, .int .i64 x.From, .int .i64 x.Seq]
@[reducible] def C_api_Pick (x : api_Pick) : List Value := [.int .i64 x.What, .int .i64 x.A, .int .i64 x.B]
@[reducible] def C_api_Setting (x : api_Setting) : List Value := [.int .i64 x.Mode, .int .i64 x.Every, .int .i64 x.Cancel, .int .i64 x.Reach, .int .i64 x.Queue]
@[reducible] def C_api_State (x : api_State) : List Value := [.int .i64 x.Regs.c0, .int .i64 x.Regs.c1, .int .i64 x.Regs.c2, .int .i64 x.Regs.c3, .int .i64 x.Regs.c4, .int .i64 x.Regs.c5, .int .i64 x.Regs.c6, .int .i64 x.Regs.c7, .int .i64 x.Draws, .int .i64 x.Sent]
@[reducible] def C_log_done (x : log_done) (A0 : Option Addr) (c0 : Nat) (b1 : Nat) : List Value := [.int .i64 x.event.Key.Time, .int .i64 x.event.Key.From, .int .i64 x.event.Key.Seq, .int .i64 x.event.To, .int .i64 x.event.Value, .int .i64 x.event.Uid, .bool x.event.Anti, .int .i64 x.fault, .slice A0 x.sent.length c0, .pointer (pz b1 x.ahead.has)]
@[reducible] def C_Arr5xtune_bound (x : Arr5xtune_bound) : List Value := [.int .i64 x.c0.least, .int .i64 x.c0.most, .int .i64 x.c1.least, .int .i64 x.c1.most, .int .i64 x.c2.least, .int .i64 x.c2.most, .int .i64 x.c3.least, .int .i64 x.c3.most, .int .i64 x.c4.least, .int .i64 x.c4.most]
@[reducible] def C_api_Message (x : api_Message) : List Value := [.int .i64 x.Key.Time, .int .i64 x.Key.From, .int .i64 x.Key.Seq, .int .i64 x.To, .int .i64 x.Value, .int .i64 x.Uid, .bool x.Anti]
@[reducible] def C_api_Entry (x : api_Entry) (A0 : Option Addr) (c0 : Nat) : List Value := [.int .i64 x.Event.Key.Time, .int .i64 x.Event.Key.From, .int .i64 x.Event.Key.Seq, .int .i64 x.Event.To, .int .i64 x.Event.Value, .int .i64 x.Event.Uid, .bool x.Event.Anti, .int .i64 x.Before.Regs.c0, .int .i64 x.Before.Regs.c1, .int .i64 x.Before.Regs.c2, .int .i64 x.Before.Regs.c3, .int .i64 x.Before.Regs.c4, .int .i64 x.Before.Regs.c5, .int .i64 x.Before.Regs.c6, .int .i64 x.Before.Regs.c7, .int .i64 x.Before.Draws, .int .i64 x.Before.Sent, .int .i64 x.Fault, .slice A0 x.Sent.length c0]
@[reducible] def C_lane_Lane (x : lane_Lane) (A0 : Option Addr) (c0 : Nat) (A1 : Option Addr) (c1 : Nat) (A2 : Option Addr) (c2 : Nat) (A3 : Option Addr) (c3 : Nat) (b4 : Nat) (b5 : Nat) (A6 : Option Addr) (c6 : Nat) (A7 : Option Addr) (c7 : Nat) (b8 : Nat) (b9 : Nat) : List Value := [.slice A0 x.m.Progs.length c0, .slice A1 x.m.Links.length c1, .slice A2 x.m.Starts.length c2, .int .u64 x.m.Seed, .int .i64 x.m.End, .int .i64 x.m.Budget, .int .i64 x.n, .int .i64 x.caps.Link, .int .i64 x.caps.Wait, .int .i64 x.caps.Log, .slice A3 x.ways.length c3, .pointer (some ⟨b4, 0, none⟩), .pointer (some ⟨b5, 0, none⟩), .slice A6 x.open_.length c6, .slice A7 x.orphans.length c7, .map (some b8), .map (some b9), .int .i64 x.uid, .int .i64 x.setting.Mode, .int .i64 x.setting.Every, .int .i64 x.setting.Cancel, .int .i64 x.setting.Reach, .int .i64 x.setting.Queue, .int .i64 x.stats.Done, .int .i64 x.stats.Undone, .int .i64 x.stats.Hits, .int .i64 x.stats.Held]
end Go.Proofs.Gx
