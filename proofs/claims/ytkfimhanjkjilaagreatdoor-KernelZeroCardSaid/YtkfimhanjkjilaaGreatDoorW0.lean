/-
  The data of the walks: printed by wip/gx.py.
-/
import Derived.Test.YtkfimhanjkjilaaGreatDoorSl16
import Derived.KernelRfl
import Derived.Test.YtkfimhanjkjilaaGreatDoorProg
set_option linter.unusedVariables false
set_option maxRecDepth 100000
set_option maxHeartbeats 4000000
namespace Go.Proofs.Gx
open Go.Sl Tryz
theorem follows : prog.follows .mixedOrders = true := by kernel_rfl
def zfn : Nat → Int := fun _ => 0
structure api_Pick where
  What : Int
  A : Int
  B : Int
deriving Inhabited, DecidableEq
def E_api_Pick : Fl api_Pick := ⟨fun x => [.int .i64 x.What, .int .i64 x.A, .int .i64 x.B], 3, fun _ => rfl, fun x v h => by
  simp only [List.mem_cons, List.not_mem_nil, or_false] at h
  rcases h with rfl | rfl | rfl <;> rfl⟩
structure api_Instr where
  Op : Int
  A : Int
  B : Int
  C : Int
deriving Inhabited, DecidableEq
def E_api_Instr : Fl api_Instr := ⟨fun x => [.int .i64 x.Op, .int .i64 x.A, .int .i64 x.B, .int .i64 x.C], 4, fun _ => rfl, fun x v h => by
  simp only [List.mem_cons, List.not_mem_nil, or_false] at h
  rcases h with rfl | rfl | rfl | rfl <;> rfl⟩
structure api_Link where
  From : Int
  To : Int
  Look : Int
  Loose : Bool
deriving Inhabited, DecidableEq
def E_api_Link : Fl api_Link := ⟨fun x => [.int .i64 x.From, .int .i64 x.To, .int .i64 x.Look, .bool x.Loose], 4, fun _ => rfl, fun x v h => by
  simp only [List.mem_cons, List.not_mem_nil, or_false] at h
  rcases h with rfl | rfl | rfl | rfl <;> rfl⟩
structure api_Start where
  To : Int
  Time : Int
  Value : Int
deriving Inhabited, DecidableEq
def E_api_Start : Fl api_Start := ⟨fun x => [.int .i64 x.To, .int .i64 x.Time, .int .i64 x.Value], 3, fun _ => rfl, fun x v h => by
  simp only [List.mem_cons, List.not_mem_nil, or_false] at h
  rcases h with rfl | rfl | rfl <;> rfl⟩
structure api_Key where
  Time : Int
  From : Int
  Seq : Int
deriving Inhabited, DecidableEq
def E_api_Key : Fl api_Key := ⟨fun x => [.int .i64 x.Time, .int .i64 x.From, .int .i64 x.Seq], 3, fun _ => rfl, fun x v h => by
  simp only [List.mem_cons, List.not_mem_nil, or_false] at h
  rcases h with rfl | rfl | rfl <;> rfl⟩
structure api_Done where
  Key : api_Key
  To : Int
  Value : Int
deriving Inhabited, DecidableEq
def E_api_Done : Fl api_Done := ⟨fun x => [.int .i64 x.Key.Time, .int .i64 x.Key.From, .int .i64 x.Key.Seq, .int .i64 x.To, .int .i64 x.Value], 5, fun _ => rfl, fun x v h => by
  simp only [List.mem_cons, List.not_mem_nil, or_false] at h
  rcases h with rfl | rfl | rfl | rfl | rfl <;> rfl⟩
structure Arr8xInti64 where
  c0 : Int
  c1 : Int
  c2 : Int
  c3 : Int
  c4 : Int
  c5 : Int
  c6 : Int
  c7 : Int
deriving Inhabited, DecidableEq
def E_Arr8xInti64 : Fl Arr8xInti64 := ⟨fun x => [.int .i64 x.c0, .int .i64 x.c1, .int .i64 x.c2, .int .i64 x.c3, .int .i64 x.c4, .int .i64 x.c5, .int .i64 x.c6, .int .i64 x.c7], 8, fun _ => rfl, fun x v h => by
  simp only [List.mem_cons, List.not_mem_nil, or_false] at h
  rcases h with rfl | rfl | rfl | rfl | rfl | rfl | rfl | rfl <;> rfl⟩
structure api_State where
  Regs : Arr8xInti64
  Draws : Int
  Sent : Int
deriving Inhabited, DecidableEq
def E_api_State : Fl api_State := ⟨fun x => [.int .i64 x.Regs.c0, .int .i64 x.Regs.c1, .int .i64 x.Regs.c2, .int .i64 x.Regs.c3, .int .i64 x.Regs.c4, .int .i64 x.Regs.c5, .int .i64 x.Regs.c6, .int .i64 x.Regs.c7, .int .i64 x.Draws, .int .i64 x.Sent], 10, fun _ => rfl, fun x v h => by
  simp only [List.mem_cons, List.not_mem_nil, or_false] at h
  rcases h with rfl | rfl | rfl | rfl | rfl | rfl | rfl | rfl | rfl | rfl <;> rfl⟩
structure api_Setting where
  Mode : Int
  Every : Int
  Cancel : Int
  Reach : Int
  Queue : Int
deriving Inhabited, DecidableEq
def E_api_Setting : Fl api_Setting := ⟨fun x => [.int .i64 x.Mode, .int .i64 x.Every, .int .i64 x.Cancel, .int .i64 x.Reach, .int .i64 x.Queue], 5, fun _ => rfl, fun x v h => by
  simp only [List.mem_cons, List.not_mem_nil, or_false] at h
  rcases h with rfl | rfl | rfl | rfl | rfl <;> rfl⟩
structure api_Stats where
  Done : Int
  Undone : Int
  Hits : Int
  Held : Int
deriving Inhabited, DecidableEq
def E_api_Stats : Fl api_Stats := ⟨fun x => [.int .i64 x.Done, .int .i64 x.Undone, .int .i64 x.Hits, .int .i64 x.Held], 4, fun _ => rfl, fun x v h => by
  simp only [List.mem_cons, List.not_mem_nil, or_false] at h
  rcases h with rfl | rfl | rfl | rfl <;> rfl⟩
structure api_Message where
  Key : api_Key
  To : Int
  Value : Int
  Uid : Int
  Anti : Bool
deriving Inhabited, DecidableEq
def E_api_Message : Fl api_Message := ⟨fun x => [.int .i64 x.Key.Time, .int .i64 x.Key.From, .int .i64 x.Key.Seq, .int .i64 x.To, .int .i64 x.Value, .int .i64 x.Uid, .bool x.Anti], 7, fun _ => rfl, fun x v h => by
  simp only [List.mem_cons, List.not_mem_nil, or_false] at h
  rcases h with rfl | rfl | rfl | rfl | rfl | rfl | rfl <;> rfl⟩
structure api_Entry where
  Event : api_Message
  Before : api_State
  Fault : Int
  Sent : (List api_Message)
deriving Inhabited, DecidableEq
def R_api_Entry : Rep api_Entry := ⟨19, fun h cs x => ∃ A0 c0, cs = [.int .i64 x.Event.Key.Time, .int .i64 x.Event.Key.From, .int .i64 x.Event.Key.Seq, .int .i64 x.Event.To, .int .i64 x.Event.Value, .int .i64 x.Event.Uid, .bool x.Event.Anti, .int .i64 x.Before.Regs.c0, .int .i64 x.Before.Regs.c1, .int .i64 x.Before.Regs.c2, .int .i64 x.Before.Regs.c3, .int .i64 x.Before.Regs.c4, .int .i64 x.Before.Regs.c5, .int .i64 x.Before.Regs.c6, .int .i64 x.Before.Regs.c7, .int .i64 x.Before.Draws, .int .i64 x.Before.Sent, .int .i64 x.Fault, .slice A0 x.Sent.length c0] ∧ SlR E_api_Message.rep h A0 c0 x.Sent, fun s ⟨A0, c0, e, f0⟩ => ⟨A0, c0, e, f0.mono s⟩⟩
theorem R_api_Entry_ok : R_api_Entry.Ok := ⟨fun ⟨A0, c0, e, _⟩ => by rw [e]; rfl, fun ⟨A0, c0, e, _⟩ v hv => by
  rw [e] at hv
  simp only [List.mem_cons, List.not_mem_nil, or_false] at hv
  rcases hv with rfl | rfl | rfl | rfl | rfl | rfl | rfl | rfl | rfl | rfl | rfl | rfl | rfl | rfl | rfl | rfl | rfl | rfl | rfl <;> rfl⟩
structure api_Parcel where
  M : api_Message
  Colour : Int
deriving Inhabited, DecidableEq
def E_api_Parcel : Fl api_Parcel := ⟨fun x => [.int .i64 x.M.Key.Time, .int .i64 x.M.Key.From, .int .i64 x.M.Key.Seq, .int .i64 x.M.To, .int .i64 x.M.Value, .int .i64 x.M.Uid, .bool x.M.Anti, .int .i64 x.Colour], 8, fun _ => rfl, fun x v h => by
  simp only [List.mem_cons, List.not_mem_nil, or_false] at h
  rcases h with rfl | rfl | rfl | rfl | rfl | rfl | rfl | rfl <;> rfl⟩
theorem run_eqarr_42 (d : Nat) (a0 b0 a1 b1 a2 b2 a3 b3 a4 b4 a5 b5 a6 b6 a7 b7 : Int) (w : World) : (Op.equalIn (d + 2) 42 (.agg #[.int .i64 a0, .int .i64 a1, .int .i64 a2, .int .i64 a3, .int .i64 a4, .int .i64 a5, .int .i64 a6, .int .i64 a7]) (.agg #[.int .i64 b0, .int .i64 b1, .int .i64 b2, .int .i64 b3, .int .i64 b4, .int .i64 b5, .int .i64 b6, .int .i64 b7])).run prog w = .ok (decide (a0 = b0) && (decide (a1 = b1) && (decide (a2 = b2) && (decide (a3 = b3) && (decide (a4 = b4) && (decide (a5 = b5) && (decide (a6 = b6) && (decide (a7 = b7))))))))) w := by
  rw [Op.equalIn]
  simp only [Sem.run_bind, runUnderlying42, Result.andThen_ok, sizeOf2]
  simp [Std.Legacy.Range.forIn_eq_forIn_range', List.range', go_sem]
  all_goals (repeat' split)
  all_goals simp [*]
theorem run_eql_api_State (x y : Operand) (a b : api_State) (w : World) : ((eqGuard .eql 44 x y (.agg (E_api_State.enc a).toArray) (.agg (E_api_State.enc b).toArray)).bind fun _ => binOp .eql 44 (.agg (E_api_State.enc a).toArray) (.agg (E_api_State.enc b).toArray)).run prog w = .ok (.bool (decide (a = b))) w := by
  show ((eqGuard .eql 44 x y _ _) >>= fun _ => binOp .eql 44 _ _).run prog w = _
  rw [Sem.run_bind, run_eqGuard_agg (hm := eqGuardType44)]
  simp only [Result.andThen_ok]
  obtain ⟨⟨a1, a2, a3, a4, a5, a6, a7, a8⟩, a9, a10⟩ := a
  obtain ⟨⟨b11, b12, b13, b14, b15, b16, b17, b18⟩, b19, b20⟩ := b
  simp [E_api_State, go_sem, run_eqarr_42]
  all_goals (repeat' split)
  all_goals first | (simp [*]; done) | grind | (simp only [Result.ok.injEq, Value.bool.injEq, and_true]; grind)
theorem run_neq_api_State (x y : Operand) (a b : api_State) (w : World) : ((eqGuard .neq 44 x y (.agg (E_api_State.enc a).toArray) (.agg (E_api_State.enc b).toArray)).bind fun _ => binOp .neq 44 (.agg (E_api_State.enc a).toArray) (.agg (E_api_State.enc b).toArray)).run prog w = .ok (.bool (!decide (a = b))) w := by
  show ((eqGuard .neq 44 x y _ _) >>= fun _ => binOp .neq 44 _ _).run prog w = _
  rw [Sem.run_bind, run_eqGuard_agg (hm := eqGuardType44)]
  simp only [Result.andThen_ok]
  obtain ⟨⟨a21, a22, a23, a24, a25, a26, a27, a28⟩, a29, a30⟩ := a
  obtain ⟨⟨b31, b32, b33, b34, b35, b36, b37, b38⟩, b39, b40⟩ := b
  simp [E_api_State, go_sem, run_eqarr_42]
  all_goals (repeat' split)
  all_goals first | (simp [*]; done) | grind | (simp only [Result.ok.injEq, Value.bool.injEq, and_true]; grind)
theorem run_eql_api_Setting (x y : Operand) (a b : api_Setting) (w : World) : ((eqGuard .eql 47 x y (.agg (E_api_Setting.enc a).toArray) (.agg (E_api_Setting.enc b).toArray)).bind fun _ => binOp .eql 47 (.agg (E_api_Setting.enc a).toArray) (.agg (E_api_Setting.enc b).toArray)).run prog w = .ok (.bool (decide (a = b))) w := by
  show ((eqGuard .eql 47 x y _ _) >>= fun _ => binOp .eql 47 _ _).run prog w = _
  rw [Sem.run_bind, run_eqGuard_agg (hm := eqGuardType47)]
  simp only [Result.andThen_ok]
  obtain ⟨a1, a2, a3, a4, a5⟩ := a
  obtain ⟨b6, b7, b8, b9, b10⟩ := b
  simp [E_api_Setting, go_sem]
  all_goals (repeat' split)
  all_goals first | (simp [*]; done) | grind | (simp only [Result.ok.injEq, Value.bool.injEq, and_true]; grind)
theorem run_neq_api_Setting (x y : Operand) (a b : api_Setting) (w : World) : ((eqGuard .neq 47 x y (.agg (E_api_Setting.enc a).toArray) (.agg (E_api_Setting.enc b).toArray)).bind fun _ => binOp .neq 47 (.agg (E_api_Setting.enc a).toArray) (.agg (E_api_Setting.enc b).toArray)).run prog w = .ok (.bool (!decide (a = b))) w := by
  show ((eqGuard .neq 47 x y _ _) >>= fun _ => binOp .neq 47 _ _).run prog w = _
  rw [Sem.run_bind, run_eqGuard_agg (hm := eqGuardType47)]
  simp only [Result.andThen_ok]
  obtain ⟨a11, a12, a13, a14, a15⟩ := a
  obtain ⟨b16, b17, b18, b19, b20⟩ := b
  simp [E_api_Setting, go_sem]
  all_goals (repeat' split)
  all_goals first | (simp [*]; done) | grind | (simp only [Result.ok.injEq, Value.bool.injEq, and_true]; grind)
theorem run_eql_api_Stats (x y : Operand) (a b : api_Stats) (w : World) : ((eqGuard .eql 50 x y (.agg (E_api_Stats.enc a).toArray) (.agg (E_api_Stats.enc b).toArray)).bind fun _ => binOp .eql 50 (.agg (E_api_Stats.enc a).toArray) (.agg (E_api_Stats.enc b).toArray)).run prog w = .ok (.bool (decide (a = b))) w := by
  show ((eqGuard .eql 50 x y _ _) >>= fun _ => binOp .eql 50 _ _).run prog w = _
  rw [Sem.run_bind, run_eqGuard_agg (hm := eqGuardType50)]
  simp only [Result.andThen_ok]
  obtain ⟨a1, a2, a3, a4⟩ := a
  obtain ⟨b5, b6, b7, b8⟩ := b
  simp [E_api_Stats, go_sem]
  all_goals (repeat' split)
  all_goals first | (simp [*]; done) | grind | (simp only [Result.ok.injEq, Value.bool.injEq, and_true]; grind)
theorem run_neq_api_Stats (x y : Operand) (a b : api_Stats) (w : World) : ((eqGuard .neq 50 x y (.agg (E_api_Stats.enc a).toArray) (.agg (E_api_Stats.enc b).toArray)).bind fun _ => binOp .neq 50 (.agg (E_api_Stats.enc a).toArray) (.agg (E_api_Stats.enc b).toArray)).run prog w = .ok (.bool (!decide (a = b))) w := by
  show ((eqGuard .neq 50 x y _ _) >>= fun _ => binOp .neq 50 _ _).run prog w = _
  rw [Sem.run_bind, run_eqGuard_agg (hm := eqGuardType50)]
  simp only [Result.andThen_ok]
  obtain ⟨a9, a10, a11, a12⟩ := a
  obtain ⟨b13, b14, b15, b16⟩ := b
  simp [E_api_Stats, go_sem]
  all_goals (repeat' split)
  all_goals first | (simp [*]; done) | grind | (simp only [Result.ok.injEq, Value.bool.injEq, and_true]; grind)
end Go.Proofs.Gx
