/-
  The data of the walks: printed by wip/gx.py.
-/
import Derived.Test.YtihfmpohdadciaaDoorSl13
import Derived.KernelRfl
import Derived.Test.YtihfmpohdadciaaDoorProg
set_option linter.unusedVariables false
namespace Go.Proofs.Gx
open Go.Sl
theorem follows : Tryd.prog.follows .mixedOrders = true := by kernel_rfl
structure api_Instr where
  Op : Int
  A : Int
  B : Int
  C : Int
deriving Inhabited, DecidableEq
def E_api_Instr : Fl api_Instr := ⟨fun x => [.int .i64 x.Op, .int .i64 x.A, .int .i64 x.B, .int .i64 x.C], 4, fun _ => rfl, fun x v h => by
  simp only [List.mem_cons, List.not_mem_nil, or_false] at h
  rcases h with rfl | rfl | rfl | rfl <;> rfl⟩
structure api_Link where
  From : Int
  To : Int
  Look : Int
  Loose : Bool
deriving Inhabited, DecidableEq
def E_api_Link : Fl api_Link := ⟨fun x => [.int .i64 x.From, .int .i64 x.To, .int .i64 x.Look, .bool x.Loose], 4, fun _ => rfl, fun x v h => by
  simp only [List.mem_cons, List.not_mem_nil, or_false] at h
  rcases h with rfl | rfl | rfl | rfl <;> rfl⟩
structure api_Start where
  To : Int
  Time : Int
  Value : Int
deriving Inhabited, DecidableEq
def E_api_Start : Fl api_Start := ⟨fun x => [.int .i64 x.To, .int .i64 x.Time, .int .i64 x.Value], 3, fun _ => rfl, fun x v h => by
  simp only [List.mem_cons, List.not_mem_nil, or_false] at h
  rcases h with rfl | rfl | rfl <;> rfl⟩
structure api_Model where
  Progs : (List (List api_Instr))
  Links : (List api_Link)
  Starts : (List api_Start)
  Seed : Int
  End : Int
  Budget : Int
deriving Inhabited, DecidableEq
def R_api_Model : Rep api_Model := ⟨6, fun h cs x => ∃ A0 c0 A1 c1 A2 c2, cs = [.slice A0 x.Progs.length c0, .slice A1 x.Links.length c1, .slice A2 x.Starts.length c2, .int .u64 x.Seed, .int .i64 x.End, .int .i64 x.Budget] ∧ SlR (Rep.sl E_api_Instr.rep) h A0 c0 x.Progs ∧ SlR E_api_Link.rep h A1 c1 x.Links ∧ SlR E_api_Start.rep h A2 c2 x.Starts, fun s ⟨A0, c0, A1, c1, A2, c2, e, f0, f1, f2⟩ => ⟨A0, c0, A1, c1, A2, c2, e, f0.mono s, f1.mono s, f2.mono s⟩⟩
theorem R_api_Model_ok : R_api_Model.Ok := ⟨fun ⟨A0, c0, A1, c1, A2, c2, e, _⟩ => by rw [e]; rfl, fun ⟨A0, c0, A1, c1, A2, c2, e, _⟩ v hv => by
  rw [e] at hv
  simp only [List.mem_cons, List.not_mem_nil, or_false] at hv
  rcases hv with rfl | rfl | rfl | rfl | rfl | rfl <;> rfl⟩
structure model_flaw where
  at_ : Int
  why : Int
deriving Inhabited, DecidableEq
def E_model_flaw : Fl model_flaw := ⟨fun x => [.int .i64 x.at_, .int .i64 x.why], 2, fun _ => rfl, fun x v h => by
  simp only [List.mem_cons, List.not_mem_nil, or_false] at h
  rcases h with rfl | rfl <;> rfl⟩
structure api_Key where
  Time : Int
  From : Int
  Seq : Int
deriving Inhabited, DecidableEq
def E_api_Key : Fl api_Key := ⟨fun x => [.int .i64 x.Time, .int .i64 x.From, .int .i64 x.Seq], 3, fun _ => rfl, fun x v h => by
  simp only [List.mem_cons, List.not_mem_nil, or_false] at h
  rcases h with rfl | rfl | rfl <;> rfl⟩
structure api_Message where
  Key : api_Key
  To : Int
  Value : Int
  Uid : Int
  Anti : Bool
deriving Inhabited, DecidableEq
def E_api_Message : Fl api_Message := ⟨fun x => [.int .i64 x.Key.Time, .int .i64 x.Key.From, .int .i64 x.Key.Seq, .int .i64 x.To, .int .i64 x.Value, .int .i64 x.Uid, .bool x.Anti], 7, fun _ => rfl, fun x v h => by
  simp only [List.mem_cons, List.not_mem_nil, or_false] at h
  rcases h with rfl | rfl | rfl | rfl | rfl | rfl | rfl <;> rfl⟩
structure api_World where
  Prog : (List api_Instr)
  Self : Int
  Links : (List api_Link)
  Seed : Int
deriving Inhabited, DecidableEq
def R_api_World : Rep api_World := ⟨4, fun h cs x => ∃ A0 c0 A1 c1, cs = [.slice A0 x.Prog.length c0, .int .i64 x.Self, .slice A1 x.Links.length c1, .int .u64 x.Seed] ∧ SlR E_api_Instr.rep h A0 c0 x.Prog ∧ SlR E_api_Link.rep h A1 c1 x.Links, fun s ⟨A0, c0, A1, c1, e, f0, f1⟩ => ⟨A0, c0, A1, c1, e, f0.mono s, f1.mono s⟩⟩
theorem R_api_World_ok : R_api_World.Ok := ⟨fun ⟨A0, c0, A1, c1, e, _⟩ => by rw [e]; rfl, fun ⟨A0, c0, A1, c1, e, _⟩ v hv => by
  rw [e] at hv
  simp only [List.mem_cons, List.not_mem_nil, or_false] at hv
  rcases hv with rfl | rfl | rfl | rfl <;> rfl⟩
def lit_ : ByteArray := ⟨#[]⟩
def lit_2d2d2d : ByteArray := ⟨#[45, 45, 45]⟩
def lit_726e2d : ByteArray := ⟨#[114, 110, 45]⟩
def lit_72722d : ByteArray := ⟨#[114, 114, 45]⟩
def lit_rrr : ByteArray := ⟨#[114, 114, 114]⟩
def lit_702d2d : ByteArray := ⟨#[112, 45, 45]⟩
def lit_72702d : ByteArray := ⟨#[114, 112, 45]⟩
def lit_722d2d : ByteArray := ⟨#[114, 45, 45]⟩
theorem run_eql_api_Message (x y : Operand) (a b : api_Message) (w : World) : ((eqGuard .eql 46 x y (.agg (E_api_Message.enc a).toArray) (.agg (E_api_Message.enc b).toArray)).bind fun _ => binOp .eql 46 (.agg (E_api_Message.enc a).toArray) (.agg (E_api_Message.enc b).toArray)).run Tryd.prog w = .ok (.bool (decide (a = b))) w := by
  show ((eqGuard .eql 46 x y _ _) >>= fun _ => binOp .eql 46 _ _).run Tryd.prog w = _
  rw [Sem.run_bind, run_eqGuard_agg (hm := Tryd.eqGuardType46)]
  simp only [Result.andThen_ok]
  obtain ⟨⟨a1, a2, a3⟩, a4, a5, a6, a7⟩ := a
  obtain ⟨⟨b8, b9, b10⟩, b11, b12, b13, b14⟩ := b
  simp [E_api_Message, go_sem]
  all_goals (repeat' split)
  all_goals first | (simp [*]; done) | grind | (simp only [Result.ok.injEq, Value.bool.injEq, and_true]; grind)
theorem run_neq_api_Message (x y : Operand) (a b : api_Message) (w : World) : ((eqGuard .neq 46 x y (.agg (E_api_Message.enc a).toArray) (.agg (E_api_Message.enc b).toArray)).bind fun _ => binOp .neq 46 (.agg (E_api_Message.enc a).toArray) (.agg (E_api_Message.enc b).toArray)).run Tryd.prog w = .ok (.bool (!decide (a = b))) w := by
  show ((eqGuard .neq 46 x y _ _) >>= fun _ => binOp .neq 46 _ _).run Tryd.prog w = _
  rw [Sem.run_bind, run_eqGuard_agg (hm := Tryd.eqGuardType46)]
  simp only [Result.andThen_ok]
  obtain ⟨⟨a15, a16, a17⟩, a18, a19, a20, a21⟩ := a
  obtain ⟨⟨b22, b23, b24⟩, b25, b26, b27, b28⟩ := b
  simp [E_api_Message, go_sem]
  all_goals (repeat' split)
  all_goals first | (simp [*]; done) | grind | (simp only [Result.ok.injEq, Value.bool.injEq, and_true]; grind)
theorem run_eql_api_Instr (x y : Operand) (a b : api_Instr) (w : World) : ((eqGuard .eql 34 x y (.agg (E_api_Instr.enc a).toArray) (.agg (E_api_Instr.enc b).toArray)).bind fun _ => binOp .eql 34 (.agg (E_api_Instr.enc a).toArray) (.agg (E_api_Instr.enc b).toArray)).run Tryd.prog w = .ok (.bool (decide (a = b))) w := by
  show ((eqGuard .eql 34 x y _ _) >>= fun _ => binOp .eql 34 _ _).run Tryd.prog w = _
  rw [Sem.run_bind, run_eqGuard_agg (hm := Tryd.eqGuardType34)]
  simp only [Result.andThen_ok]
  obtain ⟨a1, a2, a3, a4⟩ := a
  obtain ⟨b5, b6, b7, b8⟩ := b
  simp [E_api_Instr, go_sem]
  all_goals (repeat' split)
  all_goals first | (simp [*]; done) | grind | (simp only [Result.ok.injEq, Value.bool.injEq, and_true]; grind)
theorem run_neq_api_Instr (x y : Operand) (a b : api_Instr) (w : World) : ((eqGuard .neq 34 x y (.agg (E_api_Instr.enc a).toArray) (.agg (E_api_Instr.enc b).toArray)).bind fun _ => binOp .neq 34 (.agg (E_api_Instr.enc a).toArray) (.agg (E_api_Instr.enc b).toArray)).run Tryd.prog w = .ok (.bool (!decide (a = b))) w := by
  show ((eqGuard .neq 34 x y _ _) >>= fun _ => binOp .neq 34 _ _).run Tryd.prog w = _
  rw [Sem.run_bind, run_eqGuard_agg (hm := Tryd.eqGuardType34)]
  simp only [Result.andThen_ok]
  obtain ⟨a9, a10, a11, a12⟩ := a
  obtain ⟨b13, b14, b15, b16⟩ := b
  simp [E_api_Instr, go_sem]
  all_goals (repeat' split)
  all_goals first | (simp [*]; done) | grind | (simp only [Result.ok.injEq, Value.bool.injEq, and_true]; grind)
theorem run_eql_api_Link (x y : Operand) (a b : api_Link) (w : World) : ((eqGuard .eql 37 x y (.agg (E_api_Link.enc a).toArray) (.agg (E_api_Link.enc b).toArray)).bind fun _ => binOp .eql 37 (.agg (E_api_Link.enc a).toArray) (.agg (E_api_Link.enc b).toArray)).run Tryd.prog w = .ok (.bool (decide (a = b))) w := by
  show ((eqGuard .eql 37 x y _ _) >>= fun _ => binOp .eql 37 _ _).run Tryd.prog w = _
  rw [Sem.run_bind, run_eqGuard_agg (hm := Tryd.eqGuardType37)]
  simp only [Result.andThen_ok]
  obtain ⟨a1, a2, a3, a4⟩ := a
  obtain ⟨b5, b6, b7, b8⟩ := b
  simp [E_api_Link, go_sem]
  all_goals (repeat' split)
  all_goals first | (simp [*]; done) | grind | (simp only [Result.ok.injEq, Value.bool.injEq, and_true]; grind)
theorem run_neq_api_Link (x y : Operand) (a b : api_Link) (w : World) : ((eqGuard .neq 37 x y (.agg (E_api_Link.enc a).toArray) (.agg (E_api_Link.enc b).toArray)).bind fun _ => binOp .neq 37 (.agg (E_api_Link.enc a).toArray) (.agg (E_api_Link.enc b).toArray)).run Tryd.prog w = .ok (.bool (!decide (a = b))) w := by
  show ((eqGuard .neq 37 x y _ _) >>= fun _ => binOp .neq 37 _ _).run Tryd.prog w = _
  rw [Sem.run_bind, run_eqGuard_agg (hm := Tryd.eqGuardType37)]
  simp only [Result.andThen_ok]
  obtain ⟨a9, a10, a11, a12⟩ := a
  obtain ⟨b13, b14, b15, b16⟩ := b
  simp [E_api_Link, go_sem]
  all_goals (repeat' split)
  all_goals first | (simp [*]; done) | grind | (simp only [Result.ok.injEq, Value.bool.injEq, and_true]; grind)
end Go.Proofs.Gx
