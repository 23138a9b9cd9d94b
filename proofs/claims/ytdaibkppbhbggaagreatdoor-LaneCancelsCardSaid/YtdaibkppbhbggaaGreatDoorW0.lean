/-
 The data of the walks: printed by wip/gx.py.
-/
import Derived.Test.YtdaibkppbhbggaaGreatDoorSl21
import Derived.KernelRfl
import Derived.Test.YtdaibkppbhbggaaGreatDoorProg
set_option linter.unusedVariables false
set_option linter.unusedSimpArgs false
set_option maxRecDepth 100000
set_option maxHeartbeats 4000000
namespace Go.Proofs.Gx
open Go.Sl Tryz
theorem follows : prog.follows .mixedOrders = true := by kernel_rfl
def zfn : Nat → Int := fun _ => 0
structure api_Instr where
 Op : Int
 A : Int
 B : Int
 C : Int
deriving Inhabited, DecidableEq
def E_api_Instr : Fl api_Instr := ⟨fun x => [.int .i64 x.Op, .int .i64 x.A, .int .i64 x.B, .int .i64 x.C], 4, fun _ => rfl, fun x v h => by
 simp only [List.mem_cons, List.not_mem_nil, or_false] at h
 rcases h with rfl | rfl | rfl | rfl <;> rfl⟩
structure api_Link where
 From : Int
 To : Int
 Look : Int
 Loose : Bool
deriving Inhabited, DecidableEq
def E_api_Link : Fl api_Link := ⟨fun x => [.int .i64 x.From, .int .i64 x.To, .int .i64 x.Look, .bool x.Loose], 4, fun _ => rfl, fun x v h => by
 simp only [List.mem_cons, List.not_mem_nil, or_false] at h
 rcases h with rfl | rfl | rfl | rfl <;> rfl⟩
structure api_Start where
 To : Int
 Time : Int
 Value : Int
deriving Inhabited, DecidableEq
def E_api_Start : Fl api_Start := ⟨fun x => [.int .i64 x.To, .int .i64 x.Time, .int .i64 x.Value], 3, fun _ => rfl, fun x v h => by
 simp only [List.mem_cons, List.not_mem_nil, or_false] at h
 rcases h with rfl | rfl | rfl <;> rfl⟩
structure api_Model where
 Progs : (List (List api_Instr))
 Links : (List api_Link)
 Starts : (List api_Start)
 Seed : Int
 End : Int
 Budget : Int
deriving Inhabited, DecidableEq
def R_api_Model : Rep api_Model := ⟨6, fun h cs x => ∃ A0 c0 A1 c1 A2 c2, cs = [.slice A0 x.Progs.length c0, .slice A1 x.Links.length c1, .slice A2 x.Starts.length c2, .int .u64 x.Seed, .int .i64 x.End, .int .i64 x.Budget] ∧ SlR (Rep.sl E_api_Instr.rep) h A0 c0 x.Progs ∧ SlR E_api_Link.rep h A1 c1 x.Links ∧ SlR E_api_Start.rep h A2 c2 x.Starts, fun s ⟨A0, c0, A1, c1, A2, c2, e, f0, f1, f2⟩ => ⟨A0, c0, A1, c1, A2, c2, e, f0.mono s, f1.mono s, f2.mono s⟩⟩
structure api_Key where
 Time : Int
 From : Int
 Seq : Int
deriving Inhabited, DecidableEq
def E_api_Key : Fl api_Key := ⟨fun x => [.int .i64 x.Time, .int .i64 x.From, .int .i64 x.Seq], 3, fun _ => rfl, fun x v h => by
 simp only [List.mem_cons, List.not_mem_nil, or_false] at h
 rcases h with rfl | rfl | rfl <;> rfl⟩
structure api_Message where
 Key : api_Key
 To : Int
 Value : Int
 Uid : Int
 Anti : Bool
deriving Inhabited, DecidableEq
def E_api_Message : Fl api_Message := ⟨fun x => [.int .i64 x.Key.Time, .int .i64 x.Key.From, .int .i64 x.Key.Seq, .int .i64 x.To, .int .i64 x.Value, .int .i64 x.Uid, .bool x.Anti], 7, fun _ => rfl, fun x v h => by
 simp only [List.mem_cons, List.not_mem_nil, or_false] at h
 rcases h with rfl | rfl | rfl | rfl | rfl | rfl | rfl <;> rfl⟩
structure api_Caps where
 Link : Int
 Wait : Int
 Log : Int
deriving Inhabited, DecidableEq
structure model_flaw where
 at_ : Int
 why : Int
deriving Inhabited, DecidableEq
structure api_World where
 Prog : (List api_Instr)
 Self : Int
 Links : (List api_Link)
 Seed : Int
deriving Inhabited, DecidableEq
structure lane_sending where
 from_ : Int
 uid : Int
deriving Inhabited, DecidableEq
def E_lane_sending : Fl lane_sending := ⟨fun x => [.int .i64 x.from_, .int .i64 x.uid], 2, fun _ => rfl, fun x v h => by
 simp only [List.mem_cons, List.not_mem_nil, or_false] at h
 rcases h with rfl | rfl <;> rfl⟩
structure lane_open where
 by_ : api_Message
 m : api_Message
deriving Inhabited, DecidableEq
def E_lane_open : Fl lane_open := ⟨fun x => [.int .i64 x.by_.Key.Time, .int .i64 x.by_.Key.From, .int .i64 x.by_.Key.Seq, .int .i64 x.by_.To, .int .i64 x.by_.Value, .int .i64 x.by_.Uid, .bool x.by_.Anti, .int .i64 x.m.Key.Time, .int .i64 x.m.Key.From, .int .i64 x.m.Key.Seq, .int .i64 x.m.To, .int .i64 x.m.Value, .int .i64 x.m.Uid, .bool x.m.Anti], 14, fun _ => rfl, fun x v h => by
 simp only [List.mem_cons, List.not_mem_nil, or_false] at h
 rcases h with rfl | rfl | rfl | rfl | rfl | rfl | rfl | rfl | rfl | rfl | rfl | rfl | rfl | rfl <;> rfl⟩
structure Arr8xInti64 where
 c0 : Int
 c1 : Int
 c2 : Int
 c3 : Int
 c4 : Int
 c5 : Int
 c6 : Int
 c7 : Int
deriving Inhabited, DecidableEq
structure api_State where
 Regs : Arr8xInti64
 Draws : Int
 Sent : Int
deriving Inhabited, DecidableEq
def E_api_State : Fl api_State := ⟨fun x => [.int .i64 x.Regs.c0, .int .i64 x.Regs.c1, .int .i64 x.Regs.c2, .int .i64 x.Regs.c3, .int .i64 x.Regs.c4, .int .i64 x.Regs.c5, .int .i64 x.Regs.c6, .int .i64 x.Regs.c7, .int .i64 x.Draws, .int .i64 x.Sent], 10, fun _ => rfl, fun x v h => by
 simp only [List.mem_cons, List.not_mem_nil, or_false] at h
 rcases h with rfl | rfl | rfl | rfl | rfl | rfl | rfl | rfl | rfl | rfl <;> rfl⟩
structure log_done where
 event : api_Message
 fault : Int
 sent : (List api_Message)
 ahead : (Pt api_State)
deriving Inhabited, DecidableEq
def R_log_done : Rep log_done := ⟨10, fun h cs x => ∃ A0 c0 b1, cs = [.int .i64 x.event.Key.Time, .int .i64 x.event.Key.From, .int .i64 x.event.Key.Seq, .int .i64 x.event.To, .int .i64 x.event.Value, .int .i64 x.event.Uid, .bool x.event.Anti, .int .i64 x.fault, .slice A0 x.sent.length c0, .pointer (pz b1 x.ahead.has)] ∧ SlR E_api_Message.rep h A0 c0 x.sent ∧ PtR E_api_State h b1 70 x.ahead, fun s ⟨A0, c0, b1, e, f0, f1⟩ => ⟨A0, c0, b1, e, f0.mono s, f1.mono s⟩⟩
theorem R_log_done_ok : R_log_done.Ok := ⟨fun ⟨A0, c0, b1, e, _⟩ => by rw [e]; rfl, fun ⟨A0, c0, b1, e, _⟩ v hv => by
 rw [e] at hv
 simp only [List.mem_cons, List.not_mem_nil, or_false] at hv
 rcases hv with rfl | rfl | rfl | rfl | rfl | rfl | rfl | rfl | rfl | rfl <;> rfl⟩
structure log_Log where
 w : api_World
 made : Bool
 state : api_State
 every : Int
 l : (List log_done)
 stuck : Bool
deriving Inhabited, DecidableEq
structure api_Setting where
 Mode : Int
 Every : Int
 Cancel : Int
 Reach : Int
 Queue : Int
deriving Inhabited, DecidableEq
structure api_Stats where
 Done : Int
 Undone : Int
 Hits : Int
 Held : Int
deriving Inhabited, DecidableEq
structure api_Entry where
 Event : api_Message
 Before : api_State
 Fault : Int
 Sent : (List api_Message)
deriving Inhabited, DecidableEq
def R_api_Entry : Rep api_Entry := ⟨19, fun h cs x => ∃ A0 c0, cs = [.int .i64 x.Event.Key.Time, .int .i64 x.Event.Key.From, .int .i64 x.Event.Key.Seq, .int .i64 x.Event.To, .int .i64 x.Event.Value, .int .i64 x.Event.Uid, .bool x.Event.Anti, .int .i64 x.Before.Regs.c0, .int .i64 x.Before.Regs.c1, .int .i64 x.Before.Regs.c2, .int .i64 x.Before.Regs.c3, .int .i64 x.Before.Regs.c4, .int .i64 x.Before.Regs.c5, .int .i64 x.Before.Regs.c6, .int .i64 x.Before.Regs.c7, .int .i64 x.Before.Draws, .int .i64 x.Before.Sent, .int .i64 x.Fault, .slice A0 x.Sent.length c0] ∧ SlR E_api_Message.rep h A0 c0 x.Sent, fun s ⟨A0, c0, e, f0⟩ => ⟨A0, c0, e, f0.mono s⟩⟩
theorem R_api_Entry_ok : R_api_Entry.Ok := ⟨fun ⟨A0, c0, e, _⟩ => by rw [e]; rfl, fun ⟨A0, c0, e, _⟩ v hv => by
 rw [e] at hv
 simp only [List.mem_cons, List.not_mem_nil, or_false] at hv
 rcases hv with rfl | rfl | rfl | rfl | rfl | rfl | rfl | rfl | rfl | rfl | rfl | rfl | rfl | rfl | rfl | rfl | rfl | rfl | rfl <;> rfl⟩
structure api_Out where
 Link : Int
 Delay : Int
 Value : Int
deriving Inhabited, DecidableEq
def E_api_Out : Fl api_Out := ⟨fun x => [.int .i64 x.Link, .int .i64 x.Delay, .int .i64 x.Value], 3, fun _ => rfl, fun x v h => by
 simp only [List.mem_cons, List.not_mem_nil, or_false] at h
 rcases h with rfl | rfl | rfl <;> rfl⟩
structure vm_fault where
 at_ : Int
 why : Int
deriving Inhabited, DecidableEq
structure draw_word where
 x : Int
deriving Inhabited, DecidableEq
structure draw_mixer where
 word : draw_word
deriving Inhabited, DecidableEq
structure lane_refusal where
 why : Int
deriving Inhabited, DecidableEq
def lit_ : ByteArray := ⟨#[]⟩
def lit_2d2d2d : ByteArray := ⟨#[45, 45, 45]⟩
def lit_726e2d : ByteArray := ⟨#[114, 110, 45]⟩
def lit_72722d : ByteArray := ⟨#[114, 114, 45]⟩
def lit_rrr : ByteArray := ⟨#[114, 114, 114]⟩
def lit_702d2d : ByteArray := ⟨#[112, 45, 45]⟩
def lit_72702d : ByteArray := ⟨#[114, 112, 45]⟩
def lit_722d2d : ByteArray := ⟨#[114, 45, 45]⟩
def Ex1 : Array Value → Sem Value := Extern.ReflectliteType.typeOf
def Ex2 : Array Value → Sem Value := Extern.ReflectliteType.relation "AssignableTo" Extern.ReflectliteType.assignableTo
def Ex3 : Array Value → Sem Value := Extern.ReflectliteValue.methodAny (Extern.ReflectliteValue.valueError "reflectlite.Value.Type" 0) fun t _ _ _ => Extern.ReflectliteType.toType t
def Ex4 : Array Value → Sem Value := Extern.ReflectliteType.abiMethod fun t => do pure (.int .u8 (← Extern.Rtype.kind t))
def Ex5 : Array Value → Sem Value := Extern.ReflectliteType.method Extern.ReflectliteType.elem
def Ex6 : Array Value → Sem Value := Extern.ReflectliteType.relation "Implements" Extern.ReflectliteType.implements_
def Ex7 : Array Value → Sem Value := Extern.ReflectliteType.method fun t => do Extern.Rtype.noPackHeld "Comparable" t; pure (.bool (← typeInfo t).comparable)
theorem run_eql_api_Key (x y : Operand) (a b : api_Key) (w : World) : ((eqGuard .eql 46 x y (.agg (E_api_Key.enc a).toArray) (.agg (E_api_Key.enc b).toArray)).bind fun _ => binOp .eql 46 (.agg (E_api_Key.enc a).toArray) (.agg (E_api_Key.enc b).toArray)).run prog w = .ok (.bool (decide (a = b))) w := by
 show ((eqGuard .eql 46 x y _ _) >>= fun _ => binOp .eql 46 _ _).run prog w = _
 rw [Sem.run_bind, run_eqGuard_agg (hm := eqGuardType46)]
 simp only [Result.andThen_ok]
 obtain ⟨a1, a2, a3⟩ := a
 obtain ⟨b4, b5, b6⟩ := b
 simp [E_api_Key, go_sem]
 all_goals (repeat' split)
 all_goals first | (simp [*]; done) | grind | (simp only [Result.ok.injEq, Value.bool.injEq, and_true]; grind)
def kv_lane_sending (x : lane_sending) : Value := .agg (E_lane_sending.enc x).toArray
theorem keyok_lane_sending : KeyOK prog 126 kv_lane_sending := by
 refine ⟨fun e x w => ?_, fun x y w => ?_, ⟨_, underlying126, fun x y => .inl rfl⟩, fun x => ?_⟩
 · obtain ⟨a0, a1⟩ := x
   show (Instr.checkKey e (9999 + 1) 126 _).run prog w = _
   rw [Instr.checkKey]
   have p0 : ∀ w, (part 3 #[.int .i64 a0, .int .i64 a1] 0).run prog w = .ok (.int .i64 a0) w := fun w => run_part1 isAgg3 rfl
   have c0 : ∀ (m : Int) w, (Instr.checkKey e 9999 3 (.int .i64 m)).run prog w = .ok () w := fun m w => run_checkKey_int1 (n := 9998) underlying3
   have p1 : ∀ w, (part 3 #[.int .i64 a0, .int .i64 a1] 1).run prog w = .ok (.int .i64 a1) w := fun w => run_part1 isAgg3 rfl
   have c1 : ∀ (m : Int) w, (Instr.checkKey e 9999 3 (.int .i64 m)).run prog w = .ok () w := fun m w => run_checkKey_int1 (n := 9998) underlying3
   simp [kv_lane_sending, E_lane_sending, run_underlying underlying126, p0, c0, p1, c1]
 · obtain ⟨a0, a1⟩ := x
   obtain ⟨b0, b1⟩ := y
   simp [kv_lane_sending, E_lane_sending, Op.equal, Op.maxDepth, go_sem]
   all_goals (repeat' split)
   all_goals first | (simp [*]; done) | grind
 · obtain ⟨a0, a1⟩ := x
   simp [kv_lane_sending, E_lane_sending, Instr.sameBits]
def O_log_Log (hf : Hp) (x : log_Log) (b : Nat) : HProp := fun h => ∃ (A_1 : Option Addr) (c_2 : Nat) (A_4 : Option Addr) (c_5 : Nat) (A_7 : Option Addr) (c_8 : Nat) (cs_9 : List Value), SlR E_api_Instr.rep hf A_1 c_2 x.w.Prog ∧ SlR E_api_Link.rep hf A_4 c_5 x.w.Links ∧ RepL R_log_done hf cs_9 x.l ∧ spl [Cl b [.slice A_1 x.w.Prog.length c_2, .int .i64 x.w.Self, .slice A_4 x.w.Links.length c_5, .int .u64 x.w.Seed, .bool x.made, .int .i64 x.state.Regs.c0, .int .i64 x.state.Regs.c1, .int .i64 x.state.Regs.c2, .int .i64 x.state.Regs.c3, .int .i64 x.state.Regs.c4, .int .i64 x.state.Regs.c5, .int .i64 x.state.Regs.c6, .int .i64 x.state.Regs.c7, .int .i64 x.state.Draws, .int .i64 x.state.Sent, .int .i64 x.every, .slice A_7 x.l.length c_8, .bool x.stuck] 150, OSl 176 10 (.slice A_7 x.l.length c_8) x.l.length cs_9] h
theorem O_log_Log.o {B : Base} {w : World} {l : List HProp} {hf : Hp} {x : log_Log} {b : Nat} (hS : St B w (O_log_Log hf x b :: l) hf) : ∃ (A_1 : Option Addr) (c_2 : Nat) (A_4 : Option Addr) (c_5 : Nat) (A_7 : Option Addr) (c_8 : Nat) (cs_9 : List Value), SlR E_api_Instr.rep hf A_1 c_2 x.w.Prog ∧ SlR E_api_Link.rep hf A_4 c_5 x.w.Links ∧ RepL R_log_done hf cs_9 x.l ∧ St B w (Cl b [.slice A_1 x.w.Prog.length c_2, .int .i64 x.w.Self, .slice A_4 x.w.Links.length c_5, .int .u64 x.w.Seed, .bool x.made, .int .i64 x.state.Regs.c0, .int .i64 x.state.Regs.c1, .int .i64 x.state.Regs.c2, .int .i64 x.state.Regs.c3, .int .i64 x.state.Regs.c4, .int .i64 x.state.Regs.c5, .int .i64 x.state.Regs.c6, .int .i64 x.state.Regs.c7, .int .i64 x.state.Draws, .int .i64 x.state.Sent, .int .i64 x.every, .slice A_7 x.l.length c_8, .bool x.stuck] 150 :: OSl 176 10 (.slice A_7 x.l.length c_8) x.l.length cs_9 :: l) hf := by
 obtain ⟨h, ⟨A_1, c_2, A_4, c_5, A_7, c_8, cs_9, hr_3, hr_6, hx_10, hsp⟩, hr⟩ := hS.own
 exact ⟨A_1, c_2, A_4, c_5, A_7, c_8, cs_9, hr_3, hr_6, hx_10, (St.splO (ps := [Cl b [.slice A_1 x.w.Prog.length c_2, .int .i64 x.w.Self, .slice A_4 x.w.Links.length c_5, .int .u64 x.w.Seed, .bool x.made, .int .i64 x.state.Regs.c0, .int .i64 x.state.Regs.c1, .int .i64 x.state.Regs.c2, .int .i64 x.state.Regs.c3, .int .i64 x.state.Regs.c4, .int .i64 x.state.Regs.c5, .int .i64 x.state.Regs.c6, .int .i64 x.state.Regs.c7, .int .i64 x.state.Draws, .int .i64 x.state.Sent, .int .i64 x.every, .slice A_7 x.l.length c_8, .bool x.stuck] 150, OSl 176 10 (.slice A_7 x.l.length c_8) x.l.length cs_9]) ⟨hS.base, hS.sub, h, hsp, hr⟩)⟩
theorem O_log_Log.c {B : Base} {w : World} {l : List HProp} {hf : Hp} {x : log_Log} {b : Nat} {A_1 : Option Addr} {c_2 : Nat} {A_4 : Option Addr} {c_5 : Nat} {A_7 : Option Addr} {c_8 : Nat} {cs_9 : List Value} (hr_3 : SlR E_api_Instr.rep hf A_1 c_2 x.w.Prog) (hr_6 : SlR E_api_Link.rep hf A_4 c_5 x.w.Links) (hx_10 : RepL R_log_done hf cs_9 x.l) (hS : St B w (Cl b [.slice A_1 x.w.Prog.length c_2, .int .i64 x.w.Self, .slice A_4 x.w.Links.length c_5, .int .u64 x.w.Seed, .bool x.made, .int .i64 x.state.Regs.c0, .int .i64 x.state.Regs.c1, .int .i64 x.state.Regs.c2, .int .i64 x.state.Regs.c3, .int .i64 x.state.Regs.c4, .int .i64 x.state.Regs.c5, .int .i64 x.state.Regs.c6, .int .i64 x.state.Regs.c7, .int .i64 x.state.Draws, .int .i64 x.state.Sent, .int .i64 x.every, .slice A_7 x.l.length c_8, .bool x.stuck] 150 :: OSl 176 10 (.slice A_7 x.l.length c_8) x.l.length cs_9 :: l) hf) : St B w (O_log_Log hf x b :: l) hf :=
 (St.splC (ps := [Cl b [.slice A_1 x.w.Prog.length c_2, .int .i64 x.w.Self, .slice A_4 x.w.Links.length c_5, .int .u64 x.w.Seed, .bool x.made, .int .i64 x.state.Regs.c0, .int .i64 x.state.Regs.c1, .int .i64 x.state.Regs.c2, .int .i64 x.state.Regs.c3, .int .i64 x.state.Regs.c4, .int .i64 x.state.Regs.c5, .int .i64 x.state.Regs.c6, .int .i64 x.state.Regs.c7, .int .i64 x.state.Draws, .int .i64 x.state.Sent, .int .i64 x.every, .slice A_7 x.l.length c_8, .bool x.stuck] 150, OSl 176 10 (.slice A_7 x.l.length c_8) x.l.length cs_9]) hS).imp fun h e => ⟨A_1, c_2, A_4, c_5, A_7, c_8, cs_9, hr_3, hr_6, hx_10, e⟩
theorem O_log_Log.m {hf hf' : Hp} (s : Sub hf hf') {x : log_Log} {b : Nat} : ∀ h, O_log_Log hf x b h → O_log_Log hf' x b h := fun h ⟨A_1, c_2, A_4, c_5, A_7, c_8, cs_9, hr_3, hr_6, hx_10, e⟩ => ⟨A_1, c_2, A_4, c_5, A_7, c_8, cs_9, hr_3.mono s, hr_6.mono s, hx_10.mono s, spl_imp (PI.c (fun _ a => a) (PI.c (fun _ a => a) (PI.n))) h e⟩
theorem O_log_Log.l {B : Base} {w : World} {l : List HProp} {hf hf' : Hp} (s : Sub hf hf') {x : log_Log} {b : Nat} (hS : St B w (O_log_Log hf x b :: l) hf') : St B w (O_log_Log hf' x b :: l) hf' := hS.imp (O_log_Log.m s)
structure heap_Heap where
 p_l : (List api_Message)
def O_heap_Heap (hf : Hp) (x : heap_Heap) (b : Nat) : HProp := fun h => ∃ (A_1 : Option Addr) (c_2 : Nat), spl [Cl b [.slice A_1 x.p_l.length c_2, .func (.func 62) #[] #[]] 245, OSf E_api_Message 48 (.slice A_1 x.p_l.length c_2) x.p_l] h
theorem O_heap_Heap.o {B : Base} {w : World} {l : List HProp} {hf : Hp} {x : heap_Heap} {b : Nat} (hS : St B w (O_heap_Heap hf x b :: l) hf) : ∃ (A_1 : Option Addr) (c_2 : Nat), St B w (Cl b [.slice A_1 x.p_l.length c_2, .func (.func 62) #[] #[]] 245 :: OSf E_api_Message 48 (.slice A_1 x.p_l.length c_2) x.p_l :: l) hf := by
 obtain ⟨h, ⟨A_1, c_2, hsp⟩, hr⟩ := hS.own
 exact ⟨A_1, c_2, (St.splO (ps := [Cl b [.slice A_1 x.p_l.length c_2, .func (.func 62) #[] #[]] 245, OSf E_api_Message 48 (.slice A_1 x.p_l.length c_2) x.p_l]) ⟨hS.base, hS.sub, h, hsp, hr⟩)⟩
theorem O_heap_Heap.c {B : Base} {w : World} {l : List HProp} {hf : Hp} {x : heap_Heap} {b : Nat} {A_1 : Option Addr} {c_2 : Nat}  (hS : St B w (Cl b [.slice A_1 x.p_l.length c_2, .func (.func 62) #[] #[]] 245 :: OSf E_api_Message 48 (.slice A_1 x.p_l.length c_2) x.p_l :: l) hf) : St B w (O_heap_Heap hf x b :: l) hf :=
 (St.splC (ps := [Cl b [.slice A_1 x.p_l.length c_2, .func (.func 62) #[] #[]] 245, OSf E_api_Message 48 (.slice A_1 x.p_l.length c_2) x.p_l]) hS).imp fun h e => ⟨A_1, c_2, e⟩
theorem O_heap_Heap.m {hf hf' : Hp} (s : Sub hf hf') {x : heap_Heap} {b : Nat} : ∀ h, O_heap_Heap hf x b h → O_heap_Heap hf' x b h := fun h ⟨A_1, c_2, e⟩ => ⟨A_1, c_2, spl_imp (PI.c (fun _ a => a) (PI.c (fun _ a => a) (PI.n))) h e⟩
structure pend_Pend where
 q : heap_Heap
def O_pend_Pend (hf : Hp) (x : pend_Pend) (b : Nat) : HProp := fun h => ∃ (b_1 : Nat), spl [Cl b [.iface 203 (.pointer (some ⟨b_1, 0, none⟩))] 155, O_heap_Heap hf x.q b_1] h
theorem O_pend_Pend.o {B : Base} {w : World} {l : List HProp} {hf : Hp} {x : pend_Pend} {b : Nat} (hS : St B w (O_pend_Pend hf x b :: l) hf) : ∃ (b_1 : Nat), St B w (Cl b [.iface 203 (.pointer (some ⟨b_1, 0, none⟩))] 155 :: O_heap_Heap hf x.q b_1 :: l) hf := by
 obtain ⟨h, ⟨b_1, hsp⟩, hr⟩ := hS.own
 exact ⟨b_1, (St.splO (ps := [Cl b [.iface 203 (.pointer (some ⟨b_1, 0, none⟩))] 155, O_heap_Heap hf x.q b_1]) ⟨hS.base, hS.sub, h, hsp, hr⟩)⟩
theorem O_pend_Pend.c {B : Base} {w : World} {l : List HProp} {hf : Hp} {x : pend_Pend} {b : Nat} {b_1 : Nat}  (hS : St B w (Cl b [.iface 203 (.pointer (some ⟨b_1, 0, none⟩))] 155 :: O_heap_Heap hf x.q b_1 :: l) hf) : St B w (O_pend_Pend hf x b :: l) hf :=
 (St.splC (ps := [Cl b [.iface 203 (.pointer (some ⟨b_1, 0, none⟩))] 155, O_heap_Heap hf x.q b_1]) hS).imp fun h e => ⟨b_1, e⟩
theorem O_pend_Pend.m {hf hf' : Hp} (s : Sub hf hf') {x : pend_Pend} {b : Nat} : ∀ h, O_pend_Pend hf x b h → O_pend_Pend hf' x b h := fun h ⟨b_1, e⟩ => ⟨b_1, spl_imp (PI.c (fun _ a => a) (PI.c (O_heap_Heap.m s) (PI.n))) h e⟩
theorem O_pend_Pend.l {B : Base} {w : World} {l : List HProp} {hf hf' : Hp} (s : Sub hf hf') {x : pend_Pend} {b : Nat} (hS : St B w (O_pend_Pend hf x b :: l) hf') : St B w (O_pend_Pend hf' x b :: l) hf' := hS.imp (O_pend_Pend.m s)
structure lane_Lane where
 m : api_Model
 n : Int
 caps : api_Caps
 ways : (List Int)
 log : log_Log
 wait : pend_Pend
 open_ : (List lane_open)
 orphans : (List api_Message)
 early : List (lane_sending × Int)
 held : List (lane_sending × Bool)
 uid : Int
 setting : api_Setting
 stats : api_Stats
def O_lane_Lane (hf : Hp) (x : lane_Lane) (b : Nat) : HProp := fun h => ∃ (A_1 : Option Addr) (c_2 : Nat) (A_4 : Option Addr) (c_5 : Nat) (A_7 : Option Addr) (c_8 : Nat) (A_10 : Option Addr) (c_11 : Nat) (b_13 : Nat) (b_14 : Nat) (A_15 : Option Addr) (c_16 : Nat) (A_17 : Option Addr) (c_18 : Nat) (b_19 : Nat) (b_20 : Nat), SlR (Rep.sl E_api_Instr.rep) hf A_1 c_2 x.m.Progs ∧ SlR E_api_Link.rep hf A_4 c_5 x.m.Links ∧ SlR E_api_Start.rep hf A_7 c_8 x.m.Starts ∧ SlR ((FI .i64).rep) hf A_10 c_11 x.ways ∧ spl [Cl b [.slice A_1 x.m.Progs.length c_2, .slice A_4 x.m.Links.length c_5, .slice A_7 x.m.Starts.length c_8, .int .u64 x.m.Seed, .int .i64 x.m.End, .int .i64 x.m.Budget, .int .i64 x.n, .int .i64 x.caps.Link, .int .i64 x.caps.Wait, .int .i64 x.caps.Log, .slice A_10 x.ways.length c_11, .pointer (some ⟨b_13, 0, none⟩), .pointer (some ⟨b_14, 0, none⟩), .slice A_15 x.open_.length c_16, .slice A_17 x.orphans.length c_18, .map (some b_19), .map (some b_20), .int .i64 x.uid, .int .i64 x.setting.Mode, .int .i64 x.setting.Every, .int .i64 x.setting.Cancel, .int .i64 x.setting.Reach, .int .i64 x.setting.Queue, .int .i64 x.stats.Done, .int .i64 x.stats.Undone, .int .i64 x.stats.Hits, .int .i64 x.stats.Held] 61, O_log_Log hf x.log b_13, O_pend_Pend hf x.wait b_14, OSf E_lane_open 116 (.slice A_15 x.open_.length c_16) x.open_, OSf E_api_Message 48 (.slice A_17 x.orphans.length c_18) x.orphans, MapF kv_lane_sending (Value.int .i64) b_19 x.early, MapF kv_lane_sending Value.bool b_20 x.held] h
theorem O_lane_Lane.o {B : Base} {w : World} {l : List HProp} {hf : Hp} {x : lane_Lane} {b : Nat} (hS : St B w (O_lane_Lane hf x b :: l) hf) : ∃ (A_1 : Option Addr) (c_2 : Nat) (A_4 : Option Addr) (c_5 : Nat) (A_7 : Option Addr) (c_8 : Nat) (A_10 : Option Addr) (c_11 : Nat) (b_13 : Nat) (b_14 : Nat) (A_15 : Option Addr) (c_16 : Nat) (A_17 : Option Addr) (c_18 : Nat) (b_19 : Nat) (b_20 : Nat), SlR (Rep.sl E_api_Instr.rep) hf A_1 c_2 x.m.Progs ∧ SlR E_api_Link.rep hf A_4 c_5 x.m.Links ∧ SlR E_api_Start.rep hf A_7 c_8 x.m.Starts ∧ SlR ((FI .i64).rep) hf A_10 c_11 x.ways ∧ St B w (Cl b [.slice A_1 x.m.Progs.length c_2, .slice A_4 x.m.Links.length c_5, .slice A_7 x.m.Starts.length c_8, .int .u64 x.m.Seed, .int .i64 x.m.End, .int .i64 x.m.Budget, .int .i64 x.n, .int .i64 x.caps.Link, .int .i64 x.caps.Wait, .int .i64 x.caps.Log, .slice A_10 x.ways.length c_11, .pointer (some ⟨b_13, 0, none⟩), .pointer (some ⟨b_14, 0, none⟩), .slice A_15 x.open_.length c_16, .slice A_17 x.orphans.length c_18, .map (some b_19), .map (some b_20), .int .i64 x.uid, .int .i64 x.setting.Mode, .int .i64 x.setting.Every, .int .i64 x.setting.Cancel, .int .i64 x.setting.Reach, .int .i64 x.setting.Queue, .int .i64 x.stats.Done, .int .i64 x.stats.Undone, .int .i64 x.stats.Hits, .int .i64 x.stats.Held] 61 :: O_log_Log hf x.log b_13 :: O_pend_Pend hf x.wait b_14 :: OSf E_lane_open 116 (.slice A_15 x.open_.length c_16) x.open_ :: OSf E_api_Message 48 (.slice A_17 x.orphans.length c_18) x.orphans :: MapF kv_lane_sending (Value.int .i64) b_19 x.early :: MapF kv_lane_sending Value.bool b_20 x.held :: l) hf := by
 obtain ⟨h, ⟨A_1, c_2, A_4, c_5, A_7, c_8, A_10, c_11, b_13, b_14, A_15, c_16, A_17, c_18, b_19, b_20, hr_3, hr_6, hr_9, hr_12, hsp⟩, hr⟩ := hS.own
 exact ⟨A_1, c_2, A_4, c_5, A_7, c_8, A_10, c_11, b_13, b_14, A_15, c_16, A_17, c_18, b_19, b_20, hr_3, hr_6, hr_9, hr_12, (St.splO (ps := [Cl b [.slice A_1 x.m.Progs.length c_2, .slice A_4 x.m.Links.length c_5, .slice A_7 x.m.Starts.length c_8, .int .u64 x.m.Seed, .int .i64 x.m.End, .int .i64 x.m.Budget, .int .i64 x.n, .int .i64 x.caps.Link, .int .i64 x.caps.Wait, .int .i64 x.caps.Log, .slice A_10 x.ways.length c_11, .pointer (some ⟨b_13, 0, none⟩), .pointer (some ⟨b_14, 0, none⟩), .slice A_15 x.open_.length c_16, .slice A_17 x.orphans.length c_18, .map (some b_19), .map (some b_20), .int .i64 x.uid, .int .i64 x.setting.Mode, .int .i64 x.setting.Every, .int .i64 x.setting.Cancel, .int .i64 x.setting.Reach, .int .i64 x.setting.Queue, .int .i64 x.stats.Done, .int .i64 x.stats.Undone, .int .i64 x.stats.Hits, .int .i64 x.stats.Held] 61, O_log_Log hf x.log b_13, O_pend_Pend hf x.wait b_14, OSf E_lane_open 116 (.slice A_15 x.open_.length c_16) x.open_, OSf E_api_Message 48 (.slice A_17 x.orphans.length c_18) x.orphans, MapF kv_lane_sending (Value.int .i64) b_19 x.early, MapF kv_lane_sending Value.bool b_20 x.held]) ⟨hS.base, hS.sub, h, hsp, hr⟩)⟩
theorem O_lane_Lane.c {B : Base} {w : World} {l : List HProp} {hf : Hp} {x : lane_Lane} {b : Nat} {A_1 : Option Addr} {c_2 : Nat} {A_4 : Option Addr} {c_5 : Nat} {A_7 : Option Addr} {c_8 : Nat} {A_10 : Option Addr} {c_11 : Nat} {b_13 : Nat} {b_14 : Nat} {A_15 : Option Addr} {c_16 : Nat} {A_17 : Option Addr} {c_18 : Nat} {b_19 : Nat} {b_20 : Nat} (hr_3 : SlR (Rep.sl E_api_Instr.rep) hf A_1 c_2 x.m.Progs) (hr_6 : SlR E_api_Link.rep hf A_4 c_5 x.m.Links) (hr_9 : SlR E_api_Start.rep hf A_7 c_8 x.m.Starts) (hr_12 : SlR ((FI .i64).rep) hf A_10 c_11 x.ways) (hS : St B w (Cl b [.slice A_1 x.m.Progs.length c_2, .slice A_4 x.m.Links.length c_5, .slice A_7 x.m.Starts.length c_8, .int .u64 x.m.Seed, .int .i64 x.m.End, .int .i64 x.m.Budget, .int .i64 x.n, .int .i64 x.caps.Link, .int .i64 x.caps.Wait, .int .i64 x.caps.Log, .slice A_10 x.ways.length c_11, .pointer (some ⟨b_13, 0, none⟩), .pointer (some ⟨b_14, 0, none⟩), .slice A_15 x.open_.length c_16, .slice A_17 x.orphans.length c_18, .map (some b_19), .map (some b_20), .int .i64 x.uid, .int .i64 x.setting.Mode, .int .i64 x.setting.Every, .int .i64 x.setting.Cancel, .int .i64 x.setting.Reach, .int .i64 x.setting.Queue, .int .i64 x.stats.Done, .int .i64 x.stats.Undone, .int .i64 x.stats.Hits, .int .i64 x.stats.Held] 61 :: O_log_Log hf x.log b_13 :: O_pend_Pend hf x.wait b_14 :: OSf E_lane_open 116 (.slice A_15 x.open_.length c_16) x.open_ :: OSf E_api_Message 48 (.slice A_17 x.orphans.length c_18) x.orphans :: MapF kv_lane_sending (Value.int .i64) b_19 x.early :: MapF kv_lane_sending Value.bool b_20 x.held :: l) hf) : St B w (O_lane_Lane hf x b :: l) hf :=
 (St.splC (ps := [Cl b [.slice A_1 x.m.Progs.length c_2, .slice A_4 x.m.Links.length c_5, .slice A_7 x.m.Starts.length c_8, .int .u64 x.m.Seed, .int .i64 x.m.End, .int .i64 x.m.Budget, .int .i64 x.n, .int .i64 x.caps.Link, .int .i64 x.caps.Wait, .int .i64 x.caps.Log, .slice A_10 x.ways.length c_11, .pointer (some ⟨b_13, 0, none⟩), .pointer (some ⟨b_14, 0, none⟩), .slice A_15 x.open_.length c_16, .slice A_17 x.orphans.length c_18, .map (some b_19), .map (some b_20), .int .i64 x.uid, .int .i64 x.setting.Mode, .int .i64 x.setting.Every, .int .i64 x.setting.Cancel, .int .i64 x.setting.Reach, .int .i64 x.setting.Queue, .int .i64 x.stats.Done, .int .i64 x.stats.Undone, .int .i64 x.stats.Hits, .int .i64 x.stats.Held] 61, O_log_Log hf x.log b_13, O_pend_Pend hf x.wait b_14, OSf E_lane_open 116 (.slice A_15 x.open_.length c_16) x.open_, OSf E_api_Message 48 (.slice A_17 x.orphans.length c_18) x.orphans, MapF kv_lane_sending (Value.int .i64) b_19 x.early, MapF kv_lane_sending Value.bool b_20 x.held]) hS).imp fun h e => ⟨A_1, c_2, A_4, c_5, A_7, c_8, A_10, c_11, b_13, b_14, A_15, c_16, A_17, c_18, b_19, b_20, hr_3, hr_6, hr_9, hr_12, e⟩
theorem O_lane_Lane.m {hf hf' : Hp} (s : Sub hf hf') {x : lane_Lane} {b : Nat} : ∀ h, O_lane_Lane hf x b h → O_lane_Lane hf' x b h := fun h ⟨A_1, c_2, A_4, c_5, A_7, c_8, A_10, c_11, b_13, b_14, A_15, c_16, A_17, c_18, b_19, b_20, hr_3, hr_6, hr_9, hr_12, e⟩ => ⟨A_1, c_2, A_4, c_5, A_7, c_8, A_10, c_11, b_13, b_14, A_15, c_16, A_17, c_18, b_19, b_20, hr_3.mono s, hr_6.mono s, hr_9.mono s, hr_12.mono s, spl_imp (PI.c (fun _ a => a) (PI.c (O_log_Log.m s) (PI.c (O_pend_Pend.m s) (PI.c (fun _ a => a) (PI.c (fun _ a => a) (PI.c (fun _ a => a) (PI.c (fun _ a => a) (PI.n)))))))) h e⟩
theorem O_lane_Lane.l {B : Base} {w : World} {l : List HProp} {hf hf' : Hp} (s : Sub hf hf') {x : lane_Lane} {b : Nat} (hS : St B w (O_lane_Lane hf x b :: l) hf') : St B w (O_lane_Lane hf' x b :: l) hf' := hS.imp (O_lane_Lane.m s)
def tb : List (Nat × Ti) := [(2, ⟨false, 1, [], [], .int .i64⟩),
 (3, ⟨false, 1, [], [.int .i64 0], .int .i64⟩),
 (4, ⟨false, 1, [], [], .no⟩),
 (22, ⟨false, 1, [], [], .sl⟩),
 (23, ⟨false, 1, [], [], .sl⟩),
 (24, ⟨false, 1, [], [], .sl⟩),
 (25, ⟨false, 1, [], [], .int .u64⟩),
 (27, ⟨true, 6, [(0, 1), (1, 1), (2, 1), (3, 1), (4, 1), (5, 1)], [.slice none 0 0, .slice none 0 0, .slice none 0 0, .int .u64 0, .int .i64 0, .int .i64 0], .no⟩),
 (29, ⟨false, 1, [], [.int .i64 0], .int .i64⟩),
 (33, ⟨true, 3, [(0, 1), (1, 1), (2, 1)], [.int .i64 0, .int .i64 0, .int .i64 0], .no⟩),
 (37, ⟨false, 1, [], [], .sl⟩),
 (39, ⟨false, 1, [], [], .sl⟩),
 (41, ⟨false, 1, [], [.slice none 0 0], .sl⟩),
 (46, ⟨true, 3, [(0, 1), (1, 1), (2, 1)], [.int .i64 0, .int .i64 0, .int .i64 0], .no⟩),
 (48, ⟨true, 7, [(0, 3), (3, 1), (4, 1), (5, 1), (6, 1)], [.int .i64 0, .int .i64 0, .int .i64 0, .int .i64 0, .int .i64 0, .int .i64 0, .bool false], .no⟩),
 (51, ⟨false, 1, [], [], .no⟩),
 (52, ⟨false, 1, [], [], .no⟩),
 (53, ⟨false, 1, [], [], .sl⟩),
 (54, ⟨false, 1, [], [], .no⟩),
 (55, ⟨false, 1, [], [], .no⟩),
 (57, ⟨true, 5, [(0, 1), (1, 1), (2, 1), (3, 1), (4, 1)], [.int .i64 0, .int .i64 0, .int .i64 0, .int .i64 0, .int .i64 0], .no⟩),
 (59, ⟨true, 4, [(0, 1), (1, 1), (2, 1), (3, 1)], [], .no⟩),
 (61, ⟨true, 27, [(0, 6), (6, 1), (7, 3), (10, 1), (11, 1), (12, 1), (13, 1), (14, 1), (15, 1), (16, 1), (17, 1), (18, 5), (23, 4)], [.slice none 0 0, .slice none 0 0, .slice none 0 0, .int .u64 0, .int .i64 0, .int .i64 0, .int .i64 0, .int .i64 0, .int .i64 0, .int .i64 0, .slice none 0 0, .pointer none, .pointer none, .slice none 0 0, .slice none 0 0, .map none, .map none, .int .i64 0, .int .i64 0, .int .i64 0, .int .i64 0, .int .i64 0, .int .i64 0, .int .i64 0, .int .i64 0, .int .i64 0, .int .i64 0], .no⟩),
 (70, ⟨true, 10, [(0, 8), (8, 1), (9, 1)], [.int .i64 0, .int .i64 0, .int .i64 0, .int .i64 0, .int .i64 0, .int .i64 0, .int .i64 0, .int .i64 0, .int .i64 0, .int .i64 0], .no⟩),
 (77, ⟨false, 1, [], [], .no⟩),
 (79, ⟨true, 19, [(0, 7), (7, 10), (17, 1), (18, 1)], [.int .i64 0, .int .i64 0, .int .i64 0, .int .i64 0, .int .i64 0, .int .i64 0, .bool false, .int .i64 0, .int .i64 0, .int .i64 0, .int .i64 0, .int .i64 0, .int .i64 0, .int .i64 0, .int .i64 0, .int .i64 0, .int .i64 0, .int .i64 0, .slice none 0 0], .no⟩),
 (89, ⟨false, 1, [], [], .sl⟩),
 (91, ⟨true, 4, [(0, 1), (1, 1), (2, 1), (3, 1)], [.slice none 0 0, .int .i64 0, .slice none 0 0, .int .u64 0], .no⟩),
 (100, ⟨false, 1, [], [], .no⟩),
 (102, ⟨true, 1, [(0, 1)], [.nilFunc], .no⟩),
 (103, ⟨true, 4, [], [.nilFunc, .nilFunc, .nilFunc, .nilFunc], .no⟩),
 (106, ⟨true, 2, [(0, 1), (1, 1)], [.int .i64 0, .int .i64 0], .ok⟩),
 (108, ⟨false, 1, [], [.nilIface], .no⟩),
 (110, ⟨false, 1, [], [], .ok⟩),
 (116, ⟨true, 14, [(0, 7), (7, 7)], [.int .i64 0, .int .i64 0, .int .i64 0, .int .i64 0, .int .i64 0, .int .i64 0, .bool false, .int .i64 0, .int .i64 0, .int .i64 0, .int .i64 0, .int .i64 0, .int .i64 0, .bool false], .no⟩),
 (126, ⟨true, 2, [(0, 1), (1, 1)], [.int .i64 0, .int .i64 0], .no⟩),
 (144, ⟨true, 4, [(0, 1), (1, 1), (2, 1), (3, 1)], [.int .i64 0, .int .i64 0, .int .i64 0, .bool false], .no⟩),
 (148, ⟨false, 1, [], [], .sl⟩),
 (150, ⟨true, 18, [(0, 4), (4, 1), (5, 10), (15, 1), (16, 1), (17, 1)], [.slice none 0 0, .int .i64 0, .slice none 0 0, .int .u64 0, .bool false, .int .i64 0, .int .i64 0, .int .i64 0, .int .i64 0, .int .i64 0, .int .i64 0, .int .i64 0, .int .i64 0, .int .i64 0, .int .i64 0, .int .i64 0, .slice none 0 0, .bool false], .no⟩),
 (152, ⟨false, 1, [], [], .no⟩),
 (155, ⟨true, 1, [(0, 1)], [.nilIface], .no⟩),
 (157, ⟨true, 3, [(0, 1), (1, 1), (2, 1)], [.int .i64 0, .int .i64 0, .int .i64 0], .no⟩),
 (161, ⟨true, 3, [], [.pointer none, .pointer none, .int .u64 0], .no⟩),
 (174, ⟨false, 1, [], [], .no⟩),
 (176, ⟨true, 10, [(0, 7), (7, 1), (8, 1), (9, 1)], [.int .i64 0, .int .i64 0, .int .i64 0, .int .i64 0, .int .i64 0, .int .i64 0, .bool false, .int .i64 0, .slice none 0 0, .pointer none], .no⟩),
 (179, ⟨true, 1, [(0, 1)], [.int .i64 0], .ok⟩),
 (192, ⟨false, 1, [], [], .sl⟩),
 (203, ⟨false, 1, [], [], .ok⟩),
 (225, ⟨false, 1, [], [], .sl⟩),
 (231, ⟨false, 1, [], [], .sl⟩),
 (237, ⟨true, 0, [], [], .ok⟩),
 (238, ⟨true, 0, [], [], .ok⟩),
 (243, ⟨true, 2, [(0, 1), (1, 1)], [.slice none 0 0, .nilFunc], .no⟩),
 (245, ⟨true, 2, [(0, 2)], [.slice none 0 0, .nilFunc], .no⟩),
 (254, ⟨false, 1, [], [], .ok⟩),
 (256, ⟨true, 1, [(0, 1)], [.slice none 0 0], .no⟩),
 (260, ⟨true, 30, [(0, 4), (4, 7), (11, 16), (27, 1), (28, 1), (29, 1)], [.slice none 0 0, .int .i64 0, .slice none 0 0, .int .u64 0, .int .i64 0, .int .i64 0, .int .i64 0, .int .i64 0, .int .i64 0, .int .i64 0, .bool false, .int .i64 0, .int .i64 0, .int .i64 0, .int .i64 0, .int .i64 0, .int .i64 0, .int .i64 0, .int .i64 0, .int .i64 0, .int .i64 0, .int .i64 0, .int .i64 0, .int .i64 0, .int .i64 0, .int .i64 0, .int .i64 0, .int .i64 0, .slice none 0 0, .int .i64 0], .no⟩),
 (262, ⟨true, 2, [(0, 1), (1, 1)], [.int .i64 0, .int .i64 0], .ok⟩),
 (263, ⟨false, 1, [], [], .ok⟩),
 (265, ⟨true, 3, [(0, 1), (1, 1), (2, 1)], [.int .i64 0, .int .i64 0, .int .i64 0], .no⟩),
 (269, ⟨true, 4, [(0, 1), (1, 1), (2, 1), (3, 1)], [.int .i64 0, .int .i64 0, .int .i64 0, .int .i64 0], .no⟩),
 (271, ⟨false, 1, [], [], .ok⟩),
 (273, ⟨true, 2, [(0, 1), (1, 1)], [.int .i64 0, .nilIface], .no⟩),
 (278, ⟨false, 1, [], [], .int .u64⟩),
 (279, ⟨true, 17, [], [.string lit_, .string lit_, .string lit_, .string lit_, .string lit_, .string lit_, .string lit_, .string lit_, .string lit_, .string lit_, .string lit_, .string lit_, .string lit_, .string lit_, .string lit_, .string lit_, .string lit_], .no⟩),
 (295, ⟨true, 1, [(0, 1)], [.int .u64 0], .no⟩),
 (297, ⟨true, 1, [(0, 1)], [.int .u64 0], .no⟩),
 (319, ⟨false, 1, [], [], .no⟩)]
theorem tbOK : TbOK prog tb :=
 tbc ⟨isAgg2, sizeOf2, .inl rfl, .inl rfl, underlying2⟩
 (tbc ⟨isAgg3, sizeOf3, .inl rfl, .inr ⟨_, zeroValue3, rfl⟩, underlying3⟩
 (tbc ⟨isAgg4, sizeOf4, .inl rfl, .inl rfl, trivial⟩
 (tbc ⟨isAgg22, sizeOf22, .inl rfl, .inl rfl, ⟨_, underlying22⟩⟩
 (tbc ⟨isAgg23, sizeOf23, .inl rfl, .inl rfl, ⟨_, underlying23⟩⟩
 (tbc ⟨isAgg24, sizeOf24, .inl rfl, .inl rfl, ⟨_, underlying24⟩⟩
 (tbc ⟨isAgg25, sizeOf25, .inl rfl, .inl rfl, underlying25⟩
 (tbc ⟨isAgg27, sizeOf27, .inr ⟨_, underlying27, (flc rfl sizeOf22 (flc rfl sizeOf23 (flc rfl sizeOf24 (flc rfl sizeOf25 (flc rfl sizeOf2 (flc rfl sizeOf3 trivial))))))⟩, .inr ⟨_, zeroValue27, rfl⟩, trivial⟩
 (tbc ⟨isAgg29, sizeOf29, .inl rfl, .inr ⟨_, zeroValue29, rfl⟩, underlying29⟩
 (tbc ⟨isAgg33, sizeOf33, .inr ⟨_, underlying33, (flc rfl sizeOf3 (flc rfl sizeOf3 (flc rfl sizeOf3 trivial)))⟩, .inr ⟨_, zeroValue33, rfl⟩, trivial⟩
 (tbc ⟨isAgg37, sizeOf37, .inl rfl, .inl rfl, ⟨_, underlying37⟩⟩
 (tbc ⟨isAgg39, sizeOf39, .inl rfl, .inl rfl, ⟨_, underlying39⟩⟩
 (tbc ⟨isAgg41, sizeOf41, .inl rfl, .inr ⟨_, zeroValue41, rfl⟩, ⟨_, underlying41⟩⟩
 (tbc ⟨isAgg46, sizeOf46, .inr ⟨_, underlying46, (flc rfl sizeOf2 (flc rfl sizeOf3 (flc rfl sizeOf3 trivial)))⟩, .inr ⟨_, zeroValue46, rfl⟩, trivial⟩
 (tbc ⟨isAgg48, sizeOf48, .inr ⟨_, underlying48, (flc rfl sizeOf46 (flc rfl sizeOf3 (flc rfl sizeOf2 (flc rfl sizeOf3 (flc rfl sizeOf4 trivial)))))⟩, .inr ⟨_, zeroValue48, rfl⟩, trivial⟩
 (tbc ⟨isAgg51, sizeOf51, .inl rfl, .inl rfl, trivial⟩
 (tbc ⟨isAgg52, sizeOf52, .inl rfl, .inl rfl, trivial⟩
 (tbc ⟨isAgg53, sizeOf53, .inl rfl, .inl rfl, ⟨_, underlying53⟩⟩
 (tbc ⟨isAgg54, sizeOf54, .inl rfl, .inl rfl, trivial⟩
 (tbc ⟨isAgg55, sizeOf55, .inl rfl, .inl rfl, trivial⟩
 (tbc ⟨isAgg57, sizeOf57, .inr ⟨_, underlying57, (flc rfl sizeOf3 (flc rfl sizeOf3 (flc rfl sizeOf3 (flc rfl sizeOf2 (flc rfl sizeOf3 trivial)))))⟩, .inr ⟨_, zeroValue57, rfl⟩, trivial⟩
 (tbc ⟨isAgg59, sizeOf59, .inr ⟨_, underlying59, (flc rfl sizeOf3 (flc rfl sizeOf3 (flc rfl sizeOf3 (flc rfl sizeOf3 trivial))))⟩, .inl rfl, trivial⟩
 (tbc ⟨isAgg61, sizeOf61, .inr ⟨_, underlying61, (flc rfl sizeOf27 (flc rfl sizeOf3 (flc rfl sizeOf33 (flc rfl sizeOf37 (flc rfl sizeOf51 (flc rfl sizeOf52 (flc rfl sizeOf53 (flc rfl sizeOf39 (flc rfl sizeOf54 (flc rfl sizeOf55 (flc rfl sizeOf3 (flc rfl sizeOf57 (flc rfl sizeOf59 trivial)))))))))))))⟩, .inr ⟨_, zeroValue61, rfl⟩, trivial⟩
 (tbc ⟨isAgg70, sizeOf70, .inr ⟨_, underlying70, (flc rfl sizeOf68 (flc rfl sizeOf3 (flc rfl sizeOf3 trivial)))⟩, .inr ⟨_, zeroValue70, rfl⟩, trivial⟩
 (tbc ⟨isAgg77, sizeOf77, .inl rfl, .inl rfl, trivial⟩
 (tbc ⟨isAgg79, sizeOf79, .inr ⟨_, underlying79, (flc rfl sizeOf48 (flc rfl sizeOf70 (flc rfl sizeOf29 (flc rfl sizeOf39 trivial))))⟩, .inr ⟨_, zeroValue79, rfl⟩, trivial⟩
 (tbc ⟨isAgg89, sizeOf89, .inl rfl, .inl rfl, ⟨_, underlying89⟩⟩
 (tbc ⟨isAgg91, sizeOf91, .inr ⟨_, underlying91, (flc rfl sizeOf89 (flc rfl sizeOf3 (flc rfl sizeOf23 (flc rfl sizeOf25 trivial))))⟩, .inr ⟨_, zeroValue91, rfl⟩, trivial⟩
 (tbc ⟨isAgg100, sizeOf100, .inl rfl, .inl rfl, trivial⟩
 (tbc ⟨isAgg102, sizeOf102, .inr ⟨_, underlying102, (flc rfl sizeOf100 trivial)⟩, .inr ⟨_, zeroValue102, rfl⟩, trivial⟩
 (tbc ⟨isAgg103, sizeOf103, .inl rfl, .inr ⟨_, zeroValue103, rfl⟩, trivial⟩
 (tbc ⟨isAgg106, sizeOf106, .inr ⟨_, underlying106, (flc rfl sizeOf3 (flc rfl sizeOf29 trivial))⟩, .inr ⟨_, zeroValue106, rfl⟩, ⟨_, underlying106, rfl⟩⟩
 (tbc ⟨isAgg108, sizeOf108, .inl rfl, .inr ⟨_, zeroValue108, rfl⟩, trivial⟩
 (tbc ⟨isAgg110, sizeOf110, .inl rfl, .inl rfl, ⟨_, underlying110, rfl⟩⟩
 (tbc ⟨isAgg116, sizeOf116, .inr ⟨_, underlying116, (flc rfl sizeOf48 (flc rfl sizeOf48 trivial))⟩, .inr ⟨_, zeroValue116, rfl⟩, trivial⟩
 (tbc ⟨isAgg126, sizeOf126, .inr ⟨_, underlying126, (flc rfl sizeOf3 (flc rfl sizeOf3 trivial))⟩, .inr ⟨_, zeroValue126, rfl⟩, trivial⟩
 (tbc ⟨isAgg144, sizeOf144, .inr ⟨_, underlying144, (flc rfl sizeOf3 (flc rfl sizeOf3 (flc rfl sizeOf2 (flc rfl sizeOf4 trivial))))⟩, .inr ⟨_, zeroValue144, rfl⟩, trivial⟩
 (tbc ⟨isAgg148, sizeOf148, .inl rfl, .inl rfl, ⟨_, underlying148⟩⟩
 (tbc ⟨isAgg150, sizeOf150, .inr ⟨_, underlying150, (flc rfl sizeOf91 (flc rfl sizeOf4 (flc rfl sizeOf70 (flc rfl sizeOf3 (flc rfl sizeOf148 (flc rfl sizeOf4 trivial))))))⟩, .inr ⟨_, zeroValue150, rfl⟩, trivial⟩
 (tbc ⟨isAgg152, sizeOf152, .inl rfl, .inl rfl, trivial⟩
 (tbc ⟨isAgg155, sizeOf155, .inr ⟨_, underlying155, (flc rfl sizeOf152 trivial)⟩, .inr ⟨_, zeroValue155, rfl⟩, trivial⟩
 (tbc ⟨isAgg157, sizeOf157, .inr ⟨_, underlying157, (flc rfl sizeOf3 (flc rfl sizeOf2 (flc rfl sizeOf2 trivial)))⟩, .inr ⟨_, zeroValue157, rfl⟩, trivial⟩
 (tbc ⟨isAgg161, sizeOf161, .inl rfl, .inr ⟨_, zeroValue161, rfl⟩, trivial⟩
 (tbc ⟨isAgg174, sizeOf174, .inl rfl, .inl rfl, trivial⟩
 (tbc ⟨isAgg176, sizeOf176, .inr ⟨_, underlying176, (flc rfl sizeOf48 (flc rfl sizeOf29 (flc rfl sizeOf39 (flc rfl sizeOf174 trivial))))⟩, .inr ⟨_, zeroValue176, rfl⟩, trivial⟩
 (tbc ⟨isAgg179, sizeOf179, .inr ⟨_, underlying179, (flc rfl sizeOf29 trivial)⟩, .inr ⟨_, zeroValue179, rfl⟩, ⟨_, underlying179, rfl⟩⟩
 (tbc ⟨isAgg192, sizeOf192, .inl rfl, .inl rfl, ⟨_, underlying192⟩⟩
 (tbc ⟨isAgg203, sizeOf203, .inl rfl, .inl rfl, ⟨_, underlying203, rfl⟩⟩
 (tbc ⟨isAgg225, sizeOf225, .inl rfl, .inl rfl, ⟨_, underlying225⟩⟩
 (tbc ⟨isAgg231, sizeOf231, .inl rfl, .inl rfl, ⟨_, underlying231⟩⟩
 (tbc ⟨isAgg237, sizeOf237, .inl rfl, .inl rfl, ⟨_, underlying237, rfl⟩⟩
 (tbc ⟨isAgg238, sizeOf238, .inl rfl, .inl rfl, ⟨_, underlying238, rfl⟩⟩
 (tbc ⟨isAgg243, sizeOf243, .inr ⟨_, underlying243, (flc rfl sizeOf39 (flc rfl sizeOf77 trivial))⟩, .inr ⟨_, zeroValue243, rfl⟩, trivial⟩
 (tbc ⟨isAgg245, sizeOf245, .inr ⟨_, underlying245, (flc rfl sizeOf243 trivial)⟩, .inr ⟨_, zeroValue245, rfl⟩, trivial⟩
 (tbc ⟨isAgg254, sizeOf254, .inl rfl, .inl rfl, ⟨_, underlying254, rfl⟩⟩
 (tbc ⟨isAgg256, sizeOf256, .inr ⟨_, underlying256, (flc rfl sizeOf225 trivial)⟩, .inr ⟨_, zeroValue256, rfl⟩, trivial⟩
 (tbc ⟨isAgg260, sizeOf260, .inr ⟨_, underlying260, (flc rfl sizeOf91 (flc rfl sizeOf48 (flc rfl sizeOf258 (flc rfl sizeOf3 (flc rfl sizeOf231 (flc rfl sizeOf3 trivial))))))⟩, .inr ⟨_, zeroValue260, rfl⟩, trivial⟩
 (tbc ⟨isAgg262, sizeOf262, .inr ⟨_, underlying262, (flc rfl sizeOf3 (flc rfl sizeOf29 trivial))⟩, .inr ⟨_, zeroValue262, rfl⟩, ⟨_, underlying262, rfl⟩⟩
 (tbc ⟨isAgg263, sizeOf263, .inl rfl, .inl rfl, ⟨_, underlying263, rfl⟩⟩
 (tbc ⟨isAgg265, sizeOf265, .inr ⟨_, underlying265, (flc rfl sizeOf3 (flc rfl sizeOf2 (flc rfl sizeOf2 trivial)))⟩, .inr ⟨_, zeroValue265, rfl⟩, trivial⟩
 (tbc ⟨isAgg269, sizeOf269, .inr ⟨_, underlying269, (flc rfl sizeOf3 (flc rfl sizeOf3 (flc rfl sizeOf3 (flc rfl sizeOf3 trivial))))⟩, .inr ⟨_, zeroValue269, rfl⟩, trivial⟩
 (tbc ⟨isAgg271, sizeOf271, .inl rfl, .inl rfl, ⟨_, underlying271, rfl⟩⟩
 (tbc ⟨isAgg273, sizeOf273, .inr ⟨_, underlying273, (flc rfl sizeOf3 (flc rfl sizeOf108 trivial))⟩, .inr ⟨_, zeroValue273, rfl⟩, trivial⟩
 (tbc ⟨isAgg278, sizeOf278, .inl rfl, .inl rfl, underlying278⟩
 (tbc ⟨isAgg279, sizeOf279, .inl rfl, .inr ⟨_, zeroValue279, rfl⟩, trivial⟩
 (tbc ⟨isAgg295, sizeOf295, .inr ⟨_, underlying295, (flc rfl sizeOf25 trivial)⟩, .inr ⟨_, zeroValue295, rfl⟩, trivial⟩
 (tbc ⟨isAgg297, sizeOf297, .inr ⟨_, underlying297, (flc rfl sizeOf295 trivial)⟩, .inr ⟨_, zeroValue297, rfl⟩, trivial⟩
 (tbc ⟨isAgg319, sizeOf319, .inl rfl, .inl rfl, trivial⟩
 (trivial))))))))))))))))))))))))))))))))))))))))))))))))))))))))))))))))))))
theorem rr {B : Base} {w : World} {l r : List HProp} {hf : Hp} {N : Fr} {env : Env} {ops : Array Oper} {Q : Exit → Act → World → Prop} {rest : List Oper} {L : List Pc} (ps : List Nat) (hS : St B w l hf) [Rf l L r] (h : runL tb N.n ops (fun env L os => denK L r fun l => ∀ w, St B w l hf → RL prog N ops Q os env w) ps env L rest [] []) : RL prog N ops Q rest env w := runL_top tbOK ps hS h
theorem rq {B : Base} {w : World} {l r : List HProp} {hf : Hp} {N : Fr} {env : Env} {ops : Array Oper} {Q : Exit → Act → World → Prop} {L : List Pc} {t0 : List Nat} {ts : List (List Nat)} {Ss : List (World → Prop)} {pl : Pl} (ps : List Nat) (hS : St B w l hf) [Rf l L r] (h : runP tb N.n ops t0 (fun env pl => RP prog N ops Q (sL ((fun w => St B w l hf) :: Ss)) (tL (t0 :: ts)) pl env w) L ps env pl [] []) : RP prog N ops Q (sL ((fun w => St B w l hf) :: Ss)) (tL (t0 :: ts)) pl env w := runP_top tbOK ps hS h
theorem rz {B : Base} {w : World} {l r : List HProp} {hf : Hp} {env : Env} {L : List Pc} {fn : Func} {n : Nat} {rs : List ResultVar} {K : Value → World → Prop} (js : List Nat) (hr : fn.results = rs.toArray) (hS : St B w l hf) [Rf l L r] (h : rsK tb env L rs js [] [] fun vs => K (tup vs) w) : RQ ⟨n, [], true⟩ (bodyPost prog fn (Ret K) .ret) env w := rzT tbOK js hr hS h
theorem dk {B : Base} {w : World} {l lk : List HProp} {hf : Hp} {N : Fr} {env : Env} {Q : Exit → Act → World → Prop} {id : Nat} {os : List Oper} (ps t1 : List Nat) (hS : St B w l hf) (hK : ∀ w, St B w l hf → St B w lk hf) [hQ : NoT Q] (h : ∀ w, St B w l hf → RP prog N os.toArray Q (sL [fun w => St B w lk hf]) (tL [t1]) (plD ps) env w) (hB : (Nat.beq (plD ps).len os.length && (Region.noSelect os.toArray && tailB os.toArray (tL [t1]) && planOK os.toArray (tL [t1]) (plD ps) (Array.replicate os.length false))) = true := by kernel_rfl) : RC prog N Q (.region id os.toArray true) env w := pS t1 hS hK follows hB h
theorem dr {B : Base} {w : World} {l : List HProp} {hf : Hp} {N : Fr} {env : Env} {Q : Exit → Act → World → Prop} {id : Nat} {os : List Oper} (ps t1 : List Nat) (hS : St B w l hf) [hQ : NoT Q] (h : ∀ w, St B w l hf → RP prog N os.toArray Q (sL [fun w => St B w l hf]) (tL [t1]) (plD ps) env w) (hB : (Nat.beq (plD ps).len os.length && (Region.noSelect os.toArray && tailB os.toArray (tL [t1]) && planOK os.toArray (tL [t1]) (plD ps) (Array.replicate os.length false))) = true := by kernel_rfl) : RC prog N Q (.region id os.toArray true) env w := pS t1 hS (fun _ h => h) follows hB h
theorem r0 {w : World} {N : Fr} {env env' : Env} {ops : Array Oper} {Q : Exit → Act → World → Prop} {rest os' : List Oper} (k : Nat) (h : rn0 tb N.n ops k env rest = some (env', os')) (hr : RL prog N ops Q os' env' w) : RL prog N ops Q rest env w := rn0_ok tbOK k h hr
@[reducible] def C_api_Model (x : api_Model) (A0 : Option Addr) (c0 : Nat) (A1 : Option Addr) (c1 : Nat) (A2 : Option Addr) (c2 : Nat) : List Value := [.slice A0 x.Progs.length c0, .slice A1 x.Links.length c1, .slice A2 x.Starts.length c2, .int .u64 x.Seed, .int .i64 x.End, .int .i64 x.Budget]
@[reducible] def C_api_Instr (x : api_Instr) : List Value := [.int .i64 x.Op, .int .i64 x.A, .int .i64 x.B, .int .i64 x.C]
@[reducible] def C_api_Link (x : api_Link) : List Value := [.int .i64 x.From, .int .i64 x.To, .int .i64 x.Look, .bool x.Loose]
@[reducible] def C_api_World (x : api_World) (A0 : Option Addr) (c0 : Nat) (A1 : Option Addr) (c1 : Nat) : List Value := [.slice A0 x.Prog.length c0, .int .i64 x.Self, .slice A1 x.Links.length c1, .int .u64 x.Seed]
@[reducible] def C_api_Key (x : api_Key) : List Value := [.int .i64 x.Time, .int .i64 x.From, .int .i64 x.Seq]
@[reducible] def C_api_Caps (x : api_Caps) : List Value := [.int .i64 x.Link, .int .i64 x.Wait, .int .i64 x.Log]
@[reducible] def C_api_Message (x : api_Message) : List Value := [.int .i64 x.Key.Time, .int .i64 x.Key.From, .int .i64 x.Key.Seq, .int .i64 x.To, .int .i64 x.Value, .int .i64 x.Uid, .bool x.Anti]
@[reducible] def C_lane_open (x : lane_open) : List Value := [.int .i64 x.by_.Key.Time, .int .i64 x.by_.Key.From, .int .i64 x.by_.Key.Seq, .int .i64 x.by_.To, .int .i64 x.by_.Value, .int .i64 x.by_.Uid, .bool x.by_.Anti, .int .i64 x.m.Key.Time, .int .i64 x.m.Key.From, .int .i64 x.m.Key.Seq, .int .i64 x.m.To, .int .i64 x.m.Value, .int .i64 x.m.Uid, .bool x.m.Anti]
@[reducible] def C_log_Log (x : log_Log) (A0 : Option Addr) (c0 : Nat) (A1 : Option Addr) (c1 : Nat) (A2 : Option Addr) (c2 : Nat) : List Value := [.slice A0 x.w.Prog.length c0, .int .i64 x.w.Self, .slice A1 x.w.Links.length c1, .int .u64 x.w.Seed, .bool x.made, .int .i64 x.state.Regs.c0, .int .i64 x.state.Regs.c1, .int .i64 x.state.Regs.c2, .int .i64 x.state.Regs.c3, .int .i64 x.state.Regs.c4, .int .i64 x.state.Regs.c5, .int .i64 x.state.Regs.c6, .int .i64 x.state.Regs.c7, .int .i64 x.state.Draws, .int .i64 x.state.Sent, .int .i64 x.every, .slice A2 x.l.length c2, .bool x.stuck]
@[reducible] def C_api_State (x : api_State) : List Value := [.int .i64 x.Regs.c0, .int .i64 x.Regs.c1, .int .i64 x.Regs.c2, .int .i64 x.Regs.c3, .int .i64 x.Regs.c4, .int .i64 x.Regs.c5, .int .i64 x.Regs.c6, .int .i64 x.Regs.c7, .int .i64 x.Draws, .int .i64 x.Sent]
@[reducible] def C_log_done (x : log_done) (A0 : Option Addr) (c0 : Nat) (b1 : Nat) : List Value := [.int .i64 x.event.Key.Time, .int .i64 x.event.Key.From, .int .i64 x.event.Key.Seq, .int .i64 x.event.To, .int .i64 x.event.Value, .int .i64 x.event.Uid, .bool x.event.Anti, .int .i64 x.fault, .slice A0 x.sent.length c0, .pointer (pz b1 x.ahead.has)]
@[reducible] def C_Arr8xInti64 (x : Arr8xInti64) : List Value := [.int .i64 x.c0, .int .i64 x.c1, .int .i64 x.c2, .int .i64 x.c3, .int .i64 x.c4, .int .i64 x.c5, .int .i64 x.c6, .int .i64 x.c7]
@[reducible] def C_api_Entry (x : api_Entry) (A0 : Option Addr) (c0 : Nat) : List Value := [.int .i64 x.Event.Key.Time, .int .i64 x.Event.Key.From, .int .i64 x.Event.Key.Seq, .int .i64 x.Event.To, .int .i64 x.Event.Value, .int .i64 x.Event.Uid, .bool x.Event.Anti, .int .i64 x.Before.Regs.c0, .int .i64 x.Before.Regs.c1, .int .i64 x.Before.Regs.c2, .int .i64 x.Before.Regs.c3, .int .i64 x.Before.Regs.c4, .int .i64 x.Before.Regs.c5, .int .i64 x.Before.Regs.c6, .int .i64 x.Before.Regs.c7, .int .i64 x.Before.Draws, .int .i64 x.Before.Sent, .int .i64 x.Fault, .slice A0 x.Sent.length c0]
@[reducible] def C_lane_Lane (x : lane_Lane) (A0 : Option Addr) (c0 : Nat) (A1 : Option Addr) (c1 : Nat) (A2 : Option Addr) (c2 : Nat) (A3 : Option Addr) (c3 : Nat) (b4 : Nat) (b5 : Nat) (A6 : Option Addr) (c6 : Nat) (A7 : Option Addr) (c7 : Nat) (b8 : Nat) (b9 : Nat) : List Value := [.slice A0 x.m.Progs.length c0, .slice A1 x.m.Links.length c1, .slice A2 x.m.Starts.length c2, .int .u64 x.m.Seed, .int .i64 x.m.End, .int .i64 x.m.Budget, .int .i64 x.n, .int .i64 x.caps.Link, .int .i64 x.caps.Wait, .int .i64 x.caps.Log, .slice A3 x.ways.length c3, .pointer (some ⟨b4, 0, none⟩), .pointer (some ⟨b5, 0, none⟩), .slice A6 x.open_.length c6, .slice A7 x.orphans.length c7, .map (some b8), .map (some b9), .int .i64 x.uid, .int .i64 x.setting.Mode, .int .i64 x.setting.Every, .int .i64 x.setting.Cancel, .int .i64 x.setting.Reach, .int .i64 x.setting.Queue, .int .i64 x.stats.Done, .int .i64 x.stats.Undone, .int .i64 x.stats.Hits, .int .i64 x.stats.Held]
end Go.Proofs.Gx
