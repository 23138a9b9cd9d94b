/-
  The walks of functions, each with what it computes: printed by wip/gx.py.
-/
import Derived.Test.YtioiognklelipaaDoorW0
import Derived.Test.YtioiognklelipaaDoorW1
import Derived.Test.YtioiognklelipaaDoorW5
import Derived.Test.YtioiognklelipaaDoorW6
set_option linter.unusedVariables false
set_option maxRecDepth 100000
set_option maxHeartbeats 4000000
namespace Go.Proofs.Gx
open Go.Sl Tryd
variable {B : Base} {w : World} {l : List HProp} {hf : Hp}
/-! ### isochron/isochronlaw10.events: function 11 -/
noncomputable def isochronlaw10vevents.l2b (a1 : List Int) : List api_Message × Int × Int → Option ((List api_Message × Int × Int) ⊕ (List api_Message))
  | (l82, x85, x86) => (if x86 < (a1.length : Int) then (if x86 < 60 then (if 0 ≤ x86 then (if (l82.length + 1) * 56 ≤ 140737488355328 then some (.inl ((l82 ++ ([(⟨(⟨IntKind.i64.wrap (x85 + (IntKind.i64.wrap (nth a1 x86))), (-1), x86⟩ : api_Key), 0, x86, x86, false⟩ : api_Message)])), IntKind.i64.wrap (x85 + (IntKind.i64.wrap (nth a1 x86))), IntKind.i64.wrap (x86 + 1))) else none) else none) else some (.inr l82)) else some (.inr l82))
noncomputable def isochronlaw10vevents.l2 (a1 : List Int) (s : List api_Message × Int × Int) : Option (List api_Message) := loopR (isochronlaw10vevents.l2b a1) s
noncomputable def isochronlaw10vevents.f (a1 : List Int) : Option (List api_Message) := isochronlaw10vevents.l2 a1 ([], 0, 0)
theorem isochronlaw10vevents.ok {a1 : List Int} {A2 : Option Addr} {c3 : Nat} (hr4 : SlR ((FI .u8).rep) hf A2 c3 a1) {r : List api_Message} (h : isochronlaw10vevents.f a1 = some r) (hS : St B w (l) hf) :
    Calls prog 11 #[.slice A2 a1.length c3] w (Ret fun v w => ∃ (A_1 : Option Addr) (c_2 : Nat), v = .slice A_1 r.length c_2 ∧ St B w (OSf E_api_Message 30 (.slice A_1 r.length c_2) r :: l) hf) := by
  have h := Holds.of h
  refine en func11 rfl ntmps11 rfl (sr (pn 1 rfl (lnsr (pn 1 rfl (lnsr (pn 1 rfl (ln ?_)))))))
  refine RC.seq (sr (pn 1 rfl (ln (RC.block ?_))))
  have hS := hS.nilSl E_api_Message 30
  refine fun a ha => RC.loop (N := 33) (body := (isochronlaw10vevents.l2b a1)) (φ := (· = r)) (fun (s : List api_Message × Int × Int) a w => ∃ (l82 : List api_Message) (x85 : Int) (x86 : Int), s = (l82, x85, x86) ∧ ∃ (A83 : Option Addr) (c84 : Nat), Has 33 [(0, .slice A2 a1.length c3), (3, .slice A83 l82.length c84), (4, .int .i64 x85), (5, .int .i64 x86)] a ∧ St B w (OSf E_api_Message 30 (.slice A83 l82.length c84) l82 :: l) hf) ?_ (s0 := ([], 0, 0)) h ⟨([]), 0, 0, rfl, none, 0, ha.to ⟨rfl, rfl, rfl, rfl, trivial⟩, hS⟩
  rintro G108 _ a w ⟨l82, x85, x86, rfl, A83, c84, ha, hS⟩ h
  revert a
  show RC _ _ _ _ _ _
  refine RC.seq (sr (pn 2 rfl (RL.s (Vl.lenSl underlying31 rfl) rfl (pn 2 rfl ?_))))
  refine RL.iteP 10 rfl h (fun hc111 h => ?_) fun hc111 h => ?_
  next =>
   refine pn 3 rfl (ln ?_)
   refine RC.iteP 13 rfl h (fun hc112 h => ?_) fun hc112 h => ?_
   next =>
    refine RC.condT rfl (sk (RC.seq (RC.block (sr (pn 3 rfl ?_)))))
    obtain ⟨hq119, h⟩ := h.req
    refine RL.s (Vl.indexAddr underlying31 sizeOf5 rfl rfl ((hr4.2.world hS.sub).adr hq119 hc111) hq119 hc111 rfl) rfl (RL.s (Vl.load isAgg5 rfl ((hr4.2.world hS.sub).cell (j := 0) hq119 hc111 rfl)) rfl (RL.s (Vl.conv underlying5 underlying2 rfl) rfl (pn 2 rfl (ln (RC.region (pn 3 rfl (RL.s (Vl.build (v := .agg #[.int .i64 (IntKind.i64.wrap (x85 + (IntKind.i64.wrap (nth a1 x86)))), .int .i64 (-1), .int .i64 x86]) (parts := [(0, .tmp 24), (1, .const (.int .i64 (-1))), (2, .tmp 25)]) rfl (by kernel_rfl)) rfl (pn 2 rfl (RL.s (Vl.build (v := .agg #[.int .i64 (IntKind.i64.wrap (x85 + (IntKind.i64.wrap (nth a1 x86)))), .int .i64 (-1), .int .i64 x86, .int .i64 0, .int .i64 x86, .int .i64 x86, .bool false]) (parts := [(0, .tmp 26), (2, .tmp 27), (3, .tmp 28)]) rfl (by kernel_rfl)) rfl (RL.e (OW.buildSlice (E := E_api_Message) (xs := [(⟨(⟨IntKind.i64.wrap (x85 + (IntKind.i64.wrap (nth a1 x86))), (-1), x86⟩ : api_Key), 0, x86, x86, false⟩ : api_Message)]) (cs := [.int .i64 (IntKind.i64.wrap (x85 + (IntKind.i64.wrap (nth a1 x86)))), .int .i64 (-1), .int .i64 x86, .int .i64 0, .int .i64 x86, .int .i64 x86, .bool false]) hS underlying41 zeroValue30 sizeOf30 (parts := [(0, .tmp 29)]) rfl rfl (by decide) (by decide) (by kernel_rfl) rfl) rfl rfl ?_))))))))))
    rintro _ w ⟨b120, rfl, hS⟩
    obtain ⟨hq121, h⟩ := h.req
    refine RL.e (OW.append (E := E_api_Message) (xs := l82) (ys := [(⟨(⟨IntKind.i64.wrap (x85 + (IntKind.i64.wrap (nth a1 x86))), (-1), x86⟩ : api_Key), 0, x86, x86, false⟩ : api_Message)]) 1 hS rfl underlying41 type30 rfl rfl rfl rfl (by decide) rfl rfl rfl (hS.slW 0 rfl).2.2.flat (by simp only [maxLen, List.length_cons, List.length_nil] at *; omega) hq121 rfl) rfl rfl ?_
    rintro v124 w hS
    obtain ⟨A122, c123, rfl, _⟩ := hS.osShape 0 rfl
    have hS : St B w (_ :: _ :: l) hf := hS
    refine pn 1 rfl (RL.nil (RQ.inB_n (RQ.then_n (RC.region (pn 3 rfl (RL.nil ?_))))))
    exact fun a ha => ⟨((l82 ++ ([(⟨(⟨IntKind.i64.wrap (x85 + (IntKind.i64.wrap (nth a1 x86))), (-1), x86⟩ : api_Key), 0, x86, x86, false⟩ : api_Message)])), IntKind.i64.wrap (x85 + (IntKind.i64.wrap (nth a1 x86))), IntKind.i64.wrap (x86 + 1)), ⟨(l82 ++ ([(⟨(⟨IntKind.i64.wrap (x85 + (IntKind.i64.wrap (nth a1 x86))), (-1), x86⟩ : api_Key), 0, x86, x86, false⟩ : api_Message)])), (IntKind.i64.wrap (x85 + (IntKind.i64.wrap (nth a1 x86)))), (IntKind.i64.wrap (x86 + 1)), rfl, A122, c123, ha.to ⟨rfl, rfl, rfl, rfl, trivial⟩, hS.d1⟩, h.some⟩
   next =>
    refine RC.condF rfl (RC.exit (RQ.exitT ?_))
    have h := h.inrS
    refine RQ.exitT (RQ.inB_hit (tsr (pn 2 rfl (lr ?_))))
    obtain rfl := h.some
    exact rt results11 rfl ⟨A83, c84, rfl, hS⟩
  next =>
   refine pn 3 rfl (ln (RC.condF rfl (RC.exit (RQ.exitT ?_))))
   have h := h.inrS
   refine RQ.exitT (RQ.inB_hit (tsr (pn 2 rfl (lr ?_))))
   obtain rfl := h.some
   exact rt results11 rfl ⟨A83, c84, rfl, hS⟩

/-! ### (*isochron/log.Log).states: function 26 -/
noncomputable def log_Log_states.f (a2 : log_Log) (a13 : Int) : Option (Int) := some a13
theorem log_Log_states.ok {a2 : log_Log} {a13 : Int} {b1 : Nat} {A3 : Option Addr} {c4 : Nat} {A6 : Option Addr} {c7 : Nat} {A9 : Option Addr} {c10 : Nat} {cs11 : List Value} (hr5 : SlR E_api_Instr.rep hf A3 c4 a2.w.Prog) (hr8 : SlR E_api_Link.rep hf A6 c7 a2.w.Links) (hx12 : RepL R_log_done hf cs11 a2.l) {r : Int} (h : log_Log_states.f a2 a13 = some r) (hS : St B w (Cl b1 [.slice A3 a2.w.Prog.length c4, .int .i64 a2.w.Self, .slice A6 a2.w.Links.length c7, .int .u64 a2.w.Seed, .bool a2.made, .int .i64 a2.state.Regs.c0, .int .i64 a2.state.Regs.c1, .int .i64 a2.state.Regs.c2, .int .i64 a2.state.Regs.c3, .int .i64 a2.state.Regs.c4, .int .i64 a2.state.Regs.c5, .int .i64 a2.state.Regs.c6, .int .i64 a2.state.Regs.c7, .int .i64 a2.state.Draws, .int .i64 a2.state.Sent, .int .i64 a2.every, .slice A9 a2.l.length c10, .bool a2.stuck] 58 :: OSl 67 10 (.slice A9 a2.l.length c10) a2.l.length cs11 :: l) hf) :
    Calls prog 26 #[.pointer (some ⟨b1, 0, none⟩), .int .i64 a13] w (Ret fun v w => ∃ (b_1 : Nat) (b_2 : Nat), v = .func (.func 35) #[] #[.pointer (some ⟨b_1, 0, none⟩), .pointer (some ⟨b_2, 0, none⟩)] ∧ St B w (Cl b_1 [.int .i64 r] 3 :: Cl b_2 [.pointer (some ⟨b1, 0, none⟩)] 32 :: Cl b1 [.slice A3 a2.w.Prog.length c4, .int .i64 a2.w.Self, .slice A6 a2.w.Links.length c7, .int .u64 a2.w.Seed, .bool a2.made, .int .i64 a2.state.Regs.c0, .int .i64 a2.state.Regs.c1, .int .i64 a2.state.Regs.c2, .int .i64 a2.state.Regs.c3, .int .i64 a2.state.Regs.c4, .int .i64 a2.state.Regs.c5, .int .i64 a2.state.Regs.c6, .int .i64 a2.state.Regs.c7, .int .i64 a2.state.Draws, .int .i64 a2.state.Sent, .int .i64 a2.every, .slice A9 a2.l.length c10, .bool a2.stuck] 58 :: OSl 67 10 (.slice A9 a2.l.length c10) a2.l.length cs11 :: l) hf) := by
  have h := Holds.of h
  refine en func26 rfl ntmps26 rfl (sr (bx hS rfl rfl rfl rfl fun b16 w hS => bx hS rfl rfl rfl rfl fun b17 w hS => pn 1 rfl (lnsr (RL.s (Vl.makeFunc (fi := []) (ca := [.tmp 3, .tmp 2]) rfl rfl) rfl (pn 1 rfl (lr ?_))))))
  obtain rfl := h.some
  exact rt results26 rfl ⟨b17, b16, rfl, hS⟩

/-! ### (*isochron/log.Log).All_round0: function 1000120 -/
noncomputable def log_Log_All_round0.f (a6 : log_Log) (a18 : (List api_Entry)) (a23 : Int) (a24 : api_State) : Option (List api_Entry) := (if 0 ≤ a23 ∧ a23 < (a6.l.length : Int) then ((log_done_entry.f (⟨(⟨((nth a6.l a23).event).Key, ((nth a6.l a23).event).To, ((nth a6.l a23).event).Value, ((nth a6.l a23).event).Uid, (((nth a6.l a23).event).Anti)⟩ : api_Message), (nth a6.l a23).fault, (nth a6.l a23).sent, (nth a6.l a23).ahead⟩ : log_done) a24).bind fun t58 => (if (a18.length + ([t58]).length) * 168 ≤ 140737488355328 then some (a18 ++ ([t58])) else none)) else none)
theorem log_Log_All_round0.ok {a6 : log_Log} {a18 : (List api_Entry)} {a23 : Int} {a24 : api_State} {b1 : Nat} {rc2 : Loop} {b4 b5 : Nat} {A7 : Option Addr} {c8 : Nat} {A10 : Option Addr} {c11 : Nat} {A13 : Option Addr} {c14 : Nat} {cs15 : List Value} {b17 : Nat} {A19 : Option Addr} {c20 : Nat} {cs21 : List Value} (hr9 : SlR E_api_Instr.rep hf A7 c8 a6.w.Prog) (hr12 : SlR E_api_Link.rep hf A10 c11 a6.w.Links) (hx16 : RepL R_log_done hf cs15 a6.l) (hx22 : RepL R_api_Entry hf cs21 a18) (hr3 : RecF f12 0 25 [(1, .pointer (some ⟨b4, 0, none⟩)), (3, .pointer (some ⟨b17, 0, none⟩))] rc2) {r : List api_Entry} (h : log_Log_All_round0.f a6 a18 a23 a24 = some r) (hS : St B w (pts b1 (.loop rc2) :: Cl b5 [.slice A7 a6.w.Prog.length c8, .int .i64 a6.w.Self, .slice A10 a6.w.Links.length c11, .int .u64 a6.w.Seed, .bool a6.made, .int .i64 a6.state.Regs.c0, .int .i64 a6.state.Regs.c1, .int .i64 a6.state.Regs.c2, .int .i64 a6.state.Regs.c3, .int .i64 a6.state.Regs.c4, .int .i64 a6.state.Regs.c5, .int .i64 a6.state.Regs.c6, .int .i64 a6.state.Regs.c7, .int .i64 a6.state.Draws, .int .i64 a6.state.Sent, .int .i64 a6.every, .slice A13 a6.l.length c14, .bool a6.stuck] 58 :: OSl 67 10 (.slice A13 a6.l.length c14) a6.l.length cs15 :: Cl b4 [.pointer (some ⟨b5, 0, none⟩)] 32 :: Cl b17 [.slice A19 a18.length c20] 49 :: OSl 43 19 (.slice A19 a18.length c20) a18.length cs21 :: l) hf) :
    Yld prog b1 [.int .i64 a23, .agg #[.int .i64 a24.Regs.c0, .int .i64 a24.Regs.c1, .int .i64 a24.Regs.c2, .int .i64 a24.Regs.c3, .int .i64 a24.Regs.c4, .int .i64 a24.Regs.c5, .int .i64 a24.Regs.c6, .int .i64 a24.Regs.c7, .int .i64 a24.Draws, .int .i64 a24.Sent]] w (Ret fun v w => ∃ hf_ : Hp, Sub hf hf_ ∧ ∃ (A_1 : Option Addr) (c_2 : Nat) (cs_3 : List Value), v = .bool true ∧ St B w (OSl 43 19 (.slice A_1 r.length c_2) r.length cs_3 :: pts b1 (.loop rc2) :: Cl b5 [.slice A7 a6.w.Prog.length c8, .int .i64 a6.w.Self, .slice A10 a6.w.Links.length c11, .int .u64 a6.w.Seed, .bool a6.made, .int .i64 a6.state.Regs.c0, .int .i64 a6.state.Regs.c1, .int .i64 a6.state.Regs.c2, .int .i64 a6.state.Regs.c3, .int .i64 a6.state.Regs.c4, .int .i64 a6.state.Regs.c5, .int .i64 a6.state.Regs.c6, .int .i64 a6.state.Regs.c7, .int .i64 a6.state.Draws, .int .i64 a6.state.Sent, .int .i64 a6.every, .slice A13 a6.l.length c14, .bool a6.stuck] 58 :: OSl 67 10 (.slice A13 a6.l.length c14) a6.l.length cs15 :: Cl b4 [.pointer (some ⟨b5, 0, none⟩)] 32 :: Cl b17 [.slice A_1 r.length c_2] 49 :: l) hf_ ∧ RepL R_api_Entry hf_ cs_3 r) := by
  have h := Holds.of h
  refine Yld.of (psl := [10, 11]) hS hr3 rfl rfl rfl ?_
  show RC _ ⟨25, [], false⟩ _ _ [(11, .agg #[.int .i64 a24.Regs.c0, .int .i64 a24.Regs.c1, .int .i64 a24.Regs.c2, .int .i64 a24.Regs.c3, .int .i64 a24.Regs.c4, .int .i64 a24.Regs.c5, .int .i64 a24.Regs.c6, .int .i64 a24.Regs.c7, .int .i64 a24.Draws, .int .i64 a24.Sent]), (10, .int .i64 a23), (1, .pointer (some ⟨b4, 0, none⟩)), (3, .pointer (some ⟨b17, 0, none⟩))] w
  refine sr (pn 1 rfl (ln (RC.region (al hS zeroValue38 rfl rfl rfl fun b49 w hS => RL.e0 (OW.store (vs := [.int .i64 a24.Regs.c0, .int .i64 a24.Regs.c1, .int .i64 a24.Regs.c2, .int .i64 a24.Regs.c3, .int .i64 a24.Regs.c4, .int .i64 a24.Regs.c5, .int .i64 a24.Regs.c6, .int .i64 a24.Regs.c7, .int .i64 a24.Draws, .int .i64 a24.Sent]) 0 hS rfl rfl rfl rfl sizeOf38 rfl rfl rfl rfl) rfl ?_))))
  rintro _ w ⟨rfl, hS⟩
  have hS : St B w (Cl _ [_, _, _, _, _, _, _, _, _, _] _ :: _ :: _ :: _ :: _ :: _ :: _ :: l) hf := hS
  refine ln (RQ.bg hS.p1 hr3.state rfl fun w hS => RC.block (RC.planS (plD [1, 4, 6, 9, 13, 15, 19, 22, 26, 29, 32, 35, 38]) [11, 12] hS (fun w hS => hS) follows rfl (by kernel_rfl) (NoTmp.block NoTmp.round) fun w hS => RP.s 0 0 rfl rfl hS (fun w hS => Vl.ld 5 hS isAgg49 rfl rfl rfl) rfl (RP.s 0 1 rfl rfl hS (fun w hS => Vl.ld 4 hS isAgg32 rfl rfl rfl) rfl (pp 1 rfl (RP.s0 3 rfl (fun w => Vl.fa 16 underlying58 rfl sizeOf56 rfl rfl) rfl (RP.s 0 4 rfl rfl hS (fun w hS => Vl.ld 2 hS isAgg56 rfl rfl rfl) rfl (pp 1 rfl ?_)))))))
  obtain ⟨⟨hq50, hq51⟩, h⟩ := h.req
  refine RP.s 0 6 rfl rfl hS (fun w hS => Vl.indexOwn 3 hS rfl underlying56 sizeOf67 rfl rfl hq50 hq51) rfl ?_
  obtain ⟨_, ⟨A53, c54, b56, rfl, hr55, hr57⟩, hl52⟩ := RepL.elem R_log_done_ok hx16 hq50 hq51
  refine RP.s 0 7 rfl rfl hS (fun w hS => Vl.loadA (vs := [.int .i64 ((((nth a6.l a23).event).Key).Time), .int .i64 ((((nth a6.l a23).event).Key).From), .int .i64 ((((nth a6.l a23).event).Key).Seq), .int .i64 (((nth a6.l a23).event).To), .int .i64 (((nth a6.l a23).event).Value), .int .i64 (((nth a6.l a23).event).Uid), .bool (((nth a6.l a23).event).Anti), .int .i64 ((nth a6.l a23).fault), .slice A53 ((nth a6.l a23).sent).length c54, .pointer (pz b56 ((nth a6.l a23).ahead).has)]) isAgg67 sizeOf67 rfl rfl (hS.elemCells 3 rfl hl52 (off := 0) rfl)) rfl (RP.v1 8 rfl (Vl.lw 1 hS isAgg38 sizeOf38 rfl rfl rfl) rfl rfl ?_)
  obtain ⟨t58, hg59, h⟩ := h.bind
  have hc := log_done_entry.ok (a1 := (⟨(⟨((nth a6.l a23).event).Key, ((nth a6.l a23).event).To, ((nth a6.l a23).event).Value, ((nth a6.l a23).event).Uid, (((nth a6.l a23).event).Anti)⟩ : api_Message), (nth a6.l a23).fault, (nth a6.l a23).sent, (nth a6.l a23).ahead⟩ : log_done)) hr55 hr57 hg59 hS
  refine RP.e 9 rfl (OW.callF (ls := [.tmp 19, .tmp 20]) rfl call23 hc) rfl rfl ?_
  rintro _ w ⟨A60, c61, rfl, hS⟩
  refine ⟨kp ⟨fun _ => hS.d0, trivial⟩, ?_⟩
  obtain ⟨hf, hs62, hS, hr63⟩ := St.promote hS
  have hx65 : RepL R_api_Entry hf [.int .i64 t58.Event.Key.Time, .int .i64 t58.Event.Key.From, .int .i64 t58.Event.Key.Seq, .int .i64 t58.Event.To, .int .i64 t58.Event.Value, .int .i64 t58.Event.Uid, .bool t58.Event.Anti, .int .i64 t58.Before.Regs.c0, .int .i64 t58.Before.Regs.c1, .int .i64 t58.Before.Regs.c2, .int .i64 t58.Before.Regs.c3, .int .i64 t58.Before.Regs.c4, .int .i64 t58.Before.Regs.c5, .int .i64 t58.Before.Regs.c6, .int .i64 t58.Before.Regs.c7, .int .i64 t58.Before.Draws, .int .i64 t58.Before.Sent, .int .i64 t58.Fault, .slice A60 t58.Sent.length c61] [t58] := (RepL.cons (c := [.int .i64 t58.Event.Key.Time, .int .i64 t58.Event.Key.From, .int .i64 t58.Event.Key.Seq, .int .i64 t58.Event.To, .int .i64 t58.Event.Value, .int .i64 t58.Event.Uid, .bool t58.Event.Anti, .int .i64 t58.Before.Regs.c0, .int .i64 t58.Before.Regs.c1, .int .i64 t58.Before.Regs.c2, .int .i64 t58.Before.Regs.c3, .int .i64 t58.Before.Regs.c4, .int .i64 t58.Before.Regs.c5, .int .i64 t58.Before.Regs.c6, .int .i64 t58.Before.Regs.c7, .int .i64 t58.Before.Draws, .int .i64 t58.Before.Sent, .int .i64 t58.Fault, .slice A60 t58.Sent.length c61]) (r := []) ⟨_, _, rfl, hr63⟩ RepL.nil)
  refine RP.e 10 rfl (OW.buildSliceR (sz := 19) (cs := [.int .i64 t58.Event.Key.Time, .int .i64 t58.Event.Key.From, .int .i64 t58.Event.Key.Seq, .int .i64 t58.Event.To, .int .i64 t58.Event.Value, .int .i64 t58.Event.Uid, .bool t58.Event.Anti, .int .i64 t58.Before.Regs.c0, .int .i64 t58.Before.Regs.c1, .int .i64 t58.Before.Regs.c2, .int .i64 t58.Before.Regs.c3, .int .i64 t58.Before.Regs.c4, .int .i64 t58.Before.Regs.c5, .int .i64 t58.Before.Regs.c6, .int .i64 t58.Before.Regs.c7, .int .i64 t58.Before.Draws, .int .i64 t58.Before.Sent, .int .i64 t58.Fault, .slice A60 t58.Sent.length c61]) hS underlying49 zeroValue43 sizeOf43 (parts := [(0, .tmp 21)]) rfl rfl (by decide) (by decide) (by kernel_rfl)) rfl rfl ?_
  rintro _ w ⟨b64, rfl, hS⟩
  refine ⟨kp ⟨fun _ => (St.down hS.d0 hs62), trivial⟩, ?_⟩
  obtain ⟨hq68, h⟩ := h.req
  obtain ⟨hf, hs66, hS, hr67⟩ := St.promoteR R_api_Entry_ok hS rfl hx65
  refine RP.e 11 rfl (OW.appendR (R := R_api_Entry) R_api_Entry_ok (xs := a18) (ys := [t58]) 6 hS rfl underlying49 type43 rfl rfl rfl rfl (by decide) (by decide) ((hx22.mono hs62).mono hs66) rfl rfl hr67 hq68 rfl) rfl rfl ?_
  rintro _ w ⟨cs71, hx72, hS⟩
  obtain ⟨A69, c70, rfl, _⟩ := hS.osShape 0 rfl
  have hS : St B w (_ :: _ :: _ :: _ :: _ :: _ :: _ :: l) hf := hS
  refine ⟨kp ⟨(by intro hx; cases hx), trivial⟩, ?_⟩
  refine RP.e0 12 rfl (OW.store (vs := [.slice A69 (a18 ++ ([t58])).length c70]) 6 hS rfl rfl rfl rfl sizeOf49 rfl rfl rfl rfl) rfl ?_
  rintro _ w ⟨rfl, hS⟩
  have hS : St B w (_ :: _ :: _ :: _ :: _ :: _ :: Cl _ [_] _ :: l) hf := hS
  refine ⟨kp ⟨(by intro hx; cases hx), trivial⟩, ?_⟩
  refine RP.nil (RQ.inB_n ?_)
  obtain rfl := h.some
  exact RQ.rn hS.p1 hr3.state hr3.pending fun w hS => ⟨_, (hs62.trans hs66), A69, c70, cs71, rfl, hS.d2.p1, hx72⟩

/-! ### (*isochron/log.Log).states$1: function 35 -/
noncomputable def log_Log_states_1.j23 (a6 : log_Log) (l805 : List api_Entry) (x811 : Int) (y967 : api_State) : Option ((List api_Entry × api_State × Int) ⊕ (List api_Entry × Int)) := ((log_Log_All_round0.f a6 l805 x811 y967).bind fun t975 => (if 0 ≤ x811 then ((vm_Run.f a6.w y967 (⟨((nth a6.l x811).event).Key, ((nth a6.l x811).event).To, ((nth a6.l x811).event).Value, ((nth a6.l x811).event).Uid, (((nth a6.l x811).event).Anti)⟩ : api_Message)).bind fun (y991, y992, y993) => some (.inl (t975, y991, IntKind.i64.wrap (x811 + 1)))) else none))
noncomputable def log_Log_states_1.l21b (a6 : log_Log) (x611 : Int) : List api_Entry × api_State × Int → Option ((List api_Entry × api_State × Int) ⊕ (List api_Entry × Int))
  | (l805, y810, x811) => (if x811 < (a6.l.length : Int) then (if 0 ≤ x811 then (if ((nth a6.l x811).ahead).has = true then log_Log_states_1.j23 a6 l805 x811 (((nth a6.l x811).ahead).val) else log_Log_states_1.j23 a6 l805 x811 y810) else none) else some (.inr (l805, x611)))
noncomputable def log_Log_states_1.l21 (a6 : log_Log) (x611 : Int) (s : List api_Entry × api_State × Int) : Option (List api_Entry × Int) := loopR (log_Log_states_1.l21b a6 x611) s
noncomputable def log_Log_states_1.j14 (a6 : log_Log) (a18 : (List api_Entry)) (x611 : Int) : Option (List api_Entry × Int) := log_Log_states_1.l21 a6 x611 (a18, (⟨(⟨0, 0, 0, 0, 0, 0, 0, 0⟩ : Arr8xInti64), 0, 0⟩ : api_State), x611)
noncomputable def log_Log_states_1.l24b (a6 : log_Log) (a18 : (List api_Entry)) : Int → Option ((Int) ⊕ (List api_Entry × Int))
  | (x1025) => (if 0 < x1025 then (if 0 ≤ x1025 ∧ x1025 < (a6.l.length : Int) then (if ((nth a6.l x1025).ahead).has = true then (Option.map Sum.inr (log_Log_states_1.j14 a6 a18 x1025)) else some (.inl (IntKind.i64.wrap (x1025 - 1)))) else none) else (Option.map Sum.inr (log_Log_states_1.j14 a6 a18 x1025)))
noncomputable def log_Log_states_1.l24 (a6 : log_Log) (a18 : (List api_Entry)) (s : Int) : Option (List api_Entry × Int) := loopR (log_Log_states_1.l24b a6 a18) s
noncomputable def log_Log_states_1.f (a6 : log_Log) (a18 : (List api_Entry)) (a24 : Int) : Option (List api_Entry × Int) := log_Log_states_1.l24 a6 a18 (a24)
theorem log_Log_states_1.ok {a6 : log_Log} {a18 : (List api_Entry)} {a24 : Int} {b1 : Nat} {rc2 : Loop} {b4 b5 : Nat} {A7 : Option Addr} {c8 : Nat} {A10 : Option Addr} {c11 : Nat} {A13 : Option Addr} {c14 : Nat} {cs15 : List Value} {b17 : Nat} {A19 : Option Addr} {c20 : Nat} {cs21 : List Value} {b23 b25 : Nat} (hr9 : SlR E_api_Instr.rep hf A7 c8 a6.w.Prog) (hr12 : SlR E_api_Link.rep hf A10 c11 a6.w.Links) (hx16 : RepL R_log_done hf cs15 a6.l) (hx22 : RepL R_api_Entry hf cs21 a18) (hr3 : RecF f12 0 25 [(1, .pointer (some ⟨b4, 0, none⟩)), (3, .pointer (some ⟨b17, 0, none⟩))] rc2) (hG0 : GlobAt hf 0 (.iface 115 (.agg #[.pointer (some ⟨1, 75, none⟩)]))) {r : List api_Entry × Int} (h : log_Log_states_1.f a6 a18 a24 = some r) (hS : St B w (pts b1 (.loop rc2) :: Cl b5 [.slice A7 a6.w.Prog.length c8, .int .i64 a6.w.Self, .slice A10 a6.w.Links.length c11, .int .u64 a6.w.Seed, .bool a6.made, .int .i64 a6.state.Regs.c0, .int .i64 a6.state.Regs.c1, .int .i64 a6.state.Regs.c2, .int .i64 a6.state.Regs.c3, .int .i64 a6.state.Regs.c4, .int .i64 a6.state.Regs.c5, .int .i64 a6.state.Regs.c6, .int .i64 a6.state.Regs.c7, .int .i64 a6.state.Draws, .int .i64 a6.state.Sent, .int .i64 a6.every, .slice A13 a6.l.length c14, .bool a6.stuck] 58 :: OSl 67 10 (.slice A13 a6.l.length c14) a6.l.length cs15 :: Cl b4 [.pointer (some ⟨b5, 0, none⟩)] 32 :: Cl b17 [.slice A19 a18.length c20] 49 :: OSl 43 19 (.slice A19 a18.length c20) a18.length cs21 :: Cl b23 [.int .i64 a24] 3 :: Cl b25 [.pointer (some ⟨b5, 0, none⟩)] 32 :: l) hf) :
    Calls prog 35 #[.func (.yield b1) #[] #[], .pointer (some ⟨b23, 0, none⟩), .pointer (some ⟨b25, 0, none⟩)] w (Ret fun v w => ∃ hf_ : Hp, Sub hf hf_ ∧ ∃ (A_1 : Option Addr) (c_2 : Nat) (cs_3 : List Value), v = .tuple #[] ∧ St B w (OSl 43 19 (.slice A_1 r.1.length c_2) r.1.length cs_3 :: pts b1 (.loop rc2) :: Cl b5 [.slice A7 a6.w.Prog.length c8, .int .i64 a6.w.Self, .slice A10 a6.w.Links.length c11, .int .u64 a6.w.Seed, .bool a6.made, .int .i64 a6.state.Regs.c0, .int .i64 a6.state.Regs.c1, .int .i64 a6.state.Regs.c2, .int .i64 a6.state.Regs.c3, .int .i64 a6.state.Regs.c4, .int .i64 a6.state.Regs.c5, .int .i64 a6.state.Regs.c6, .int .i64 a6.state.Regs.c7, .int .i64 a6.state.Draws, .int .i64 a6.state.Sent, .int .i64 a6.every, .slice A13 a6.l.length c14, .bool a6.stuck] 58 :: OSl 67 10 (.slice A13 a6.l.length c14) a6.l.length cs15 :: Cl b4 [.pointer (some ⟨b5, 0, none⟩)] 32 :: Cl b17 [.slice A_1 r.1.length c_2] 49 :: Cl b23 [.int .i64 r.2] 3 :: Cl b25 [.pointer (some ⟨b5, 0, none⟩)] 32 :: l) hf_ ∧ RepL R_api_Entry hf_ cs_3 r.1) := by
  have h := Holds.of h
  refine en func35 rfl ntmps35 rfl ?_
  refine RC.join (fun (s : Int) a w => ∃ (x611 : Int), s = (x611) ∧ Has 68 [(0, .func (.yield b1) #[] #[]), (1, .pointer (some ⟨b23, 0, none⟩)), (2, .pointer (some ⟨b25, 0, none⟩))] a ∧ St B w (OSl 67 10 (.slice A13 a6.l.length c14) a6.l.length cs15 :: OSl 43 19 (.slice A19 a18.length c20) a18.length cs21 :: pts b1 (.loop rc2) :: Cl b5 [.slice A7 a6.w.Prog.length c8, .int .i64 a6.w.Self, .slice A10 a6.w.Links.length c11, .int .u64 a6.w.Seed, .bool a6.made, .int .i64 a6.state.Regs.c0, .int .i64 a6.state.Regs.c1, .int .i64 a6.state.Regs.c2, .int .i64 a6.state.Regs.c3, .int .i64 a6.state.Regs.c4, .int .i64 a6.state.Regs.c5, .int .i64 a6.state.Regs.c6, .int .i64 a6.state.Regs.c7, .int .i64 a6.state.Draws, .int .i64 a6.state.Sent, .int .i64 a6.every, .slice A13 a6.l.length c14, .bool a6.stuck] 58 :: Cl b4 [.pointer (some ⟨b5, 0, none⟩)] 32 :: Cl b17 [.slice A19 a18.length c20] 49 :: Cl b23 [.int .i64 x611] 3 :: Cl b25 [.pointer (some ⟨b5, 0, none⟩)] 32 :: l) hf ∧ Holds (· = r) (log_Log_states_1.j14 a6 a18 x611)) ?_ ?_
  · rintro x611 a w ⟨_, rfl, ha, hS, h⟩
    revert a
    show RC _ _ _ _ _ _
    refine sr (al hS zeroValue38 rfl rfl rfl fun b612 w hS => lnsr (RL.s (Vl.ld 7 hS isAgg3 rfl rfl rfl) rfl (pn 1 rfl (ln (RC.block ?_)))))
    refine fun a ha => RC.loop (N := 68) (body := (log_Log_states_1.l21b a6 x611)) (φ := (· = r)) (fun (s : List api_Entry × api_State × Int) a w => ∃ (l805 : List api_Entry) (y810 : api_State) (x811 : Int), s = (l805, y810, x811) ∧ ∃ hf_ : Hp, Sub hf hf_ ∧ ∃ (A806 : Option Addr) (c807 : Nat) (cs808 : List Value), Has 68 [(0, .func (.yield b1) #[] #[]), (2, .pointer (some ⟨b25, 0, none⟩)), (4, .pointer (some ⟨b612, 0, none⟩)), (5, .int .i64 x811)] a ∧ St B w (OSl 67 10 (.slice A13 a6.l.length c14) a6.l.length cs15 :: OSl 43 19 (.slice A806 l805.length c807) l805.length cs808 :: Cl b612 [.int .i64 y810.Regs.c0, .int .i64 y810.Regs.c1, .int .i64 y810.Regs.c2, .int .i64 y810.Regs.c3, .int .i64 y810.Regs.c4, .int .i64 y810.Regs.c5, .int .i64 y810.Regs.c6, .int .i64 y810.Regs.c7, .int .i64 y810.Draws, .int .i64 y810.Sent] 38 :: pts b1 (.loop rc2) :: Cl b5 [.slice A7 a6.w.Prog.length c8, .int .i64 a6.w.Self, .slice A10 a6.w.Links.length c11, .int .u64 a6.w.Seed, .bool a6.made, .int .i64 a6.state.Regs.c0, .int .i64 a6.state.Regs.c1, .int .i64 a6.state.Regs.c2, .int .i64 a6.state.Regs.c3, .int .i64 a6.state.Regs.c4, .int .i64 a6.state.Regs.c5, .int .i64 a6.state.Regs.c6, .int .i64 a6.state.Regs.c7, .int .i64 a6.state.Draws, .int .i64 a6.state.Sent, .int .i64 a6.every, .slice A13 a6.l.length c14, .bool a6.stuck] 58 :: Cl b4 [.pointer (some ⟨b5, 0, none⟩)] 32 :: Cl b17 [.slice A806 l805.length c807] 49 :: Cl b23 [.int .i64 x611] 3 :: Cl b25 [.pointer (some ⟨b5, 0, none⟩)] 32 :: l) hf_ ∧ RepL R_api_Entry hf_ cs808 l805) ?_ (s0 := (a18, (⟨(⟨0, 0, 0, 0, 0, 0, 0, 0⟩ : Arr8xInti64), 0, 0⟩ : api_State), x611)) h ⟨a18, (⟨(⟨0, 0, 0, 0, 0, 0, 0, 0⟩ : Arr8xInti64), 0, 0⟩ : api_State), x611, rfl, _, (Sub.refl _), A19, c20, cs21, ha.to ⟨rfl, rfl, rfl, rfl, trivial⟩, hS.p2.p2, hx22⟩
    rintro G911 _ a w ⟨l805, y810, x811, rfl, hf, hs705, A806, c807, cs808, ha, hS, hx809⟩ h
    revert a
    show RC _ _ _ _ _ _
    refine RC.seq (sr (pn 1 rfl (RL.s (Vl.ld 8 hS isAgg32 rfl rfl rfl) rfl (pn 1 rfl (RL.s (Vl.fa 16 underlying58 rfl sizeOf56 rfl rfl) rfl (RL.s (Vl.ld 4 hS isAgg56 rfl rfl rfl) rfl (RL.s (Vl.lenSl underlying56 rfl) rfl (pn 1 rfl (ln ?_)))))))))
    refine RC.iteP 29 rfl h (fun hc913 h => ?_) fun hc913 h => ?_
    next =>
     refine RC.condT rfl (sk (RC.seq (RC.block ?_)))
     refine RC.join (fun (s : api_State) a w => ∃ (y967 : api_State), s = (y967) ∧ Has 68 [(0, .func (.yield b1) #[] #[]), (2, .pointer (some ⟨b25, 0, none⟩)), (4, .pointer (some ⟨b612, 0, none⟩)), (5, .int .i64 x811)] a ∧ St B w (OSl 67 10 (.slice A13 a6.l.length c14) a6.l.length cs15 :: OSl 43 19 (.slice A806 l805.length c807) l805.length cs808 :: Cl b612 [.int .i64 y967.Regs.c0, .int .i64 y967.Regs.c1, .int .i64 y967.Regs.c2, .int .i64 y967.Regs.c3, .int .i64 y967.Regs.c4, .int .i64 y967.Regs.c5, .int .i64 y967.Regs.c6, .int .i64 y967.Regs.c7, .int .i64 y967.Draws, .int .i64 y967.Sent] 38 :: pts b1 (.loop rc2) :: Cl b5 [.slice A7 a6.w.Prog.length c8, .int .i64 a6.w.Self, .slice A10 a6.w.Links.length c11, .int .u64 a6.w.Seed, .bool a6.made, .int .i64 a6.state.Regs.c0, .int .i64 a6.state.Regs.c1, .int .i64 a6.state.Regs.c2, .int .i64 a6.state.Regs.c3, .int .i64 a6.state.Regs.c4, .int .i64 a6.state.Regs.c5, .int .i64 a6.state.Regs.c6, .int .i64 a6.state.Regs.c7, .int .i64 a6.state.Draws, .int .i64 a6.state.Sent, .int .i64 a6.every, .slice A13 a6.l.length c14, .bool a6.stuck] 58 :: Cl b4 [.pointer (some ⟨b5, 0, none⟩)] 32 :: Cl b17 [.slice A806 l805.length c807] 49 :: Cl b23 [.int .i64 x611] 3 :: Cl b25 [.pointer (some ⟨b5, 0, none⟩)] 32 :: l) hf ∧ Holds (Sum.elim G911 (· = r)) (log_Log_states_1.j23 a6 l805 x811 y967)) ?_ ?_
     · rintro y967 a w ⟨_, rfl, ha, hS, h⟩
       revert a
       show RC _ _ _ _ _ _
       refine RC.seq (sr (pn 2 rfl (RL.s (Vl.lw 2 hS isAgg38 sizeOf38 rfl rfl rfl) rfl (yc (fun _ hg976 => log_Log_All_round0.ok (hr9.mono hs705) (hr12.mono hs705) (hx16.mono hs705) hx809 hr3 hg976 hS.p6.p6.p2.p6.p6) rfl h rfl rfl rfl rfl ?_))))
       intro t975 h
       rintro _ w ⟨hf, hs981, A977, c978, cs979, rfl, hS, hx980⟩
       have hS : St B w (_ :: _ :: _ :: _ :: _ :: _ :: _ :: _ :: _ :: l) hf := hS
       refine pn 1 rfl (ln (RC.condF rfl (sk (RC.planS (plD [1, 3, 6, 10, 13, 16, 18, 21, 25, 27, 31, 33, 37, 41, 42, 45, 48, 51, 56]) [18] hS (fun w hS => hS) follows rfl (by kernel_rfl) (NoTmp.block (NoTmp.then (NoTmp.then (NoTmp.block NoTmp.body)))) fun w hS => RP.s 0 0 rfl rfl hS (fun w hS => Vl.ld 8 hS isAgg32 rfl rfl rfl) rfl (pp 1 rfl (RP.s0 2 rfl (fun w => Vl.fa 0 underlying58 rfl sizeOf26 rfl rfl) rfl (RP.s 0 3 rfl rfl hS (fun w hS => Vl.loadA (vs := [.slice A7 a6.w.Prog.length c8, .int .i64 a6.w.Self, .slice A10 a6.w.Links.length c11, .int .u64 a6.w.Seed]) isAgg26 sizeOf26 rfl rfl (hS.cellsAt 2 rfl rfl)) rfl (RP.s 0 4 rfl rfl hS (fun w hS => Vl.lw 6 hS isAgg38 sizeOf38 rfl rfl rfl) rfl (RP.s 0 5 rfl rfl hS (fun w hS => Vl.ld 8 hS isAgg32 rfl rfl rfl) rfl (pp 1 rfl (RP.s0 7 rfl (fun w => Vl.fa 16 underlying58 rfl sizeOf56 rfl rfl) rfl (RP.s 0 8 rfl rfl hS (fun w hS => Vl.ld 2 hS isAgg56 rfl rfl rfl) rfl ?_))))))))))))
       refine pp 1 rfl ?_
       obtain ⟨hq982, h⟩ := h.req
       refine RP.s 0 10 rfl rfl hS (fun w hS => Vl.indexOwn 3 hS rfl underlying56 sizeOf67 rfl rfl hq982 hc913) rfl (RP.s0 11 rfl (fun w => Vl.fieldAddr (a'' := (ad A13).add (x811.toNat * 10 + 0)) underlying67 rfl sizeOf30 rfl (add_add _ _ _)) rfl ?_)
       obtain ⟨_, ⟨A984, c985, b987, rfl, hr986, hr988⟩, hl983⟩ := RepL.elem R_log_done_ok ((hx16.mono hs705).mono hs981) hq982 hc913
       refine RP.s 0 12 rfl rfl hS (fun w hS => Vl.loadA (vs := [.int .i64 ((((nth a6.l x811).event).Key).Time), .int .i64 ((((nth a6.l x811).event).Key).From), .int .i64 ((((nth a6.l x811).event).Key).Seq), .int .i64 (((nth a6.l x811).event).To), .int .i64 (((nth a6.l x811).event).Value), .int .i64 (((nth a6.l x811).event).Uid), .bool (((nth a6.l x811).event).Anti)]) isAgg30 sizeOf30 rfl rfl (hS.elemCells 3 rfl hl983 (off := 0) rfl)) rfl ?_
       obtain ⟨t989, hg990, h⟩ := h.bind
       have hc := vm_Run.ok ((hr9.mono hs705).mono hs981) ((hr12.mono hs705).mono hs981) ((hG0.mono hs705).mono hs981) hg990 hS
       obtain ⟨y991, y992, y993⟩ := t989
       refine RP.e 13 rfl (OW.callF (ls := [.tmp 54, .tmp 55, .tmp 63]) rfl call32 hc) rfl rfl ?_
       rintro _ w ⟨A994, c995, rfl, hS⟩
       refine ⟨kp ⟨fun _ => hS.d0, trivial⟩, ?_⟩
       refine pp 4 rfl (RP.e0 18 rfl (OW.store (vs := [.int .i64 y991.Regs.c0, .int .i64 y991.Regs.c1, .int .i64 y991.Regs.c2, .int .i64 y991.Regs.c3, .int .i64 y991.Regs.c4, .int .i64 y991.Regs.c5, .int .i64 y991.Regs.c6, .int .i64 y991.Regs.c7, .int .i64 y991.Draws, .int .i64 y991.Sent]) 7 hS rfl rfl rfl rfl sizeOf38 rfl rfl rfl rfl) rfl ?_)
       rintro _ w ⟨rfl, hS⟩
       have hS : St B w (_ :: _ :: _ :: _ :: _ :: _ :: _ :: Cl _ [_, _, _, _, _, _, _, _, _, _] _ :: _ :: _ :: l) hf := hS
       refine ⟨kp ⟨(by intro hx; cases hx), trivial⟩, ?_⟩
       refine RP.nil (RQ.inB_n (RQ.then_n (RC.region (pn 3 rfl (RL.nil ?_)))))
       exact fun a ha => ⟨(t975, y991, IntKind.i64.wrap (x811 + 1)), ⟨t975, y991, (IntKind.i64.wrap (x811 + 1)), rfl, _, (hs705.trans hs981), A977, c978, cs979, ha.to ⟨rfl, rfl, rfl, rfl, trivial⟩, hS.d0.p6.p1.p4, hx980⟩, h.some⟩
     · refine RC.seq ?_
       refine RC.region (RL.s (Vl.ld 8 hS isAgg32 rfl rfl rfl) rfl (pn 1 rfl (RL.s (Vl.fa 16 underlying58 rfl sizeOf56 rfl rfl) rfl (RL.s (Vl.ld 4 hS isAgg56 rfl rfl rfl) rfl (pn 1 rfl ?_)))))
       obtain ⟨hq996, h⟩ := h.req
       refine RL.s (Vl.indexOwn 0 hS rfl underlying56 sizeOf67 rfl rfl hq996 hc913) rfl (RL.s (Vl.fieldAddr (a'' := (ad A13).add (x811.toNat * 10 + 9)) underlying67 rfl sizeOf65 rfl (add_add _ _ _)) rfl ?_)
       obtain ⟨_, ⟨A998, c999, b1001, rfl, hr1000, hr1002⟩, hl997⟩ := RepL.elem R_log_done_ok (hx16.mono hs705) hq996 hc913
       refine RL.s (Vl.load isAgg65 rfl (hS.litCell 0 rfl (hl997 9 _ rfl))) rfl (pn 1 rfl (lnsr (pn 1 rfl (RL.s (Vl.ptNeq (fun b w => by kernel_rfl) (fun w => by kernel_rfl) rfl rfl) rfl (ln ?_)))))
       refine RC.iteB 41 rfl h (fun hc1003 h => ?_) fun hc1003 h => ?_
       next =>
        refine RC.condT rfl (RC.region (pn 1 rfl (RL.s (Vl.nilCheckO hc1003 rfl) rfl (RL.s (Vl.loadA (vs := [.int .i64 (((((nth a6.l x811).ahead).val).Regs).c0), .int .i64 (((((nth a6.l x811).ahead).val).Regs).c1), .int .i64 (((((nth a6.l x811).ahead).val).Regs).c2), .int .i64 (((((nth a6.l x811).ahead).val).Regs).c3), .int .i64 (((((nth a6.l x811).ahead).val).Regs).c4), .int .i64 (((((nth a6.l x811).ahead).val).Regs).c5), .int .i64 (((((nth a6.l x811).ahead).val).Regs).c6), .int .i64 (((((nth a6.l x811).ahead).val).Regs).c7), .int .i64 ((((nth a6.l x811).ahead).val).Draws), .int .i64 ((((nth a6.l x811).ahead).val).Sent)]) isAgg38 sizeOf38 rfl rfl ((hr1002.on hc1003).cells hS.sub)) rfl (RL.e0 (OW.store (vs := [.int .i64 (((((nth a6.l x811).ahead).val).Regs).c0), .int .i64 (((((nth a6.l x811).ahead).val).Regs).c1), .int .i64 (((((nth a6.l x811).ahead).val).Regs).c2), .int .i64 (((((nth a6.l x811).ahead).val).Regs).c3), .int .i64 (((((nth a6.l x811).ahead).val).Regs).c4), .int .i64 (((((nth a6.l x811).ahead).val).Regs).c5), .int .i64 (((((nth a6.l x811).ahead).val).Regs).c6), .int .i64 (((((nth a6.l x811).ahead).val).Regs).c7), .int .i64 ((((nth a6.l x811).ahead).val).Draws), .int .i64 ((((nth a6.l x811).ahead).val).Sent)]) 2 hS rfl rfl rfl rfl sizeOf38 rfl rfl rfl rfl) rfl ?_)))))
        rintro _ w ⟨rfl, hS⟩
        have hS : St B w (_ :: _ :: Cl _ [_, _, _, _, _, _, _, _, _, _] _ :: _ :: _ :: _ :: _ :: _ :: _ :: l) hf := hS
        refine RL.nil ?_
        exact fun a ha => ⟨(((nth a6.l x811).ahead).val), (((nth a6.l x811).ahead).val), rfl, ha.to ⟨rfl, rfl, rfl, rfl, trivial⟩, hS, h⟩
       next =>
        refine RC.condF rfl (RC.skip ?_)
        exact fun a ha => ⟨(y810), y810, rfl, ha.to ⟨rfl, rfl, rfl, rfl, trivial⟩, hS, h⟩
    next =>
     refine RC.condF rfl (RC.exit (RQ.exitT ?_))
     have h := h.inrS
     refine RQ.exitT (RQ.inB_hit ?_)
     obtain rfl := h.some
     exact rtE results35 rfl ⟨_, hs705, A806, c807, cs808, rfl, hS.d2.p3.p3.p3, hx809⟩
  · refine RC.block ?_
    refine fun a ha => RC.loop (N := 68) (body := (log_Log_states_1.l24b a6 a18)) (φ := (· = r)) (fun (s : Int) a w => ∃ (x1025 : Int), s = (x1025) ∧ Has 68 [(0, .func (.yield b1) #[] #[]), (1, .pointer (some ⟨b23, 0, none⟩)), (2, .pointer (some ⟨b25, 0, none⟩))] a ∧ St B w (OSl 67 10 (.slice A13 a6.l.length c14) a6.l.length cs15 :: OSl 43 19 (.slice A19 a18.length c20) a18.length cs21 :: pts b1 (.loop rc2) :: Cl b5 [.slice A7 a6.w.Prog.length c8, .int .i64 a6.w.Self, .slice A10 a6.w.Links.length c11, .int .u64 a6.w.Seed, .bool a6.made, .int .i64 a6.state.Regs.c0, .int .i64 a6.state.Regs.c1, .int .i64 a6.state.Regs.c2, .int .i64 a6.state.Regs.c3, .int .i64 a6.state.Regs.c4, .int .i64 a6.state.Regs.c5, .int .i64 a6.state.Regs.c6, .int .i64 a6.state.Regs.c7, .int .i64 a6.state.Draws, .int .i64 a6.state.Sent, .int .i64 a6.every, .slice A13 a6.l.length c14, .bool a6.stuck] 58 :: Cl b4 [.pointer (some ⟨b5, 0, none⟩)] 32 :: Cl b17 [.slice A19 a18.length c20] 49 :: Cl b23 [.int .i64 x1025] 3 :: Cl b25 [.pointer (some ⟨b5, 0, none⟩)] 32 :: l) hf) ?_ (s0 := (a24)) h ⟨a24, rfl, ha.to ⟨rfl, rfl, rfl, trivial⟩, hS.p5.p3⟩
    rintro G1047 x1025 a w ⟨_, rfl, ha, hS⟩ h
    revert a
    show RC _ _ _ _ _ _
    refine RC.seq (RC.seq (RC.planS (plD [1, 3, 6, 10, 12, 15, 19, 23, 26, 29, 32, 35, 38]) [8, 9, 10, 11, 12] hS (fun w hS => hS) follows rfl (by kernel_rfl) (NoTmp.then (NoTmp.then (NoTmp.then (NoTmp.block (NoTmp.then NoTmp.body))))) fun w hS => RP.s 0 0 rfl rfl hS (fun w hS => Vl.ld 6 hS isAgg3 rfl rfl rfl) rfl (pp 2 rfl ?_)))
    refine RP.iteP 9 rfl h (fun hc1058 h => ?_) fun hc1058 h => ?_
    next =>
     refine RP.sg 0 3 rfl rfl hS (fun w hS => Vl.ld 7 hS isAgg32 rfl rfl rfl) rfl rfl (pp 1 rfl (RP.sg0 5 rfl (fun w => Vl.fa 16 underlying58 rfl sizeOf56 rfl rfl) rfl rfl (RP.sg 0 6 rfl rfl hS (fun w hS => Vl.ld 3 hS isAgg56 rfl rfl rfl) rfl rfl (RP.v1 7 rfl (Vl.ld 6 hS isAgg3 rfl rfl rfl) rfl rfl ?_))))
     obtain ⟨⟨hq1059, hq1060⟩, h⟩ := h.req
     refine RP.v1 8 rfl (Vl.indexOwn 0 hS rfl underlying56 sizeOf67 rfl rfl hq1059 hq1060) rfl rfl (RP.v1 9 rfl (Vl.fieldAddr (a'' := (ad A13).add (x1025.toNat * 10 + 9)) underlying67 rfl sizeOf65 rfl (add_add _ _ _)) rfl rfl ?_)
     obtain ⟨_, ⟨A1062, c1063, b1065, rfl, hr1064, hr1066⟩, hl1061⟩ := RepL.elem R_log_done_ok hx16 hq1059 hq1060
     refine RP.v1 10 rfl (Vl.load isAgg65 rfl (hS.litCell 0 rfl (hl1061 9 _ rfl))) rfl rfl (RP.v1 11 rfl (Vl.ptEql (fun b w => by kernel_rfl) (fun w => by kernel_rfl) rfl rfl) rfl rfl (RP.v1 12 rfl (Vl.pickT rfl rfl) rfl rfl (RP.nil (RQ.then_n ?_))))
     refine RC.iteM 19 rfl h (fun hc1067 h => ?_) fun hc1067 h => ?_
     next =>
      refine RC.condF rfl (RC.exit (RQ.exitT ?_))
      have h := h.inr
      refine RQ.exitT (RQ.inB_hit ?_)
      exact fun a ha => ⟨(x1025), x1025, rfl, ha.to ⟨rfl, rfl, rfl, trivial⟩, hS, h⟩
     next =>
      refine RC.condT rfl (sk (RC.block (RC.region (RL.s (Vl.ld 6 hS isAgg3 rfl rfl rfl) rfl (pn 1 rfl (RL.e0 (OW.store (vs := [.int .i64 (IntKind.i64.wrap (x1025 - 1))]) 6 hS rfl rfl rfl rfl sizeOf3 rfl rfl rfl rfl) rfl ?_))))))
      rintro _ w ⟨rfl, hS⟩
      have hS : St B w (_ :: _ :: _ :: _ :: _ :: _ :: Cl _ [_] _ :: _ :: l) hf := hS
      refine RL.nil (RQ.inB_n ?_)
      exact fun a ha => ⟨(IntKind.i64.wrap (x1025 - 1)), ⟨(IntKind.i64.wrap (x1025 - 1)), rfl, ha.to ⟨rfl, rfl, rfl, trivial⟩, hS⟩, h.some⟩
    next =>
     refine RP.nn 0 3 rfl rfl rfl (pp 2 rfl (RP.nn 0 6 rfl rfl rfl (RP.n1 7 rfl rfl rfl (RP.n1 8 rfl rfl rfl (RP.n1 9 rfl rfl rfl (RP.n1 10 rfl rfl rfl (RP.n1 11 rfl rfl rfl (RP.v1 12 rfl (Vl.pickF rfl rfl) rfl rfl (RP.nil (RQ.then_n (RC.condF rfl (RC.exit (RQ.exitT ?_)))))))))))))
     have h := h.inr
     refine RQ.exitT (RQ.inB_hit ?_)
     exact fun a ha => ⟨(x1025), x1025, rfl, ha.to ⟨rfl, rfl, rfl, trivial⟩, hS, h⟩

/-! ### (*isochron/log.Log).All: function 12 -/
noncomputable def log_Log_All.f (a2 : log_Log) : Option (List api_Entry) := ((log_Log_none.f a2).bind fun t59 => (if t59 = true then some ([] : List api_Entry) else ((log_Log_states.f a2 0).bind fun t80 => ((log_Log_states_1.f a2 ([] : List api_Entry) t80).bind fun (y90, y91) => some y90))))
theorem log_Log_All.ok {a2 : log_Log} {b1 : Nat} {A3 : Option Addr} {c4 : Nat} {A6 : Option Addr} {c7 : Nat} {A9 : Option Addr} {c10 : Nat} {cs11 : List Value} (hr5 : SlR E_api_Instr.rep hf A3 c4 a2.w.Prog) (hr8 : SlR E_api_Link.rep hf A6 c7 a2.w.Links) (hx12 : RepL R_log_done hf cs11 a2.l) (hG0 : GlobAt hf 0 (.iface 115 (.agg #[.pointer (some ⟨1, 75, none⟩)]))) {r : List api_Entry} (h : log_Log_All.f a2 = some r) (hS : St B w (Cl b1 [.slice A3 a2.w.Prog.length c4, .int .i64 a2.w.Self, .slice A6 a2.w.Links.length c7, .int .u64 a2.w.Seed, .bool a2.made, .int .i64 a2.state.Regs.c0, .int .i64 a2.state.Regs.c1, .int .i64 a2.state.Regs.c2, .int .i64 a2.state.Regs.c3, .int .i64 a2.state.Regs.c4, .int .i64 a2.state.Regs.c5, .int .i64 a2.state.Regs.c6, .int .i64 a2.state.Regs.c7, .int .i64 a2.state.Draws, .int .i64 a2.state.Sent, .int .i64 a2.every, .slice A9 a2.l.length c10, .bool a2.stuck] 58 :: OSl 67 10 (.slice A9 a2.l.length c10) a2.l.length cs11 :: l) hf) :
    Calls prog 12 #[.pointer (some ⟨b1, 0, none⟩)] w (Ret fun v w => ∃ hf_ : Hp, Sub hf hf_ ∧ ∃ (A_1 : Option Addr) (c_2 : Nat) (cs_3 : List Value), v = .slice A_1 r.length c_2 ∧ St B w (OSl 43 19 (.slice A_1 r.length c_2) r.length cs_3 :: Cl b1 [.slice A3 a2.w.Prog.length c4, .int .i64 a2.w.Self, .slice A6 a2.w.Links.length c7, .int .u64 a2.w.Seed, .bool a2.made, .int .i64 a2.state.Regs.c0, .int .i64 a2.state.Regs.c1, .int .i64 a2.state.Regs.c2, .int .i64 a2.state.Regs.c3, .int .i64 a2.state.Regs.c4, .int .i64 a2.state.Regs.c5, .int .i64 a2.state.Regs.c6, .int .i64 a2.state.Regs.c7, .int .i64 a2.state.Draws, .int .i64 a2.state.Sent, .int .i64 a2.every, .slice A9 a2.l.length c10, .bool a2.stuck] 58 :: OSl 67 10 (.slice A9 a2.l.length c10) a2.l.length cs11 :: l) hf_ ∧ RepL R_api_Entry hf_ cs_3 r) := by
  have h := Holds.of h
  refine enM func12 rfl ntmps12 rfl (sr (bx hS rfl rfl rfl rfl fun b55 w hS => pn 1 rfl (ln (RC.seq (sr (RL.s (Vl.ld 0 hS isAgg32 rfl rfl rfl) rfl (cF (fun _ hg => log_Log_none.ok hr5 hr8 hx12 hg hS.p2.p2) call20 h rfl rfl rfl ?_)))))))
  rintro t59 h _ w ⟨rfl, hS⟩
  refine ln ?_
  refine RC.iteB 7 rfl h (fun hc61 h => ?_) fun hc61 h => ?_
  next =>
   refine RC.condT rfl (sr (pn 1 rfl (lr (RQ.ret ?_))))
   have hS := hS.nilSlR 43 19
   obtain rfl := h.some
   exact rtM0 (vs := [.slice none 0 0]) results12 ⟨rfl, trivial⟩ ⟨_, (Sub.refl _), none, 0, ([]), rfl, hS.d3, RepL.nil⟩
  next =>
   refine RC.condF rfl (sk (sr (al hS zeroValue49 rfl rfl rfl fun b62 w hS => ln (RC.seq (sr (RL.s (Vl.ld 3 hS isAgg32 rfl rfl rfl) rfl (cF (fun _ hg => log_Log_states.ok hr5 hr8 hx12 hg hS.p2.p2) call26 h rfl rfl rfl ?_)))))))
   rintro t80 h _ w ⟨b82, b83, rfl, hS⟩
   refine ln (RC.block ?_)
   have hS := hS.nilSlR 43 19
   have hS : St B w (_ :: _ :: _ :: _ :: _ :: _ :: _ :: l) hf := hS
   obtain ⟨t88, hg89, h⟩ := h.bind
   refine RC.rf (args := fun b84 => #[.func (.yield b84) #[] #[], .pointer (some ⟨b82, 0, none⟩), .pointer (some ⟨b83, 0, none⟩)]) rfl call35 rfl hS (fun _ => by simp) (fun b84 d85 rc86 w hr87 hS => log_Log_states_1.ok hr5 hr8 hx12 RepL.nil (RecOK.to (M := 25) hr87 rfl rfl ⟨rfl, rfl, trivial⟩) hG0 hg89 hS.p4.p4.p4.p7.p8.p8.p8.p7) ?_
   obtain ⟨y90, y91⟩ := t88
   rintro b84 d85 rc86 _ w hr87 ⟨hf, hs96, A92, c93, cs94, rfl, hS, hx95⟩
   refine RE.n hS.p1 hr87.state hr87.pending fun w hS => RQ.inB_n (tsr (RL.s (Vl.ld 4 hS isAgg49 rfl rfl rfl) rfl (pn 1 rfl (lr ?_))))
   obtain rfl := h.some
   exact rtM1 (vs := [.slice A92 y90.length c93]) results12 hS.p7 fun w hS => ⟨⟨rfl, trivial⟩, ⟨_, hs96, A92, c93, cs94, rfl, hS.d3.d3.d3.d3, hx95⟩⟩

/-! ### (*isochron/log.Log).State: function 13 -/
noncomputable def log_Log_State.f (a2 : log_Log) : Option (api_State) := ((log_Log_none.f a2).bind fun t24 => (if t24 = true then some (⟨(⟨0, 0, 0, 0, 0, 0, 0, 0⟩ : Arr8xInti64), 0, 0⟩ : api_State) else some a2.state))
theorem log_Log_State.ok {a2 : log_Log} {b1 : Nat} {A3 : Option Addr} {c4 : Nat} {A6 : Option Addr} {c7 : Nat} {A9 : Option Addr} {c10 : Nat} {cs11 : List Value} (hr5 : SlR E_api_Instr.rep hf A3 c4 a2.w.Prog) (hr8 : SlR E_api_Link.rep hf A6 c7 a2.w.Links) (hx12 : RepL R_log_done hf cs11 a2.l) {r : api_State} (h : log_Log_State.f a2 = some r) (hS : St B w (Cl b1 [.slice A3 a2.w.Prog.length c4, .int .i64 a2.w.Self, .slice A6 a2.w.Links.length c7, .int .u64 a2.w.Seed, .bool a2.made, .int .i64 a2.state.Regs.c0, .int .i64 a2.state.Regs.c1, .int .i64 a2.state.Regs.c2, .int .i64 a2.state.Regs.c3, .int .i64 a2.state.Regs.c4, .int .i64 a2.state.Regs.c5, .int .i64 a2.state.Regs.c6, .int .i64 a2.state.Regs.c7, .int .i64 a2.state.Draws, .int .i64 a2.state.Sent, .int .i64 a2.every, .slice A9 a2.l.length c10, .bool a2.stuck] 58 :: OSl 67 10 (.slice A9 a2.l.length c10) a2.l.length cs11 :: l) hf) :
    Calls prog 13 #[.pointer (some ⟨b1, 0, none⟩)] w (Ret fun v w => v = .agg #[.int .i64 r.Regs.c0, .int .i64 r.Regs.c1, .int .i64 r.Regs.c2, .int .i64 r.Regs.c3, .int .i64 r.Regs.c4, .int .i64 r.Regs.c5, .int .i64 r.Regs.c6, .int .i64 r.Regs.c7, .int .i64 r.Draws, .int .i64 r.Sent] ∧ St B w (Cl b1 [.slice A3 a2.w.Prog.length c4, .int .i64 a2.w.Self, .slice A6 a2.w.Links.length c7, .int .u64 a2.w.Seed, .bool a2.made, .int .i64 a2.state.Regs.c0, .int .i64 a2.state.Regs.c1, .int .i64 a2.state.Regs.c2, .int .i64 a2.state.Regs.c3, .int .i64 a2.state.Regs.c4, .int .i64 a2.state.Regs.c5, .int .i64 a2.state.Regs.c6, .int .i64 a2.state.Regs.c7, .int .i64 a2.state.Draws, .int .i64 a2.state.Sent, .int .i64 a2.every, .slice A9 a2.l.length c10, .bool a2.stuck] 58 :: OSl 67 10 (.slice A9 a2.l.length c10) a2.l.length cs11 :: l) hf) := by
  have h := Holds.of h
  refine en func13 rfl ntmps13 rfl (sr (al hS zeroValue38 rfl rfl rfl fun b20 w hS => ln (RC.seq (sr (pn 1 rfl (cF (fun _ hg => log_Log_none.ok hr5 hr8 hx12 hg hS.p2.p2) call20 h rfl rfl rfl ?_))))))
  rintro t24 h _ w ⟨rfl, hS⟩
  refine ln ?_
  refine RC.iteB 4 rfl h (fun hc26 h => ?_) fun hc26 h => ?_
  next =>
   refine RC.condT rfl (sr (RL.s (Vl.build (v := .agg #[.int .i64 0, .int .i64 0, .int .i64 0, .int .i64 0, .int .i64 0, .int .i64 0, .int .i64 0, .int .i64 0, .int .i64 0, .int .i64 0]) (parts := []) rfl (by kernel_rfl)) rfl (RL.e0 (OW.store (vs := [.int .i64 0, .int .i64 0, .int .i64 0, .int .i64 0, .int .i64 0, .int .i64 0, .int .i64 0, .int .i64 0, .int .i64 0, .int .i64 0]) 2 hS rfl rfl rfl rfl sizeOf38 rfl rfl rfl rfl) rfl ?_)))
   rintro _ w ⟨rfl, hS⟩
   have hS : St B w (_ :: _ :: Cl _ [_, _, _, _, _, _, _, _, _, _] _ :: l) hf := hS
   refine lr (RQ.ret ?_)
   obtain rfl := h.some
   refine RQ.ret0 (vs := [.agg #[.int .i64 0, .int .i64 0, .int .i64 0, .int .i64 0, .int .i64 0, .int .i64 0, .int .i64 0, .int .i64 0, .int .i64 0, .int .i64 0]]) results13 ⟨⟨_, rfl, run_loadVarA (vs := [.int .i64 0, .int .i64 0, .int .i64 0, .int .i64 0, .int .i64 0, .int .i64 0, .int .i64 0, .int .i64 0, .int .i64 0, .int .i64 0]) isAgg38 sizeOf38 rfl (hS.cellsAt 2 rfl rfl)⟩, trivial⟩ ?_
   exact ⟨rfl, hS.d2⟩
  next =>
   refine RC.condF rfl (sk (sr (pn 2 rfl (RL.s (Vl.fa 5 underlying58 rfl sizeOf38 rfl rfl) rfl (RL.s (Vl.loadA (vs := [.int .i64 a2.state.Regs.c0, .int .i64 a2.state.Regs.c1, .int .i64 a2.state.Regs.c2, .int .i64 a2.state.Regs.c3, .int .i64 a2.state.Regs.c4, .int .i64 a2.state.Regs.c5, .int .i64 a2.state.Regs.c6, .int .i64 a2.state.Regs.c7, .int .i64 a2.state.Draws, .int .i64 a2.state.Sent]) isAgg38 sizeOf38 rfl rfl (hS.cellsAt 0 rfl rfl)) rfl (RL.e0 (OW.store (vs := [.int .i64 a2.state.Regs.c0, .int .i64 a2.state.Regs.c1, .int .i64 a2.state.Regs.c2, .int .i64 a2.state.Regs.c3, .int .i64 a2.state.Regs.c4, .int .i64 a2.state.Regs.c5, .int .i64 a2.state.Regs.c6, .int .i64 a2.state.Regs.c7, .int .i64 a2.state.Draws, .int .i64 a2.state.Sent]) 2 hS rfl rfl rfl rfl sizeOf38 rfl rfl rfl rfl) rfl ?_))))))
   rintro _ w ⟨rfl, hS⟩
   have hS : St B w (_ :: _ :: Cl _ [_, _, _, _, _, _, _, _, _, _] _ :: l) hf := hS
   refine lr ?_
   obtain rfl := h.some
   refine RQ.ret0 (vs := [.agg #[.int .i64 a2.state.Regs.c0, .int .i64 a2.state.Regs.c1, .int .i64 a2.state.Regs.c2, .int .i64 a2.state.Regs.c3, .int .i64 a2.state.Regs.c4, .int .i64 a2.state.Regs.c5, .int .i64 a2.state.Regs.c6, .int .i64 a2.state.Regs.c7, .int .i64 a2.state.Draws, .int .i64 a2.state.Sent]]) results13 ⟨⟨_, rfl, run_loadVarA (vs := [.int .i64 a2.state.Regs.c0, .int .i64 a2.state.Regs.c1, .int .i64 a2.state.Regs.c2, .int .i64 a2.state.Regs.c3, .int .i64 a2.state.Regs.c4, .int .i64 a2.state.Regs.c5, .int .i64 a2.state.Regs.c6, .int .i64 a2.state.Regs.c7, .int .i64 a2.state.Draws, .int .i64 a2.state.Sent]) isAgg38 sizeOf38 rfl (hS.cellsAt 2 rfl rfl)⟩, trivial⟩ ?_
   exact ⟨rfl, hS.d2⟩

/-! ### (*isochron/log.Log).Drop_round0: function 1000140 -/
noncomputable def log_Log_Drop_round0.f (a6 : log_Log) (a18 : Int) (a20 : (List api_Entry)) (a25 : Int) (a26 : api_State) : Option ((List log_done) ⊕ (List api_Entry)) := (if a25 = a18 then (if 0 ≤ a25 ∧ a25 < (a6.l.length : Int) then some (.inl (setL a6.l a25 (⟨(⟨((nth a6.l a25).event).Key, ((nth a6.l a25).event).To, ((nth a6.l a25).event).Value, ((nth a6.l a25).event).Uid, (((nth a6.l a25).event).Anti)⟩ : api_Message), (nth a6.l a25).fault, (nth a6.l a25).sent, (⟨true, a26⟩ : Pt api_State)⟩ : log_done))) else none) else (if 0 ≤ a25 ∧ a25 < (a6.l.length : Int) then ((log_done_entry.f (⟨(⟨((nth a6.l a25).event).Key, ((nth a6.l a25).event).To, ((nth a6.l a25).event).Value, ((nth a6.l a25).event).Uid, (((nth a6.l a25).event).Anti)⟩ : api_Message), (nth a6.l a25).fault, (nth a6.l a25).sent, (nth a6.l a25).ahead⟩ : log_done) a26).bind fun t116 => (if (a20.length + ([t116]).length) * 168 ≤ 140737488355328 then some (.inr ((a20 ++ ([t116])))) else none)) else none))
theorem log_Log_Drop_round0.ok {a6 : log_Log} {a18 : Int} {a20 : (List api_Entry)} {a25 : Int} {a26 : api_State} {b1 : Nat} {rc2 : Loop} {b4 b5 : Nat} {A7 : Option Addr} {c8 : Nat} {A10 : Option Addr} {c11 : Nat} {A13 : Option Addr} {c14 : Nat} {cs15 : List Value} {b17 b19 : Nat} {A21 : Option Addr} {c22 : Nat} {cs23 : List Value} (hr9 : SlR E_api_Instr.rep hf A7 c8 a6.w.Prog) (hr12 : SlR E_api_Link.rep hf A10 c11 a6.w.Links) (hx16 : RepL R_log_done hf cs15 a6.l) (hx24 : RepL R_api_Entry hf cs23 a20) (hr3 : RecF f14 0 71 [(2, .pointer (some ⟨b4, 0, none⟩)), (5, .pointer (some ⟨b17, 0, none⟩)), (6, .pointer (some ⟨b19, 0, none⟩))] rc2) {r : (List log_done) ⊕ (List api_Entry)} (h : log_Log_Drop_round0.f a6 a18 a20 a25 a26 = some r) (hS : St B w (pts b1 (.loop rc2) :: Cl b5 [.slice A7 a6.w.Prog.length c8, .int .i64 a6.w.Self, .slice A10 a6.w.Links.length c11, .int .u64 a6.w.Seed, .bool a6.made, .int .i64 a6.state.Regs.c0, .int .i64 a6.state.Regs.c1, .int .i64 a6.state.Regs.c2, .int .i64 a6.state.Regs.c3, .int .i64 a6.state.Regs.c4, .int .i64 a6.state.Regs.c5, .int .i64 a6.state.Regs.c6, .int .i64 a6.state.Regs.c7, .int .i64 a6.state.Draws, .int .i64 a6.state.Sent, .int .i64 a6.every, .slice A13 a6.l.length c14, .bool a6.stuck] 58 :: OSl 67 10 (.slice A13 a6.l.length c14) a6.l.length cs15 :: Cl b4 [.pointer (some ⟨b5, 0, none⟩)] 32 :: Cl b17 [.int .i64 a18] 3 :: Cl b19 [.slice A21 a20.length c22] 49 :: OSl 43 19 (.slice A21 a20.length c22) a20.length cs23 :: l) hf) :
    Yld prog b1 [.int .i64 a25, .agg #[.int .i64 a26.Regs.c0, .int .i64 a26.Regs.c1, .int .i64 a26.Regs.c2, .int .i64 a26.Regs.c3, .int .i64 a26.Regs.c4, .int .i64 a26.Regs.c5, .int .i64 a26.Regs.c6, .int .i64 a26.Regs.c7, .int .i64 a26.Draws, .int .i64 a26.Sent]] w (Ret fun v w => match (generalizing := false) r with | .inl r_ => ∃ hf_ : Hp, Sub hf hf_ ∧ ∃ (A_1 : Option Addr) (c_2 : Nat) (cs_3 : List Value), v = .bool false ∧ St B w (OSl 67 10 (.slice A_1 r_.length c_2) r_.length cs_3 :: pts b1 (.loop (pd rc2 (.exit 2))) :: Cl b5 [.slice A7 a6.w.Prog.length c8, .int .i64 a6.w.Self, .slice A10 a6.w.Links.length c11, .int .u64 a6.w.Seed, .bool a6.made, .int .i64 a6.state.Regs.c0, .int .i64 a6.state.Regs.c1, .int .i64 a6.state.Regs.c2, .int .i64 a6.state.Regs.c3, .int .i64 a6.state.Regs.c4, .int .i64 a6.state.Regs.c5, .int .i64 a6.state.Regs.c6, .int .i64 a6.state.Regs.c7, .int .i64 a6.state.Draws, .int .i64 a6.state.Sent, .int .i64 a6.every, .slice A_1 r_.length c_2, .bool a6.stuck] 58 :: Cl b4 [.pointer (some ⟨b5, 0, none⟩)] 32 :: Cl b17 [.int .i64 a18] 3 :: Cl b19 [.slice A21 a20.length c22] 49 :: OSl 43 19 (.slice A21 a20.length c22) a20.length cs23 :: l) hf_ ∧ RepL R_log_done hf_ cs_3 r_ | .inr (r_) => ∃ hf_ : Hp, Sub hf hf_ ∧ ∃ (A_5 : Option Addr) (c_6 : Nat) (cs_7 : List Value), v = .bool true ∧ St B w (OSl 43 19 (.slice A_5 r_.length c_6) r_.length cs_7 :: pts b1 (.loop rc2) :: Cl b5 [.slice A7 a6.w.Prog.length c8, .int .i64 a6.w.Self, .slice A10 a6.w.Links.length c11, .int .u64 a6.w.Seed, .bool a6.made, .int .i64 a6.state.Regs.c0, .int .i64 a6.state.Regs.c1, .int .i64 a6.state.Regs.c2, .int .i64 a6.state.Regs.c3, .int .i64 a6.state.Regs.c4, .int .i64 a6.state.Regs.c5, .int .i64 a6.state.Regs.c6, .int .i64 a6.state.Regs.c7, .int .i64 a6.state.Draws, .int .i64 a6.state.Sent, .int .i64 a6.every, .slice A13 a6.l.length c14, .bool a6.stuck] 58 :: OSl 67 10 (.slice A13 a6.l.length c14) a6.l.length cs15 :: Cl b4 [.pointer (some ⟨b5, 0, none⟩)] 32 :: Cl b17 [.int .i64 a18] 3 :: Cl b19 [.slice A_5 r_.length c_6] 49 :: l) hf_ ∧ RepL R_api_Entry hf_ cs_7 r_) := by
  have h := Holds.of h
  refine Yld.of (psl := [36, 37]) hS hr3 rfl rfl rfl ?_
  show RC _ ⟨71, [], false⟩ _ _ [(37, .agg #[.int .i64 a26.Regs.c0, .int .i64 a26.Regs.c1, .int .i64 a26.Regs.c2, .int .i64 a26.Regs.c3, .int .i64 a26.Regs.c4, .int .i64 a26.Regs.c5, .int .i64 a26.Regs.c6, .int .i64 a26.Regs.c7, .int .i64 a26.Draws, .int .i64 a26.Sent]), (36, .int .i64 a25), (2, .pointer (some ⟨b4, 0, none⟩)), (5, .pointer (some ⟨b17, 0, none⟩)), (6, .pointer (some ⟨b19, 0, none⟩))] w
  refine sr (pn 1 rfl (ln (RC.region (al hS zeroValue38 rfl rfl rfl fun b79 w hS => RL.e0 (OW.store (vs := [.int .i64 a26.Regs.c0, .int .i64 a26.Regs.c1, .int .i64 a26.Regs.c2, .int .i64 a26.Regs.c3, .int .i64 a26.Regs.c4, .int .i64 a26.Regs.c5, .int .i64 a26.Regs.c6, .int .i64 a26.Regs.c7, .int .i64 a26.Draws, .int .i64 a26.Sent]) 0 hS rfl rfl rfl rfl sizeOf38 rfl rfl rfl rfl) rfl ?_))))
  rintro _ w ⟨rfl, hS⟩
  have hS : St B w (Cl _ [_, _, _, _, _, _, _, _, _, _] _ :: _ :: _ :: _ :: _ :: _ :: _ :: _ :: l) hf := hS
  refine ln (RQ.bg hS.p1 hr3.state rfl fun w hS => RC.block (RC.seq (sr (pn 1 rfl (RL.s (Vl.ld 5 hS isAgg3 rfl rfl rfl) rfl (pn 1 rfl (ln ?_)))))))
  refine RC.iteP 40 rfl h (fun hc94 h => ?_) fun hc94 h => ?_
  next =>
   refine RC.condT rfl (sr (RL.s (Vl.ld 4 hS isAgg32 rfl rfl rfl) rfl (pn 1 rfl (RL.s (Vl.fa 16 underlying58 rfl sizeOf56 rfl rfl) rfl (RL.s (Vl.ld 2 hS isAgg56 rfl rfl rfl) rfl (pn 1 rfl ?_))))))
   obtain ⟨⟨hq95, hq96⟩, h⟩ := h.req
   refine RL.s (Vl.indexOwn 3 hS rfl underlying56 sizeOf67 rfl rfl hq95 hq96) rfl (RL.s (Vl.fieldAddr (a'' := (ad A13).add (a25.toNat * 10 + 9)) underlying67 rfl sizeOf65 rfl (add_add _ _ _)) rfl ?_)
   obtain ⟨hf, hs97, hS, hr98⟩ := St.freeze (E := E_api_State) (x := a26) hS.p1 rfl
   obtain ⟨_, ⟨A100, c101, b103, rfl, hr102, hr104⟩, hl99⟩ := RepL.elem R_log_done_ok (hx16.mono hs97) hq95 hq96
   refine RL.e0 (OW.storeR (off := 9) (j := a25) (k := [.int .i64 ((((nth a6.l a25).event).Key).Time), .int .i64 ((((nth a6.l a25).event).Key).From), .int .i64 ((((nth a6.l a25).event).Key).Seq), .int .i64 (((nth a6.l a25).event).To), .int .i64 (((nth a6.l a25).event).Value), .int .i64 (((nth a6.l a25).event).Uid), .bool (((nth a6.l a25).event).Anti), .int .i64 ((nth a6.l a25).fault), .slice A100 ((nth a6.l a25).sent).length c101, .pointer (pz b103 ((nth a6.l a25).ahead).has)]) (vs := [.pointer (some ⟨b79, 0, none⟩)]) (x' := (⟨(⟨((nth a6.l a25).event).Key, ((nth a6.l a25).event).To, ((nth a6.l a25).event).Value, ((nth a6.l a25).event).Uid, (((nth a6.l a25).event).Anti)⟩ : api_Message), (nth a6.l a25).fault, (nth a6.l a25).sent, (⟨true, a26⟩ : Pt api_State)⟩ : log_done)) R_log_done_ok 2 hS rfl (hx16.mono hs97) rfl rfl rfl sizeOf65 rfl (Nat.succ_pos _) hq95 hq96 (Nat.le_of_ble_eq_true rfl) rfl hl99 ⟨_, _, _, rfl, hr102, hr98.pt⟩ rfl) rfl ?_
   rintro _ w ⟨rfl, cs105, hx106, hS⟩
   have he107 := (hS.osN 0 rfl).1
   have hS : St B w (_ :: _ :: _ :: _ :: _ :: _ :: _ :: l) hf := (congrArg (fun k_ : Nat => St B w (OSl 67 10 (.slice A13 k_ c14) (setL a6.l a25 (⟨(⟨((nth a6.l a25).event).Key, ((nth a6.l a25).event).To, ((nth a6.l a25).event).Value, ((nth a6.l a25).event).Uid, (((nth a6.l a25).event).Anti)⟩ : api_Message), (nth a6.l a25).fault, (nth a6.l a25).sent, (⟨true, a26⟩ : Pt api_State)⟩ : log_done)).length cs105 :: pts b1 (.loop (busy rc2)) :: Cl b5 [.slice A7 a6.w.Prog.length c8, .int .i64 a6.w.Self, .slice A10 a6.w.Links.length c11, .int .u64 a6.w.Seed, .bool a6.made, .int .i64 a6.state.Regs.c0, .int .i64 a6.state.Regs.c1, .int .i64 a6.state.Regs.c2, .int .i64 a6.state.Regs.c3, .int .i64 a6.state.Regs.c4, .int .i64 a6.state.Regs.c5, .int .i64 a6.state.Regs.c6, .int .i64 a6.state.Regs.c7, .int .i64 a6.state.Draws, .int .i64 a6.state.Sent, .int .i64 a6.every, .slice A13 k_ c14, .bool a6.stuck] 58 :: Cl b4 [.pointer (some ⟨b5, 0, none⟩)] 32 :: Cl b17 [.int .i64 a18] 3 :: Cl b19 [.slice A21 a20.length c22] 49 :: OSl 43 19 (.slice A21 a20.length c22) a20.length cs23 :: l) hf) he107).mp hS
   refine RL.re 44 rfl (congrArg (fun k_ : Nat => (.slice A13 k_ c14 : Value)) he107) (ln (RC.exit (RQ.exitT (RQ.inB_miss rfl ?_))))
   obtain rfl := h.some
   exact RQ.rx hS.p1 fun w hS => ⟨_, hs97, A13, c14, cs105, rfl, hS.p1, hx106⟩
  next =>
   refine RC.condF rfl (sk (RC.planS (plD [1, 4, 6, 9, 13, 15, 19, 22, 26, 29, 32, 35, 38]) [11, 12] hS (fun w hS => hS) follows rfl (by kernel_rfl) (NoTmp.block NoTmp.round) fun w hS => RP.s 0 0 rfl rfl hS (fun w hS => Vl.ld 6 hS isAgg49 rfl rfl rfl) rfl (RP.s 0 1 rfl rfl hS (fun w hS => Vl.ld 4 hS isAgg32 rfl rfl rfl) rfl (pp 1 rfl (RP.s0 3 rfl (fun w => Vl.fa 16 underlying58 rfl sizeOf56 rfl rfl) rfl (RP.s 0 4 rfl rfl hS (fun w hS => Vl.ld 2 hS isAgg56 rfl rfl rfl) rfl (pp 1 rfl ?_)))))))
   obtain ⟨⟨hq108, hq109⟩, h⟩ := h.req
   refine RP.s 0 6 rfl rfl hS (fun w hS => Vl.indexOwn 3 hS rfl underlying56 sizeOf67 rfl rfl hq108 hq109) rfl ?_
   obtain ⟨_, ⟨A111, c112, b114, rfl, hr113, hr115⟩, hl110⟩ := RepL.elem R_log_done_ok hx16 hq108 hq109
   refine RP.s 0 7 rfl rfl hS (fun w hS => Vl.loadA (vs := [.int .i64 ((((nth a6.l a25).event).Key).Time), .int .i64 ((((nth a6.l a25).event).Key).From), .int .i64 ((((nth a6.l a25).event).Key).Seq), .int .i64 (((nth a6.l a25).event).To), .int .i64 (((nth a6.l a25).event).Value), .int .i64 (((nth a6.l a25).event).Uid), .bool (((nth a6.l a25).event).Anti), .int .i64 ((nth a6.l a25).fault), .slice A111 ((nth a6.l a25).sent).length c112, .pointer (pz b114 ((nth a6.l a25).ahead).has)]) isAgg67 sizeOf67 rfl rfl (hS.elemCells 3 rfl hl110 (off := 0) rfl)) rfl (RP.v1 8 rfl (Vl.lw 1 hS isAgg38 sizeOf38 rfl rfl rfl) rfl rfl ?_)
   obtain ⟨t116, hg117, h⟩ := h.bind
   have hc := log_done_entry.ok (a1 := (⟨(⟨((nth a6.l a25).event).Key, ((nth a6.l a25).event).To, ((nth a6.l a25).event).Value, ((nth a6.l a25).event).Uid, (((nth a6.l a25).event).Anti)⟩ : api_Message), (nth a6.l a25).fault, (nth a6.l a25).sent, (nth a6.l a25).ahead⟩ : log_done)) hr113 hr115 hg117 hS
   refine RP.e 9 rfl (OW.callF (ls := [.tmp 55, .tmp 56]) rfl call23 hc) rfl rfl ?_
   rintro _ w ⟨A118, c119, rfl, hS⟩
   refine ⟨kp ⟨fun _ => hS.d0, trivial⟩, ?_⟩
   obtain ⟨hf, hs120, hS, hr121⟩ := St.promote hS
   have hx123 : RepL R_api_Entry hf [.int .i64 t116.Event.Key.Time, .int .i64 t116.Event.Key.From, .int .i64 t116.Event.Key.Seq, .int .i64 t116.Event.To, .int .i64 t116.Event.Value, .int .i64 t116.Event.Uid, .bool t116.Event.Anti, .int .i64 t116.Before.Regs.c0, .int .i64 t116.Before.Regs.c1, .int .i64 t116.Before.Regs.c2, .int .i64 t116.Before.Regs.c3, .int .i64 t116.Before.Regs.c4, .int .i64 t116.Before.Regs.c5, .int .i64 t116.Before.Regs.c6, .int .i64 t116.Before.Regs.c7, .int .i64 t116.Before.Draws, .int .i64 t116.Before.Sent, .int .i64 t116.Fault, .slice A118 t116.Sent.length c119] [t116] := (RepL.cons (c := [.int .i64 t116.Event.Key.Time, .int .i64 t116.Event.Key.From, .int .i64 t116.Event.Key.Seq, .int .i64 t116.Event.To, .int .i64 t116.Event.Value, .int .i64 t116.Event.Uid, .bool t116.Event.Anti, .int .i64 t116.Before.Regs.c0, .int .i64 t116.Before.Regs.c1, .int .i64 t116.Before.Regs.c2, .int .i64 t116.Before.Regs.c3, .int .i64 t116.Before.Regs.c4, .int .i64 t116.Before.Regs.c5, .int .i64 t116.Before.Regs.c6, .int .i64 t116.Before.Regs.c7, .int .i64 t116.Before.Draws, .int .i64 t116.Before.Sent, .int .i64 t116.Fault, .slice A118 t116.Sent.length c119]) (r := []) ⟨_, _, rfl, hr121⟩ RepL.nil)
   refine RP.e 10 rfl (OW.buildSliceR (sz := 19) (cs := [.int .i64 t116.Event.Key.Time, .int .i64 t116.Event.Key.From, .int .i64 t116.Event.Key.Seq, .int .i64 t116.Event.To, .int .i64 t116.Event.Value, .int .i64 t116.Event.Uid, .bool t116.Event.Anti, .int .i64 t116.Before.Regs.c0, .int .i64 t116.Before.Regs.c1, .int .i64 t116.Before.Regs.c2, .int .i64 t116.Before.Regs.c3, .int .i64 t116.Before.Regs.c4, .int .i64 t116.Before.Regs.c5, .int .i64 t116.Before.Regs.c6, .int .i64 t116.Before.Regs.c7, .int .i64 t116.Before.Draws, .int .i64 t116.Before.Sent, .int .i64 t116.Fault, .slice A118 t116.Sent.length c119]) hS underlying49 zeroValue43 sizeOf43 (parts := [(0, .tmp 57)]) rfl rfl (by decide) (by decide) (by kernel_rfl)) rfl rfl ?_
   rintro _ w ⟨b122, rfl, hS⟩
   refine ⟨kp ⟨fun _ => (St.down hS.d0 hs120), trivial⟩, ?_⟩
   obtain ⟨hq126, h⟩ := h.req
   obtain ⟨hf, hs124, hS, hr125⟩ := St.promoteR R_api_Entry_ok hS rfl hx123
   refine RP.e 11 rfl (OW.appendR (R := R_api_Entry) R_api_Entry_ok (xs := a20) (ys := [t116]) 7 hS rfl underlying49 type43 rfl rfl rfl rfl (by decide) (by decide) ((hx24.mono hs120).mono hs124) rfl rfl hr125 hq126 rfl) rfl rfl ?_
   rintro _ w ⟨cs129, hx130, hS⟩
   obtain ⟨A127, c128, rfl, _⟩ := hS.osShape 0 rfl
   have hS : St B w (_ :: _ :: _ :: _ :: _ :: _ :: _ :: _ :: l) hf := hS
   refine ⟨kp ⟨(by intro hx; cases hx), trivial⟩, ?_⟩
   refine RP.e0 12 rfl (OW.store (vs := [.slice A127 (a20 ++ ([t116])).length c128]) 7 hS rfl rfl rfl rfl sizeOf49 rfl rfl rfl rfl) rfl ?_
   rintro _ w ⟨rfl, hS⟩
   have hS : St B w (_ :: _ :: _ :: _ :: _ :: _ :: _ :: Cl _ [_] _ :: l) hf := hS
   refine ⟨kp ⟨(by intro hx; cases hx), trivial⟩, ?_⟩
   refine RP.nil (RQ.inB_n ?_)
   obtain rfl := h.some
   exact RQ.rn hS.p1 hr3.state hr3.pending fun w hS => ⟨_, (hs120.trans hs124), A127, c128, cs129, rfl, hS.d2.p1, hx130⟩

end Go.Proofs.Gx
