/-
  The walks of functions, each with what it computes: printed by wip/gx.py.
-/
import Derived.Test.YtioiognklelipaaDoorW0
import Derived.Test.YtioiognklelipaaDoorW1
import Derived.Test.YtioiognklelipaaDoorW5
import Derived.Test.YtioiognklelipaaDoorW9
set_option linter.unusedVariables false
set_option maxRecDepth 100000
set_option maxHeartbeats 4000000
namespace Go.Proofs.Gx
open Go.Sl Tryd
variable {B : Base} {w : World} {l : List HProp} {hf : Hp}
/-! ### (*isochron/log.Log).states$1: function 35 -/
noncomputable def log_Log_states_1v2.j23 (a6 : log_Log) (a18 x725 : Int) (l975 : List api_Entry) (x981 : Int) (y1179 : api_State) : Option ((List api_Entry × api_State × Int) ⊕ ((List log_done × List api_Entry × Int) ⊕ (List api_Entry × Int))) := ((log_Log_Drop_round0.f a6 a18 l975 x981 y1179).bind fun t1194 => match t1194 with | .inl y1196 => some (.inr (.inl (y1196, l975, x725))) | .inr (y1202) => (if 0 ≤ x981 then ((vm_Run.f a6.w y1179 (⟨((nth a6.l x981).event).Key, ((nth a6.l x981).event).To, ((nth a6.l x981).event).Value, ((nth a6.l x981).event).Uid, (((nth a6.l x981).event).Anti)⟩ : api_Message)).bind fun (y1217, y1218, y1219) => some (.inl (y1202, y1217, IntKind.i64.wrap (x981 + 1)))) else none))
noncomputable def log_Log_states_1v2.l21b (a6 : log_Log) (a18 x725 : Int) : List api_Entry × api_State × Int → Option ((List api_Entry × api_State × Int) ⊕ ((List log_done × List api_Entry × Int) ⊕ (List api_Entry × Int)))
  | (l975, y980, x981) => (if x981 < (a6.l.length : Int) then (if 0 ≤ x981 then (if ((nth a6.l x981).ahead).has = true then log_Log_states_1v2.j23 a6 a18 x725 l975 x981 (((nth a6.l x981).ahead).val) else log_Log_states_1v2.j23 a6 a18 x725 l975 x981 y980) else none) else some (.inr (.inr ((l975, x725)))))
noncomputable def log_Log_states_1v2.l21 (a6 : log_Log) (a18 x725 : Int) (s : List api_Entry × api_State × Int) : Option ((List log_done × List api_Entry × Int) ⊕ (List api_Entry × Int)) := loopR (log_Log_states_1v2.l21b a6 a18 x725) s
noncomputable def log_Log_states_1v2.j14 (a6 : log_Log) (a18 : Int) (a20 : (List api_Entry)) (x725 : Int) : Option ((List log_done × List api_Entry × Int) ⊕ (List api_Entry × Int)) := log_Log_states_1v2.l21 a6 a18 x725 (a20, (⟨(⟨0, 0, 0, 0, 0, 0, 0, 0⟩ : Arr8xInti64), 0, 0⟩ : api_State), x725)
noncomputable def log_Log_states_1v2.l24b (a6 : log_Log) (a18 : Int) (a20 : (List api_Entry)) : Int → Option ((Int) ⊕ ((List log_done × List api_Entry × Int) ⊕ (List api_Entry × Int)))
  | (x1251) => (if 0 < x1251 then (if 0 ≤ x1251 ∧ x1251 < (a6.l.length : Int) then (if ((nth a6.l x1251).ahead).has = true then (Option.map Sum.inr (log_Log_states_1v2.j14 a6 a18 a20 x1251)) else some (.inl (IntKind.i64.wrap (x1251 - 1)))) else none) else (Option.map Sum.inr (log_Log_states_1v2.j14 a6 a18 a20 x1251)))
noncomputable def log_Log_states_1v2.l24 (a6 : log_Log) (a18 : Int) (a20 : (List api_Entry)) (s : Int) : Option ((List log_done × List api_Entry × Int) ⊕ (List api_Entry × Int)) := loopR (log_Log_states_1v2.l24b a6 a18 a20) s
noncomputable def log_Log_states_1v2.f (a6 : log_Log) (a18 : Int) (a20 : (List api_Entry)) (a26 : Int) : Option ((List log_done × List api_Entry × Int) ⊕ (List api_Entry × Int)) := log_Log_states_1v2.l24 a6 a18 a20 (a26)
theorem log_Log_states_1v2.ok {a6 : log_Log} {a18 : Int} {a20 : (List api_Entry)} {a26 : Int} {b1 : Nat} {rc2 : Loop} {b4 b5 : Nat} {A7 : Option Addr} {c8 : Nat} {A10 : Option Addr} {c11 : Nat} {A13 : Option Addr} {c14 : Nat} {cs15 : List Value} {b17 b19 : Nat} {A21 : Option Addr} {c22 : Nat} {cs23 : List Value} {b25 b27 : Nat} (hr9 : SlR E_api_Instr.rep hf A7 c8 a6.w.Prog) (hr12 : SlR E_api_Link.rep hf A10 c11 a6.w.Links) (hx16 : RepL R_log_done hf cs15 a6.l) (hx24 : RepL R_api_Entry hf cs23 a20) (hr3 : RecF f14 0 71 [(2, .pointer (some ⟨b4, 0, none⟩)), (5, .pointer (some ⟨b17, 0, none⟩)), (6, .pointer (some ⟨b19, 0, none⟩))] rc2) (hG0 : GlobAt hf 0 (.iface 115 (.agg #[.pointer (some ⟨1, 75, none⟩)]))) {r : (List log_done × List api_Entry × Int) ⊕ (List api_Entry × Int)} (h : log_Log_states_1v2.f a6 a18 a20 a26 = some r) (hS : St B w (pts b1 (.loop rc2) :: Cl b5 [.slice A7 a6.w.Prog.length c8, .int .i64 a6.w.Self, .slice A10 a6.w.Links.length c11, .int .u64 a6.w.Seed, .bool a6.made, .int .i64 a6.state.Regs.c0, .int .i64 a6.state.Regs.c1, .int .i64 a6.state.Regs.c2, .int .i64 a6.state.Regs.c3, .int .i64 a6.state.Regs.c4, .int .i64 a6.state.Regs.c5, .int .i64 a6.state.Regs.c6, .int .i64 a6.state.Regs.c7, .int .i64 a6.state.Draws, .int .i64 a6.state.Sent, .int .i64 a6.every, .slice A13 a6.l.length c14, .bool a6.stuck] 58 :: OSl 67 10 (.slice A13 a6.l.length c14) a6.l.length cs15 :: Cl b4 [.pointer (some ⟨b5, 0, none⟩)] 32 :: Cl b17 [.int .i64 a18] 3 :: Cl b19 [.slice A21 a20.length c22] 49 :: OSl 43 19 (.slice A21 a20.length c22) a20.length cs23 :: Cl b25 [.int .i64 a26] 3 :: Cl b27 [.pointer (some ⟨b5, 0, none⟩)] 32 :: l) hf) :
    Calls prog 35 #[.func (.yield b1) #[] #[], .pointer (some ⟨b25, 0, none⟩), .pointer (some ⟨b27, 0, none⟩)] w (Ret fun v w => match (generalizing := false) r with | .inl r_ => ∃ hf_ : Hp, Sub hf hf_ ∧ ∃ (A_1 : Option Addr) (c_2 : Nat) (cs_3 : List Value) (A_5 : Option Addr) (c_6 : Nat) (cs_7 : List Value), v = .tuple #[] ∧ St B w (OSl 67 10 (.slice A_1 r_.1.length c_2) r_.1.length cs_3 :: OSl 43 19 (.slice A_5 r_.2.1.length c_6) r_.2.1.length cs_7 :: pts b1 (.loop (pd rc2 (.exit 2))) :: Cl b5 [.slice A7 a6.w.Prog.length c8, .int .i64 a6.w.Self, .slice A10 a6.w.Links.length c11, .int .u64 a6.w.Seed, .bool a6.made, .int .i64 a6.state.Regs.c0, .int .i64 a6.state.Regs.c1, .int .i64 a6.state.Regs.c2, .int .i64 a6.state.Regs.c3, .int .i64 a6.state.Regs.c4, .int .i64 a6.state.Regs.c5, .int .i64 a6.state.Regs.c6, .int .i64 a6.state.Regs.c7, .int .i64 a6.state.Draws, .int .i64 a6.state.Sent, .int .i64 a6.every, .slice A_1 r_.1.length c_2, .bool a6.stuck] 58 :: Cl b4 [.pointer (some ⟨b5, 0, none⟩)] 32 :: Cl b17 [.int .i64 a18] 3 :: Cl b19 [.slice A_5 r_.2.1.length c_6] 49 :: Cl b25 [.int .i64 r_.2.2] 3 :: Cl b27 [.pointer (some ⟨b5, 0, none⟩)] 32 :: l) hf_ ∧ RepL R_log_done hf_ cs_3 r_.1 ∧ RepL R_api_Entry hf_ cs_7 r_.2.1 | .inr (r_) => ∃ hf_ : Hp, Sub hf hf_ ∧ ∃ (A_9 : Option Addr) (c_10 : Nat) (cs_11 : List Value), v = .tuple #[] ∧ St B w (OSl 43 19 (.slice A_9 r_.1.length c_10) r_.1.length cs_11 :: pts b1 (.loop rc2) :: Cl b5 [.slice A7 a6.w.Prog.length c8, .int .i64 a6.w.Self, .slice A10 a6.w.Links.length c11, .int .u64 a6.w.Seed, .bool a6.made, .int .i64 a6.state.Regs.c0, .int .i64 a6.state.Regs.c1, .int .i64 a6.state.Regs.c2, .int .i64 a6.state.Regs.c3, .int .i64 a6.state.Regs.c4, .int .i64 a6.state.Regs.c5, .int .i64 a6.state.Regs.c6, .int .i64 a6.state.Regs.c7, .int .i64 a6.state.Draws, .int .i64 a6.state.Sent, .int .i64 a6.every, .slice A13 a6.l.length c14, .bool a6.stuck] 58 :: OSl 67 10 (.slice A13 a6.l.length c14) a6.l.length cs15 :: Cl b4 [.pointer (some ⟨b5, 0, none⟩)] 32 :: Cl b17 [.int .i64 a18] 3 :: Cl b19 [.slice A_9 r_.1.length c_10] 49 :: Cl b25 [.int .i64 r_.2] 3 :: Cl b27 [.pointer (some ⟨b5, 0, none⟩)] 32 :: l) hf_ ∧ RepL R_api_Entry hf_ cs_11 r_.1) := by
  have h := Holds.of h
  refine en func35 rfl ntmps35 rfl ?_
  refine RC.join (fun (s : Int) a w => ∃ (x725 : Int), s = (x725) ∧ Has 68 [(0, .func (.yield b1) #[] #[]), (1, .pointer (some ⟨b25, 0, none⟩)), (2, .pointer (some ⟨b27, 0, none⟩))] a ∧ St B w (OSl 67 10 (.slice A13 a6.l.length c14) a6.l.length cs15 :: OSl 43 19 (.slice A21 a20.length c22) a20.length cs23 :: pts b1 (.loop rc2) :: Cl b5 [.slice A7 a6.w.Prog.length c8, .int .i64 a6.w.Self, .slice A10 a6.w.Links.length c11, .int .u64 a6.w.Seed, .bool a6.made, .int .i64 a6.state.Regs.c0, .int .i64 a6.state.Regs.c1, .int .i64 a6.state.Regs.c2, .int .i64 a6.state.Regs.c3, .int .i64 a6.state.Regs.c4, .int .i64 a6.state.Regs.c5, .int .i64 a6.state.Regs.c6, .int .i64 a6.state.Regs.c7, .int .i64 a6.state.Draws, .int .i64 a6.state.Sent, .int .i64 a6.every, .slice A13 a6.l.length c14, .bool a6.stuck] 58 :: Cl b4 [.pointer (some ⟨b5, 0, none⟩)] 32 :: Cl b17 [.int .i64 a18] 3 :: Cl b19 [.slice A21 a20.length c22] 49 :: Cl b25 [.int .i64 x725] 3 :: Cl b27 [.pointer (some ⟨b5, 0, none⟩)] 32 :: l) hf ∧ Holds (· = r) (log_Log_states_1v2.j14 a6 a18 a20 x725)) ?_ ?_
  · rintro x725 a w ⟨_, rfl, ha, hS, h⟩
    revert a
    show RC _ _ _ _ _ _
    refine sr (al hS zeroValue38 rfl rfl rfl fun b726 w hS => lnsr (RL.s (Vl.ld 8 hS isAgg3 rfl rfl rfl) rfl (pn 1 rfl (ln (RC.block ?_)))))
    refine fun a ha => RC.loop (N := 68) (body := (log_Log_states_1v2.l21b a6 a18 x725)) (φ := (· = r)) (fun (s : List api_Entry × api_State × Int) a w => ∃ (l975 : List api_Entry) (y980 : api_State) (x981 : Int), s = (l975, y980, x981) ∧ ∃ hf_ : Hp, Sub hf hf_ ∧ ∃ (A976 : Option Addr) (c977 : Nat) (cs978 : List Value), Has 68 [(0, .func (.yield b1) #[] #[]), (2, .pointer (some ⟨b27, 0, none⟩)), (4, .pointer (some ⟨b726, 0, none⟩)), (5, .int .i64 x981)] a ∧ St B w (OSl 67 10 (.slice A13 a6.l.length c14) a6.l.length cs15 :: OSl 43 19 (.slice A976 l975.length c977) l975.length cs978 :: Cl b726 [.int .i64 y980.Regs.c0, .int .i64 y980.Regs.c1, .int .i64 y980.Regs.c2, .int .i64 y980.Regs.c3, .int .i64 y980.Regs.c4, .int .i64 y980.Regs.c5, .int .i64 y980.Regs.c6, .int .i64 y980.Regs.c7, .int .i64 y980.Draws, .int .i64 y980.Sent] 38 :: pts b1 (.loop rc2) :: Cl b5 [.slice A7 a6.w.Prog.length c8, .int .i64 a6.w.Self, .slice A10 a6.w.Links.length c11, .int .u64 a6.w.Seed, .bool a6.made, .int .i64 a6.state.Regs.c0, .int .i64 a6.state.Regs.c1, .int .i64 a6.state.Regs.c2, .int .i64 a6.state.Regs.c3, .int .i64 a6.state.Regs.c4, .int .i64 a6.state.Regs.c5, .int .i64 a6.state.Regs.c6, .int .i64 a6.state.Regs.c7, .int .i64 a6.state.Draws, .int .i64 a6.state.Sent, .int .i64 a6.every, .slice A13 a6.l.length c14, .bool a6.stuck] 58 :: Cl b4 [.pointer (some ⟨b5, 0, none⟩)] 32 :: Cl b17 [.int .i64 a18] 3 :: Cl b19 [.slice A976 l975.length c977] 49 :: Cl b25 [.int .i64 x725] 3 :: Cl b27 [.pointer (some ⟨b5, 0, none⟩)] 32 :: l) hf_ ∧ RepL R_api_Entry hf_ cs978 l975) ?_ (s0 := (a20, (⟨(⟨0, 0, 0, 0, 0, 0, 0, 0⟩ : Arr8xInti64), 0, 0⟩ : api_State), x725)) h ⟨a20, (⟨(⟨0, 0, 0, 0, 0, 0, 0, 0⟩ : Arr8xInti64), 0, 0⟩ : api_State), x725, rfl, _, (Sub.refl _), A21, c22, cs23, ha.to ⟨rfl, rfl, rfl, rfl, trivial⟩, hS.p2.p2, hx24⟩
    rintro G1109 _ a w ⟨l975, y980, x981, rfl, hf, hs847, A976, c977, cs978, ha, hS, hx979⟩ h
    revert a
    show RC _ _ _ _ _ _
    refine RC.seq (sr (pn 1 rfl (RL.s (Vl.ld 9 hS isAgg32 rfl rfl rfl) rfl (pn 1 rfl (RL.s (Vl.fa 16 underlying58 rfl sizeOf56 rfl rfl) rfl (RL.s (Vl.ld 4 hS isAgg56 rfl rfl rfl) rfl (RL.s (Vl.lenSl underlying56 rfl) rfl (pn 1 rfl (ln ?_)))))))))
    refine RC.iteP 29 rfl h (fun hc1111 h => ?_) fun hc1111 h => ?_
    next =>
     refine RC.condT rfl (sk (RC.seq (RC.block ?_)))
     refine RC.join (fun (s : api_State) a w => ∃ (y1179 : api_State), s = (y1179) ∧ Has 68 [(0, .func (.yield b1) #[] #[]), (2, .pointer (some ⟨b27, 0, none⟩)), (4, .pointer (some ⟨b726, 0, none⟩)), (5, .int .i64 x981)] a ∧ St B w (OSl 67 10 (.slice A13 a6.l.length c14) a6.l.length cs15 :: OSl 43 19 (.slice A976 l975.length c977) l975.length cs978 :: Cl b726 [.int .i64 y1179.Regs.c0, .int .i64 y1179.Regs.c1, .int .i64 y1179.Regs.c2, .int .i64 y1179.Regs.c3, .int .i64 y1179.Regs.c4, .int .i64 y1179.Regs.c5, .int .i64 y1179.Regs.c6, .int .i64 y1179.Regs.c7, .int .i64 y1179.Draws, .int .i64 y1179.Sent] 38 :: pts b1 (.loop rc2) :: Cl b5 [.slice A7 a6.w.Prog.length c8, .int .i64 a6.w.Self, .slice A10 a6.w.Links.length c11, .int .u64 a6.w.Seed, .bool a6.made, .int .i64 a6.state.Regs.c0, .int .i64 a6.state.Regs.c1, .int .i64 a6.state.Regs.c2, .int .i64 a6.state.Regs.c3, .int .i64 a6.state.Regs.c4, .int .i64 a6.state.Regs.c5, .int .i64 a6.state.Regs.c6, .int .i64 a6.state.Regs.c7, .int .i64 a6.state.Draws, .int .i64 a6.state.Sent, .int .i64 a6.every, .slice A13 a6.l.length c14, .bool a6.stuck] 58 :: Cl b4 [.pointer (some ⟨b5, 0, none⟩)] 32 :: Cl b17 [.int .i64 a18] 3 :: Cl b19 [.slice A976 l975.length c977] 49 :: Cl b25 [.int .i64 x725] 3 :: Cl b27 [.pointer (some ⟨b5, 0, none⟩)] 32 :: l) hf ∧ Holds (Sum.elim G1109 (· = r)) (log_Log_states_1v2.j23 a6 a18 x725 l975 x981 y1179)) ?_ ?_
     · rintro y1179 a w ⟨_, rfl, ha, hS, h⟩
       revert a
       show RC _ _ _ _ _ _
       refine RC.seq (sr (pn 2 rfl (RL.s (Vl.lw 2 hS isAgg38 sizeOf38 rfl rfl rfl) rfl (yc (fun _ hg1195 => log_Log_Drop_round0.ok (hr9.mono hs847) (hr12.mono hs847) (hx16.mono hs847) hx979 hr3 hg1195 hS.p7.p7.p7.p3.p7.p7) rfl h rfl rfl rfl rfl ?_))))
       intro t1194 h
       rcases t1194 with y1196 | y1202
       · rintro _ w ⟨hf, hs1201, A1197, c1198, cs1199, rfl, hS, hx1200⟩
         have hS : St B w (_ :: _ :: _ :: _ :: _ :: _ :: _ :: _ :: _ :: _ :: l) hf := hS
         refine pn 1 rfl (ln (RC.condT rfl (RC.ret (RQ.ret (RQ.inB_ret (RQ.ret ?_))))))
         have h := h.inrS
         refine RQ.ret (RQ.inB_ret ?_)
         obtain rfl := h.some
         exact rt results35 rfl ⟨_, (hs847.trans hs1201), A1197, c1198, cs1199, A976, c977, cs978, rfl, hS.d7.p6.p1, hx1200, (hx979.mono hs1201)⟩
       · rintro _ w ⟨hf, hs1207, A1203, c1204, cs1205, rfl, hS, hx1206⟩
         have hS : St B w (_ :: _ :: _ :: _ :: _ :: _ :: _ :: _ :: _ :: _ :: l) hf := hS
         refine pn 1 rfl (ln (RC.condF rfl (sk (RC.planS (plD [1, 3, 6, 10, 13, 16, 18, 21, 25, 27, 31, 33, 37, 41, 42, 45, 48, 51, 56]) [18] hS (fun w hS => hS) follows rfl (by kernel_rfl) (NoTmp.block (NoTmp.then (NoTmp.then (NoTmp.block NoTmp.body)))) fun w hS => RP.s 0 0 rfl rfl hS (fun w hS => Vl.ld 9 hS isAgg32 rfl rfl rfl) rfl (pp 1 rfl (RP.s0 2 rfl (fun w => Vl.fa 0 underlying58 rfl sizeOf26 rfl rfl) rfl (RP.s 0 3 rfl rfl hS (fun w hS => Vl.loadA (vs := [.slice A7 a6.w.Prog.length c8, .int .i64 a6.w.Self, .slice A10 a6.w.Links.length c11, .int .u64 a6.w.Seed]) isAgg26 sizeOf26 rfl rfl (hS.cellsAt 2 rfl rfl)) rfl (RP.s 0 4 rfl rfl hS (fun w hS => Vl.lw 7 hS isAgg38 sizeOf38 rfl rfl rfl) rfl (RP.s 0 5 rfl rfl hS (fun w hS => Vl.ld 9 hS isAgg32 rfl rfl rfl) rfl (pp 1 rfl (RP.s0 7 rfl (fun w => Vl.fa 16 underlying58 rfl sizeOf56 rfl rfl) rfl (RP.s 0 8 rfl rfl hS (fun w hS => Vl.ld 2 hS isAgg56 rfl rfl rfl) rfl ?_))))))))))))
         refine pp 1 rfl ?_
         obtain ⟨hq1208, h⟩ := h.req
         refine RP.s 0 10 rfl rfl hS (fun w hS => Vl.indexOwn 3 hS rfl underlying56 sizeOf67 rfl rfl hq1208 hc1111) rfl (RP.s0 11 rfl (fun w => Vl.fieldAddr (a'' := (ad A13).add (x981.toNat * 10 + 0)) underlying67 rfl sizeOf30 rfl (add_add _ _ _)) rfl ?_)
         obtain ⟨_, ⟨A1210, c1211, b1213, rfl, hr1212, hr1214⟩, hl1209⟩ := RepL.elem R_log_done_ok ((hx16.mono hs847).mono hs1207) hq1208 hc1111
         refine RP.s 0 12 rfl rfl hS (fun w hS => Vl.loadA (vs := [.int .i64 ((((nth a6.l x981).event).Key).Time), .int .i64 ((((nth a6.l x981).event).Key).From), .int .i64 ((((nth a6.l x981).event).Key).Seq), .int .i64 (((nth a6.l x981).event).To), .int .i64 (((nth a6.l x981).event).Value), .int .i64 (((nth a6.l x981).event).Uid), .bool (((nth a6.l x981).event).Anti)]) isAgg30 sizeOf30 rfl rfl (hS.elemCells 3 rfl hl1209 (off := 0) rfl)) rfl ?_
         obtain ⟨t1215, hg1216, h⟩ := h.bind
         have hc := vm_Run.ok ((hr9.mono hs847).mono hs1207) ((hr12.mono hs847).mono hs1207) ((hG0.mono hs847).mono hs1207) hg1216 hS
         obtain ⟨y1217, y1218, y1219⟩ := t1215
         refine RP.e 13 rfl (OW.callF (ls := [.tmp 54, .tmp 55, .tmp 63]) rfl call32 hc) rfl rfl ?_
         rintro _ w ⟨A1220, c1221, rfl, hS⟩
         refine ⟨kp ⟨fun _ => hS.d0, trivial⟩, ?_⟩
         refine pp 4 rfl (RP.e0 18 rfl (OW.store (vs := [.int .i64 y1217.Regs.c0, .int .i64 y1217.Regs.c1, .int .i64 y1217.Regs.c2, .int .i64 y1217.Regs.c3, .int .i64 y1217.Regs.c4, .int .i64 y1217.Regs.c5, .int .i64 y1217.Regs.c6, .int .i64 y1217.Regs.c7, .int .i64 y1217.Draws, .int .i64 y1217.Sent]) 8 hS rfl rfl rfl rfl sizeOf38 rfl rfl rfl rfl) rfl ?_)
         rintro _ w ⟨rfl, hS⟩
         have hS : St B w (_ :: _ :: _ :: _ :: _ :: _ :: _ :: _ :: Cl _ [_, _, _, _, _, _, _, _, _, _] _ :: _ :: _ :: l) hf := hS
         refine ⟨kp ⟨(by intro hx; cases hx), trivial⟩, ?_⟩
         refine RP.nil (RQ.inB_n (RQ.then_n (RC.region (pn 3 rfl (RL.nil ?_)))))
         exact fun a ha => ⟨(y1202, y1217, IntKind.i64.wrap (x981 + 1)), ⟨y1202, y1217, (IntKind.i64.wrap (x981 + 1)), rfl, _, (hs847.trans hs1207), A1203, c1204, cs1205, ha.to ⟨rfl, rfl, rfl, rfl, trivial⟩, hS.d0.p7.p1.p4, hx1206⟩, h.some⟩
     · refine RC.seq ?_
       refine RC.region (RL.s (Vl.ld 9 hS isAgg32 rfl rfl rfl) rfl (pn 1 rfl (RL.s (Vl.fa 16 underlying58 rfl sizeOf56 rfl rfl) rfl (RL.s (Vl.ld 4 hS isAgg56 rfl rfl rfl) rfl (pn 1 rfl ?_)))))
       obtain ⟨hq1222, h⟩ := h.req
       refine RL.s (Vl.indexOwn 0 hS rfl underlying56 sizeOf67 rfl rfl hq1222 hc1111) rfl (RL.s (Vl.fieldAddr (a'' := (ad A13).add (x981.toNat * 10 + 9)) underlying67 rfl sizeOf65 rfl (add_add _ _ _)) rfl ?_)
       obtain ⟨_, ⟨A1224, c1225, b1227, rfl, hr1226, hr1228⟩, hl1223⟩ := RepL.elem R_log_done_ok (hx16.mono hs847) hq1222 hc1111
       refine RL.s (Vl.load isAgg65 rfl (hS.litCell 0 rfl (hl1223 9 _ rfl))) rfl (pn 1 rfl (lnsr (pn 1 rfl (RL.s (Vl.ptNeq (fun b w => by kernel_rfl) (fun w => by kernel_rfl) rfl rfl) rfl (ln ?_)))))
       refine RC.iteB 41 rfl h (fun hc1229 h => ?_) fun hc1229 h => ?_
       next =>
        refine RC.condT rfl (RC.region (pn 1 rfl (RL.s (Vl.nilCheckO hc1229 rfl) rfl (RL.s (Vl.loadA (vs := [.int .i64 (((((nth a6.l x981).ahead).val).Regs).c0), .int .i64 (((((nth a6.l x981).ahead).val).Regs).c1), .int .i64 (((((nth a6.l x981).ahead).val).Regs).c2), .int .i64 (((((nth a6.l x981).ahead).val).Regs).c3), .int .i64 (((((nth a6.l x981).ahead).val).Regs).c4), .int .i64 (((((nth a6.l x981).ahead).val).Regs).c5), .int .i64 (((((nth a6.l x981).ahead).val).Regs).c6), .int .i64 (((((nth a6.l x981).ahead).val).Regs).c7), .int .i64 ((((nth a6.l x981).ahead).val).Draws), .int .i64 ((((nth a6.l x981).ahead).val).Sent)]) isAgg38 sizeOf38 rfl rfl ((hr1228.on hc1229).cells hS.sub)) rfl (RL.e0 (OW.store (vs := [.int .i64 (((((nth a6.l x981).ahead).val).Regs).c0), .int .i64 (((((nth a6.l x981).ahead).val).Regs).c1), .int .i64 (((((nth a6.l x981).ahead).val).Regs).c2), .int .i64 (((((nth a6.l x981).ahead).val).Regs).c3), .int .i64 (((((nth a6.l x981).ahead).val).Regs).c4), .int .i64 (((((nth a6.l x981).ahead).val).Regs).c5), .int .i64 (((((nth a6.l x981).ahead).val).Regs).c6), .int .i64 (((((nth a6.l x981).ahead).val).Regs).c7), .int .i64 ((((nth a6.l x981).ahead).val).Draws), .int .i64 ((((nth a6.l x981).ahead).val).Sent)]) 2 hS rfl rfl rfl rfl sizeOf38 rfl rfl rfl rfl) rfl ?_)))))
        rintro _ w ⟨rfl, hS⟩
        have hS : St B w (_ :: _ :: Cl _ [_, _, _, _, _, _, _, _, _, _] _ :: _ :: _ :: _ :: _ :: _ :: _ :: _ :: l) hf := hS
        refine RL.nil ?_
        exact fun a ha => ⟨(((nth a6.l x981).ahead).val), (((nth a6.l x981).ahead).val), rfl, ha.to ⟨rfl, rfl, rfl, rfl, trivial⟩, hS, h⟩
       next =>
        refine RC.condF rfl (RC.skip ?_)
        exact fun a ha => ⟨(y980), y980, rfl, ha.to ⟨rfl, rfl, rfl, rfl, trivial⟩, hS, h⟩
    next =>
     refine RC.condF rfl (RC.exit (RQ.exitT ?_))
     have h := h.inrS
     refine RQ.exitT (RQ.inB_hit ?_)
     obtain rfl := h.some
     exact rtE results35 rfl ⟨_, hs847, A976, c977, cs978, rfl, hS.d2.p3.p3.p3, hx979⟩
  · refine RC.block ?_
    refine fun a ha => RC.loop (N := 68) (body := (log_Log_states_1v2.l24b a6 a18 a20)) (φ := (· = r)) (fun (s : Int) a w => ∃ (x1251 : Int), s = (x1251) ∧ Has 68 [(0, .func (.yield b1) #[] #[]), (1, .pointer (some ⟨b25, 0, none⟩)), (2, .pointer (some ⟨b27, 0, none⟩))] a ∧ St B w (OSl 67 10 (.slice A13 a6.l.length c14) a6.l.length cs15 :: OSl 43 19 (.slice A21 a20.length c22) a20.length cs23 :: pts b1 (.loop rc2) :: Cl b5 [.slice A7 a6.w.Prog.length c8, .int .i64 a6.w.Self, .slice A10 a6.w.Links.length c11, .int .u64 a6.w.Seed, .bool a6.made, .int .i64 a6.state.Regs.c0, .int .i64 a6.state.Regs.c1, .int .i64 a6.state.Regs.c2, .int .i64 a6.state.Regs.c3, .int .i64 a6.state.Regs.c4, .int .i64 a6.state.Regs.c5, .int .i64 a6.state.Regs.c6, .int .i64 a6.state.Regs.c7, .int .i64 a6.state.Draws, .int .i64 a6.state.Sent, .int .i64 a6.every, .slice A13 a6.l.length c14, .bool a6.stuck] 58 :: Cl b4 [.pointer (some ⟨b5, 0, none⟩)] 32 :: Cl b17 [.int .i64 a18] 3 :: Cl b19 [.slice A21 a20.length c22] 49 :: Cl b25 [.int .i64 x1251] 3 :: Cl b27 [.pointer (some ⟨b5, 0, none⟩)] 32 :: l) hf) ?_ (s0 := (a26)) h ⟨a26, rfl, ha.to ⟨rfl, rfl, rfl, trivial⟩, hS.p6.p3⟩
    rintro G1273 x1251 a w ⟨_, rfl, ha, hS⟩ h
    revert a
    show RC _ _ _ _ _ _
    refine RC.seq (RC.seq (RC.planS (plD [1, 3, 6, 10, 12, 15, 19, 23, 26, 29, 32, 35, 38]) [8, 9, 10, 11, 12] hS (fun w hS => hS) follows rfl (by kernel_rfl) (NoTmp.then (NoTmp.then (NoTmp.then (NoTmp.block (NoTmp.then NoTmp.body))))) fun w hS => RP.s 0 0 rfl rfl hS (fun w hS => Vl.ld 7 hS isAgg3 rfl rfl rfl) rfl (pp 2 rfl ?_)))
    refine RP.iteP 9 rfl h (fun hc1284 h => ?_) fun hc1284 h => ?_
    next =>
     refine RP.sg 0 3 rfl rfl hS (fun w hS => Vl.ld 8 hS isAgg32 rfl rfl rfl) rfl rfl (pp 1 rfl (RP.sg0 5 rfl (fun w => Vl.fa 16 underlying58 rfl sizeOf56 rfl rfl) rfl rfl (RP.sg 0 6 rfl rfl hS (fun w hS => Vl.ld 3 hS isAgg56 rfl rfl rfl) rfl rfl (RP.v1 7 rfl (Vl.ld 7 hS isAgg3 rfl rfl rfl) rfl rfl ?_))))
     obtain ⟨⟨hq1285, hq1286⟩, h⟩ := h.req
     refine RP.v1 8 rfl (Vl.indexOwn 0 hS rfl underlying56 sizeOf67 rfl rfl hq1285 hq1286) rfl rfl (RP.v1 9 rfl (Vl.fieldAddr (a'' := (ad A13).add (x1251.toNat * 10 + 9)) underlying67 rfl sizeOf65 rfl (add_add _ _ _)) rfl rfl ?_)
     obtain ⟨_, ⟨A1288, c1289, b1291, rfl, hr1290, hr1292⟩, hl1287⟩ := RepL.elem R_log_done_ok hx16 hq1285 hq1286
     refine RP.v1 10 rfl (Vl.load isAgg65 rfl (hS.litCell 0 rfl (hl1287 9 _ rfl))) rfl rfl (RP.v1 11 rfl (Vl.ptEql (fun b w => by kernel_rfl) (fun w => by kernel_rfl) rfl rfl) rfl rfl (RP.v1 12 rfl (Vl.pickT rfl rfl) rfl rfl (RP.nil (RQ.then_n ?_))))
     refine RC.iteM 19 rfl h (fun hc1293 h => ?_) fun hc1293 h => ?_
     next =>
      refine RC.condF rfl (RC.exit (RQ.exitT ?_))
      have h := h.inr
      refine RQ.exitT (RQ.inB_hit ?_)
      exact fun a ha => ⟨(x1251), x1251, rfl, ha.to ⟨rfl, rfl, rfl, trivial⟩, hS, h⟩
     next =>
      refine RC.condT rfl (sk (RC.block (RC.region (RL.s (Vl.ld 7 hS isAgg3 rfl rfl rfl) rfl (pn 1 rfl (RL.e0 (OW.store (vs := [.int .i64 (IntKind.i64.wrap (x1251 - 1))]) 7 hS rfl rfl rfl rfl sizeOf3 rfl rfl rfl rfl) rfl ?_))))))
      rintro _ w ⟨rfl, hS⟩
      have hS : St B w (_ :: _ :: _ :: _ :: _ :: _ :: _ :: Cl _ [_] _ :: _ :: l) hf := hS
      refine RL.nil (RQ.inB_n ?_)
      exact fun a ha => ⟨(IntKind.i64.wrap (x1251 - 1)), ⟨(IntKind.i64.wrap (x1251 - 1)), rfl, ha.to ⟨rfl, rfl, rfl, trivial⟩, hS⟩, h.some⟩
    next =>
     refine RP.nn 0 3 rfl rfl rfl (pp 2 rfl (RP.nn 0 6 rfl rfl rfl (RP.n1 7 rfl rfl rfl (RP.n1 8 rfl rfl rfl (RP.n1 9 rfl rfl rfl (RP.n1 10 rfl rfl rfl (RP.n1 11 rfl rfl rfl (RP.v1 12 rfl (Vl.pickF rfl rfl) rfl rfl (RP.nil (RQ.then_n (RC.condF rfl (RC.exit (RQ.exitT ?_)))))))))))))
     have h := h.inr
     refine RQ.exitT (RQ.inB_hit ?_)
     exact fun a ha => ⟨(x1251), x1251, rfl, ha.to ⟨rfl, rfl, rfl, trivial⟩, hS, h⟩

/-! ### (*isochron/log.Log).Drop: function 14 -/
noncomputable def log_Log_Drop.j5 (a2 : log_Log) (x294 : Int) : Option (List api_Entry × List log_done) := ((log_Log_states.f a2 0).bind fun t325 => ((log_Log_states_1v2.f a2 x294 ([] : List api_Entry) t325).bind fun t333 => match t333 with | .inl (y335, y336, y337) => (if 0 ≤ x294 ∧ x294 ≤ (y335.length : Int) then (if (([] : List log_done).length + (subL y335 x294 (y335.length : Int)).length) * 96 ≤ 140737488355328 then some (y336, (([] : List log_done) ++ (subL y335 x294 (y335.length : Int)))) else none) else none) | .inr ((y365, y366)) => (if 0 ≤ x294 ∧ x294 ≤ (a2.l.length : Int) then (if (([] : List log_done).length + (subL a2.l x294 (a2.l.length : Int)).length) * 96 ≤ 140737488355328 then some (y365, (([] : List log_done) ++ (subL a2.l x294 (a2.l.length : Int)))) else none) else none)))
noncomputable def log_Log_Drop.l6b (a2 : log_Log) (a13 : Int) : Int → Option ((Int) ⊕ (List api_Entry × List log_done))
  | (x407) => (if x407 < (a2.l.length : Int) then (if 0 ≤ x407 then (if (((nth a2.l x407).event).Key).Time < a13 then some (.inl (IntKind.i64.wrap (x407 + 1))) else (Option.map Sum.inr (log_Log_Drop.j5 a2 x407))) else none) else (Option.map Sum.inr (log_Log_Drop.j5 a2 x407)))
noncomputable def log_Log_Drop.l6 (a2 : log_Log) (a13 : Int) (s : Int) : Option (List api_Entry × List log_done) := loopR (log_Log_Drop.l6b a2 a13) s
noncomputable def log_Log_Drop.f (a2 : log_Log) (a13 : Int) : Option (List api_Entry × List log_done) := ((log_Log_none.f a2).bind fun t234 => (if t234 = true then some (([] : List api_Entry), a2.l) else log_Log_Drop.l6 a2 a13 (0)))
theorem log_Log_Drop.ok {a2 : log_Log} {a13 : Int} {b1 : Nat} {A3 : Option Addr} {c4 : Nat} {A6 : Option Addr} {c7 : Nat} {A9 : Option Addr} {c10 : Nat} {cs11 : List Value} (hr5 : SlR E_api_Instr.rep hf A3 c4 a2.w.Prog) (hr8 : SlR E_api_Link.rep hf A6 c7 a2.w.Links) (hx12 : RepL R_log_done hf cs11 a2.l) (hG0 : GlobAt hf 0 (.iface 115 (.agg #[.pointer (some ⟨1, 75, none⟩)]))) {r : List api_Entry × List log_done} (h : log_Log_Drop.f a2 a13 = some r) (hS : St B w (Cl b1 [.slice A3 a2.w.Prog.length c4, .int .i64 a2.w.Self, .slice A6 a2.w.Links.length c7, .int .u64 a2.w.Seed, .bool a2.made, .int .i64 a2.state.Regs.c0, .int .i64 a2.state.Regs.c1, .int .i64 a2.state.Regs.c2, .int .i64 a2.state.Regs.c3, .int .i64 a2.state.Regs.c4, .int .i64 a2.state.Regs.c5, .int .i64 a2.state.Regs.c6, .int .i64 a2.state.Regs.c7, .int .i64 a2.state.Draws, .int .i64 a2.state.Sent, .int .i64 a2.every, .slice A9 a2.l.length c10, .bool a2.stuck] 58 :: OSl 67 10 (.slice A9 a2.l.length c10) a2.l.length cs11 :: l) hf) :
    Calls prog 14 #[.pointer (some ⟨b1, 0, none⟩), .int .i64 a13] w (Ret fun v w => ∃ hf_ : Hp, Sub hf hf_ ∧ ∃ (A_1 : Option Addr) (c_2 : Nat) (cs_3 : List Value) (A_5 : Option Addr) (c_6 : Nat) (cs_7 : List Value), v = .slice A_1 r.1.length c_2 ∧ St B w (OSl 43 19 (.slice A_1 r.1.length c_2) r.1.length cs_3 :: OSl 67 10 (.slice A_5 r.2.length c_6) r.2.length cs_7 :: Cl b1 [.slice A3 a2.w.Prog.length c4, .int .i64 a2.w.Self, .slice A6 a2.w.Links.length c7, .int .u64 a2.w.Seed, .bool a2.made, .int .i64 a2.state.Regs.c0, .int .i64 a2.state.Regs.c1, .int .i64 a2.state.Regs.c2, .int .i64 a2.state.Regs.c3, .int .i64 a2.state.Regs.c4, .int .i64 a2.state.Regs.c5, .int .i64 a2.state.Regs.c6, .int .i64 a2.state.Regs.c7, .int .i64 a2.state.Draws, .int .i64 a2.state.Sent, .int .i64 a2.every, .slice A_5 r.2.length c_6, .bool a2.stuck] 58 :: l) hf_ ∧ RepL R_api_Entry hf_ cs_3 r.1 ∧ RepL R_log_done hf_ cs_7 r.2) := by
  have h := Holds.of h
  refine enM func14 rfl ntmps14 rfl (sr (bx hS rfl rfl rfl rfl fun b230 w hS => pn 1 rfl (ln (RC.seq (sr (RL.s (Vl.ld 0 hS isAgg32 rfl rfl rfl) rfl (cF (fun _ hg => log_Log_none.ok hr5 hr8 hx12 hg hS.p2.p2) call20 h rfl rfl rfl ?_)))))))
  rintro t234 h _ w ⟨rfl, hS⟩
  refine ln ?_
  refine RC.iteB 10 rfl h (fun hc236 h => ?_) fun hc236 h => ?_
  next =>
   refine RC.condT rfl (sr (pn 1 rfl (lr (RQ.ret ?_))))
   have hS := hS.nilSlR 43 19
   obtain rfl := h.some
   exact rtM0 (vs := [.slice none 0 0]) results14 ⟨rfl, trivial⟩ ⟨_, (Sub.refl _), none, 0, ([]), A9, c10, cs11, rfl, hS.d3.p2.p1, RepL.nil, hx12⟩
  next =>
   refine RC.condF rfl (sk (sr (al hS zeroValue3 rfl rfl rfl fun b237 w hS => RL.e0 (OW.store (vs := [.int .i64 0]) 0 hS rfl rfl rfl rfl sizeOf3 rfl rfl rfl rfl) rfl ?_)))
   rintro _ w ⟨rfl, hS⟩
   have hS : St B w (Cl _ [_] _ :: _ :: _ :: _ :: l) hf := hS
   refine ln ?_
   refine RC.join (fun (s : Int) a w => ∃ (x294 : Int), s = (x294) ∧ Has 71 [(2, .pointer (some ⟨b230, 0, none⟩)), (5, .pointer (some ⟨b237, 0, none⟩))] a ∧ St B w (OSl 67 10 (.slice A9 a2.l.length c10) a2.l.length cs11 :: Cl b237 [.int .i64 x294] 3 :: Cl b1 [.slice A3 a2.w.Prog.length c4, .int .i64 a2.w.Self, .slice A6 a2.w.Links.length c7, .int .u64 a2.w.Seed, .bool a2.made, .int .i64 a2.state.Regs.c0, .int .i64 a2.state.Regs.c1, .int .i64 a2.state.Regs.c2, .int .i64 a2.state.Regs.c3, .int .i64 a2.state.Regs.c4, .int .i64 a2.state.Regs.c5, .int .i64 a2.state.Regs.c6, .int .i64 a2.state.Regs.c7, .int .i64 a2.state.Draws, .int .i64 a2.state.Sent, .int .i64 a2.every, .slice A9 a2.l.length c10, .bool a2.stuck] 58 :: Cl b230 [.pointer (some ⟨b1, 0, none⟩)] 32 :: l) hf ∧ Holds (· = r) (log_Log_Drop.j5 a2 x294)) ?_ ?_
   · rintro x294 a w ⟨_, rfl, ha, hS, h⟩
     revert a
     show RC _ _ _ _ _ _
     refine sr (al hS zeroValue49 rfl rfl rfl fun b295 w hS => ln (RC.seq (sr (RL.s (Vl.ld 4 hS isAgg32 rfl rfl rfl) rfl (cF (fun _ hg => log_Log_states.ok hr5 hr8 hx12 hg hS.p1.p3) call26 h rfl rfl rfl ?_)))))
     rintro t325 h _ w ⟨b327, b328, rfl, hS⟩
     refine ln (RC.block ?_)
     have hS := hS.nilSlR 43 19
     have hS : St B w (_ :: _ :: _ :: _ :: _ :: _ :: _ :: _ :: l) hf := hS
     obtain ⟨t333, hg334, h⟩ := h.bind
     refine RC.rf (args := fun b329 => #[.func (.yield b329) #[] #[], .pointer (some ⟨b327, 0, none⟩), .pointer (some ⟨b328, 0, none⟩)]) rfl call35 rfl hS (fun _ => by simp) (fun b329 d330 rc331 w hr332 hS => log_Log_states_1v2.ok hr5 hr8 hx12 RepL.nil (RecOK.to (M := 71) hr332 rfl rfl ⟨rfl, rfl, rfl, trivial⟩) hG0 hg334 hS.p4.p4.p4.p7.p8.p9.p9.p9.p8) ?_
     rcases t333 with ⟨y335, y336, y337⟩ | ⟨y365, y366⟩
     · rintro b329 d330 rc331 _ w hr332 ⟨hf, hs346, A338, c339, cs340, A342, c343, cs344, rfl, hS, hx341, hx345⟩
       refine RE.x hS.p2 fun w hS => RQ.inB_hit (RQ.then_n (RC.seq (RC.noPan (RC.planS (plD [1, 4, 6, 9, 13, 17, 20, 23, 26, 29, 32]) [8, 9, 10] hS (fun w hS => hS.d0) follows rfl (by kernel_rfl) NoTmp.noPan fun w hS => RP.s 0 0 rfl rfl hS.d0 (fun w hS => Vl.ld 2 hS isAgg32 rfl rfl rfl) rfl (RP.s 0 1 rfl rfl hS.d0 (fun w hS => Vl.ld 2 hS isAgg32 rfl rfl rfl) rfl (pp 1 rfl (RP.s0 3 rfl (fun w => Vl.fa 16 underlying58 rfl sizeOf56 rfl rfl) rfl (RP.s 0 4 rfl rfl hS.d0 (fun w hS => Vl.ld 1 hS isAgg56 rfl rfl rfl) rfl (RP.v1 5 rfl (Vl.ld 4 hS isAgg3 rfl rfl rfl) rfl rfl ?_)))))))))
       obtain ⟨⟨hq356, hq357⟩, h⟩ := h.req
       refine RP.v1 6 rfl (Vl.sliceLO (xs := y335) 0 hS rfl underlying56 sizeOf67 rfl rfl  hq356 hq357) rfl rfl ?_
       obtain ⟨hq360, h⟩ := h.req
       obtain ⟨hf, hs358, hS, hr359⟩ := St.promoteR R_log_done_ok hS rfl hx341
       have hS := hS.nilSlR 67 10
       refine RP.e 7 rfl (OW.appendR (R := R_log_done) R_log_done_ok (xs := ([] : List log_done)) (ys := (subL y335 x294 (y335.length : Int))) 0 hS rfl underlying56 type67 rfl rfl rfl rfl (by decide) (by decide) RepL.nil rfl rfl (hr359.sub (lo := x294) (hi := (y335.length : Int)) (m := c339) hq356 hq357 (Int.le_refl _) (by have : y335.length ≤ c339 := hr359.1; omega)) hq360 rfl) rfl rfl ?_
       rintro _ w ⟨cs363, hx364, hS⟩
       obtain ⟨A361, c362, rfl, _⟩ := hS.osShape 0 rfl
       have hS : St B w (_ :: _ :: _ :: _ :: _ :: _ :: _ :: _ :: _ :: l) hf := hS
       refine ⟨kp ⟨fun _ => (St.down hS.d0 hs358), trivial⟩, ?_⟩
       refine RP.v1 8 rfl (Vl.nilCheck rfl) rfl rfl (RP.v1 9 rfl (Vl.fa 16 underlying58 rfl sizeOf56 rfl rfl) rfl rfl (RP.e0 10 rfl (OW.store (vs := [.slice A361 (([] : List log_done) ++ (subL y335 x294 (y335.length : Int))).length c362]) 2 hS rfl rfl rfl rfl sizeOf56 rfl rfl rfl rfl) rfl ?_))
       rintro _ w ⟨rfl, hS⟩
       have hS : St B w (_ :: _ :: Cl _ [_, _, _, _, _, _, _, _, _, _, _, _, _, _, _, _, _, _] _ :: _ :: _ :: _ :: _ :: _ :: _ :: l) hf := hS
       refine ⟨kp ⟨(by intro hx; cases hx), trivial⟩, ?_⟩
       refine RP.nil (RQ.noPan_n (tsr (RL.s (Vl.ld 5 hS isAgg49 rfl rfl rfl) rfl (pn 1 rfl (lr ?_)))))
       obtain rfl := h.some
       exact rtM1 (vs := [.slice A342 y336.length c343]) results14 hS.p8 fun w hS => ⟨⟨rfl, trivial⟩, ⟨_, (hs346.trans hs358), A342, c343, cs344, A361, c362, cs363, rfl, hS.d3.d3.d3.d3.d3.p1, (hx345.mono hs358), hx364⟩⟩
     · rintro b329 d330 rc331 _ w hr332 ⟨hf, hs371, A367, c368, cs369, rfl, hS, hx370⟩
       refine RE.n hS.p1 hr332.state hr332.pending fun w hS => RQ.inB_n (RQ.then_n (RC.seq (RC.noPan (RC.planS (plD [1, 4, 6, 9, 13, 17, 20, 23, 26, 29, 32]) [8, 9, 10] hS (fun w hS => hS.d2) follows rfl (by kernel_rfl) NoTmp.noPan fun w hS => RP.s 0 0 rfl rfl hS.d2 (fun w hS => Vl.ld 2 hS isAgg32 rfl rfl rfl) rfl (RP.s 0 1 rfl rfl hS.d2 (fun w hS => Vl.ld 2 hS isAgg32 rfl rfl rfl) rfl (pp 1 rfl (RP.s0 3 rfl (fun w => Vl.fa 16 underlying58 rfl sizeOf56 rfl rfl) rfl (RP.s 0 4 rfl rfl hS.d2 (fun w hS => Vl.ld 1 hS isAgg56 rfl rfl rfl) rfl (RP.v1 5 rfl (Vl.ld 4 hS isAgg3 rfl rfl rfl) rfl rfl ?_)))))))))
       obtain ⟨⟨hq381, hq382⟩, h⟩ := h.req
       refine RP.v1 6 rfl (Vl.sliceLO (xs := a2.l) 2 hS rfl underlying56 sizeOf67 rfl rfl  hq381 hq382) rfl rfl ?_
       obtain ⟨hq385, h⟩ := h.req
       obtain ⟨hf, hs383, hS, hr384⟩ := St.promoteR R_log_done_ok hS.p2 rfl (hx12.mono hs371)
       have hS := hS.nilSlR 67 10
       refine RP.e 7 rfl (OW.appendR (R := R_log_done) R_log_done_ok (xs := ([] : List log_done)) (ys := (subL a2.l x294 (a2.l.length : Int))) 0 hS rfl underlying56 type67 rfl rfl rfl rfl (by decide) (by decide) RepL.nil rfl rfl (hr384.sub (lo := x294) (hi := (a2.l.length : Int)) (m := c10) hq381 hq382 (Int.le_refl _) (by have : a2.l.length ≤ c10 := hr384.1; omega)) hq385 rfl) rfl rfl ?_
       rintro _ w ⟨cs388, hx389, hS⟩
       obtain ⟨A386, c387, rfl, _⟩ := hS.osShape 0 rfl
       have hS : St B w (_ :: _ :: _ :: _ :: _ :: _ :: _ :: _ :: _ :: l) hf := hS
       refine ⟨kp ⟨fun _ => (St.down hS.d0 hs383), trivial⟩, ?_⟩
       refine RP.v1 8 rfl (Vl.nilCheck rfl) rfl rfl (RP.v1 9 rfl (Vl.fa 16 underlying58 rfl sizeOf56 rfl rfl) rfl rfl (RP.e0 10 rfl (OW.store (vs := [.slice A386 (([] : List log_done) ++ (subL a2.l x294 (a2.l.length : Int))).length c387]) 2 hS rfl rfl rfl rfl sizeOf56 rfl rfl rfl rfl) rfl ?_))
       rintro _ w ⟨rfl, hS⟩
       have hS : St B w (_ :: _ :: Cl _ [_, _, _, _, _, _, _, _, _, _, _, _, _, _, _, _, _, _] _ :: _ :: _ :: _ :: _ :: _ :: _ :: l) hf := hS
       refine ⟨kp ⟨(by intro hx; cases hx), trivial⟩, ?_⟩
       refine RP.nil (RQ.noPan_n (tsr (RL.s (Vl.ld 5 hS isAgg49 rfl rfl rfl) rfl (pn 1 rfl (lr ?_)))))
       obtain rfl := h.some
       exact rtM1 (vs := [.slice A367 y365.length c368]) results14 hS.p8 fun w hS => ⟨⟨rfl, trivial⟩, ⟨_, (hs371.trans hs383), A367, c368, cs369, A386, c387, cs388, rfl, hS.d3.d3.d3.d3.d3.p1, (hx370.mono hs383), hx389⟩⟩
   · refine RC.block ?_
     refine fun a ha => RC.loop (N := 71) (body := (log_Log_Drop.l6b a2 a13)) (φ := (· = r)) (fun (s : Int) a w => ∃ (x407 : Int), s = (x407) ∧ Has 71 [(1, .int .i64 a13), (2, .pointer (some ⟨b230, 0, none⟩)), (5, .pointer (some ⟨b237, 0, none⟩))] a ∧ St B w (OSl 67 10 (.slice A9 a2.l.length c10) a2.l.length cs11 :: Cl b237 [.int .i64 x407] 3 :: Cl b1 [.slice A3 a2.w.Prog.length c4, .int .i64 a2.w.Self, .slice A6 a2.w.Links.length c7, .int .u64 a2.w.Seed, .bool a2.made, .int .i64 a2.state.Regs.c0, .int .i64 a2.state.Regs.c1, .int .i64 a2.state.Regs.c2, .int .i64 a2.state.Regs.c3, .int .i64 a2.state.Regs.c4, .int .i64 a2.state.Regs.c5, .int .i64 a2.state.Regs.c6, .int .i64 a2.state.Regs.c7, .int .i64 a2.state.Draws, .int .i64 a2.state.Sent, .int .i64 a2.every, .slice A9 a2.l.length c10, .bool a2.stuck] 58 :: Cl b230 [.pointer (some ⟨b1, 0, none⟩)] 32 :: l) hf) ?_ (s0 := (0)) h ⟨0, rfl, ha.to ⟨rfl, rfl, rfl, trivial⟩, hS.p2⟩
     rintro G427 x407 a w ⟨_, rfl, ha, hS⟩ h
     revert a
     show RC _ _ _ _ _ _
     refine RC.seq (RC.seq (RC.noPan (RC.planS (plD [1, 4, 6, 9, 13, 15, 18, 21, 25, 27, 30, 34, 37, 40, 42, 45, 48, 52, 56, 59, 62]) [] hS (fun w hS => hS) follows rfl (by kernel_rfl) NoTmp.noPan fun w hS => RP.s 0 0 rfl rfl hS (fun w hS => Vl.ld 1 hS isAgg3 rfl rfl rfl) rfl (RP.s 0 1 rfl rfl hS (fun w hS => Vl.ld 3 hS isAgg32 rfl rfl rfl) rfl (pp 1 rfl (RP.s0 3 rfl (fun w => Vl.fa 16 underlying58 rfl sizeOf56 rfl rfl) rfl (RP.s 0 4 rfl rfl hS (fun w hS => Vl.ld 2 hS isAgg56 rfl rfl rfl) rfl (RP.s0 5 rfl (fun w => Vl.lenSl underlying56 rfl) rfl (pp 2 rfl ?_)))))))))
     refine RP.iteP 18 rfl h (fun hc437 h => ?_) fun hc437 h => ?_
     next =>
      refine RP.sg 0 8 rfl rfl hS (fun w hS => Vl.ld 3 hS isAgg32 rfl rfl rfl) rfl rfl (pp 1 rfl (RP.sg0 10 rfl (fun w => Vl.fa 16 underlying58 rfl sizeOf56 rfl rfl) rfl rfl (RP.sg 0 11 rfl rfl hS (fun w hS => Vl.ld 2 hS isAgg56 rfl rfl rfl) rfl rfl (RP.sg 0 12 rfl rfl hS (fun w hS => Vl.ld 1 hS isAgg3 rfl rfl rfl) rfl rfl ?_))))
      obtain ⟨hq438, h⟩ := h.req
      refine RP.sg 0 13 rfl rfl hS (fun w hS => Vl.indexOwn 0 hS rfl underlying56 sizeOf67 rfl rfl hq438 hc437) rfl rfl (RP.sg0 14 rfl (fun w => Vl.fieldAddr (a'' := (ad A9).add (x407.toNat * 10 + 0)) underlying67 rfl sizeOf30 rfl (add_add _ _ _)) rfl rfl (RP.sg0 15 rfl (fun w => Vl.fieldAddr (a'' := (ad A9).add (x407.toNat * 10 + 0)) underlying30 rfl sizeOf28 rfl (add_add _ _ _)) rfl rfl (RP.sg0 16 rfl (fun w => Vl.fieldAddr (a'' := (ad A9).add (x407.toNat * 10 + 0)) underlying28 rfl sizeOf2 rfl (add_add _ _ _)) rfl rfl ?_)))
      obtain ⟨_, ⟨A440, c441, b443, rfl, hr442, hr444⟩, hl439⟩ := RepL.elem R_log_done_ok hx12 hq438 hc437
      refine RP.sg 0 17 rfl rfl hS (fun w hS => Vl.load isAgg2 rfl (hS.litCell 0 rfl (hl439 0 _ rfl))) rfl rfl (RP.v1 18 rfl (Vl.move rfl) rfl rfl (RP.v1 19 rfl (Vl.int rfl rfl rfl) rfl rfl (RP.v1 20 rfl (Vl.pickT rfl rfl) rfl rfl (RP.nil (RQ.noPan_n (RQ.then_n ?_))))))
      refine RC.iteP 31 rfl h (fun hc445 h => ?_) fun hc445 h => ?_
      next =>
       refine RC.condT rfl (sk (RC.block (RC.region (RL.s (Vl.ld 1 hS isAgg3 rfl rfl rfl) rfl (pn 1 rfl (RL.e0 (OW.store (vs := [.int .i64 (IntKind.i64.wrap (x407 + 1))]) 1 hS rfl rfl rfl rfl sizeOf3 rfl rfl rfl rfl) rfl ?_))))))
       rintro _ w ⟨rfl, hS⟩
       have hS : St B w (_ :: Cl _ [_] _ :: _ :: _ :: l) hf := hS
       refine RL.nil (RQ.inB_n ?_)
       exact fun a ha => ⟨(IntKind.i64.wrap (x407 + 1)), ⟨(IntKind.i64.wrap (x407 + 1)), rfl, ha.to ⟨rfl, rfl, rfl, trivial⟩, hS⟩, h.some⟩
      next =>
       refine RC.condF rfl (RC.exit (RQ.exitT ?_))
       have h := h.inr
       refine RQ.exitT (RQ.inB_hit ?_)
       exact fun a ha => ⟨(x407), x407, rfl, ha.to ⟨rfl, rfl, trivial⟩, hS, h⟩
     next =>
      refine RP.nn 0 8 rfl rfl rfl (pp 2 rfl (RP.nn 0 11 rfl rfl rfl (RP.nn 0 12 rfl rfl rfl (RP.nn 0 13 rfl rfl rfl (pp 3 rfl (RP.nn 0 17 rfl rfl rfl (RP.n1 18 rfl rfl rfl (RP.n1 19 rfl rfl rfl (RP.v1 20 rfl (Vl.pickF rfl rfl) rfl rfl (RP.nil (RQ.noPan_n (RQ.then_n (RC.condF rfl (RC.exit (RQ.exitT ?_)))))))))))))))
      have h := h.inr
      refine RQ.exitT (RQ.inB_hit ?_)
      exact fun a ha => ⟨(x407), x407, rfl, ha.to ⟨rfl, rfl, trivial⟩, hS, h⟩

/-! ### isochron/isochronlaw10.entry: function 27 -/
noncomputable def isochronlaw10ventry.l2b (a1 a5 : api_Entry) : Int → Option ((Int) ⊕ (Bool))
  | (x62) => (if x62 < (a1.Sent.length : Int) then (if 0 ≤ x62 then (if x62 < (a5.Sent.length : Int) then (if (⟨(nth a1.Sent x62).Key, (nth a1.Sent x62).To, (nth a1.Sent x62).Value, (nth a1.Sent x62).Uid, ((nth a1.Sent x62).Anti)⟩ : api_Message) = (⟨(nth a5.Sent x62).Key, (nth a5.Sent x62).To, (nth a5.Sent x62).Value, (nth a5.Sent x62).Uid, ((nth a5.Sent x62).Anti)⟩ : api_Message) then some (.inl (IntKind.i64.wrap (x62 + 1))) else some (.inr false)) else none) else none) else some (.inr true))
noncomputable def isochronlaw10ventry.l2 (a1 a5 : api_Entry) (s : Int) : Option (Bool) := loopR (isochronlaw10ventry.l2b a1 a5) s
noncomputable def isochronlaw10ventry.f (a1 a5 : api_Entry) : Option (Bool) := (if a1.Event = a5.Event then (if a1.Before = a5.Before then (if a1.Fault = a5.Fault then (if (a1.Sent.length : Int) = (a5.Sent.length : Int) then isochronlaw10ventry.l2 a1 a5 (0) else some false) else some false) else some false) else some false)
theorem isochronlaw10ventry.ok {a1 a5 : api_Entry} {A2 : Option Addr} {c3 : Nat} {A6 : Option Addr} {c7 : Nat} (hr4 : SlR E_api_Message.rep hf A2 c3 a1.Sent) (hr8 : SlR E_api_Message.rep hf A6 c7 a5.Sent) {r : Bool} (h : isochronlaw10ventry.f a1 a5 = some r) (hS : St B w (l) hf) :
    Calls prog 27 #[.agg #[.int .i64 a1.Event.Key.Time, .int .i64 a1.Event.Key.From, .int .i64 a1.Event.Key.Seq, .int .i64 a1.Event.To, .int .i64 a1.Event.Value, .int .i64 a1.Event.Uid, .bool a1.Event.Anti, .int .i64 a1.Before.Regs.c0, .int .i64 a1.Before.Regs.c1, .int .i64 a1.Before.Regs.c2, .int .i64 a1.Before.Regs.c3, .int .i64 a1.Before.Regs.c4, .int .i64 a1.Before.Regs.c5, .int .i64 a1.Before.Regs.c6, .int .i64 a1.Before.Regs.c7, .int .i64 a1.Before.Draws, .int .i64 a1.Before.Sent, .int .i64 a1.Fault, .slice A2 a1.Sent.length c3], .agg #[.int .i64 a5.Event.Key.Time, .int .i64 a5.Event.Key.From, .int .i64 a5.Event.Key.Seq, .int .i64 a5.Event.To, .int .i64 a5.Event.Value, .int .i64 a5.Event.Uid, .bool a5.Event.Anti, .int .i64 a5.Before.Regs.c0, .int .i64 a5.Before.Regs.c1, .int .i64 a5.Before.Regs.c2, .int .i64 a5.Before.Regs.c3, .int .i64 a5.Before.Regs.c4, .int .i64 a5.Before.Regs.c5, .int .i64 a5.Before.Regs.c6, .int .i64 a5.Before.Regs.c7, .int .i64 a5.Before.Draws, .int .i64 a5.Before.Sent, .int .i64 a5.Fault, .slice A6 a5.Sent.length c7]] w (Ret fun v w => v = .bool r ∧ St B w (l) hf) := by
  have h := Holds.of h
  refine en func27 rfl ntmps27 rfl (sr (bx hS rfl rfl rfl rfl fun b45 w hS => bx hS rfl rfl rfl rfl fun b46 w hS => pn 1 rfl (ln (RC.seq (sr (RL.s (Vl.fa 0 underlying43 rfl sizeOf30 rfl rfl) rfl (RL.s (Vl.loadA (vs := [.int .i64 a1.Event.Key.Time, .int .i64 a1.Event.Key.From, .int .i64 a1.Event.Key.Seq, .int .i64 a1.Event.To, .int .i64 a1.Event.Value, .int .i64 a1.Event.Uid, .bool a1.Event.Anti]) isAgg30 sizeOf30 rfl rfl (hS.cellsAt 1 rfl rfl)) rfl (RL.s (Vl.fa 0 underlying43 rfl sizeOf30 rfl rfl) rfl (RL.s (Vl.loadA (vs := [.int .i64 a5.Event.Key.Time, .int .i64 a5.Event.Key.From, .int .i64 a5.Event.Key.Seq, .int .i64 a5.Event.To, .int .i64 a5.Event.Value, .int .i64 a5.Event.Uid, .bool a5.Event.Anti]) isAgg30 sizeOf30 rfl rfl (hS.cellsAt 0 rfl rfl)) rfl (RL.s (Vl.neqS (run_neq_api_Message _ _ a1.Event a5.Event) rfl rfl) rfl ?_))))))))))
  refine pn 1 rfl ?_
  refine RL.iteN 11 rfl h (fun hc51 h => ?_) fun hc51 h => ?_
  next =>
   refine RL.sg (Vl.fa 7 underlying43 rfl sizeOf38 rfl rfl) rfl rfl (RL.sg (Vl.loadA (vs := [.int .i64 a1.Before.Regs.c0, .int .i64 a1.Before.Regs.c1, .int .i64 a1.Before.Regs.c2, .int .i64 a1.Before.Regs.c3, .int .i64 a1.Before.Regs.c4, .int .i64 a1.Before.Regs.c5, .int .i64 a1.Before.Regs.c6, .int .i64 a1.Before.Regs.c7, .int .i64 a1.Before.Draws, .int .i64 a1.Before.Sent]) isAgg38 sizeOf38 rfl rfl (hS.cellsAt 1 rfl rfl)) rfl rfl (RL.sg (Vl.fa 7 underlying43 rfl sizeOf38 rfl rfl) rfl rfl (RL.sg (Vl.loadA (vs := [.int .i64 a5.Before.Regs.c0, .int .i64 a5.Before.Regs.c1, .int .i64 a5.Before.Regs.c2, .int .i64 a5.Before.Regs.c3, .int .i64 a5.Before.Regs.c4, .int .i64 a5.Before.Regs.c5, .int .i64 a5.Before.Regs.c6, .int .i64 a5.Before.Regs.c7, .int .i64 a5.Before.Draws, .int .i64 a5.Before.Sent]) isAgg38 sizeOf38 rfl rfl (hS.cellsAt 0 rfl rfl)) rfl rfl (RL.sg (Vl.neqS (run_neq_api_State _ _ a1.Before a5.Before) rfl rfl) rfl rfl (pn 2 rfl ?_)))))
   refine RL.iteN 18 rfl h (fun hc52 h => ?_) fun hc52 h => ?_
   next =>
    refine RL.sg (Vl.fa 17 underlying43 rfl sizeOf33 rfl rfl) rfl rfl (RL.sg (Vl.ld 1 hS isAgg33 rfl rfl rfl) rfl rfl (RL.sg (Vl.fa 17 underlying43 rfl sizeOf33 rfl rfl) rfl rfl (RL.sg (Vl.ld 0 hS isAgg33 rfl rfl rfl) rfl rfl (pn 3 rfl ?_))))
    refine RL.iteN 25 rfl h (fun hc53 h => ?_) fun hc53 h => ?_
    next =>
     refine RL.sg (Vl.fa 18 underlying43 rfl sizeOf41 rfl rfl) rfl rfl (RL.sg (Vl.ld 1 hS isAgg41 rfl rfl rfl) rfl rfl (RL.sg (Vl.lenSl underlying41 rfl) rfl rfl (RL.sg (Vl.fa 18 underlying43 rfl sizeOf41 rfl rfl) rfl rfl (RL.sg (Vl.ld 0 hS isAgg41 rfl rfl rfl) rfl rfl (RL.sg (Vl.lenSl underlying41 rfl) rfl rfl (pn 2 rfl (ln ?_)))))))
     refine RC.iteN 33 rfl h (fun hc54 h => ?_) fun hc54 h => ?_
     next =>
      refine RC.condF rfl (sk (RC.seq (sr (pn 1 rfl (ln (RC.block ?_))))))
      refine fun a ha => RC.loop (N := 52) (body := (isochronlaw10ventry.l2b a1 a5)) (φ := (· = r)) (fun (s : Int) a w => ∃ (x62 : Int), s = (x62) ∧ Has 52 [(2, .pointer (some ⟨b45, 0, none⟩)), (3, .pointer (some ⟨b46, 0, none⟩)), (5, .int .i64 x62)] a ∧ St B w (Cl b46 [.int .i64 a5.Event.Key.Time, .int .i64 a5.Event.Key.From, .int .i64 a5.Event.Key.Seq, .int .i64 a5.Event.To, .int .i64 a5.Event.Value, .int .i64 a5.Event.Uid, .bool a5.Event.Anti, .int .i64 a5.Before.Regs.c0, .int .i64 a5.Before.Regs.c1, .int .i64 a5.Before.Regs.c2, .int .i64 a5.Before.Regs.c3, .int .i64 a5.Before.Regs.c4, .int .i64 a5.Before.Regs.c5, .int .i64 a5.Before.Regs.c6, .int .i64 a5.Before.Regs.c7, .int .i64 a5.Before.Draws, .int .i64 a5.Before.Sent, .int .i64 a5.Fault, .slice A6 a5.Sent.length c7] 43 :: Cl b45 [.int .i64 a1.Event.Key.Time, .int .i64 a1.Event.Key.From, .int .i64 a1.Event.Key.Seq, .int .i64 a1.Event.To, .int .i64 a1.Event.Value, .int .i64 a1.Event.Uid, .bool a1.Event.Anti, .int .i64 a1.Before.Regs.c0, .int .i64 a1.Before.Regs.c1, .int .i64 a1.Before.Regs.c2, .int .i64 a1.Before.Regs.c3, .int .i64 a1.Before.Regs.c4, .int .i64 a1.Before.Regs.c5, .int .i64 a1.Before.Regs.c6, .int .i64 a1.Before.Regs.c7, .int .i64 a1.Before.Draws, .int .i64 a1.Before.Sent, .int .i64 a1.Fault, .slice A2 a1.Sent.length c3] 43 :: l) hf) ?_ (s0 := (0)) h ⟨0, rfl, ha.to ⟨rfl, rfl, rfl, trivial⟩, hS⟩
      rintro G72 x62 a w ⟨_, rfl, ha, hS⟩ h
      revert a
      show RC _ _ _ _ _ _
      refine RC.seq (sr (pn 1 rfl (RL.s (Vl.fa 18 underlying43 rfl sizeOf41 rfl rfl) rfl (RL.s (Vl.ld 1 hS isAgg41 rfl rfl rfl) rfl (RL.s (Vl.lenSl underlying41 rfl) rfl (pn 1 rfl (ln ?_)))))))
      refine RC.iteP 38 rfl h (fun hc74 h => ?_) fun hc74 h => ?_
      next =>
       refine RC.condT rfl (sk (RC.seq (RC.block (RC.seq (RC.planS (plD [0, 4, 6, 10, 13, 15, 19, 23, 26, 29, 32]) [10] hS (fun w hS => hS) follows rfl (by kernel_rfl) (NoTmp.then (NoTmp.block (NoTmp.then (NoTmp.then (NoTmp.block (NoTmp.then NoTmp.body)))))) fun w hS => RP.s0 0 rfl (fun w => Vl.fa 18 underlying43 rfl sizeOf41 rfl rfl) rfl (RP.s 0 1 rfl rfl hS (fun w hS => Vl.ld 1 hS isAgg41 rfl rfl rfl) rfl (pp 1 rfl ?_)))))))
       obtain ⟨hq78, h⟩ := h.req
       refine RP.s 0 3 rfl rfl hS (fun w hS => Vl.indexAddr underlying41 sizeOf30 rfl rfl ((hr4.2.world hS.sub).adr hq78 hc74) hq78 hc74 rfl) rfl (RP.s 0 4 rfl rfl hS (fun w hS => Vl.loadA isAgg30 sizeOf30 rfl rfl ((hr4.2.world hS.sub).cells hq78 hc74)) rfl (RP.s0 5 rfl (fun w => Vl.fa 18 underlying43 rfl sizeOf41 rfl rfl) rfl (RP.s 0 6 rfl rfl hS (fun w hS => Vl.ld 0 hS isAgg41 rfl rfl rfl) rfl (RP.v1 7 rfl (Vl.move rfl) rfl rfl ?_))))
       obtain ⟨hq79, h⟩ := h.req
       refine RP.v1 8 rfl (Vl.indexAddr underlying41 sizeOf30 rfl rfl ((hr8.2.world hS.sub).adr hq78 hq79) hq78 hq79 rfl) rfl rfl (RP.v1 9 rfl (Vl.loadA isAgg30 sizeOf30 rfl rfl ((hr8.2.world hS.sub).cells hq78 hq79)) rfl rfl (RP.v1 10 rfl (Vl.neqS (run_neq_api_Message _ _ (⟨(nth a1.Sent x62).Key, (nth a1.Sent x62).To, (nth a1.Sent x62).Value, (nth a1.Sent x62).Uid, ((nth a1.Sent x62).Anti)⟩ : api_Message) (⟨(nth a5.Sent x62).Key, (nth a5.Sent x62).To, (nth a5.Sent x62).Value, (nth a5.Sent x62).Uid, ((nth a5.Sent x62).Anti)⟩ : api_Message)) rfl rfl) rfl rfl (RP.nil (RQ.then_n ?_))))
       refine RC.iteN 51 rfl h (fun hc80 h => ?_) fun hc80 h => ?_
       next =>
        refine RC.condF rfl (RC.skip (RQ.inB_n (RQ.then_n (RC.region (pn 3 rfl (RL.nil ?_))))))
        exact fun a ha => ⟨(IntKind.i64.wrap (x62 + 1)), ⟨(IntKind.i64.wrap (x62 + 1)), rfl, ha.to ⟨rfl, rfl, rfl, trivial⟩, hS⟩, h.some⟩
       next =>
        refine RC.condT rfl (sr (pn 1 rfl (lr (RQ.inB_ret (RQ.ret ?_)))))
        have h := h.inrS
        refine RQ.ret (RQ.inB_ret (RQ.ret ?_))
        obtain rfl := h.some
        exact rt results27 rfl ⟨rfl, hS.d0.d0⟩
      next =>
       refine RC.condF rfl (RC.exit (RQ.exitT ?_))
       have h := h.inrS
       refine RQ.exitT (RQ.inB_hit (tsr (pn 1 rfl (lr ?_))))
       obtain rfl := h.some
       exact rt results27 rfl ⟨rfl, hS.d0.d0⟩
     next =>
      refine RC.condT rfl (sr (pn 1 rfl (lr (RQ.ret ?_))))
      obtain rfl := h.some
      exact rt results27 rfl ⟨rfl, hS.d0.d0⟩
    next =>
     refine pn 8 rfl (ln (RC.condT rfl (sr (pn 1 rfl (lr (RQ.ret ?_))))))
     obtain rfl := h.some
     exact rt results27 rfl ⟨rfl, hS.d0.d0⟩
   next =>
    refine pn 15 rfl (ln (RC.condT rfl (sr (pn 1 rfl (lr (RQ.ret ?_))))))
    obtain rfl := h.some
    exact rt results27 rfl ⟨rfl, hS.d0.d0⟩
  next =>
   refine pn 22 rfl (ln (RC.condT rfl (sr (pn 1 rfl (lr (RQ.ret ?_))))))
   obtain rfl := h.some
   exact rt results27 rfl ⟨rfl, hS.d0.d0⟩

/-! ### isochron/isochronlaw10.entries: function 15 -/
noncomputable def isochronlaw10ventries.l2b (a1 a5 : List api_Entry) : Int → Option ((Int) ⊕ (Bool))
  | (x126) => (if x126 < (a1.length : Int) then (if 0 ≤ x126 then (if x126 < (a5.length : Int) then ((isochronlaw10ventry.f (⟨(⟨((nth a1 x126).Event).Key, ((nth a1 x126).Event).To, ((nth a1 x126).Event).Value, ((nth a1 x126).Event).Uid, (((nth a1 x126).Event).Anti)⟩ : api_Message), (nth a1 x126).Before, (nth a1 x126).Fault, (nth a1 x126).Sent⟩ : api_Entry) (⟨(⟨((nth a5 x126).Event).Key, ((nth a5 x126).Event).To, ((nth a5 x126).Event).Value, ((nth a5 x126).Event).Uid, (((nth a5 x126).Event).Anti)⟩ : api_Message), (nth a5 x126).Before, (nth a5 x126).Fault, (nth a5 x126).Sent⟩ : api_Entry)).bind fun t182 => (if t182 = true then some (.inl (IntKind.i64.wrap (x126 + 1))) else some (.inr false))) else none) else none) else some (.inr true))
noncomputable def isochronlaw10ventries.l2 (a1 a5 : List api_Entry) (s : Int) : Option (Bool) := loopR (isochronlaw10ventries.l2b a1 a5) s
noncomputable def isochronlaw10ventries.f (a1 a5 : List api_Entry) : Option (Bool) := (if (a1.length : Int) = (a5.length : Int) then isochronlaw10ventries.l2 a1 a5 (0) else some false)
theorem isochronlaw10ventries.ok {a1 a5 : List api_Entry} {A2 : Option Addr} {c3 : Nat} {A6 : Option Addr} {c7 : Nat} (hr4 : SlR R_api_Entry hf A2 c3 a1) (hr8 : SlR R_api_Entry hf A6 c7 a5) {r : Bool} (h : isochronlaw10ventries.f a1 a5 = some r) (hS : St B w (l) hf) :
    Calls prog 15 #[.slice A2 a1.length c3, .slice A6 a5.length c7] w (Ret fun v w => v = .bool r ∧ St B w (l) hf) := by
  have h := Holds.of h
  refine en func15 rfl ntmps15 rfl (sr (pn 1 rfl (ln (RC.seq (sr (pn 1 rfl (RL.s (Vl.lenSl underlying49 rfl) rfl (pn 1 rfl (RL.s (Vl.lenSl underlying49 rfl) rfl (pn 1 rfl (ln ?_)))))))))))
  refine RC.iteN 10 rfl h (fun hc98 h => ?_) fun hc98 h => ?_
  next =>
   refine RC.condF rfl (sk (RC.seq (sr (pn 1 rfl (ln (RC.block ?_))))))
   refine fun a ha => RC.loop (N := 27) (body := (isochronlaw10ventries.l2b a1 a5)) (φ := (· = r)) (fun (s : Int) a w => ∃ (x126 : Int), s = (x126) ∧ Has 27 [(0, .slice A2 a1.length c3), (1, .slice A6 a5.length c7), (5, .int .i64 x126)] a ∧ St B w (l) hf) ?_ (s0 := (0)) h ⟨0, rfl, ha.to ⟨rfl, rfl, rfl, trivial⟩, hS⟩
   rintro G156 x126 a w ⟨_, rfl, ha, hS⟩ h
   revert a
   show RC _ _ _ _ _ _
   refine RC.seq (sr (pn 2 rfl (RL.s (Vl.lenSl underlying49 rfl) rfl (pn 1 rfl (ln ?_)))))
   refine RC.iteP 14 rfl h (fun hc158 h => ?_) fun hc158 h => ?_
   next =>
    refine RC.condT rfl (sk (RC.seq (RC.block (RC.seq (RC.planS (plD [0, 3, 7, 10, 12, 17, 20, 23, 26, 29]) [8, 9] hS (fun w hS => hS) follows rfl (by kernel_rfl) (NoTmp.then (NoTmp.block (NoTmp.then (NoTmp.then (NoTmp.block (NoTmp.then NoTmp.body)))))) fun w hS => pp 2 rfl ?_)))))
    obtain ⟨hq172, h⟩ := h.req
    refine RP.s 0 2 rfl rfl hS (fun w hS => Vl.indexAddr underlying49 sizeOf43 rfl rfl (hr4.2.adr hq172 hc158) hq172 hc158 rfl) rfl ?_
    obtain ⟨_, _, ⟨A173, c174, rfl, hr175⟩, hl176⟩ := hr4.2.elem hq172 hc158
    refine RP.s 0 3 rfl rfl hS (fun w hS => Vl.loadA (vs := [.int .i64 ((((nth a1 x126).Event).Key).Time), .int .i64 ((((nth a1 x126).Event).Key).From), .int .i64 ((((nth a1 x126).Event).Key).Seq), .int .i64 (((nth a1 x126).Event).To), .int .i64 (((nth a1 x126).Event).Value), .int .i64 (((nth a1 x126).Event).Uid), .bool (((nth a1 x126).Event).Anti), .int .i64 ((((nth a1 x126).Before).Regs).c0), .int .i64 ((((nth a1 x126).Before).Regs).c1), .int .i64 ((((nth a1 x126).Before).Regs).c2), .int .i64 ((((nth a1 x126).Before).Regs).c3), .int .i64 ((((nth a1 x126).Before).Regs).c4), .int .i64 ((((nth a1 x126).Before).Regs).c5), .int .i64 ((((nth a1 x126).Before).Regs).c6), .int .i64 ((((nth a1 x126).Before).Regs).c7), .int .i64 (((nth a1 x126).Before).Draws), .int .i64 (((nth a1 x126).Before).Sent), .int .i64 ((nth a1 x126).Fault), .slice A173 ((nth a1 x126).Sent).length c174]) isAgg43 sizeOf43 rfl rfl (elemCells hS.sub hl176 (off := 0) rfl)) rfl (pp 1 rfl (RP.v1 5 rfl (Vl.move rfl) rfl rfl ?_))
    obtain ⟨hq177, h⟩ := h.req
    refine RP.v1 6 rfl (Vl.indexAddr underlying49 sizeOf43 rfl rfl (hr8.2.adr hq172 hq177) hq172 hq177 rfl) rfl rfl ?_
    obtain ⟨_, _, ⟨A178, c179, rfl, hr180⟩, hl181⟩ := hr8.2.elem hq172 hq177
    refine RP.v1 7 rfl (Vl.loadA (vs := [.int .i64 ((((nth a5 x126).Event).Key).Time), .int .i64 ((((nth a5 x126).Event).Key).From), .int .i64 ((((nth a5 x126).Event).Key).Seq), .int .i64 (((nth a5 x126).Event).To), .int .i64 (((nth a5 x126).Event).Value), .int .i64 (((nth a5 x126).Event).Uid), .bool (((nth a5 x126).Event).Anti), .int .i64 ((((nth a5 x126).Before).Regs).c0), .int .i64 ((((nth a5 x126).Before).Regs).c1), .int .i64 ((((nth a5 x126).Before).Regs).c2), .int .i64 ((((nth a5 x126).Before).Regs).c3), .int .i64 ((((nth a5 x126).Before).Regs).c4), .int .i64 ((((nth a5 x126).Before).Regs).c5), .int .i64 ((((nth a5 x126).Before).Regs).c6), .int .i64 ((((nth a5 x126).Before).Regs).c7), .int .i64 (((nth a5 x126).Before).Draws), .int .i64 (((nth a5 x126).Before).Sent), .int .i64 ((nth a5 x126).Fault), .slice A178 ((nth a5 x126).Sent).length c179]) isAgg43 sizeOf43 rfl rfl (elemCells hS.sub hl181 (off := 0) rfl)) rfl rfl ?_
    obtain ⟨t182, hg183, h⟩ := h.bind
    have hc := isochronlaw10ventry.ok (a1 := (⟨(⟨((nth a1 x126).Event).Key, ((nth a1 x126).Event).To, ((nth a1 x126).Event).Value, ((nth a1 x126).Event).Uid, (((nth a1 x126).Event).Anti)⟩ : api_Message), (nth a1 x126).Before, (nth a1 x126).Fault, (nth a1 x126).Sent⟩ : api_Entry)) (a5 := (⟨(⟨((nth a5 x126).Event).Key, ((nth a5 x126).Event).To, ((nth a5 x126).Event).Value, ((nth a5 x126).Event).Uid, (((nth a5 x126).Event).Anti)⟩ : api_Message), (nth a5 x126).Before, (nth a5 x126).Fault, (nth a5 x126).Sent⟩ : api_Entry)) hr175 hr180 hg183 hS
    refine RP.e 8 rfl (OW.callF (ls := [.tmp 20, .tmp 24]) rfl call27 hc) rfl rfl ?_
    rintro _ w ⟨rfl, hS⟩
    refine ⟨kp ⟨(by intro hx; cases hx), trivial⟩, ?_⟩
    refine RP.v1 9 rfl (Vl.not rfl) rfl rfl (RP.nil (RQ.then_n ?_))
    refine RC.iteM 26 rfl h (fun hc184 h => ?_) fun hc184 h => ?_
    next =>
     refine RC.condF rfl (RC.skip (RQ.inB_n (RQ.then_n (RC.region (pn 3 rfl (RL.nil ?_))))))
     exact fun a ha => ⟨(IntKind.i64.wrap (x126 + 1)), ⟨(IntKind.i64.wrap (x126 + 1)), rfl, ha.to ⟨rfl, rfl, rfl, trivial⟩, hS⟩, h.some⟩
    next =>
     refine RC.condT rfl (sr (pn 1 rfl (lr (RQ.inB_ret (RQ.ret ?_)))))
     have h := h.inrS
     refine RQ.ret (RQ.inB_ret (RQ.ret ?_))
     obtain rfl := h.some
     exact rt results15 rfl ⟨rfl, hS⟩
   next =>
    refine RC.condF rfl (RC.exit (RQ.exitT ?_))
    have h := h.inrS
    refine RQ.exitT (RQ.inB_hit (tsr (pn 1 rfl (lr ?_))))
    obtain rfl := h.some
    exact rt results15 rfl ⟨rfl, hS⟩
  next =>
   refine RC.condT rfl (sr (pn 1 rfl (lr (RQ.ret ?_))))
   obtain rfl := h.some
   exact rt results15 rfl ⟨rfl, hS⟩

end Go.Proofs.Gx
