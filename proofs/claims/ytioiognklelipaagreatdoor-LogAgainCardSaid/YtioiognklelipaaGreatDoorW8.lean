/-
  The walks of functions, each with what it computes: printed by wip/gx.py.
-/
import Derived.Test.YtioiognklelipaaGreatDoorW0
import Derived.Test.YtioiognklelipaaGreatDoorW1
import Derived.Test.YtioiognklelipaaGreatDoorW2
import Derived.Test.YtioiognklelipaaGreatDoorW5
import Derived.Test.YtioiognklelipaaGreatDoorW6
import Derived.Test.YtioiognklelipaaGreatDoorW7
set_option linter.unusedVariables false
set_option maxRecDepth 100000
set_option maxHeartbeats 4000000
namespace Go.Proofs.Gx
open Go.Sl Tryz
variable {B : Base} {w : World} {l : List HProp} {hf : Hp}
/-! ### (*isochron/log.Log).Back_round0: function 1000120 -/
noncomputable def log_Log_Back_round0.f (a6 : log_Log) (a18 : Int) (a20 : (List api_Entry)) (a25 : Int) (a26 : api_State) : Option (Bool × List api_Entry) := (if a18 ≤ a25 then (if 0 ≤ a25 ∧ a25 < (a6.l.length : Int) then ((log_done_entry.f (⟨(⟨((nth a6.l a25).event).Key, ((nth a6.l a25).event).To, ((nth a6.l a25).event).Value, ((nth a6.l a25).event).Uid, (((nth a6.l a25).event).Anti)⟩ : api_Message), (nth a6.l a25).fault, (nth a6.l a25).sent, (nth a6.l a25).ahead⟩ : log_done) a26).bind fun t69 => (if 0 ≤ IntKind.i64.wrap ((IntKind.i64.wrap ((a6.l.length : Int) - 1)) - a25) ∧ IntKind.i64.wrap ((IntKind.i64.wrap ((a6.l.length : Int) - 1)) - a25) < (a20.length : Int) then (if a6.stuck = true then some ((decide ((nth a6.l a25).fault = 0)), (setL a20 (IntKind.i64.wrap ((IntKind.i64.wrap ((a6.l.length : Int) - 1)) - a25)) t69)) else some (false, (setL a20 (IntKind.i64.wrap ((IntKind.i64.wrap ((a6.l.length : Int) - 1)) - a25)) t69))) else none)) else none) else some (a6.stuck, a20))
theorem log_Log_Back_round0.ok {a6 : log_Log} {a18 : Int} {a20 : (List api_Entry)} {a25 : Int} {a26 : api_State} {b1 : Nat} {rc2 : Loop} {b4 b5 : Nat} {A7 : Option Addr} {c8 : Nat} {A10 : Option Addr} {c11 : Nat} {A13 : Option Addr} {c14 : Nat} {cs15 : List Value} {b17 b19 : Nat} {A21 : Option Addr} {c22 : Nat} {cs23 : List Value} (hr9 : SlR E_api_Instr.rep hf A7 c8 a6.w.Prog) (hr12 : SlR E_api_Link.rep hf A10 c11 a6.w.Links) (hx16 : RepL R_log_done hf cs15 a6.l) (hx24 : RepL R_api_Entry hf cs23 a20) (hr3 : RecF f12 0 115 [(2, .pointer (some ⟨b4, 0, none⟩)), (5, .pointer (some ⟨b17, 0, none⟩)), (6, .pointer (some ⟨b19, 0, none⟩))] rc2) {r : Bool × List api_Entry} (h : log_Log_Back_round0.f a6 a18 a20 a25 a26 = some r) (hS : St B w (pts b1 (.loop rc2) :: Cl b5 [.slice A7 a6.w.Prog.length c8, .int .i64 a6.w.Self, .slice A10 a6.w.Links.length c11, .int .u64 a6.w.Seed, .bool a6.made, .int .i64 a6.state.Regs.c0, .int .i64 a6.state.Regs.c1, .int .i64 a6.state.Regs.c2, .int .i64 a6.state.Regs.c3, .int .i64 a6.state.Regs.c4, .int .i64 a6.state.Regs.c5, .int .i64 a6.state.Regs.c6, .int .i64 a6.state.Regs.c7, .int .i64 a6.state.Draws, .int .i64 a6.state.Sent, .int .i64 a6.every, .slice A13 a6.l.length c14, .bool a6.stuck] 59 :: OSl 68 10 (.slice A13 a6.l.length c14) a6.l.length cs15 :: Cl b4 [.pointer (some ⟨b5, 0, none⟩)] 28 :: Cl b17 [.int .i64 a18] 3 :: Cl b19 [.slice A21 a20.length c22] 47 :: OSl 44 19 (.slice A21 a20.length c22) a20.length cs23 :: l) hf) :
    Yld prog b1 [.int .i64 a25, .agg #[.int .i64 a26.Regs.c0, .int .i64 a26.Regs.c1, .int .i64 a26.Regs.c2, .int .i64 a26.Regs.c3, .int .i64 a26.Regs.c4, .int .i64 a26.Regs.c5, .int .i64 a26.Regs.c6, .int .i64 a26.Regs.c7, .int .i64 a26.Draws, .int .i64 a26.Sent]] w (Ret fun v w => ∃ hf_ : Hp, Sub hf hf_ ∧ ∃ (A_1 : Option Addr) (c_2 : Nat) (cs_3 : List Value), v = .bool true ∧ St B w (OSl 44 19 (.slice A_1 r.2.length c_2) r.2.length cs_3 :: pts b1 (.loop rc2) :: Cl b5 [.slice A7 a6.w.Prog.length c8, .int .i64 a6.w.Self, .slice A10 a6.w.Links.length c11, .int .u64 a6.w.Seed, .bool a6.made, .int .i64 a6.state.Regs.c0, .int .i64 a6.state.Regs.c1, .int .i64 a6.state.Regs.c2, .int .i64 a6.state.Regs.c3, .int .i64 a6.state.Regs.c4, .int .i64 a6.state.Regs.c5, .int .i64 a6.state.Regs.c6, .int .i64 a6.state.Regs.c7, .int .i64 a6.state.Draws, .int .i64 a6.state.Sent, .int .i64 a6.every, .slice A13 a6.l.length c14, .bool r.1] 59 :: OSl 68 10 (.slice A13 a6.l.length c14) a6.l.length cs15 :: Cl b4 [.pointer (some ⟨b5, 0, none⟩)] 28 :: Cl b17 [.int .i64 a18] 3 :: Cl b19 [.slice A_1 r.2.length c_2] 47 :: l) hf_ ∧ RepL R_api_Entry hf_ cs_3 r.2) := by
  have h := Holds.of h
  refine Yld.of (psl := [52, 53]) hS hr3 rfl rfl rfl ?_
  show RC _ ⟨115, [], false⟩ _ _ [(53, .agg #[.int .i64 a26.Regs.c0, .int .i64 a26.Regs.c1, .int .i64 a26.Regs.c2, .int .i64 a26.Regs.c3, .int .i64 a26.Regs.c4, .int .i64 a26.Regs.c5, .int .i64 a26.Regs.c6, .int .i64 a26.Regs.c7, .int .i64 a26.Draws, .int .i64 a26.Sent]), (52, .int .i64 a25), (2, .pointer (some ⟨b4, 0, none⟩)), (5, .pointer (some ⟨b17, 0, none⟩)), (6, .pointer (some ⟨b19, 0, none⟩))] w
  refine sr (pn 1 rfl (ln (RC.region (al hS zeroValue34 rfl rfl rfl fun b59 w hS => RL.e0 (OW.store (vs := [.int .i64 a26.Regs.c0, .int .i64 a26.Regs.c1, .int .i64 a26.Regs.c2, .int .i64 a26.Regs.c3, .int .i64 a26.Regs.c4, .int .i64 a26.Regs.c5, .int .i64 a26.Regs.c6, .int .i64 a26.Regs.c7, .int .i64 a26.Draws, .int .i64 a26.Sent]) 0 hS rfl rfl rfl rfl sizeOf34 rfl rfl rfl rfl) rfl ?_))))
  rintro _ w ⟨rfl, hS⟩
  have hS : St B w (Cl _ [_, _, _, _, _, _, _, _, _, _] _ :: _ :: _ :: _ :: _ :: _ :: _ :: _ :: l) hf := hS
  refine ln (RQ.bg hS.p1 hr3.state rfl fun w hS => RC.block (sr (pn 1 rfl (RL.s (Vl.ld 5 hS isAgg3 rfl rfl rfl) rfl (pn 1 rfl (ln ?_))))))
  refine RC.iteP 56 rfl h (fun hc60 h => ?_) fun hc60 h => ?_
  next =>
   refine RC.condT rfl (RC.seq (RC.planS (plD [1, 4, 6, 9, 13, 15, 18, 21, 24, 28, 30, 33, 37, 39, 43, 46, 50, 53, 56, 59]) [18, 19] hS (fun w hS => hS) follows rfl (by kernel_rfl) (NoTmp.then (NoTmp.block NoTmp.round)) fun w hS => RP.s 0 0 rfl rfl hS (fun w hS => Vl.ld 6 hS isAgg47 rfl rfl rfl) rfl (RP.s 0 1 rfl rfl hS (fun w hS => Vl.ld 4 hS isAgg28 rfl rfl rfl) rfl (pp 1 rfl (RP.s0 3 rfl (fun w => Vl.fa 16 underlying59 rfl sizeOf57 rfl rfl) rfl (RP.s 0 4 rfl rfl hS (fun w hS => Vl.ld 2 hS isAgg57 rfl rfl rfl) rfl (RP.s0 5 rfl (fun w => Vl.lenSl underlying57 rfl) rfl (pp 3 rfl (RP.s 0 9 rfl rfl hS (fun w hS => Vl.ld 4 hS isAgg28 rfl rfl rfl) rfl (pp 1 rfl (RP.s0 11 rfl (fun w => Vl.fa 16 underlying59 rfl sizeOf57 rfl rfl) rfl (RP.s 0 12 rfl rfl hS (fun w hS => Vl.ld 2 hS isAgg57 rfl rfl rfl) rfl (pp 1 rfl ?_)))))))))))))
   obtain ⟨⟨hq61, hq62⟩, h⟩ := h.req
   refine RP.s 0 14 rfl rfl hS (fun w hS => Vl.indexOwn 3 hS rfl underlying57 sizeOf68 rfl rfl hq61 hq62) rfl ?_
   obtain ⟨_, ⟨A64, c65, b67, rfl, hr66, hr68⟩, hl63⟩ := RepL.elem R_log_done_ok hx16 hq61 hq62
   refine RP.s 0 15 rfl rfl hS (fun w hS => Vl.loadA (vs := [.int .i64 ((((nth a6.l a25).event).Key).Time), .int .i64 ((((nth a6.l a25).event).Key).From), .int .i64 ((((nth a6.l a25).event).Key).Seq), .int .i64 (((nth a6.l a25).event).To), .int .i64 (((nth a6.l a25).event).Value), .int .i64 (((nth a6.l a25).event).Uid), .bool (((nth a6.l a25).event).Anti), .int .i64 ((nth a6.l a25).fault), .slice A64 ((nth a6.l a25).sent).length c65, .pointer (pz b67 ((nth a6.l a25).ahead).has)]) isAgg68 sizeOf68 rfl rfl (hS.elemCells 3 rfl hl63 (off := 0) rfl)) rfl (RP.v1 16 rfl (Vl.lw 1 hS isAgg34 sizeOf34 rfl rfl rfl) rfl rfl ?_)
   obtain ⟨t69, hg70, h⟩ := h.bind
   have hc := log_done_entry.ok (a1 := (⟨(⟨((nth a6.l a25).event).Key, ((nth a6.l a25).event).To, ((nth a6.l a25).event).Value, ((nth a6.l a25).event).Uid, (((nth a6.l a25).event).Anti)⟩ : api_Message), (nth a6.l a25).fault, (nth a6.l a25).sent, (nth a6.l a25).ahead⟩ : log_done)) hr66 hr68 hg70 hS
   refine RP.e 17 rfl (OW.callF (ls := [.tmp 72, .tmp 73]) rfl call25 hc) rfl rfl ?_
   rintro _ w ⟨A71, c72, rfl, hS⟩
   refine ⟨kp ⟨fun _ => hS.d0, trivial⟩, ?_⟩
   obtain ⟨⟨hq73, hq74⟩, h⟩ := h.req
   refine RP.v1 18 rfl (Vl.indexOwn 8 hS rfl underlying47 sizeOf44 rfl rfl hq73 hq74) rfl rfl ?_
   obtain ⟨hf, hs75, hS, hr76⟩ := St.promote hS
   obtain ⟨_, ⟨A78, c79, rfl, hr80⟩, hl77⟩ := RepL.elem R_api_Entry_ok (hx24.mono hs75) hq73 hq74
   refine RP.e0 19 rfl (OW.storeR (off := 0) (j := IntKind.i64.wrap ((IntKind.i64.wrap ((a6.l.length : Int) - 1)) - a25)) (k := [.int .i64 ((((nth a20 (IntKind.i64.wrap ((IntKind.i64.wrap ((a6.l.length : Int) - 1)) - a25))).Event).Key).Time), .int .i64 ((((nth a20 (IntKind.i64.wrap ((IntKind.i64.wrap ((a6.l.length : Int) - 1)) - a25))).Event).Key).From), .int .i64 ((((nth a20 (IntKind.i64.wrap ((IntKind.i64.wrap ((a6.l.length : Int) - 1)) - a25))).Event).Key).Seq), .int .i64 (((nth a20 (IntKind.i64.wrap ((IntKind.i64.wrap ((a6.l.length : Int) - 1)) - a25))).Event).To), .int .i64 (((nth a20 (IntKind.i64.wrap ((IntKind.i64.wrap ((a6.l.length : Int) - 1)) - a25))).Event).Value), .int .i64 (((nth a20 (IntKind.i64.wrap ((IntKind.i64.wrap ((a6.l.length : Int) - 1)) - a25))).Event).Uid), .bool (((nth a20 (IntKind.i64.wrap ((IntKind.i64.wrap ((a6.l.length : Int) - 1)) - a25))).Event).Anti), .int .i64 ((((nth a20 (IntKind.i64.wrap ((IntKind.i64.wrap ((a6.l.length : Int) - 1)) - a25))).Before).Regs).c0), .int .i64 ((((nth a20 (IntKind.i64.wrap ((IntKind.i64.wrap ((a6.l.length : Int) - 1)) - a25))).Before).Regs).c1), .int .i64 ((((nth a20 (IntKind.i64.wrap ((IntKind.i64.wrap ((a6.l.length : Int) - 1)) - a25))).Before).Regs).c2), .int .i64 ((((nth a20 (IntKind.i64.wrap ((IntKind.i64.wrap ((a6.l.length : Int) - 1)) - a25))).Before).Regs).c3), .int .i64 ((((nth a20 (IntKind.i64.wrap ((IntKind.i64.wrap ((a6.l.length : Int) - 1)) - a25))).Before).Regs).c4), .int .i64 ((((nth a20 (IntKind.i64.wrap ((IntKind.i64.wrap ((a6.l.length : Int) - 1)) - a25))).Before).Regs).c5), .int .i64 ((((nth a20 (IntKind.i64.wrap ((IntKind.i64.wrap ((a6.l.length : Int) - 1)) - a25))).Before).Regs).c6), .int .i64 ((((nth a20 (IntKind.i64.wrap ((IntKind.i64.wrap ((a6.l.length : Int) - 1)) - a25))).Before).Regs).c7), .int .i64 (((nth a20 (IntKind.i64.wrap ((IntKind.i64.wrap ((a6.l.length : Int) - 1)) - a25))).Before).Draws), .int .i64 (((nth a20 (IntKind.i64.wrap ((IntKind.i64.wrap ((a6.l.length : Int) - 1)) - a25))).Before).Sent), .int .i64 ((nth a20 (IntKind.i64.wrap ((IntKind.i64.wrap ((a6.l.length : Int) - 1)) - a25))).Fault), .slice A78 ((nth a20 (IntKind.i64.wrap ((IntKind.i64.wrap ((a6.l.length : Int) - 1)) - a25))).Sent).length c79]) (vs := [.int .i64 t69.Event.Key.Time, .int .i64 t69.Event.Key.From, .int .i64 t69.Event.Key.Seq, .int .i64 t69.Event.To, .int .i64 t69.Event.Value, .int .i64 t69.Event.Uid, .bool t69.Event.Anti, .int .i64 t69.Before.Regs.c0, .int .i64 t69.Before.Regs.c1, .int .i64 t69.Before.Regs.c2, .int .i64 t69.Before.Regs.c3, .int .i64 t69.Before.Regs.c4, .int .i64 t69.Before.Regs.c5, .int .i64 t69.Before.Regs.c6, .int .i64 t69.Before.Regs.c7, .int .i64 t69.Before.Draws, .int .i64 t69.Before.Sent, .int .i64 t69.Fault, .slice A71 t69.Sent.length c72]) (x' := t69) R_api_Entry_ok 7 hS rfl (hx24.mono hs75) rfl rfl rfl sizeOf44 rfl (Nat.succ_pos _) hq73 hq74 (Nat.le_of_ble_eq_true rfl) rfl hl77 ⟨_, _, rfl, hr76⟩ rfl) rfl ?_
   rintro _ w ⟨rfl, cs81, hx82, hS⟩
   have he83 := (hS.osN 0 rfl).1
   have hS : St B w (_ :: _ :: _ :: _ :: _ :: _ :: _ :: _ :: l) hf := (congrArg (fun k_ : Nat => St B w (OSl 44 19 (.slice A21 k_ c22) (setL a20 (IntKind.i64.wrap ((IntKind.i64.wrap ((a6.l.length : Int) - 1)) - a25)) t69).length cs81 :: pts b1 (.loop (busy rc2)) :: Cl b59 [.int .i64 a26.Regs.c0, .int .i64 a26.Regs.c1, .int .i64 a26.Regs.c2, .int .i64 a26.Regs.c3, .int .i64 a26.Regs.c4, .int .i64 a26.Regs.c5, .int .i64 a26.Regs.c6, .int .i64 a26.Regs.c7, .int .i64 a26.Draws, .int .i64 a26.Sent] 34 :: Cl b5 [.slice A7 a6.w.Prog.length c8, .int .i64 a6.w.Self, .slice A10 a6.w.Links.length c11, .int .u64 a6.w.Seed, .bool a6.made, .int .i64 a6.state.Regs.c0, .int .i64 a6.state.Regs.c1, .int .i64 a6.state.Regs.c2, .int .i64 a6.state.Regs.c3, .int .i64 a6.state.Regs.c4, .int .i64 a6.state.Regs.c5, .int .i64 a6.state.Regs.c6, .int .i64 a6.state.Regs.c7, .int .i64 a6.state.Draws, .int .i64 a6.state.Sent, .int .i64 a6.every, .slice A13 a6.l.length c14, .bool a6.stuck] 59 :: OSl 68 10 (.slice A13 a6.l.length c14) a6.l.length cs15 :: Cl b4 [.pointer (some ⟨b5, 0, none⟩)] 28 :: Cl b17 [.int .i64 a18] 3 :: Cl b19 [.slice A21 k_ c22] 47 :: l) hf) he83).mp hS
   refine ⟨kp ⟨(by intro hx; cases hx), trivial⟩, ?_⟩
   refine RP.re 57 rfl (congrArg (fun k_ : Nat => (.slice A21 k_ c22 : Value)) he83) (RP.nil (RQ.then_n (RC.planS (plD [1, 4, 6, 9, 13, 15, 19, 21, 24, 28, 32, 35, 38, 41, 44, 47, 50, 53, 56]) [16, 17, 18] hS (fun w hS => hS) follows rfl (by kernel_rfl) (NoTmp.block NoTmp.round) fun w hS => RP.s 0 0 rfl rfl hS (fun w hS => Vl.ld 5 hS isAgg28 rfl rfl rfl) rfl (RP.s 0 1 rfl rfl hS (fun w hS => Vl.ld 5 hS isAgg28 rfl rfl rfl) rfl (pp 1 rfl (RP.s0 3 rfl (fun w => Vl.fa 17 underlying59 rfl sizeOf4 rfl rfl) rfl (RP.s 0 4 rfl rfl hS (fun w hS => Vl.ld 3 hS isAgg4 rfl rfl rfl) rfl (pp 1 rfl ?_))))))))
   refine RP.iteB 81 rfl h (fun hc84 h => ?_) fun hc84 h => ?_
   next =>
    refine RP.sg 0 6 rfl rfl hS (fun w hS => Vl.ld 5 hS isAgg28 rfl rfl rfl) rfl rfl (pp 1 rfl (RP.sg0 8 rfl (fun w => Vl.fa 16 underlying59 rfl sizeOf57 rfl rfl) rfl rfl (RP.sg 0 9 rfl rfl hS (fun w hS => Vl.ld 3 hS isAgg57 rfl rfl rfl) rfl rfl (RP.v1 10 rfl (Vl.move rfl) rfl rfl (RP.v1 11 rfl (Vl.indexOwn 4 hS rfl underlying57 sizeOf68 rfl rfl hq61 hq62) rfl rfl (RP.v1 12 rfl (Vl.fieldAddr (a'' := (ad A13).add (a25.toNat * 10 + 7)) underlying68 rfl sizeOf29 rfl (add_add _ _ _)) rfl rfl ?_))))))
    obtain ⟨_, ⟨A86, c87, b89, rfl, hr88, hr90⟩, hl85⟩ := RepL.elem R_log_done_ok (hx16.mono hs75) hq61 hq62
    refine RP.v1 13 rfl (Vl.load isAgg29 rfl (hS.litCell 4 rfl (hl85 7 _ rfl))) rfl rfl (RP.v1 14 rfl (Vl.int rfl rfl rfl) rfl rfl (RP.v1 15 rfl (Vl.pickT rfl rfl) rfl rfl (RP.v1 16 rfl (Vl.nilCheck rfl) rfl rfl (RP.v1 17 rfl (Vl.fa 17 underlying59 rfl sizeOf4 rfl rfl) rfl rfl (RP.e0 18 rfl (OW.store (vs := [.bool (decide ((nth a6.l a25).fault = 0))]) 3 hS rfl rfl rfl rfl sizeOf4 rfl rfl rfl rfl) rfl ?_)))))
    rintro _ w ⟨rfl, hS⟩
    have hS : St B w (_ :: _ :: _ :: Cl _ [_, _, _, _, _, _, _, _, _, _, _, _, _, _, _, _, _, _] _ :: _ :: _ :: _ :: _ :: l) hf := hS
    refine ⟨kp ⟨(by intro hx; cases hx), trivial⟩, ?_⟩
    refine RP.nil (RQ.inB_n ?_)
    obtain rfl := h.some
    exact RQ.rn hS.p1 hr3.state hr3.pending fun w hS => ⟨_, hs75, A21, c22, cs81, rfl, hS.d2.p1, hx82⟩
   next =>
    refine RP.nn 0 6 rfl rfl rfl (pp 2 rfl (RP.nn 0 9 rfl rfl rfl (RP.n1 10 rfl rfl rfl (RP.n1 11 rfl rfl rfl (RP.n1 12 rfl rfl rfl (RP.n1 13 rfl rfl rfl (RP.n1 14 rfl rfl rfl (RP.v1 15 rfl (Vl.pickF rfl rfl) rfl rfl (RP.v1 16 rfl (Vl.nilCheck rfl) rfl rfl (RP.v1 17 rfl (Vl.fa 17 underlying59 rfl sizeOf4 rfl rfl) rfl rfl (RP.e0 18 rfl (OW.store (vs := [.bool false]) 3 hS rfl rfl rfl rfl sizeOf4 rfl rfl rfl rfl) rfl ?_)))))))))))
    rintro _ w ⟨rfl, hS⟩
    have hS : St B w (_ :: _ :: _ :: Cl _ [_, _, _, _, _, _, _, _, _, _, _, _, _, _, _, _, _, _] _ :: _ :: _ :: _ :: _ :: l) hf := hS
    refine ⟨kp ⟨(by intro hx; cases hx), trivial⟩, ?_⟩
    refine RP.nil (RQ.inB_n ?_)
    obtain rfl := h.some
    exact RQ.rn hS.p1 hr3.state hr3.pending fun w hS => ⟨_, hs75, A21, c22, cs81, rfl, hS.d2.p1, hx82⟩
  next =>
   refine RC.condF rfl (RC.skip (RQ.inB_n ?_))
   obtain rfl := h.some
   exact RQ.rn hS hr3.state hr3.pending fun w hS => ⟨_, (Sub.refl _), A21, c22, cs23, rfl, hS.d1.p6, hx24⟩

/-! ### (*isochron/log.Log).states$1: function 35 -/
noncomputable def log_Log_states_1v2.j23 (a6 : log_Log) (a18 : Int) (q859 : Bool) (l860 : List api_Entry) (x866 : Int) (y1035 : api_State) : Option ((Bool × List api_Entry × api_State × Int) ⊕ (Bool × List api_Entry × Int)) := ((log_Log_Back_round0.f (⟨a6.w, a6.made, a6.state, a6.every, a6.l, q859⟩ : log_Log) a18 l860 x866 y1035).bind fun (y1047, y1048) => (if 0 ≤ x866 then ((vm_Run.f a6.w y1035 (⟨((nth a6.l x866).event).Key, ((nth a6.l x866).event).To, ((nth a6.l x866).event).Value, ((nth a6.l x866).event).Uid, (((nth a6.l x866).event).Anti)⟩ : api_Message)).bind fun (y1063, y1064, y1065) => some (.inl (y1047, y1048, y1063, IntKind.i64.wrap (x866 + 1)))) else none))
noncomputable def log_Log_states_1v2.l21b (a6 : log_Log) (a18 x648 : Int) : Bool × List api_Entry × api_State × Int → Option ((Bool × List api_Entry × api_State × Int) ⊕ (Bool × List api_Entry × Int))
  | (q859, l860, y865, x866) => (if x866 < (a6.l.length : Int) then (if 0 ≤ x866 then (if ((nth a6.l x866).ahead).has = true then log_Log_states_1v2.j23 a6 a18 q859 l860 x866 (((nth a6.l x866).ahead).val) else log_Log_states_1v2.j23 a6 a18 q859 l860 x866 y865) else none) else some (.inr (q859, l860, x648)))
noncomputable def log_Log_states_1v2.l21 (a6 : log_Log) (a18 x648 : Int) (s : Bool × List api_Entry × api_State × Int) : Option (Bool × List api_Entry × Int) := loopR (log_Log_states_1v2.l21b a6 a18 x648) s
noncomputable def log_Log_states_1v2.j14 (a6 : log_Log) (a18 : Int) (a20 : (List api_Entry)) (x648 : Int) : Option (Bool × List api_Entry × Int) := log_Log_states_1v2.l21 a6 a18 x648 (a6.stuck, a20, (⟨(⟨0, 0, 0, 0, 0, 0, 0, 0⟩ : Arr8xInti64), 0, 0⟩ : api_State), x648)
noncomputable def log_Log_states_1v2.l24b (a6 : log_Log) (a18 : Int) (a20 : (List api_Entry)) : Int → Option ((Int) ⊕ (Bool × List api_Entry × Int))
  | (x1097) => (if 0 < x1097 then (if 0 ≤ x1097 ∧ x1097 < (a6.l.length : Int) then (if ((nth a6.l x1097).ahead).has = true then (Option.map Sum.inr (log_Log_states_1v2.j14 a6 a18 a20 x1097)) else some (.inl (IntKind.i64.wrap (x1097 - 1)))) else none) else (Option.map Sum.inr (log_Log_states_1v2.j14 a6 a18 a20 x1097)))
noncomputable def log_Log_states_1v2.l24 (a6 : log_Log) (a18 : Int) (a20 : (List api_Entry)) (s : Int) : Option (Bool × List api_Entry × Int) := loopR (log_Log_states_1v2.l24b a6 a18 a20) s
noncomputable def log_Log_states_1v2.f (a6 : log_Log) (a18 : Int) (a20 : (List api_Entry)) (a26 : Int) : Option (Bool × List api_Entry × Int) := log_Log_states_1v2.l24 a6 a18 a20 (a26)
theorem log_Log_states_1v2.ok {a6 : log_Log} {a18 : Int} {a20 : (List api_Entry)} {a26 : Int} {b1 : Nat} {rc2 : Loop} {b4 b5 : Nat} {A7 : Option Addr} {c8 : Nat} {A10 : Option Addr} {c11 : Nat} {A13 : Option Addr} {c14 : Nat} {cs15 : List Value} {b17 b19 : Nat} {A21 : Option Addr} {c22 : Nat} {cs23 : List Value} {b25 b27 : Nat} (hr9 : SlR E_api_Instr.rep hf A7 c8 a6.w.Prog) (hr12 : SlR E_api_Link.rep hf A10 c11 a6.w.Links) (hx16 : RepL R_log_done hf cs15 a6.l) (hx24 : RepL R_api_Entry hf cs23 a20) (hr3 : RecF f12 0 115 [(2, .pointer (some ⟨b4, 0, none⟩)), (5, .pointer (some ⟨b17, 0, none⟩)), (6, .pointer (some ⟨b19, 0, none⟩))] rc2) (hG0 : GlobAt hf 0 (.iface 119 (.agg #[.pointer (some ⟨1, 76, none⟩)]))) {r : Bool × List api_Entry × Int} (h : log_Log_states_1v2.f a6 a18 a20 a26 = some r) (hS : St B w (pts b1 (.loop rc2) :: Cl b5 [.slice A7 a6.w.Prog.length c8, .int .i64 a6.w.Self, .slice A10 a6.w.Links.length c11, .int .u64 a6.w.Seed, .bool a6.made, .int .i64 a6.state.Regs.c0, .int .i64 a6.state.Regs.c1, .int .i64 a6.state.Regs.c2, .int .i64 a6.state.Regs.c3, .int .i64 a6.state.Regs.c4, .int .i64 a6.state.Regs.c5, .int .i64 a6.state.Regs.c6, .int .i64 a6.state.Regs.c7, .int .i64 a6.state.Draws, .int .i64 a6.state.Sent, .int .i64 a6.every, .slice A13 a6.l.length c14, .bool a6.stuck] 59 :: OSl 68 10 (.slice A13 a6.l.length c14) a6.l.length cs15 :: Cl b4 [.pointer (some ⟨b5, 0, none⟩)] 28 :: Cl b17 [.int .i64 a18] 3 :: Cl b19 [.slice A21 a20.length c22] 47 :: OSl 44 19 (.slice A21 a20.length c22) a20.length cs23 :: Cl b25 [.int .i64 a26] 3 :: Cl b27 [.pointer (some ⟨b5, 0, none⟩)] 28 :: l) hf) :
    Calls prog 35 #[.func (.yield b1) #[] #[], .pointer (some ⟨b25, 0, none⟩), .pointer (some ⟨b27, 0, none⟩)] w (Ret fun v w => ∃ hf_ : Hp, Sub hf hf_ ∧ ∃ (A_1 : Option Addr) (c_2 : Nat) (cs_3 : List Value), v = .tuple #[] ∧ St B w (OSl 44 19 (.slice A_1 r.2.1.length c_2) r.2.1.length cs_3 :: pts b1 (.loop rc2) :: Cl b5 [.slice A7 a6.w.Prog.length c8, .int .i64 a6.w.Self, .slice A10 a6.w.Links.length c11, .int .u64 a6.w.Seed, .bool a6.made, .int .i64 a6.state.Regs.c0, .int .i64 a6.state.Regs.c1, .int .i64 a6.state.Regs.c2, .int .i64 a6.state.Regs.c3, .int .i64 a6.state.Regs.c4, .int .i64 a6.state.Regs.c5, .int .i64 a6.state.Regs.c6, .int .i64 a6.state.Regs.c7, .int .i64 a6.state.Draws, .int .i64 a6.state.Sent, .int .i64 a6.every, .slice A13 a6.l.length c14, .bool r.1] 59 :: OSl 68 10 (.slice A13 a6.l.length c14) a6.l.length cs15 :: Cl b4 [.pointer (some ⟨b5, 0, none⟩)] 28 :: Cl b17 [.int .i64 a18] 3 :: Cl b19 [.slice A_1 r.2.1.length c_2] 47 :: Cl b25 [.int .i64 r.2.2] 3 :: Cl b27 [.pointer (some ⟨b5, 0, none⟩)] 28 :: l) hf_ ∧ RepL R_api_Entry hf_ cs_3 r.2.1) := by
  have h := Holds.of h
  refine en func35 rfl ntmps35 rfl ?_
  refine RC.join (fun (s : Int) a w => ∃ (x648 : Int), s = (x648) ∧ Has 68 [(0, .func (.yield b1) #[] #[]), (1, .pointer (some ⟨b25, 0, none⟩)), (2, .pointer (some ⟨b27, 0, none⟩))] a ∧ St B w (OSl 68 10 (.slice A13 a6.l.length c14) a6.l.length cs15 :: OSl 44 19 (.slice A21 a20.length c22) a20.length cs23 :: pts b1 (.loop rc2) :: Cl b5 [.slice A7 a6.w.Prog.length c8, .int .i64 a6.w.Self, .slice A10 a6.w.Links.length c11, .int .u64 a6.w.Seed, .bool a6.made, .int .i64 a6.state.Regs.c0, .int .i64 a6.state.Regs.c1, .int .i64 a6.state.Regs.c2, .int .i64 a6.state.Regs.c3, .int .i64 a6.state.Regs.c4, .int .i64 a6.state.Regs.c5, .int .i64 a6.state.Regs.c6, .int .i64 a6.state.Regs.c7, .int .i64 a6.state.Draws, .int .i64 a6.state.Sent, .int .i64 a6.every, .slice A13 a6.l.length c14, .bool a6.stuck] 59 :: Cl b4 [.pointer (some ⟨b5, 0, none⟩)] 28 :: Cl b17 [.int .i64 a18] 3 :: Cl b19 [.slice A21 a20.length c22] 47 :: Cl b25 [.int .i64 x648] 3 :: Cl b27 [.pointer (some ⟨b5, 0, none⟩)] 28 :: l) hf ∧ Holds (· = r) (log_Log_states_1v2.j14 a6 a18 a20 x648)) ?_ ?_
  · rintro x648 a w ⟨_, rfl, ha, hS, h⟩
    revert a
    show RC _ _ _ _ _ _
    refine sr (al hS zeroValue34 rfl rfl rfl fun b649 w hS => lnsr (RL.s (Vl.ld 8 hS isAgg3 rfl rfl rfl) rfl (pn 1 rfl (ln (RC.block ?_)))))
    refine fun a ha => RC.loop (N := 68) (body := (log_Log_states_1v2.l21b a6 a18 x648)) (φ := (· = r)) (fun (s : Bool × List api_Entry × api_State × Int) a w => ∃ (q859 : Bool) (l860 : List api_Entry) (y865 : api_State) (x866 : Int), s = (q859, l860, y865, x866) ∧ ∃ hf_ : Hp, Sub hf hf_ ∧ ∃ (A861 : Option Addr) (c862 : Nat) (cs863 : List Value), Has 68 [(0, .func (.yield b1) #[] #[]), (2, .pointer (some ⟨b27, 0, none⟩)), (4, .pointer (some ⟨b649, 0, none⟩)), (5, .int .i64 x866)] a ∧ St B w (OSl 68 10 (.slice A13 a6.l.length c14) a6.l.length cs15 :: OSl 44 19 (.slice A861 l860.length c862) l860.length cs863 :: Cl b649 [.int .i64 y865.Regs.c0, .int .i64 y865.Regs.c1, .int .i64 y865.Regs.c2, .int .i64 y865.Regs.c3, .int .i64 y865.Regs.c4, .int .i64 y865.Regs.c5, .int .i64 y865.Regs.c6, .int .i64 y865.Regs.c7, .int .i64 y865.Draws, .int .i64 y865.Sent] 34 :: pts b1 (.loop rc2) :: Cl b5 [.slice A7 a6.w.Prog.length c8, .int .i64 a6.w.Self, .slice A10 a6.w.Links.length c11, .int .u64 a6.w.Seed, .bool a6.made, .int .i64 a6.state.Regs.c0, .int .i64 a6.state.Regs.c1, .int .i64 a6.state.Regs.c2, .int .i64 a6.state.Regs.c3, .int .i64 a6.state.Regs.c4, .int .i64 a6.state.Regs.c5, .int .i64 a6.state.Regs.c6, .int .i64 a6.state.Regs.c7, .int .i64 a6.state.Draws, .int .i64 a6.state.Sent, .int .i64 a6.every, .slice A13 a6.l.length c14, .bool q859] 59 :: Cl b4 [.pointer (some ⟨b5, 0, none⟩)] 28 :: Cl b17 [.int .i64 a18] 3 :: Cl b19 [.slice A861 l860.length c862] 47 :: Cl b25 [.int .i64 x648] 3 :: Cl b27 [.pointer (some ⟨b5, 0, none⟩)] 28 :: l) hf_ ∧ RepL R_api_Entry hf_ cs863 l860) ?_ (s0 := (a6.stuck, a20, (⟨(⟨0, 0, 0, 0, 0, 0, 0, 0⟩ : Arr8xInti64), 0, 0⟩ : api_State), x648)) h ⟨a6.stuck, a20, (⟨(⟨0, 0, 0, 0, 0, 0, 0, 0⟩ : Arr8xInti64), 0, 0⟩ : api_State), x648, rfl, _, (Sub.refl _), A21, c22, cs23, ha.to ⟨rfl, rfl, rfl, rfl, trivial⟩, hS.p2.p2, hx24⟩
    rintro G975 _ a w ⟨q859, l860, y865, x866, rfl, hf, hs750, A861, c862, cs863, ha, hS, hx864⟩ h
    revert a
    show RC _ _ _ _ _ _
    refine RC.seq (sr (pn 1 rfl (RL.s (Vl.ld 9 hS isAgg28 rfl rfl rfl) rfl (pn 1 rfl (RL.s (Vl.fa 16 underlying59 rfl sizeOf57 rfl rfl) rfl (RL.s (Vl.ld 4 hS isAgg57 rfl rfl rfl) rfl (RL.s (Vl.lenSl underlying57 rfl) rfl (pn 1 rfl (ln ?_)))))))))
    refine RC.iteP 29 rfl h (fun hc977 h => ?_) fun hc977 h => ?_
    next =>
     refine RC.condT rfl (sk (RC.seq (RC.block ?_)))
     refine RC.join (fun (s : api_State) a w => ∃ (y1035 : api_State), s = (y1035) ∧ Has 68 [(0, .func (.yield b1) #[] #[]), (2, .pointer (some ⟨b27, 0, none⟩)), (4, .pointer (some ⟨b649, 0, none⟩)), (5, .int .i64 x866)] a ∧ St B w (OSl 68 10 (.slice A13 a6.l.length c14) a6.l.length cs15 :: OSl 44 19 (.slice A861 l860.length c862) l860.length cs863 :: Cl b649 [.int .i64 y1035.Regs.c0, .int .i64 y1035.Regs.c1, .int .i64 y1035.Regs.c2, .int .i64 y1035.Regs.c3, .int .i64 y1035.Regs.c4, .int .i64 y1035.Regs.c5, .int .i64 y1035.Regs.c6, .int .i64 y1035.Regs.c7, .int .i64 y1035.Draws, .int .i64 y1035.Sent] 34 :: pts b1 (.loop rc2) :: Cl b5 [.slice A7 a6.w.Prog.length c8, .int .i64 a6.w.Self, .slice A10 a6.w.Links.length c11, .int .u64 a6.w.Seed, .bool a6.made, .int .i64 a6.state.Regs.c0, .int .i64 a6.state.Regs.c1, .int .i64 a6.state.Regs.c2, .int .i64 a6.state.Regs.c3, .int .i64 a6.state.Regs.c4, .int .i64 a6.state.Regs.c5, .int .i64 a6.state.Regs.c6, .int .i64 a6.state.Regs.c7, .int .i64 a6.state.Draws, .int .i64 a6.state.Sent, .int .i64 a6.every, .slice A13 a6.l.length c14, .bool q859] 59 :: Cl b4 [.pointer (some ⟨b5, 0, none⟩)] 28 :: Cl b17 [.int .i64 a18] 3 :: Cl b19 [.slice A861 l860.length c862] 47 :: Cl b25 [.int .i64 x648] 3 :: Cl b27 [.pointer (some ⟨b5, 0, none⟩)] 28 :: l) hf ∧ Holds (Sum.elim G975 (· = r)) (log_Log_states_1v2.j23 a6 a18 q859 l860 x866 y1035)) ?_ ?_
     · rintro y1035 a w ⟨_, rfl, ha, hS, h⟩
       revert a
       show RC _ _ _ _ _ _
       refine RC.seq (sr (pn 2 rfl (RL.s (Vl.lw 2 hS isAgg34 sizeOf34 rfl rfl rfl) rfl (yc (fun _ hg1046 => log_Log_Back_round0.ok (a6 := (⟨a6.w, a6.made, a6.state, a6.every, a6.l, q859⟩ : log_Log)) (hr9.mono hs750) (hr12.mono hs750) (hx16.mono hs750) hx864 hr3 hg1046 hS.p7.p7.p7.p3.p7.p7) rfl h rfl rfl rfl rfl ?_))))
       intro t1045 h
       obtain ⟨y1047, y1048⟩ := t1045
       rintro _ w ⟨hf, hs1053, A1049, c1050, cs1051, rfl, hS, hx1052⟩
       have hS : St B w (_ :: _ :: _ :: _ :: _ :: _ :: _ :: _ :: _ :: _ :: l) hf := hS
       refine pn 1 rfl (ln (RC.condF rfl (sk (RC.planS (plD [1, 3, 6, 10, 13, 16, 18, 21, 25, 27, 31, 33, 37, 41, 42, 45, 48, 51, 56]) [18] hS (fun w hS => hS) follows rfl (by kernel_rfl) (NoTmp.block (NoTmp.then (NoTmp.then (NoTmp.block NoTmp.body)))) fun w hS => RP.s 0 0 rfl rfl hS (fun w hS => Vl.ld 9 hS isAgg28 rfl rfl rfl) rfl (pp 1 rfl (RP.s0 2 rfl (fun w => Vl.fa 0 underlying59 rfl sizeOf26 rfl rfl) rfl (RP.s 0 3 rfl rfl hS (fun w hS => Vl.loadA (vs := [.slice A7 a6.w.Prog.length c8, .int .i64 a6.w.Self, .slice A10 a6.w.Links.length c11, .int .u64 a6.w.Seed]) isAgg26 sizeOf26 rfl rfl (hS.cellsAt 2 rfl rfl)) rfl (RP.s 0 4 rfl rfl hS (fun w hS => Vl.lw 7 hS isAgg34 sizeOf34 rfl rfl rfl) rfl (RP.s 0 5 rfl rfl hS (fun w hS => Vl.ld 9 hS isAgg28 rfl rfl rfl) rfl (pp 1 rfl (RP.s0 7 rfl (fun w => Vl.fa 16 underlying59 rfl sizeOf57 rfl rfl) rfl (RP.s 0 8 rfl rfl hS (fun w hS => Vl.ld 2 hS isAgg57 rfl rfl rfl) rfl ?_))))))))))))
       refine pp 1 rfl ?_
       obtain ⟨hq1054, h⟩ := h.req
       refine RP.s 0 10 rfl rfl hS (fun w hS => Vl.indexOwn 3 hS rfl underlying57 sizeOf68 rfl rfl hq1054 hc977) rfl (RP.s0 11 rfl (fun w => Vl.fieldAddr (a'' := (ad A13).add (x866.toNat * 10 + 0)) underlying68 rfl sizeOf42 rfl (add_add _ _ _)) rfl ?_)
       obtain ⟨_, ⟨A1056, c1057, b1059, rfl, hr1058, hr1060⟩, hl1055⟩ := RepL.elem R_log_done_ok ((hx16.mono hs750).mono hs1053) hq1054 hc977
       refine RP.s 0 12 rfl rfl hS (fun w hS => Vl.loadA (vs := [.int .i64 ((((nth a6.l x866).event).Key).Time), .int .i64 ((((nth a6.l x866).event).Key).From), .int .i64 ((((nth a6.l x866).event).Key).Seq), .int .i64 (((nth a6.l x866).event).To), .int .i64 (((nth a6.l x866).event).Value), .int .i64 (((nth a6.l x866).event).Uid), .bool (((nth a6.l x866).event).Anti)]) isAgg42 sizeOf42 rfl rfl (hS.elemCells 3 rfl hl1055 (off := 0) rfl)) rfl ?_
       obtain ⟨t1061, hg1062, h⟩ := h.bind
       have hc := vm_Run.ok ((hr9.mono hs750).mono hs1053) ((hr12.mono hs750).mono hs1053) ((hG0.mono hs750).mono hs1053) hg1062 hS
       obtain ⟨y1063, y1064, y1065⟩ := t1061
       refine RP.e 13 rfl (OW.callF (ls := [.tmp 54, .tmp 55, .tmp 63]) rfl call32 hc) rfl rfl ?_
       rintro _ w ⟨A1066, c1067, rfl, hS⟩
       refine ⟨kp ⟨fun _ => hS.d0, trivial⟩, ?_⟩
       refine pp 4 rfl (RP.e0 18 rfl (OW.store (vs := [.int .i64 y1063.Regs.c0, .int .i64 y1063.Regs.c1, .int .i64 y1063.Regs.c2, .int .i64 y1063.Regs.c3, .int .i64 y1063.Regs.c4, .int .i64 y1063.Regs.c5, .int .i64 y1063.Regs.c6, .int .i64 y1063.Regs.c7, .int .i64 y1063.Draws, .int .i64 y1063.Sent]) 8 hS rfl rfl rfl rfl sizeOf34 rfl rfl rfl rfl) rfl ?_)
       rintro _ w ⟨rfl, hS⟩
       have hS : St B w (_ :: _ :: _ :: _ :: _ :: _ :: _ :: _ :: Cl _ [_, _, _, _, _, _, _, _, _, _] _ :: _ :: _ :: l) hf := hS
       refine ⟨kp ⟨(by intro hx; cases hx), trivial⟩, ?_⟩
       refine RP.nil (RQ.inB_n (RQ.then_n (RC.region (pn 3 rfl (RL.nil ?_)))))
       exact fun a ha => ⟨(y1047, y1048, y1063, IntKind.i64.wrap (x866 + 1)), ⟨y1047, y1048, y1063, (IntKind.i64.wrap (x866 + 1)), rfl, _, (hs750.trans hs1053), A1049, c1050, cs1051, ha.to ⟨rfl, rfl, rfl, rfl, trivial⟩, hS.d0.p7.p1.p4, hx1052⟩, h.some⟩
     · refine RC.seq ?_
       refine RC.region (RL.s (Vl.ld 9 hS isAgg28 rfl rfl rfl) rfl (pn 1 rfl (RL.s (Vl.fa 16 underlying59 rfl sizeOf57 rfl rfl) rfl (RL.s (Vl.ld 4 hS isAgg57 rfl rfl rfl) rfl (pn 1 rfl ?_)))))
       obtain ⟨hq1068, h⟩ := h.req
       refine RL.s (Vl.indexOwn 0 hS rfl underlying57 sizeOf68 rfl rfl hq1068 hc977) rfl (RL.s (Vl.fieldAddr (a'' := (ad A13).add (x866.toNat * 10 + 9)) underlying68 rfl sizeOf66 rfl (add_add _ _ _)) rfl ?_)
       obtain ⟨_, ⟨A1070, c1071, b1073, rfl, hr1072, hr1074⟩, hl1069⟩ := RepL.elem R_log_done_ok (hx16.mono hs750) hq1068 hc977
       refine RL.s (Vl.load isAgg66 rfl (hS.litCell 0 rfl (hl1069 9 _ rfl))) rfl (pn 1 rfl (lnsr (pn 1 rfl (RL.s (Vl.ptNeq (fun b w => by kernel_rfl) (fun w => by kernel_rfl) rfl rfl) rfl (ln ?_)))))
       refine RC.iteB 41 rfl h (fun hc1075 h => ?_) fun hc1075 h => ?_
       next =>
        refine RC.condT rfl (RC.region (pn 1 rfl (RL.s (Vl.nilCheckO hc1075 rfl) rfl (RL.s (Vl.loadA (vs := [.int .i64 (((((nth a6.l x866).ahead).val).Regs).c0), .int .i64 (((((nth a6.l x866).ahead).val).Regs).c1), .int .i64 (((((nth a6.l x866).ahead).val).Regs).c2), .int .i64 (((((nth a6.l x866).ahead).val).Regs).c3), .int .i64 (((((nth a6.l x866).ahead).val).Regs).c4), .int .i64 (((((nth a6.l x866).ahead).val).Regs).c5), .int .i64 (((((nth a6.l x866).ahead).val).Regs).c6), .int .i64 (((((nth a6.l x866).ahead).val).Regs).c7), .int .i64 ((((nth a6.l x866).ahead).val).Draws), .int .i64 ((((nth a6.l x866).ahead).val).Sent)]) isAgg34 sizeOf34 rfl rfl ((hr1074.on hc1075).cells hS.sub)) rfl (RL.e0 (OW.store (vs := [.int .i64 (((((nth a6.l x866).ahead).val).Regs).c0), .int .i64 (((((nth a6.l x866).ahead).val).Regs).c1), .int .i64 (((((nth a6.l x866).ahead).val).Regs).c2), .int .i64 (((((nth a6.l x866).ahead).val).Regs).c3), .int .i64 (((((nth a6.l x866).ahead).val).Regs).c4), .int .i64 (((((nth a6.l x866).ahead).val).Regs).c5), .int .i64 (((((nth a6.l x866).ahead).val).Regs).c6), .int .i64 (((((nth a6.l x866).ahead).val).Regs).c7), .int .i64 ((((nth a6.l x866).ahead).val).Draws), .int .i64 ((((nth a6.l x866).ahead).val).Sent)]) 2 hS rfl rfl rfl rfl sizeOf34 rfl rfl rfl rfl) rfl ?_)))))
        rintro _ w ⟨rfl, hS⟩
        have hS : St B w (_ :: _ :: Cl _ [_, _, _, _, _, _, _, _, _, _] _ :: _ :: _ :: _ :: _ :: _ :: _ :: _ :: l) hf := hS
        refine RL.nil ?_
        exact fun a ha => ⟨(((nth a6.l x866).ahead).val), (((nth a6.l x866).ahead).val), rfl, ha.to ⟨rfl, rfl, rfl, rfl, trivial⟩, hS, h⟩
       next =>
        refine RC.condF rfl (RC.skip ?_)
        exact fun a ha => ⟨(y865), y865, rfl, ha.to ⟨rfl, rfl, rfl, rfl, trivial⟩, hS, h⟩
    next =>
     refine RC.condF rfl (RC.exit (RQ.exitT ?_))
     have h := h.inrS
     refine RQ.exitT (RQ.inB_hit ?_)
     obtain rfl := h.some
     exact rtE results35 rfl ⟨_, hs750, A861, c862, cs863, rfl, hS.d2.p3.p3.p3, hx864⟩
  · refine RC.block ?_
    refine fun a ha => RC.loop (N := 68) (body := (log_Log_states_1v2.l24b a6 a18 a20)) (φ := (· = r)) (fun (s : Int) a w => ∃ (x1097 : Int), s = (x1097) ∧ Has 68 [(0, .func (.yield b1) #[] #[]), (1, .pointer (some ⟨b25, 0, none⟩)), (2, .pointer (some ⟨b27, 0, none⟩))] a ∧ St B w (OSl 68 10 (.slice A13 a6.l.length c14) a6.l.length cs15 :: OSl 44 19 (.slice A21 a20.length c22) a20.length cs23 :: pts b1 (.loop rc2) :: Cl b5 [.slice A7 a6.w.Prog.length c8, .int .i64 a6.w.Self, .slice A10 a6.w.Links.length c11, .int .u64 a6.w.Seed, .bool a6.made, .int .i64 a6.state.Regs.c0, .int .i64 a6.state.Regs.c1, .int .i64 a6.state.Regs.c2, .int .i64 a6.state.Regs.c3, .int .i64 a6.state.Regs.c4, .int .i64 a6.state.Regs.c5, .int .i64 a6.state.Regs.c6, .int .i64 a6.state.Regs.c7, .int .i64 a6.state.Draws, .int .i64 a6.state.Sent, .int .i64 a6.every, .slice A13 a6.l.length c14, .bool a6.stuck] 59 :: Cl b4 [.pointer (some ⟨b5, 0, none⟩)] 28 :: Cl b17 [.int .i64 a18] 3 :: Cl b19 [.slice A21 a20.length c22] 47 :: Cl b25 [.int .i64 x1097] 3 :: Cl b27 [.pointer (some ⟨b5, 0, none⟩)] 28 :: l) hf) ?_ (s0 := (a26)) h ⟨a26, rfl, ha.to ⟨rfl, rfl, rfl, trivial⟩, hS.p6.p3⟩
    rintro G1119 x1097 a w ⟨_, rfl, ha, hS⟩ h
    revert a
    show RC _ _ _ _ _ _
    refine RC.seq (RC.seq (RC.planS (plD [1, 3, 6, 10, 12, 15, 19, 23, 26, 29, 32, 35, 38]) [8, 9, 10, 11, 12] hS (fun w hS => hS) follows rfl (by kernel_rfl) (NoTmp.then (NoTmp.then (NoTmp.then (NoTmp.block (NoTmp.then NoTmp.body))))) fun w hS => RP.s 0 0 rfl rfl hS (fun w hS => Vl.ld 7 hS isAgg3 rfl rfl rfl) rfl (pp 2 rfl ?_)))
    refine RP.iteP 9 rfl h (fun hc1130 h => ?_) fun hc1130 h => ?_
    next =>
     refine RP.sg 0 3 rfl rfl hS (fun w hS => Vl.ld 8 hS isAgg28 rfl rfl rfl) rfl rfl (pp 1 rfl (RP.sg0 5 rfl (fun w => Vl.fa 16 underlying59 rfl sizeOf57 rfl rfl) rfl rfl (RP.sg 0 6 rfl rfl hS (fun w hS => Vl.ld 3 hS isAgg57 rfl rfl rfl) rfl rfl (RP.v1 7 rfl (Vl.ld 7 hS isAgg3 rfl rfl rfl) rfl rfl ?_))))
     obtain ⟨⟨hq1131, hq1132⟩, h⟩ := h.req
     refine RP.v1 8 rfl (Vl.indexOwn 0 hS rfl underlying57 sizeOf68 rfl rfl hq1131 hq1132) rfl rfl (RP.v1 9 rfl (Vl.fieldAddr (a'' := (ad A13).add (x1097.toNat * 10 + 9)) underlying68 rfl sizeOf66 rfl (add_add _ _ _)) rfl rfl ?_)
     obtain ⟨_, ⟨A1134, c1135, b1137, rfl, hr1136, hr1138⟩, hl1133⟩ := RepL.elem R_log_done_ok hx16 hq1131 hq1132
     refine RP.v1 10 rfl (Vl.load isAgg66 rfl (hS.litCell 0 rfl (hl1133 9 _ rfl))) rfl rfl (RP.v1 11 rfl (Vl.ptEql (fun b w => by kernel_rfl) (fun w => by kernel_rfl) rfl rfl) rfl rfl (RP.v1 12 rfl (Vl.pickT rfl rfl) rfl rfl (RP.nil (RQ.then_n ?_))))
     refine RC.iteM 19 rfl h (fun hc1139 h => ?_) fun hc1139 h => ?_
     next =>
      refine RC.condF rfl (RC.exit (RQ.exitT ?_))
      have h := h.inr
      refine RQ.exitT (RQ.inB_hit ?_)
      exact fun a ha => ⟨(x1097), x1097, rfl, ha.to ⟨rfl, rfl, rfl, trivial⟩, hS, h⟩
     next =>
      refine RC.condT rfl (sk (RC.block (RC.region (RL.s (Vl.ld 7 hS isAgg3 rfl rfl rfl) rfl (pn 1 rfl (RL.e0 (OW.store (vs := [.int .i64 (IntKind.i64.wrap (x1097 - 1))]) 7 hS rfl rfl rfl rfl sizeOf3 rfl rfl rfl rfl) rfl ?_))))))
      rintro _ w ⟨rfl, hS⟩
      have hS : St B w (_ :: _ :: _ :: _ :: _ :: _ :: _ :: Cl _ [_] _ :: _ :: l) hf := hS
      refine RL.nil (RQ.inB_n ?_)
      exact fun a ha => ⟨(IntKind.i64.wrap (x1097 - 1)), ⟨(IntKind.i64.wrap (x1097 - 1)), rfl, ha.to ⟨rfl, rfl, rfl, trivial⟩, hS⟩, h.some⟩
    next =>
     refine RP.nn 0 3 rfl rfl rfl (pp 2 rfl (RP.nn 0 6 rfl rfl rfl (RP.n1 7 rfl rfl rfl (RP.n1 8 rfl rfl rfl (RP.n1 9 rfl rfl rfl (RP.n1 10 rfl rfl rfl (RP.n1 11 rfl rfl rfl (RP.v1 12 rfl (Vl.pickF rfl rfl) rfl rfl (RP.nil (RQ.then_n (RC.condF rfl (RC.exit (RQ.exitT ?_)))))))))))))
     have h := h.inr
     refine RQ.exitT (RQ.inB_hit ?_)
     exact fun a ha => ⟨(x1097), x1097, rfl, ha.to ⟨rfl, rfl, rfl, trivial⟩, hS, h⟩

/-! ### (*isochron/log.Log).Back: function 12 -/
noncomputable def log_Log_Back.j7 (a2 : log_Log) (x339 : Int) (l355 : List api_Entry) : Option (List api_Entry × log_Log) := ((log_Log_states.f a2 x339).bind fun t378 => ((log_Log_states_1v2.f a2 x339 l355 t378).bind fun (y388, y389, y390) => (if 0 ≤ IntKind.i64.wrap ((y389.length : Int) - 1) ∧ IntKind.i64.wrap ((y389.length : Int) - 1) < (y389.length : Int) then (if 0 ≤ x339 ∧ x339 ≤ (a2.l.length : Int) then some (y389, (⟨a2.w, a2.made, (nth y389 (IntKind.i64.wrap ((y389.length : Int) - 1))).Before, a2.every, (subL a2.l 0 x339), y388⟩ : log_Log)) else none) else none)))
noncomputable def log_Log_Back.j6 (a2 : log_Log) (x339 : Int) : Option (List api_Entry × log_Log) := (if x339 = (a2.l.length : Int) then some (([] : List api_Entry), a2) else (if 0 ≤ IntKind.i64.wrap ((a2.l.length : Int) - x339) ∧ (IntKind.i64.wrap ((a2.l.length : Int) - x339)) * 168 ≤ 140737488355328 then log_Log_Back.j7 a2 x339 (List.replicate (IntKind.i64.wrap ((a2.l.length : Int) - x339) : Int).toNat (⟨(⟨(⟨0, 0, 0⟩ : api_Key), 0, 0, 0, false⟩ : api_Message), (⟨(⟨0, 0, 0, 0, 0, 0, 0, 0⟩ : Arr8xInti64), 0, 0⟩ : api_State), 0, []⟩ : api_Entry)) else none))
noncomputable def log_Log_Back.l8b (a2 : log_Log) (a13 : api_Message) : Int → Option ((Int) ⊕ (List api_Entry × log_Log))
  | (x443) => (if 0 < x443 then (if 0 ≤ IntKind.i64.wrap (x443 - 1) ∧ IntKind.i64.wrap (x443 - 1) < (a2.l.length : Int) then ((event_Before.f (⟨((nth a2.l (IntKind.i64.wrap (x443 - 1))).event).Key, ((nth a2.l (IntKind.i64.wrap (x443 - 1))).event).To, ((nth a2.l (IntKind.i64.wrap (x443 - 1))).event).Value, ((nth a2.l (IntKind.i64.wrap (x443 - 1))).event).Uid, (((nth a2.l (IntKind.i64.wrap (x443 - 1))).event).Anti)⟩ : api_Message) a13).bind fun t491 => (if t491 = true then (Option.map Sum.inr (log_Log_Back.j6 a2 x443)) else some (.inl (IntKind.i64.wrap (x443 - 1))))) else none) else (Option.map Sum.inr (log_Log_Back.j6 a2 x443)))
noncomputable def log_Log_Back.l8 (a2 : log_Log) (a13 : api_Message) (s : Int) : Option (List api_Entry × log_Log) := loopR (log_Log_Back.l8b a2 a13) s
noncomputable def log_Log_Back.f (a2 : log_Log) (a13 : api_Message) : Option (List api_Entry × log_Log) := ((log_Log_none.f a2).bind fun t259 => (if t259 = true then some (([] : List api_Entry), a2) else log_Log_Back.l8 a2 a13 ((a2.l.length : Int))))
theorem log_Log_Back.ok {a2 : log_Log} {a13 : api_Message} {b1 : Nat} {A3 : Option Addr} {c4 : Nat} {A6 : Option Addr} {c7 : Nat} {A9 : Option Addr} {c10 : Nat} {cs11 : List Value} (hr5 : SlR E_api_Instr.rep hf A3 c4 a2.w.Prog) (hr8 : SlR E_api_Link.rep hf A6 c7 a2.w.Links) (hx12 : RepL R_log_done hf cs11 a2.l) (hG0 : GlobAt hf 0 (.iface 119 (.agg #[.pointer (some ⟨1, 76, none⟩)]))) {r : List api_Entry × log_Log} (h : log_Log_Back.f a2 a13 = some r) (hS : St B w (Cl b1 [.slice A3 a2.w.Prog.length c4, .int .i64 a2.w.Self, .slice A6 a2.w.Links.length c7, .int .u64 a2.w.Seed, .bool a2.made, .int .i64 a2.state.Regs.c0, .int .i64 a2.state.Regs.c1, .int .i64 a2.state.Regs.c2, .int .i64 a2.state.Regs.c3, .int .i64 a2.state.Regs.c4, .int .i64 a2.state.Regs.c5, .int .i64 a2.state.Regs.c6, .int .i64 a2.state.Regs.c7, .int .i64 a2.state.Draws, .int .i64 a2.state.Sent, .int .i64 a2.every, .slice A9 a2.l.length c10, .bool a2.stuck] 59 :: OSl 68 10 (.slice A9 a2.l.length c10) a2.l.length cs11 :: l) hf) :
    Calls prog 12 #[.pointer (some ⟨b1, 0, none⟩), .agg #[.int .i64 a13.Key.Time, .int .i64 a13.Key.From, .int .i64 a13.Key.Seq, .int .i64 a13.To, .int .i64 a13.Value, .int .i64 a13.Uid, .bool a13.Anti]] w (Ret fun v w => ∃ hf_ : Hp, Sub hf hf_ ∧ ∃ (A_1 : Option Addr) (c_2 : Nat) (cs_3 : List Value) (A_5 : Option Addr) (c_6 : Nat) (cs_7 : List Value), v = .slice A_1 r.1.length c_2 ∧ St B w (OSl 44 19 (.slice A_1 r.1.length c_2) r.1.length cs_3 :: OSl 68 10 (.slice A_5 r.2.l.length c_6) r.2.l.length cs_7 :: Cl b1 [.slice A3 a2.w.Prog.length c4, .int .i64 a2.w.Self, .slice A6 a2.w.Links.length c7, .int .u64 a2.w.Seed, .bool a2.made, .int .i64 r.2.state.Regs.c0, .int .i64 r.2.state.Regs.c1, .int .i64 r.2.state.Regs.c2, .int .i64 r.2.state.Regs.c3, .int .i64 r.2.state.Regs.c4, .int .i64 r.2.state.Regs.c5, .int .i64 r.2.state.Regs.c6, .int .i64 r.2.state.Regs.c7, .int .i64 r.2.state.Draws, .int .i64 r.2.state.Sent, .int .i64 a2.every, .slice A_5 r.2.l.length c_6, .bool r.2.stuck] 59 :: l) hf_ ∧ RepL R_api_Entry hf_ cs_3 r.1 ∧ RepL R_log_done hf_ cs_7 r.2.l) := by
  have h := Holds.of h
  refine enM func12 rfl ntmps12 rfl (sr (bx hS rfl rfl rfl rfl fun b254 w hS => bx hS rfl rfl rfl rfl fun b255 w hS => pn 1 rfl (ln (RC.seq (sr (RL.s (Vl.ld 1 hS isAgg28 rfl rfl rfl) rfl (cF (fun _ hg => log_Log_none.ok hr5 hr8 hx12 hg hS.p3.p3) call21 h rfl rfl rfl ?_)))))))
  rintro t259 h _ w ⟨rfl, hS⟩
  refine ln ?_
  refine RC.iteB 10 rfl h (fun hc261 h => ?_) fun hc261 h => ?_
  next =>
   refine RC.condT rfl (sr (pn 1 rfl (lr (RQ.ret ?_))))
   have hS := hS.nilSlR 44 19
   obtain rfl := h.some
   exact rtM0 (vs := [.slice none 0 0]) results12 ⟨rfl, trivial⟩ ⟨_, (Sub.refl _), none, 0, ([]), A9, c10, cs11, rfl, hS.d3.d3.p2.p1, RepL.nil, hx12⟩
  next =>
   refine RC.condF rfl (sk (sr (RL.s (Vl.ld 3 hS isAgg28 rfl rfl rfl) rfl (pn 1 rfl (RL.s (Vl.fa 16 underlying59 rfl sizeOf57 rfl rfl) rfl (RL.s (Vl.ld 0 hS isAgg57 rfl rfl rfl) rfl (RL.s (Vl.lenSl underlying57 rfl) rfl (al hS zeroValue3 rfl rfl rfl fun b262 w hS => RL.e0 (OW.store (vs := [.int .i64 (a2.l.length : Int)]) 0 hS rfl rfl rfl rfl sizeOf3 rfl rfl rfl rfl) rfl ?_))))))))
   rintro _ w ⟨rfl, hS⟩
   have hS : St B w (Cl _ [_] _ :: _ :: _ :: _ :: _ :: l) hf := hS
   refine ln ?_
   refine RC.join (fun (s : Int) a w => ∃ (x339 : Int), s = (x339) ∧ Has 115 [(2, .pointer (some ⟨b254, 0, none⟩)), (5, .pointer (some ⟨b262, 0, none⟩))] a ∧ St B w (OSl 68 10 (.slice A9 a2.l.length c10) a2.l.length cs11 :: Cl b262 [.int .i64 x339] 3 :: Cl b1 [.slice A3 a2.w.Prog.length c4, .int .i64 a2.w.Self, .slice A6 a2.w.Links.length c7, .int .u64 a2.w.Seed, .bool a2.made, .int .i64 a2.state.Regs.c0, .int .i64 a2.state.Regs.c1, .int .i64 a2.state.Regs.c2, .int .i64 a2.state.Regs.c3, .int .i64 a2.state.Regs.c4, .int .i64 a2.state.Regs.c5, .int .i64 a2.state.Regs.c6, .int .i64 a2.state.Regs.c7, .int .i64 a2.state.Draws, .int .i64 a2.state.Sent, .int .i64 a2.every, .slice A9 a2.l.length c10, .bool a2.stuck] 59 :: Cl b254 [.pointer (some ⟨b1, 0, none⟩)] 28 :: l) hf ∧ Holds (· = r) (log_Log_Back.j6 a2 x339)) ?_ ?_
   · rintro x339 a w ⟨_, rfl, ha, hS, h⟩
     revert a
     show RC _ _ _ _ _ _
     refine RC.seq (RC.seq (RC.noPan (RC.planS (plD [1, 5, 8, 11, 14, 17, 20]) [6] hS (fun w hS => hS) follows rfl (by kernel_rfl) NoTmp.noPan fun w hS => RP.s 0 0 rfl rfl hS (fun w hS => Vl.ld 1 hS isAgg3 rfl rfl rfl) rfl (RP.v1 1 rfl (Vl.ld 3 hS isAgg28 rfl rfl rfl) rfl rfl (RP.v1 2 rfl (Vl.nilCheck rfl) rfl rfl (RP.v1 3 rfl (Vl.fa 16 underlying59 rfl sizeOf57 rfl rfl) rfl rfl (RP.v1 4 rfl (Vl.ld 2 hS isAgg57 rfl rfl rfl) rfl rfl (RP.v1 5 rfl (Vl.lenSl underlying57 rfl) rfl rfl (RP.v1 6 rfl (Vl.int rfl rfl rfl) rfl rfl (RP.nil (RQ.noPan_n (RQ.then_n ?_))))))))))))
     refine RC.iteP 40 rfl h (fun hc341 h => ?_) fun hc341 h => ?_
     next =>
      refine RC.condT rfl (sr (pn 1 rfl (lr (RQ.ret ?_))))
      have hS := hS.nilSlR 44 19
      obtain rfl := h.some
      exact rtM0 (vs := [.slice none 0 0]) results12 ⟨rfl, trivial⟩ ⟨_, (Sub.refl _), none, 0, ([]), A9, c10, cs11, rfl, hS.d2.d3, RepL.nil, hx12⟩
     next =>
      refine RC.condF rfl (sk ?_)
      refine RC.join (fun (s : List api_Entry) a w => ∃ (l355 : List api_Entry), s = (l355) ∧ ∃ (b354 : Nat) (A356 : Option Addr) (c357 : Nat) (cs358 : List Value), Has 115 [(2, .pointer (some ⟨b254, 0, none⟩)), (5, .pointer (some ⟨b262, 0, none⟩)), (6, .pointer (some ⟨b354, 0, none⟩))] a ∧ St B w (OSl 68 10 (.slice A9 a2.l.length c10) a2.l.length cs11 :: OSl 44 19 (.slice A356 l355.length c357) l355.length cs358 :: Cl b262 [.int .i64 x339] 3 :: Cl b1 [.slice A3 a2.w.Prog.length c4, .int .i64 a2.w.Self, .slice A6 a2.w.Links.length c7, .int .u64 a2.w.Seed, .bool a2.made, .int .i64 a2.state.Regs.c0, .int .i64 a2.state.Regs.c1, .int .i64 a2.state.Regs.c2, .int .i64 a2.state.Regs.c3, .int .i64 a2.state.Regs.c4, .int .i64 a2.state.Regs.c5, .int .i64 a2.state.Regs.c6, .int .i64 a2.state.Regs.c7, .int .i64 a2.state.Draws, .int .i64 a2.state.Sent, .int .i64 a2.every, .slice A9 a2.l.length c10, .bool a2.stuck] 59 :: Cl b254 [.pointer (some ⟨b1, 0, none⟩)] 28 :: Cl b354 [.slice A356 l355.length c357] 47 :: l) hf ∧ RepL R_api_Entry hf cs358 l355 ∧ Holds (· = r) (log_Log_Back.j7 a2 x339 l355)) ?_ ?_
      · rintro l355 a w ⟨_, rfl, b354, A356, c357, cs358, ha, hS, hx359, h⟩
        revert a
        show RC _ _ _ _ _ _
        refine RC.seq (sr (RL.s (Vl.ld 4 hS isAgg28 rfl rfl rfl) rfl (RL.s (Vl.ld 2 hS isAgg3 rfl rfl rfl) rfl (cF (fun _ hg => log_Log_states.ok hr5 hr8 hx12 hg hS.p3) call26 h rfl rfl rfl ?_))))
        rintro t378 h _ w ⟨b380, b381, rfl, hS⟩
        refine ln (RC.block ?_)
        obtain ⟨t386, hg387, h⟩ := h.bind
        refine RC.rf (args := fun b382 => #[.func (.yield b382) #[] #[], .pointer (some ⟨b380, 0, none⟩), .pointer (some ⟨b381, 0, none⟩)]) rfl call35 rfl hS (fun _ => by simp) (fun b382 d383 rc384 w hr385 hS => log_Log_states_1v2.ok hr5 hr8 hx12 hx359 (RecOK.to (M := 115) hr385 rfl rfl ⟨rfl, rfl, rfl, trivial⟩) hG0 hg387 hS.p3.p3.p6.p9.p8.p9.p9.p9.p8) ?_
        obtain ⟨y388, y389, y390⟩ := t386
        rintro b382 d383 rc384 _ w hr385 ⟨hf, hs395, A391, c392, cs393, rfl, hS, hx394⟩
        refine RE.n hS.p1 hr385.state hr385.pending fun w hS => RQ.inB_n (RQ.then_n (RC.seq (RC.noPan (RC.planS (plD [1, 4, 8, 11, 14, 17, 20, 23, 26, 29, 32]) [8, 9, 10] hS (fun w hS => hS) follows rfl (by kernel_rfl) NoTmp.noPan fun w hS => RP.s 0 0 rfl rfl hS (fun w hS => Vl.ld 3 hS isAgg28 rfl rfl rfl) rfl (RP.s 0 1 rfl rfl hS (fun w hS => Vl.ld 5 hS isAgg47 rfl rfl rfl) rfl (RP.v1 2 rfl (Vl.ld 5 hS isAgg47 rfl rfl rfl) rfl rfl (RP.v1 3 rfl (Vl.lenSl underlying47 rfl) rfl rfl (RP.v1 4 rfl (Vl.int rfl rfl rfl) rfl rfl ?_))))))))
        obtain ⟨⟨hq396, hq397⟩, h⟩ := h.req
        refine RP.v1 5 rfl (Vl.indexOwn 0 hS rfl underlying47 sizeOf44 rfl rfl hq396 hq397) rfl rfl (RP.v1 6 rfl (Vl.fieldAddr (a'' := (ad A391).add ((IntKind.i64.wrap ((y389.length : Int) - 1)).toNat * 19 + 7)) underlying44 rfl sizeOf34 rfl (add_add _ _ _)) rfl rfl ?_)
        obtain ⟨_, ⟨A399, c400, rfl, hr401⟩, hl398⟩ := RepL.elem R_api_Entry_ok hx394 hq396 hq397
        refine RP.v1 7 rfl (Vl.loadA (vs := [.int .i64 ((((nth y389 (IntKind.i64.wrap ((y389.length : Int) - 1))).Before).Regs).c0), .int .i64 ((((nth y389 (IntKind.i64.wrap ((y389.length : Int) - 1))).Before).Regs).c1), .int .i64 ((((nth y389 (IntKind.i64.wrap ((y389.length : Int) - 1))).Before).Regs).c2), .int .i64 ((((nth y389 (IntKind.i64.wrap ((y389.length : Int) - 1))).Before).Regs).c3), .int .i64 ((((nth y389 (IntKind.i64.wrap ((y389.length : Int) - 1))).Before).Regs).c4), .int .i64 ((((nth y389 (IntKind.i64.wrap ((y389.length : Int) - 1))).Before).Regs).c5), .int .i64 ((((nth y389 (IntKind.i64.wrap ((y389.length : Int) - 1))).Before).Regs).c6), .int .i64 ((((nth y389 (IntKind.i64.wrap ((y389.length : Int) - 1))).Before).Regs).c7), .int .i64 (((nth y389 (IntKind.i64.wrap ((y389.length : Int) - 1))).Before).Draws), .int .i64 (((nth y389 (IntKind.i64.wrap ((y389.length : Int) - 1))).Before).Sent)]) isAgg34 sizeOf34 rfl rfl (hS.elemCells 0 rfl hl398 (off := 7) rfl)) rfl rfl (RP.v1 8 rfl (Vl.nilCheck rfl) rfl rfl (RP.v1 9 rfl (Vl.fa 5 underlying59 rfl sizeOf34 rfl rfl) rfl rfl (RP.e0 10 rfl (OW.store (vs := [.int .i64 ((((nth y389 (IntKind.i64.wrap ((y389.length : Int) - 1))).Before).Regs).c0), .int .i64 ((((nth y389 (IntKind.i64.wrap ((y389.length : Int) - 1))).Before).Regs).c1), .int .i64 ((((nth y389 (IntKind.i64.wrap ((y389.length : Int) - 1))).Before).Regs).c2), .int .i64 ((((nth y389 (IntKind.i64.wrap ((y389.length : Int) - 1))).Before).Regs).c3), .int .i64 ((((nth y389 (IntKind.i64.wrap ((y389.length : Int) - 1))).Before).Regs).c4), .int .i64 ((((nth y389 (IntKind.i64.wrap ((y389.length : Int) - 1))).Before).Regs).c5), .int .i64 ((((nth y389 (IntKind.i64.wrap ((y389.length : Int) - 1))).Before).Regs).c6), .int .i64 ((((nth y389 (IntKind.i64.wrap ((y389.length : Int) - 1))).Before).Regs).c7), .int .i64 (((nth y389 (IntKind.i64.wrap ((y389.length : Int) - 1))).Before).Draws), .int .i64 (((nth y389 (IntKind.i64.wrap ((y389.length : Int) - 1))).Before).Sent)]) 1 hS rfl rfl rfl rfl sizeOf34 rfl rfl rfl rfl) rfl ?_)))
        rintro _ w ⟨rfl, hS⟩
        have hS : St B w (_ :: Cl _ [_, _, _, _, _, _, _, _, _, _, _, _, _, _, _, _, _, _] _ :: _ :: _ :: _ :: _ :: _ :: _ :: _ :: l) hf := hS
        refine ⟨kp ⟨(by intro hx; cases hx), trivial⟩, ?_⟩
        refine RP.nil (RQ.noPan_n (RQ.then_n (RC.seq (RC.noPan (RC.planS (plD [1, 4, 6, 9, 13, 16, 20, 23, 26, 29, 32]) [8, 9, 10] hS (fun w hS => hS) follows rfl (by kernel_rfl) NoTmp.noPan fun w hS => RP.s 0 0 rfl rfl hS (fun w hS => Vl.ld 3 hS isAgg28 rfl rfl rfl) rfl (RP.s 0 1 rfl rfl hS (fun w hS => Vl.ld 3 hS isAgg28 rfl rfl rfl) rfl (pp 1 rfl (RP.s0 3 rfl (fun w => Vl.fa 16 underlying59 rfl sizeOf57 rfl rfl) rfl (RP.s 0 4 rfl rfl hS (fun w hS => Vl.ld 1 hS isAgg57 rfl rfl rfl) rfl (RP.s 0 5 rfl rfl hS (fun w hS => Vl.ld 4 hS isAgg3 rfl rfl rfl) rfl (RP.v1 6 rfl (Vl.ld 4 hS isAgg3 rfl rfl rfl) rfl rfl ?_)))))))))))
        obtain ⟨⟨hq402, hq403⟩, h⟩ := h.req
        refine RP.v1 7 rfl (Vl.slice3 (xs := a2.l) 2 hS rfl underlying57 sizeOf68 rfl rfl rfl hq402 hq403) rfl rfl (RP.v1 8 rfl (Vl.nilCheck rfl) rfl rfl (RP.v1 9 rfl (Vl.fa 16 underlying59 rfl sizeOf57 rfl rfl) rfl rfl ?_))
        obtain ⟨cs404, hx405, hS⟩ := hS.cutR R_log_done_ok 2 rfl (hx12.mono hs395) hq402 hq403
        have hS : St B w (_ :: _ :: _ :: _ :: _ :: _ :: _ :: _ :: _ :: l) hf := hS
        refine RP.e0 10 rfl (OW.store (vs := [.slice (subA A9 c10 (0 : Int).toNat 10) (subL a2.l 0 x339).length ((x339 : Int).toNat - (0 : Int).toNat)]) 2 hS rfl rfl rfl rfl sizeOf57 rfl rfl rfl rfl) rfl ?_
        rintro _ w ⟨rfl, hS⟩
        have hS : St B w (_ :: _ :: Cl _ [_, _, _, _, _, _, _, _, _, _, _, _, _, _, _, _, _, _] _ :: _ :: _ :: _ :: _ :: _ :: _ :: l) hf := hS
        refine ⟨kp ⟨(by intro hx; cases hx), trivial⟩, ?_⟩
        refine RP.nil (RQ.noPan_n (tsr (RL.s (Vl.ld 5 hS isAgg47 rfl rfl rfl) rfl (pn 1 rfl (lr ?_)))))
        obtain rfl := h.some
        exact rtM1 (vs := [.slice A391 y389.length c392]) results12 hS.p8 fun w hS => ⟨⟨rfl, trivial⟩, ⟨_, hs395, A391, c392, cs393, (subA A9 c10 (0 : Int).toNat 10), ((x339 : Int).toNat - (0 : Int).toNat), cs404, rfl, hS.d3.d3.d3.d3.d3.p1, hx394, hx405⟩⟩
      · refine RC.noPan ?_
        refine RC.planS (.early 0 0 (.pure 1 (.pure 2 (.early 3 0 (.pure 4 (.early 5 0 (.pure 6 (.fork 7 8 (.last 8 (.last 9 .nil)) (.last 7 (.last 9 .nil)))))))))) [9] hS (fun w hS => hS) follows rfl (by kernel_rfl) NoTmp.noPan fun w hS => RP.s 0 0 rfl rfl hS (fun w hS => Vl.ld 3 hS isAgg28 rfl rfl rfl) rfl (pp 1 rfl (RP.s0 2 rfl (fun w => Vl.fa 16 underlying59 rfl sizeOf57 rfl rfl) rfl (RP.s 0 3 rfl rfl hS (fun w hS => Vl.ld 2 hS isAgg57 rfl rfl rfl) rfl (RP.s0 4 rfl (fun w => Vl.lenSl underlying57 rfl) rfl (RP.s 0 5 rfl rfl hS (fun w hS => Vl.ld 1 hS isAgg3 rfl rfl rfl) rfl (pp 1 rfl ?_))))))
        refine RP.fork ?_ ?_
        · obtain ⟨⟨hq406, hq407⟩, h⟩ := h.req
          refine RPW.e 7 rfl (OW.makeR (x0 := (⟨(⟨(⟨0, 0, 0⟩ : api_Key), 0, 0, 0, false⟩ : api_Message), (⟨(⟨0, 0, 0, 0, 0, 0, 0, 0⟩ : Arr8xInti64), 0, 0⟩ : api_State), 0, []⟩ : api_Entry)) R_api_Entry_ok hS underlying47 type44 rfl rfl rfl ⟨none, 0, rfl, SlR.nil⟩ (by decide) rfl rfl hq406 (by decide) hq407) rfl rfl ?_
          rintro _ w ⟨b408, cs409, rfl, hx410, hS⟩
          refine ⟨kp ⟨fun _ => hS.d0, trivial⟩, ?_⟩
          refine RP.e 8 rfl (OW.alloc (cs := [.slice none 0 0]) hS zeroValue47 rfl) rfl rfl ?_
          rintro _ w ⟨b411, rfl, hS⟩
          refine ⟨kp ⟨fun _ => hS.d0.d0, trivial⟩, ?_⟩
          refine RP.e0 9 rfl (OW.store (vs := [.slice (some ⟨b408, 0, none⟩) (List.replicate (IntKind.i64.wrap ((a2.l.length : Int) - x339) : Int).toNat (⟨(⟨(⟨0, 0, 0⟩ : api_Key), 0, 0, 0, false⟩ : api_Message), (⟨(⟨0, 0, 0, 0, 0, 0, 0, 0⟩ : Arr8xInti64), 0, 0⟩ : api_State), 0, []⟩ : api_Entry)).length ((IntKind.i64.wrap ((a2.l.length : Int) - x339) : Int).toNat)]) 0 hS rfl rfl rfl rfl sizeOf47 rfl rfl rfl rfl) rfl ?_
          rintro _ w ⟨rfl, hS⟩
          have hS : St B w (Cl _ [_] _ :: _ :: _ :: _ :: _ :: _ :: l) hf := hS
          refine ⟨kp ⟨(by intro hx; cases hx), trivial⟩, ?_⟩
          refine RP.nil (RQ.noPan_n ?_)
          exact fun a ha => ⟨((List.replicate (IntKind.i64.wrap ((a2.l.length : Int) - x339) : Int).toNat (⟨(⟨(⟨0, 0, 0⟩ : api_Key), 0, 0, 0, false⟩ : api_Message), (⟨(⟨0, 0, 0, 0, 0, 0, 0, 0⟩ : Arr8xInti64), 0, 0⟩ : api_State), 0, []⟩ : api_Entry))), (List.replicate (IntKind.i64.wrap ((a2.l.length : Int) - x339) : Int).toNat (⟨(⟨(⟨0, 0, 0⟩ : api_Key), 0, 0, 0, false⟩ : api_Message), (⟨(⟨0, 0, 0, 0, 0, 0, 0, 0⟩ : Arr8xInti64), 0, 0⟩ : api_State), 0, []⟩ : api_Entry)), rfl, b411, (some ⟨b408, 0, none⟩), ((IntKind.i64.wrap ((a2.l.length : Int) - x339) : Int).toNat), cs409, ha.to ⟨rfl, rfl, rfl, trivial⟩, hS.p5.p5.p5.p4.p5, hx410, h⟩
        · refine RPW.e 8 rfl (OW.alloc (cs := [.slice none 0 0]) hS zeroValue47 rfl) rfl rfl ?_
          rintro _ w ⟨b412, rfl, hS⟩
          refine ⟨kp ⟨fun _ => hS.d0, trivial⟩, ?_⟩
          obtain ⟨⟨hq413, hq414⟩, h⟩ := h.req
          refine RP.e 7 rfl (OW.makeR (x0 := (⟨(⟨(⟨0, 0, 0⟩ : api_Key), 0, 0, 0, false⟩ : api_Message), (⟨(⟨0, 0, 0, 0, 0, 0, 0, 0⟩ : Arr8xInti64), 0, 0⟩ : api_State), 0, []⟩ : api_Entry)) R_api_Entry_ok hS underlying47 type44 rfl rfl rfl ⟨none, 0, rfl, SlR.nil⟩ (by decide) rfl rfl hq413 (by decide) hq414) rfl rfl ?_
          rintro _ w ⟨b415, cs416, rfl, hx417, hS⟩
          refine ⟨kp ⟨fun _ => hS.d0.d0, trivial⟩, ?_⟩
          refine RP.e0 9 rfl (OW.store (vs := [.slice (some ⟨b415, 0, none⟩) (List.replicate (IntKind.i64.wrap ((a2.l.length : Int) - x339) : Int).toNat (⟨(⟨(⟨0, 0, 0⟩ : api_Key), 0, 0, 0, false⟩ : api_Message), (⟨(⟨0, 0, 0, 0, 0, 0, 0, 0⟩ : Arr8xInti64), 0, 0⟩ : api_State), 0, []⟩ : api_Entry)).length ((IntKind.i64.wrap ((a2.l.length : Int) - x339) : Int).toNat)]) 1 hS rfl rfl rfl rfl sizeOf47 rfl rfl rfl rfl) rfl ?_
          rintro _ w ⟨rfl, hS⟩
          have hS : St B w (_ :: Cl _ [_] _ :: _ :: _ :: _ :: _ :: l) hf := hS
          refine ⟨kp ⟨(by intro hx; cases hx), trivial⟩, ?_⟩
          refine RP.nil (RQ.noPan_n ?_)
          exact fun a ha => ⟨((List.replicate (IntKind.i64.wrap ((a2.l.length : Int) - x339) : Int).toNat (⟨(⟨(⟨0, 0, 0⟩ : api_Key), 0, 0, 0, false⟩ : api_Message), (⟨(⟨0, 0, 0, 0, 0, 0, 0, 0⟩ : Arr8xInti64), 0, 0⟩ : api_State), 0, []⟩ : api_Entry))), (List.replicate (IntKind.i64.wrap ((a2.l.length : Int) - x339) : Int).toNat (⟨(⟨(⟨0, 0, 0⟩ : api_Key), 0, 0, 0, false⟩ : api_Message), (⟨(⟨0, 0, 0, 0, 0, 0, 0, 0⟩ : Arr8xInti64), 0, 0⟩ : api_State), 0, []⟩ : api_Entry)), rfl, b412, (some ⟨b415, 0, none⟩), ((IntKind.i64.wrap ((a2.l.length : Int) - x339) : Int).toNat), cs416, ha.to ⟨rfl, rfl, rfl, trivial⟩, hS.p5.p5.p5.p3.p5, hx417, h⟩
   · refine RC.block ?_
     refine fun a ha => RC.loop (N := 115) (body := (log_Log_Back.l8b a2 a13)) (φ := (· = r)) (fun (s : Int) a w => ∃ (x443 : Int), s = (x443) ∧ Has 115 [(2, .pointer (some ⟨b254, 0, none⟩)), (3, .pointer (some ⟨b255, 0, none⟩)), (5, .pointer (some ⟨b262, 0, none⟩))] a ∧ St B w (OSl 68 10 (.slice A9 a2.l.length c10) a2.l.length cs11 :: Cl b262 [.int .i64 x443] 3 :: Cl b1 [.slice A3 a2.w.Prog.length c4, .int .i64 a2.w.Self, .slice A6 a2.w.Links.length c7, .int .u64 a2.w.Seed, .bool a2.made, .int .i64 a2.state.Regs.c0, .int .i64 a2.state.Regs.c1, .int .i64 a2.state.Regs.c2, .int .i64 a2.state.Regs.c3, .int .i64 a2.state.Regs.c4, .int .i64 a2.state.Regs.c5, .int .i64 a2.state.Regs.c6, .int .i64 a2.state.Regs.c7, .int .i64 a2.state.Draws, .int .i64 a2.state.Sent, .int .i64 a2.every, .slice A9 a2.l.length c10, .bool a2.stuck] 59 :: Cl b255 [.int .i64 a13.Key.Time, .int .i64 a13.Key.From, .int .i64 a13.Key.Seq, .int .i64 a13.To, .int .i64 a13.Value, .int .i64 a13.Uid, .bool a13.Anti] 42 :: Cl b254 [.pointer (some ⟨b1, 0, none⟩)] 28 :: l) hf) ?_ (s0 := ((a2.l.length : Int))) h ⟨(a2.l.length : Int), rfl, ha.to ⟨rfl, rfl, rfl, trivial⟩, hS.p2⟩
     rintro G469 x443 a w ⟨_, rfl, ha, hS⟩ h
     revert a
     show RC _ _ _ _ _ _
     refine RC.seq (RC.seq (RC.noPan (RC.planS (plD [1, 3, 6, 10, 12, 15, 19, 22, 24, 28, 30, 34, 38, 41, 44, 47]) [] hS (fun w hS => hS) follows rfl (by kernel_rfl) NoTmp.noPan fun w hS => RP.s 0 0 rfl rfl hS (fun w hS => Vl.ld 1 hS isAgg3 rfl rfl rfl) rfl (pp 2 rfl ?_))))
     refine RP.iteP 18 rfl h (fun hc482 h => ?_) fun hc482 h => ?_
     next =>
      refine RP.sg 0 3 rfl rfl hS (fun w hS => Vl.ld 4 hS isAgg28 rfl rfl rfl) rfl rfl (pp 1 rfl (RP.sg0 5 rfl (fun w => Vl.fa 16 underlying59 rfl sizeOf57 rfl rfl) rfl rfl (RP.sg 0 6 rfl rfl hS (fun w hS => Vl.ld 2 hS isAgg57 rfl rfl rfl) rfl rfl (RP.sg 0 7 rfl rfl hS (fun w hS => Vl.ld 1 hS isAgg3 rfl rfl rfl) rfl rfl (pp 1 rfl ?_)))))
      obtain ⟨⟨hq483, hq484⟩, h⟩ := h.req
      refine RP.sg 0 9 rfl rfl hS (fun w hS => Vl.indexOwn 0 hS rfl underlying57 sizeOf68 rfl rfl hq483 hq484) rfl rfl (RP.sg0 10 rfl (fun w => Vl.fieldAddr (a'' := (ad A9).add ((IntKind.i64.wrap (x443 - 1)).toNat * 10 + 0)) underlying68 rfl sizeOf42 rfl (add_add _ _ _)) rfl rfl ?_)
      obtain ⟨_, ⟨A486, c487, b489, rfl, hr488, hr490⟩, hl485⟩ := RepL.elem R_log_done_ok hx12 hq483 hq484
      refine RP.sg 0 11 rfl rfl hS (fun w hS => Vl.loadA (vs := [.int .i64 ((((nth a2.l (IntKind.i64.wrap (x443 - 1))).event).Key).Time), .int .i64 ((((nth a2.l (IntKind.i64.wrap (x443 - 1))).event).Key).From), .int .i64 ((((nth a2.l (IntKind.i64.wrap (x443 - 1))).event).Key).Seq), .int .i64 (((nth a2.l (IntKind.i64.wrap (x443 - 1))).event).To), .int .i64 (((nth a2.l (IntKind.i64.wrap (x443 - 1))).event).Value), .int .i64 (((nth a2.l (IntKind.i64.wrap (x443 - 1))).event).Uid), .bool (((nth a2.l (IntKind.i64.wrap (x443 - 1))).event).Anti)]) isAgg42 sizeOf42 rfl rfl (hS.elemCells 0 rfl hl485 (off := 0) rfl)) rfl rfl (RP.v1 12 rfl (Vl.lw 3 hS isAgg42 sizeOf42 rfl rfl rfl) rfl rfl ?_)
      obtain ⟨t491, hg492, h⟩ := h.bind
      have hc := event_Before.ok hg492 hS
      refine RP.e 13 rfl (OW.callF (ls := [.tmp 27, .tmp 28]) rfl call27 hc) rfl rfl ?_
      rintro _ w ⟨rfl, hS⟩
      refine ⟨kp ⟨fun _ => hS, trivial⟩, ?_⟩
      refine RP.v1 14 rfl (Vl.not rfl) rfl rfl (RP.v1 15 rfl (Vl.pickT rfl rfl) rfl rfl (RP.nil (RQ.noPan_n (RQ.then_n ?_))))
      refine RC.iteM 31 rfl h (fun hc493 h => ?_) fun hc493 h => ?_
      next =>
       refine RC.condF rfl (RC.exit (RQ.exitT ?_))
       have h := h.inr
       refine RQ.exitT (RQ.inB_hit ?_)
       exact fun a ha => ⟨(x443), x443, rfl, ha.to ⟨rfl, rfl, trivial⟩, hS.d3, h⟩
      next =>
       refine RC.condT rfl (sk (RC.block (RC.region (RL.s (Vl.ld 1 hS isAgg3 rfl rfl rfl) rfl (pn 1 rfl (RL.e0 (OW.store (vs := [.int .i64 (IntKind.i64.wrap (x443 - 1))]) 1 hS rfl rfl rfl rfl sizeOf3 rfl rfl rfl rfl) rfl ?_))))))
       rintro _ w ⟨rfl, hS⟩
       have hS : St B w (_ :: Cl _ [_] _ :: _ :: _ :: _ :: l) hf := hS
       refine RL.nil (RQ.inB_n ?_)
       exact fun a ha => ⟨(IntKind.i64.wrap (x443 - 1)), ⟨(IntKind.i64.wrap (x443 - 1)), rfl, ha.to ⟨rfl, rfl, rfl, trivial⟩, hS⟩, h.some⟩
     next =>
      refine RP.nn 0 3 rfl rfl rfl (pp 2 rfl (RP.nn 0 6 rfl rfl rfl (RP.nn 0 7 rfl rfl rfl (pp 1 rfl (RP.nn 0 9 rfl rfl rfl (pp 1 rfl (RP.nn 0 11 rfl rfl rfl (RP.n1 12 rfl rfl rfl (RP.n1 13 rfl rfl rfl (RP.n1 14 rfl rfl rfl (RP.v1 15 rfl (Vl.pickF rfl rfl) rfl rfl (RP.nil (RQ.noPan_n (RQ.then_n (RC.condF rfl ?_)))))))))))))))
      refine RC.exit (RQ.exitT ?_)
      have h := h.inr
      refine RQ.exitT (RQ.inB_hit ?_)
      exact fun a ha => ⟨(x443), x443, rfl, ha.to ⟨rfl, rfl, trivial⟩, hS.d3, h⟩

/-! ### (*isochron/log.Log).Len: function 13 -/
noncomputable def log_Log_Len.f (a2 : log_Log) : Option (Int) := ((log_Log_none.f a2).bind fun t22 => (if t22 = true then some 0 else some (a2.l.length : Int)))
theorem log_Log_Len.ok {a2 : log_Log} {b1 : Nat} {A3 : Option Addr} {c4 : Nat} {A6 : Option Addr} {c7 : Nat} {A9 : Option Addr} {c10 : Nat} {cs11 : List Value} (hr5 : SlR E_api_Instr.rep hf A3 c4 a2.w.Prog) (hr8 : SlR E_api_Link.rep hf A6 c7 a2.w.Links) (hx12 : RepL R_log_done hf cs11 a2.l) {r : Int} (h : log_Log_Len.f a2 = some r) (hS : St B w (Cl b1 [.slice A3 a2.w.Prog.length c4, .int .i64 a2.w.Self, .slice A6 a2.w.Links.length c7, .int .u64 a2.w.Seed, .bool a2.made, .int .i64 a2.state.Regs.c0, .int .i64 a2.state.Regs.c1, .int .i64 a2.state.Regs.c2, .int .i64 a2.state.Regs.c3, .int .i64 a2.state.Regs.c4, .int .i64 a2.state.Regs.c5, .int .i64 a2.state.Regs.c6, .int .i64 a2.state.Regs.c7, .int .i64 a2.state.Draws, .int .i64 a2.state.Sent, .int .i64 a2.every, .slice A9 a2.l.length c10, .bool a2.stuck] 59 :: OSl 68 10 (.slice A9 a2.l.length c10) a2.l.length cs11 :: l) hf) :
    Calls prog 13 #[.pointer (some ⟨b1, 0, none⟩)] w (Ret fun v w => v = .int .i64 r ∧ St B w (Cl b1 [.slice A3 a2.w.Prog.length c4, .int .i64 a2.w.Self, .slice A6 a2.w.Links.length c7, .int .u64 a2.w.Seed, .bool a2.made, .int .i64 a2.state.Regs.c0, .int .i64 a2.state.Regs.c1, .int .i64 a2.state.Regs.c2, .int .i64 a2.state.Regs.c3, .int .i64 a2.state.Regs.c4, .int .i64 a2.state.Regs.c5, .int .i64 a2.state.Regs.c6, .int .i64 a2.state.Regs.c7, .int .i64 a2.state.Draws, .int .i64 a2.state.Sent, .int .i64 a2.every, .slice A9 a2.l.length c10, .bool a2.stuck] 59 :: OSl 68 10 (.slice A9 a2.l.length c10) a2.l.length cs11 :: l) hf) := by
  have h := Holds.of h
  refine en func13 rfl ntmps13 rfl (sr (pn 1 rfl (ln (RC.seq (sr (pn 1 rfl (cF (fun _ hg => log_Log_none.ok hr5 hr8 hx12 hg hS) call21 h rfl rfl rfl ?_)))))))
  rintro t22 h _ w ⟨rfl, hS⟩
  refine ln ?_
  refine RC.iteB 4 rfl h (fun hc24 h => ?_) fun hc24 h => ?_
  next =>
   refine RC.condT rfl (sr (pn 1 rfl (lr (RQ.ret ?_))))
   obtain rfl := h.some
   exact rt results13 rfl ⟨rfl, hS⟩
  next =>
   refine RC.condF rfl (sk (sr (pn 2 rfl (RL.s (Vl.fa 16 underlying59 rfl sizeOf57 rfl rfl) rfl (RL.s (Vl.ld 0 hS isAgg57 rfl rfl rfl) rfl (RL.s (Vl.lenSl underlying57 rfl) rfl (pn 1 rfl (lr ?_))))))))
   obtain rfl := h.some
   exact rt results13 rfl ⟨rfl, hS⟩

end Go.Proofs.Gx
