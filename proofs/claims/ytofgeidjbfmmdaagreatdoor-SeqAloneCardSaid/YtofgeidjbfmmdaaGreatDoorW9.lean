/-
  The walks of functions, each with what it computes: printed by wip/gx.py.
-/
import Derived.Test.YtofgeidjbfmmdaaGreatDoorW0
import Derived.Test.YtofgeidjbfmmdaaGreatDoorW3
import Derived.Test.YtofgeidjbfmmdaaGreatDoorW4
import Derived.Test.YtofgeidjbfmmdaaGreatDoorW8
set_option linter.unusedVariables false
set_option maxRecDepth 100000
set_option maxHeartbeats 4000000
namespace Go.Proofs.Gx
open Go.Sl Tryz
variable {B : Base} {w : World} {l : List HProp} {hf : Hp}
/-! ### (*isochron/seq.sim).step: function 35 -/
noncomputable def seq_sim_step.l6b (a2 : List (List api_Instr)) (a6 : List api_Link) (a10 : List api_Start) (a14 a15 a16 : Int) (a19 : List api_World) (a24 : List api_State) (a27 : List api_Message) (a30 : List api_Done) (x296 x297 x298 x299 x300 x301 x302 x303 x304 x305 : Int) (t399 : List api_Message) : List api_Message × Int → Option ((List api_Message × Int) ⊕ ((Int × Int) ⊕ (List api_State × List api_Message × List api_Done)))
  | (l419, x422) => (if x422 < (t399.length : Int) then (if 0 ≤ x422 then ((seq_line_api_Message_put.f a2 a6 a10 a14 a15 a16 a19 a24 l419 a30 (⟨(nth t399 x422).Key, (nth t399 x422).To, (nth t399 x422).Value, 0, ((nth t399 x422).Anti)⟩ : api_Message)).bind fun t452 => some (.inl (t452, IntKind.i64.wrap (x422 + 1)))) else none) else (Option.map Sum.inr (if (a30.length + 1) * 40 ≤ 140737488355328 then some (.inr (((setL a24 ((nth a27 0).To) (⟨(⟨x296, x297, x298, x299, x300, x301, x302, x303⟩ : Arr8xInti64), x304, x305⟩ : api_State)), l419, (a30 ++ ([(⟨(nth a27 0).Key, (nth a27 0).To, (nth a27 0).Value⟩ : api_Done)]))))) else none)))
noncomputable def seq_sim_step.l6 (a2 : List (List api_Instr)) (a6 : List api_Link) (a10 : List api_Start) (a14 a15 a16 : Int) (a19 : List api_World) (a24 : List api_State) (a27 : List api_Message) (a30 : List api_Done) (x296 x297 x298 x299 x300 x301 x302 x303 x304 x305 : Int) (t399 : List api_Message) (s : List api_Message × Int) : Option ((Int × Int) ⊕ (List api_State × List api_Message × List api_Done)) := loopR (seq_sim_step.l6b a2 a6 a10 a14 a15 a16 a19 a24 a27 a30 x296 x297 x298 x299 x300 x301 x302 x303 x304 x305 t399) s
noncomputable def seq_sim_step.j4 (a2 : List (List api_Instr)) (a6 : List api_Link) (a10 : List api_Start) (a14 a15 a16 : Int) (a19 : List api_World) (a24 : List api_State) (a27 : List api_Message) (a30 : List api_Done) (x296 x297 x298 x299 x300 x301 x302 x303 x304 x305 : Int) (l306 : List api_Out) (x309 : Int) : Option ((Int × Int) ⊕ (List api_State × List api_Message × List api_Done)) := (if x309 = 0 then (if 1 ≤ (a27.length : Int) then (if 0 ≤ (nth a27 0).To ∧ (nth a27 0).To < (a19.length : Int) then (if (nth a27 0).To < (a24.length : Int) then ((vm_Sends.f (nth a19 ((nth a27 0).To)) (nth a24 ((nth a27 0).To)) (⟨(nth a27 0).Key, (nth a27 0).To, (nth a27 0).Value, (nth a27 0).Uid, ((nth a27 0).Anti)⟩ : api_Message) l306 0).bind fun t399 => seq_sim_step.l6 a2 a6 a10 a14 a15 a16 a19 a24 a27 a30 x296 x297 x298 x299 x300 x301 x302 x303 x304 x305 t399 ((subL a27 1 (a27.length : Int)), 0)) else none) else none) else none) else (if x309 = 10 then some (.inl (2, x309)) else some (.inl (3, x309))))
noncomputable def seq_sim_step.f (a2 : List (List api_Instr)) (a6 : List api_Link) (a10 : List api_Start) (a14 a15 a16 : Int) (a19 : List api_World) (a24 : List api_State) (a27 : List api_Message) (a30 : List api_Done) : Option ((Int × Int) ⊕ (List api_State × List api_Message × List api_Done)) := (if (a27.length : Int) = 0 then some (.inl (1, 6)) else (if 0 < (a27.length : Int) then (if a15 < ((nth a27 0).Key).Time then some (.inl (1, 6)) else (if a16 ≤ (a30.length : Int) then some (.inl (4, 9)) else (if 0 ≤ (nth a27 0).To ∧ (nth a27 0).To < (a19.length : Int) then (if (nth a27 0).To < (a24.length : Int) then ((vm_Run.f (nth a19 ((nth a27 0).To)) (nth a24 ((nth a27 0).To)) (⟨(nth a27 0).Key, (nth a27 0).To, (nth a27 0).Value, (nth a27 0).Uid, ((nth a27 0).Anti)⟩ : api_Message)).bind fun (y475, y476, y477) => seq_sim_step.j4 a2 a6 a10 a14 a15 a16 a19 a24 a27 a30 y475.Regs.c0 y475.Regs.c1 y475.Regs.c2 y475.Regs.c3 y475.Regs.c4 y475.Regs.c5 y475.Regs.c6 y475.Regs.c7 y475.Draws y475.Sent y476 y477) else none) else none))) else none))
theorem seq_sim_step.ok {a2 : List (List api_Instr)} {a6 : List api_Link} {a10 : List api_Start} {a14 a15 a16 : Int} {a19 : List api_World} {a24 : List api_State} {a27 : List api_Message} {a30 : List api_Done} {b1 : Nat} {A3 : Option Addr} {c4 : Nat} {A7 : Option Addr} {c8 : Nat} {A11 : Option Addr} {c12 : Nat} {A17 : Option Addr} {c18 : Nat} {cs20 : List Value} {A22 : Option Addr} {c23 : Nat} {A25 : Option Addr} {c26 : Nat} {A28 : Option Addr} {c29 : Nat} (hr5 : SlR (Rep.sl E_api_Instr.rep) hf A3 c4 a2) (hr9 : SlR E_api_Link.rep hf A7 c8 a6) (hr13 : SlR E_api_Start.rep hf A11 c12 a10) (hx21 : RepL R_api_World hf cs20 a19) (hG0 : GlobAt hf 0 (.iface 148 (.agg #[.pointer (some ⟨1, 83, none⟩)]))) {r : (Int × Int) ⊕ (List api_State × List api_Message × List api_Done)} (h : seq_sim_step.f a2 a6 a10 a14 a15 a16 a19 a24 a27 a30 = some r) (hS : St B w (Cl b1 [.slice A3 a2.length c4, .slice A7 a6.length c8, .slice A11 a10.length c12, .int .u64 a14, .int .i64 a15, .int .i64 a16, .slice A17 a19.length c18, .slice A22 a24.length c23, .slice A25 a27.length c26, .func (.func 55) #[] #[], .slice A28 a30.length c29] 65 :: OSl 124 4 (.slice A17 a19.length c18) a19.length cs20 :: OSf E_api_State 105 (.slice A22 a24.length c23) a24 :: OSf E_api_Message 53 (.slice A25 a27.length c26) a27 :: OSf E_api_Done 44 (.slice A28 a30.length c29) a30 :: l) hf) :
    Calls prog 35 #[.pointer (some ⟨b1, 0, none⟩)] w (Ret fun v w => match (generalizing := false) r with | .inl r_ => v = .iface 94 (.agg #[.int .i64 r_.1, .iface 32 (.int .i64 r_.2)]) ∧ St B w (Cl b1 [.slice A3 a2.length c4, .slice A7 a6.length c8, .slice A11 a10.length c12, .int .u64 a14, .int .i64 a15, .int .i64 a16, .slice A17 a19.length c18, .slice A22 a24.length c23, .slice A25 a27.length c26, .func (.func 55) #[] #[], .slice A28 a30.length c29] 65 :: OSl 124 4 (.slice A17 a19.length c18) a19.length cs20 :: OSf E_api_State 105 (.slice A22 a24.length c23) a24 :: OSf E_api_Message 53 (.slice A25 a27.length c26) a27 :: OSf E_api_Done 44 (.slice A28 a30.length c29) a30 :: l) hf | .inr (r_) => ∃ (A_1 : Option Addr) (c_2 : Nat) (A_3 : Option Addr) (c_4 : Nat) (A_5 : Option Addr) (c_6 : Nat), v = .nilIface ∧ St B w (OSf E_api_State 105 (.slice A_1 r_.1.length c_2) r_.1 :: OSf E_api_Message 53 (.slice A_3 r_.2.1.length c_4) r_.2.1 :: OSf E_api_Done 44 (.slice A_5 r_.2.2.length c_6) r_.2.2 :: Cl b1 [.slice A3 a2.length c4, .slice A7 a6.length c8, .slice A11 a10.length c12, .int .u64 a14, .int .i64 a15, .int .i64 a16, .slice A17 a19.length c18, .slice A_1 r_.1.length c_2, .slice A_3 r_.2.1.length c_4, .func (.func 55) #[] #[], .slice A_5 r_.2.2.length c_6] 65 :: OSl 124 4 (.slice A17 a19.length c18) a19.length cs20 :: l) hf) := by
  have h := Holds.of h
  refine en func35 rfl ntmps35 rfl (sr (pn 1 rfl (ln (RC.seq (RC.block (RC.seq (RC.planS (plD [0, 3, 6, 9, 13, 15, 18, 21, 24, 27, 30, 33, 37, 40, 42, 45, 49, 53, 56, 59, 62, 65, 68, 71, 74]) [22, 23, 24] hS (fun w hS => hS) follows rfl (by kernel_rfl) (NoTmp.then (NoTmp.block (NoTmp.then NoTmp.body))) fun w hS => pp 2 rfl (RP.s0 2 rfl (fun w => Vl.fa 8 underlying65 rfl sizeOf63 rfl rfl) rfl (RP.s0 3 rfl (fun w => Vl.fa 8 underlying63 rfl sizeOf49 rfl rfl) rfl (RP.s 0 4 rfl rfl hS (fun w hS => Vl.ld 0 hS isAgg49 rfl rfl rfl) rfl (RP.s0 5 rfl (fun w => Vl.lenSl underlying49 rfl) rfl (pp 2 rfl ?_))))))))))))
  refine RP.iteP 17 rfl h (fun hc264 h => ?_) fun hc264 h => ?_
  next =>
   refine pp 4 rfl (RP.nn 0 12 rfl rfl rfl (RP.nn 0 13 rfl rfl rfl (pp 2 rfl (RP.nn 0 16 rfl rfl rfl (RP.n1 17 rfl rfl rfl (RP.n1 18 rfl rfl rfl (RP.n1 19 rfl rfl rfl (RP.n1 20 rfl rfl rfl (RP.n1 21 rfl rfl rfl (RP.n1 22 rfl rfl rfl (RP.v1 23 rfl (Vl.pickT rfl rfl) rfl rfl (RP.v1 24 rfl (Vl.assign rfl) rfl rfl (RP.nil (RQ.then_n (RC.condT rfl ?_)))))))))))))))
   refine sr (RL.s (Vl.makeIface underlying32 rfl rfl) rfl (RL.s (Vl.build (v := .agg #[.int .i64 1, .iface 32 (.int .i64 6)]) (parts := [(0, .const (.int .i64 1)), (1, .tmp 34)]) rfl (by kernel_rfl)) rfl (RL.s (Vl.makeIface underlying94 rfl rfl) rfl (pn 1 rfl (lr (RQ.inB_ret (RQ.ret ?_)))))))
   obtain rfl := h.some
   exact rt results35 rfl ⟨rfl, hS⟩
  next =>
   refine pp 2 rfl (RP.sg0 10 rfl (fun w => Vl.fa 8 underlying65 rfl sizeOf63 rfl rfl) rfl rfl (RP.sg0 11 rfl (fun w => Vl.fa 8 underlying63 rfl sizeOf49 rfl rfl) rfl rfl (RP.sg 0 12 rfl rfl hS (fun w hS => Vl.ld 0 hS isAgg49 rfl rfl rfl) rfl rfl ?_)))
   obtain ⟨hq265, h⟩ := h.req
   refine RP.sg 0 13 rfl rfl hS (fun w hS => Vl.indexOwn 3 hS rfl underlying49 sizeOf53 rfl rfl (by decide) hq265) rfl rfl (RP.sg0 14 rfl (fun w => Vl.fieldAddr (a'' := (ad A25).add ((0 : Int).toNat * 7 + 0)) underlying53 rfl sizeOf42 rfl (add_add _ _ _)) rfl rfl (RP.sg0 15 rfl (fun w => Vl.fieldAddr (a'' := (ad A25).add ((0 : Int).toNat * 7 + 0)) underlying42 rfl sizeOf2 rfl (add_add _ _ _)) rfl rfl (RP.sg 0 16 rfl rfl hS (fun w hS => Vl.load isAgg2 rfl ((hS.slW 3 rfl).2.2.cell (j := 0) (by decide) hq265 rfl)) rfl rfl (RP.v1 17 rfl (Vl.move rfl) rfl rfl (RP.v1 18 rfl (Vl.nilCheck rfl) rfl rfl (RP.v1 19 rfl (Vl.fa 0 underlying65 rfl sizeOf27 rfl rfl) rfl rfl (RP.v1 20 rfl (Vl.fa 4 underlying27 rfl sizeOf2 rfl rfl) rfl rfl (RP.v1 21 rfl (Vl.ld 0 hS isAgg2 rfl rfl rfl) rfl rfl (RP.v1 22 rfl (Vl.int rfl rfl rfl) rfl rfl (RP.v1 23 rfl (Vl.pickF rfl rfl) rfl rfl (RP.v1 24 rfl (Vl.assign rfl) rfl rfl (RP.nil (RQ.then_n ?_)))))))))))))
   refine RC.iteP 9 rfl h (fun hc266 h => ?_) fun hc266 h => ?_
   next =>
    refine RC.condT rfl (sr (RL.s (Vl.makeIface underlying32 rfl rfl) rfl (RL.s (Vl.build (v := .agg #[.int .i64 1, .iface 32 (.int .i64 6)]) (parts := [(0, .const (.int .i64 1)), (1, .tmp 34)]) rfl (by kernel_rfl)) rfl (RL.s (Vl.makeIface underlying94 rfl rfl) rfl (pn 1 rfl (lr (RQ.inB_ret (RQ.ret ?_))))))))
    obtain rfl := h.some
    exact rt results35 rfl ⟨rfl, hS⟩
   next =>
    refine RC.condF rfl (RC.seq (RC.planS (plD [0, 3, 6, 10, 12, 17, 20, 23, 26, 29, 32, 35]) [10, 11] hS (fun w hS => hS) follows rfl (by kernel_rfl) (NoTmp.then (NoTmp.block (NoTmp.then NoTmp.body))) fun w hS => pp 2 rfl (RP.s0 2 rfl (fun w => Vl.fa 10 underlying65 rfl sizeOf28 rfl rfl) rfl (RP.s 0 3 rfl rfl hS (fun w hS => Vl.ld 0 hS isAgg28 rfl rfl rfl) rfl (RP.s0 4 rfl (fun w => Vl.lenSl underlying28 rfl) rfl (RP.v1 5 rfl (Vl.move rfl) rfl rfl (RP.v1 6 rfl (Vl.nilCheck rfl) rfl rfl (RP.v1 7 rfl (Vl.fa 0 underlying65 rfl sizeOf27 rfl rfl) rfl rfl (RP.v1 8 rfl (Vl.fa 5 underlying27 rfl sizeOf3 rfl rfl) rfl rfl (RP.v1 9 rfl (Vl.ld 0 hS isAgg3 rfl rfl rfl) rfl rfl (RP.v1 10 rfl (Vl.int rfl rfl rfl) rfl rfl (RP.v1 11 rfl (Vl.assign rfl) rfl rfl (RP.nil (RQ.then_n ?_))))))))))))))
    refine RC.iteP 37 rfl h (fun hc267 h => ?_) fun hc267 h => ?_
    next =>
     refine RC.condT rfl (sr (RL.s (Vl.makeIface underlying32 rfl rfl) rfl (RL.s (Vl.build (v := .agg #[.int .i64 4, .iface 32 (.int .i64 9)]) (parts := [(0, .const (.int .i64 4)), (1, .tmp 49)]) rfl (by kernel_rfl)) rfl (RL.s (Vl.makeIface underlying94 rfl rfl) rfl (pn 1 rfl (lr (RQ.inB_ret (RQ.ret ?_))))))))
     obtain rfl := h.some
     exact rt results35 rfl ⟨rfl, hS⟩
    next =>
     refine RC.condF rfl (RC.skip (RQ.inB_n (tsr (pn 2 rfl (RL.s (Vl.fa 8 underlying65 rfl sizeOf63 rfl rfl) rfl (RL.s (Vl.fa 8 underlying63 rfl sizeOf49 rfl rfl) rfl (RL.s (Vl.ld 0 hS isAgg49 rfl rfl rfl) rfl (RL.s (Vl.indexOwn 3 hS rfl underlying49 sizeOf53 rfl rfl (by decide) hq265) rfl (RL.s (Vl.loadA isAgg53 sizeOf53 rfl rfl ((hS.slW 3 rfl).2.2.cells (by decide) hq265)) rfl (al hS zeroValue53 rfl rfl rfl fun b268 w hS => RL.e0 (OW.store (vs := [.int .i64 (((nth a27 0).Key).Time), .int .i64 (((nth a27 0).Key).From), .int .i64 (((nth a27 0).Key).Seq), .int .i64 ((nth a27 0).To), .int .i64 ((nth a27 0).Value), .int .i64 ((nth a27 0).Uid), .bool ((nth a27 0).Anti)]) 0 hS rfl rfl rfl rfl sizeOf53 rfl rfl rfl rfl) rfl ?_))))))))))
     rintro _ w ⟨rfl, hS⟩
     have hS : St B w (Cl _ [_, _, _, _, _, _, _] _ :: _ :: _ :: _ :: _ :: _ :: l) hf := hS
     refine ln ?_
     refine RC.join (fun (s : Int × Int × Int × Int × Int × Int × Int × Int × Int × Int × List api_Out × Int) a w => ∃ (x296 : Int) (x297 : Int) (x298 : Int) (x299 : Int) (x300 : Int) (x301 : Int) (x302 : Int) (x303 : Int) (x304 : Int) (x305 : Int) (l306 : List api_Out) (x309 : Int), s = (x296, x297, x298, x299, x300, x301, x302, x303, x304, x305, l306, x309) ∧ ∃ (b295 : Nat) (A307 : Option Addr) (c308 : Nat), Has 159 [(0, .pointer (some ⟨b1, 0, none⟩)), (3, .pointer (some ⟨b268, 0, none⟩)), (4, .pointer (some ⟨b295, 0, none⟩)), (5, .slice A307 l306.length c308), (6, .int .i64 x309)] a ∧ St B w (OSl 124 4 (.slice A17 a19.length c18) a19.length cs20 :: OSf E_api_State 105 (.slice A22 a24.length c23) a24 :: OSf E_api_Message 53 (.slice A25 a27.length c26) a27 :: OSf E_api_Done 44 (.slice A28 a30.length c29) a30 :: OSf E_api_Out 176 (.slice A307 l306.length c308) l306 :: Cl b268 [.int .i64 (((nth a27 0).Key).Time), .int .i64 (((nth a27 0).Key).From), .int .i64 (((nth a27 0).Key).Seq), .int .i64 ((nth a27 0).To), .int .i64 ((nth a27 0).Value), .int .i64 ((nth a27 0).Uid), .bool ((nth a27 0).Anti)] 53 :: Cl b1 [.slice A3 a2.length c4, .slice A7 a6.length c8, .slice A11 a10.length c12, .int .u64 a14, .int .i64 a15, .int .i64 a16, .slice A17 a19.length c18, .slice A22 a24.length c23, .slice A25 a27.length c26, .func (.func 55) #[] #[], .slice A28 a30.length c29] 65 :: Cl b295 [.int .i64 x296, .int .i64 x297, .int .i64 x298, .int .i64 x299, .int .i64 x300, .int .i64 x301, .int .i64 x302, .int .i64 x303, .int .i64 x304, .int .i64 x305] 105 :: l) hf ∧ Holds (· = r) (seq_sim_step.j4 a2 a6 a10 a14 a15 a16 a19 a24 a27 a30 x296 x297 x298 x299 x300 x301 x302 x303 x304 x305 l306 x309)) ?_ ?_
     · rintro _ a w ⟨x296, x297, x298, x299, x300, x301, x302, x303, x304, x305, l306, x309, rfl, b295, A307, c308, ha, hS, h⟩
       revert a
       show RC _ _ _ _ _ _
       refine RC.seq (sr (pn 1 rfl (ln (RC.block (sr (pn 2 rfl (ln ?_)))))))
       refine RC.iteP 86 rfl h (fun hc312 h => ?_) fun hc312 h => ?_
       next =>
        refine RC.condT rfl (RC.skip (RQ.inB_n (tsr (pn 3 rfl (RL.s (Vl.fa 8 underlying65 rfl sizeOf63 rfl rfl) rfl (RL.s (Vl.fa 8 underlying63 rfl sizeOf49 rfl rfl) rfl (RL.s (Vl.ld 6 hS isAgg49 rfl rfl rfl) rfl ?_)))))))
        obtain ⟨hq313, h⟩ := h.req
        refine RL.s (Vl.sliceLO (xs := a27) 2 hS rfl underlying49 sizeOf53 rfl rfl  (by decide) hq313) rfl (pn 1 rfl (RL.s (Vl.fa 8 underlying65 rfl sizeOf63 rfl rfl) rfl (RL.s (Vl.fa 8 underlying63 rfl sizeOf49 rfl rfl) rfl ?_)))
        have hS : St B w (_ :: _ :: _ :: _ :: _ :: _ :: _ :: _ :: l) hf := hS.part1 2 rfl (by decide) hq313 rfl
        refine RL.e0 (OW.store (vs := [.slice (subA A25 c26 (1 : Int).toNat 7) (subL a27 1 (a27.length : Int)).length (c26 - (1 : Int).toNat)]) 6 hS rfl rfl rfl rfl sizeOf49 rfl rfl rfl rfl) rfl ?_
        rintro _ w ⟨rfl, hS⟩
        have hS : St B w (_ :: _ :: _ :: _ :: _ :: _ :: Cl _ [_, _, _, _, _, _, _, _, _, _, _] _ :: _ :: l) hf := hS
        refine ln (RC.seq (RC.seq (RC.planS (plD [0, 3, 6, 10, 12, 16, 19, 22, 24, 27, 30, 34, 36, 40, 43, 46, 49, 51, 60, 56, 59]) [18, 19] hS (fun w hS => hS) follows rfl (by kernel_rfl) (NoTmp.then (NoTmp.then NoTmp.body)) fun w hS => pp 2 rfl (RP.s0 2 rfl (fun w => Vl.fa 6 underlying65 rfl sizeOf60 rfl rfl) rfl (RP.s 0 3 rfl rfl hS (fun w hS => Vl.ld 6 hS isAgg60 rfl rfl rfl) rfl (RP.s0 4 rfl (fun w => Vl.fa 3 underlying53 rfl sizeOf3 rfl rfl) rfl (RP.s 0 5 rfl rfl hS (fun w hS => Vl.ld 5 hS isAgg3 rfl rfl rfl) rfl ?_)))))))
        obtain ⟨⟨hq385, hq386⟩, h⟩ := h.req
        refine RP.s 0 6 rfl rfl hS (fun w hS => Vl.indexOwn 0 hS rfl underlying60 sizeOf124 rfl rfl hq385 hq386) rfl ?_
        obtain ⟨_, ⟨A388, c389, A391, c392, rfl, hr390, hr393⟩, hl387⟩ := RepL.elem R_api_World_ok hx21 hq385 hq386
        refine RP.s 0 7 rfl rfl hS (fun w hS => Vl.loadA (vs := [.slice A388 ((nth a19 ((nth a27 0).To)).Prog).length c389, .int .i64 ((nth a19 ((nth a27 0).To)).Self), .slice A391 ((nth a19 ((nth a27 0).To)).Links).length c392, .int .u64 ((nth a19 ((nth a27 0).To)).Seed)]) isAgg124 sizeOf124 rfl rfl (hS.elemCells 0 rfl hl387 (off := 0) rfl)) rfl (pp 2 rfl (RP.s0 10 rfl (fun w => Vl.fa 7 underlying65 rfl sizeOf29 rfl rfl) rfl (RP.s 0 11 rfl rfl hS (fun w hS => Vl.ld 6 hS isAgg29 rfl rfl rfl) rfl (RP.s0 12 rfl (fun w => Vl.fa 3 underlying53 rfl sizeOf3 rfl rfl) rfl (RP.s 0 13 rfl rfl hS (fun w hS => Vl.ld 5 hS isAgg3 rfl rfl rfl) rfl ?_)))))
        obtain ⟨hq394, h⟩ := h.req
        refine RP.s 0 14 rfl rfl hS (fun w hS => Vl.indexOwn 1 hS rfl underlying29 sizeOf105 rfl rfl hq385 hq394) rfl (RP.s 0 15 rfl rfl hS (fun w hS => Vl.loadA isAgg105 sizeOf105 rfl rfl ((hS.slW 1 rfl).2.2.cells hq385 hq394)) rfl (RP.s 0 16 rfl rfl hS (fun w hS => Vl.lw 5 hS isAgg53 sizeOf53 rfl rfl rfl) rfl (pp 2 rfl ?_)))
        obtain ⟨hf398, hs396, hS, hr395, hb397⟩ := St.lendSl hS.p4
        obtain ⟨t399, hg400, h⟩ := h.bind
        have hc := vm_Sends.ok (hr390.mono hs396) (hr393.mono hs396) hr395 hg400 hS
        refine RP.e 18 rfl (OW.callF (ls := [.tmp 111, .tmp 119, .tmp 120, .tmp 121, .const (.int .i64 0)]) rfl call59 hc) rfl rfl ?_
        rintro _ w ⟨A401, c402, rfl, hS⟩
        have hS := hb397 _ _ hS
        have hS : St B w (_ :: _ :: _ :: _ :: _ :: _ :: _ :: _ :: _ :: l) hf := hS
        refine ⟨kp ⟨(by intro hx; cases hx), trivial⟩, ?_⟩
        refine RP.v1 19 rfl (Vl.lenSl underlying49 rfl) rfl rfl (RP.nil (RQ.then_n (RC.block ?_)))
        refine fun a ha => RC.loop (N := 159) (body := (seq_sim_step.l6b a2 a6 a10 a14 a15 a16 a19 a24 a27 a30 x296 x297 x298 x299 x300 x301 x302 x303 x304 x305 t399)) (φ := (· = r)) (fun (s : List api_Message × Int) a w => ∃ (l419 : List api_Message) (x422 : Int), s = (l419, x422) ∧ ∃ (A420 : Option Addr) (c421 : Nat), Has 159 [(0, .pointer (some ⟨b1, 0, none⟩)), (3, .pointer (some ⟨b268, 0, none⟩)), (4, .pointer (some ⟨b295, 0, none⟩)), (122, .slice A401 t399.length c402), (123, .int .i64 (t399.length : Int)), (124, .int .i64 x422)] a ∧ St B w (OSl 124 4 (.slice A17 a19.length c18) a19.length cs20 :: OSf E_api_State 105 (.slice A22 a24.length c23) a24 :: OSf E_api_Message 53 (.slice A420 l419.length c421) l419 :: OSf E_api_Done 44 (.slice A28 a30.length c29) a30 :: OSf E_api_Message 53 (.slice A401 t399.length c402) t399 :: Cl b268 [.int .i64 (((nth a27 0).Key).Time), .int .i64 (((nth a27 0).Key).From), .int .i64 (((nth a27 0).Key).Seq), .int .i64 ((nth a27 0).To), .int .i64 ((nth a27 0).Value), .int .i64 ((nth a27 0).Uid), .bool ((nth a27 0).Anti)] 53 :: Cl b1 [.slice A3 a2.length c4, .slice A7 a6.length c8, .slice A11 a10.length c12, .int .u64 a14, .int .i64 a15, .int .i64 a16, .slice A17 a19.length c18, .slice A22 a24.length c23, .slice A420 l419.length c421, .func (.func 55) #[] #[], .slice A28 a30.length c29] 65 :: Cl b295 [.int .i64 x296, .int .i64 x297, .int .i64 x298, .int .i64 x299, .int .i64 x300, .int .i64 x301, .int .i64 x302, .int .i64 x303, .int .i64 x304, .int .i64 x305] 105 :: l) hf) ?_ (s0 := ((subL a27 1 (a27.length : Int)), 0)) h ⟨(subL a27 1 (a27.length : Int)), 0, rfl, (subA A25 c26 (1 : Int).toNat 7), (c26 - (1 : Int).toNat), ha.to ⟨rfl, rfl, rfl, rfl, rfl, rfl, trivial⟩, hS.d0.p4.p4.p4.p4⟩
        rintro G441 _ a w ⟨l419, x422, rfl, A420, c421, ha, hS⟩ h
        revert a
        show RC _ _ _ _ _ _
        refine sr (pn 1 rfl (ln (RC.seq ?_)))
        refine RC.iteP 125 rfl h (fun hc443 h => ?_) fun hc443 h => ?_
        next =>
         refine RC.condT rfl (sk (RC.seq (RC.block (sr ?_))))
         obtain ⟨hq450, h⟩ := h.req
         refine RL.s (Vl.indexOwn 4 hS rfl underlying49 sizeOf53 rfl rfl hq450 hc443) rfl (RL.s (Vl.loadA isAgg53 sizeOf53 rfl rfl ((hS.slW 4 rfl).2.2.cells hq450 hc443)) rfl (al hS zeroValue53 rfl rfl rfl fun b451 w hS => RL.e0 (OW.store (vs := [.int .i64 (((nth t399 x422).Key).Time), .int .i64 (((nth t399 x422).Key).From), .int .i64 (((nth t399 x422).Key).Seq), .int .i64 ((nth t399 x422).To), .int .i64 ((nth t399 x422).Value), .int .i64 ((nth t399 x422).Uid), .bool ((nth t399 x422).Anti)]) 0 hS rfl rfl rfl rfl sizeOf53 rfl rfl rfl rfl) rfl ?_))
         rintro _ w ⟨rfl, hS⟩
         have hS : St B w (Cl _ [_, _, _, _, _, _, _] _ :: _ :: _ :: _ :: _ :: _ :: _ :: _ :: _ :: l) hf := hS
         refine lnsr (RL.s (Vl.fa 5 underlying53 rfl sizeOf3 rfl rfl) rfl (RL.e0 (OW.store (vs := [.int .i64 0]) 0 hS rfl rfl rfl rfl sizeOf3 rfl rfl rfl rfl) rfl ?_))
         rintro _ w ⟨rfl, hS⟩
         have hS : St B w (Cl _ [_, _, _, _, _, _, _] _ :: _ :: _ :: _ :: _ :: _ :: _ :: _ :: _ :: l) hf := hS
         refine ln (RC.planS (plD [0, 3, 6, 11, 14]) [3, 4] hS (fun w hS => hS) follows rfl (by kernel_rfl) (NoTmp.block (NoTmp.then (NoTmp.then (NoTmp.block (NoTmp.then NoTmp.body))))) fun w hS => pp 2 rfl (RP.s0 2 rfl (fun w => Vl.fa 8 underlying65 rfl sizeOf63 rfl rfl) rfl (RP.v1 3 rfl (Vl.lw 0 hS isAgg53 sizeOf53 rfl rfl rfl) rfl rfl ?_)))
         obtain ⟨t452, hg453, h⟩ := h.bind
         have hc := seq_line_api_Message_put.ok hr5 hr9 hr13 hx21 hg453 hS.p4.p4.p4.p4.p7
         refine RP.e 4 rfl (OW.callF (ls := [.tmp 131, .tmp 132]) rfl call57 hc) rfl rfl ?_
         rintro _ w ⟨A454, c455, rfl, hS⟩
         refine ⟨kp ⟨(by intro hx; cases hx), trivial⟩, ?_⟩
         refine RP.nil (RQ.inB_n (RQ.then_n (RC.region (pn 2 rfl (RL.nil ?_)))))
         exact fun a ha => ⟨(t452, IntKind.i64.wrap (x422 + 1)), ⟨t452, (IntKind.i64.wrap (x422 + 1)), rfl, A454, c455, ha.to ⟨rfl, rfl, rfl, rfl, rfl, rfl, trivial⟩, hS.d5.p6.p6.p6.p3.p6.p6⟩, h.some⟩
        next =>
         refine RC.condF rfl (RC.exit (RQ.exitT ?_))
         have h := h.inr
         refine RQ.exitT (RQ.inB_hit (RQ.then_n (RC.seq (RC.planS (plD [0, 3, 6, 10, 12, 16, 20, 23, 26]) [7, 8] hS (fun w hS => hS) follows rfl (by kernel_rfl) (NoTmp.then NoTmp.body) fun w hS => pp 2 rfl (RP.s0 2 rfl (fun w => Vl.fa 7 underlying65 rfl sizeOf29 rfl rfl) rfl (RP.s 0 3 rfl rfl hS (fun w hS => Vl.ld 6 hS isAgg29 rfl rfl rfl) rfl (RP.s0 4 rfl (fun w => Vl.fa 3 underlying53 rfl sizeOf3 rfl rfl) rfl (RP.s 0 5 rfl rfl hS (fun w hS => Vl.ld 5 hS isAgg3 rfl rfl rfl) rfl (RP.v1 6 rfl (Vl.lw 7 hS isAgg105 sizeOf105 rfl rfl rfl) rfl rfl (RP.v1 7 rfl (Vl.indexOwn 1 hS rfl underlying29 sizeOf105 rfl rfl hq385 hq394) rfl rfl (RP.e0 8 rfl (OW.storeOwn (E := E_api_State) (off := 0) (j := (nth a27 0).To) (x' := (⟨(⟨x296, x297, x298, x299, x300, x301, x302, x303⟩ : Arr8xInti64), x304, x305⟩ : api_State)) (vs := [.int .i64 x296, .int .i64 x297, .int .i64 x298, .int .i64 x299, .int .i64 x300, .int .i64 x301, .int .i64 x302, .int .i64 x303, .int .i64 x304, .int .i64 x305]) 1 hS rfl rfl rfl rfl sizeOf105 rfl (Nat.succ_pos _) hq385 hq394 (Nat.le_of_ble_eq_true rfl) rfl rfl) rfl ?_)))))))))))
         rintro _ w ⟨rfl, hS⟩
         have he456 := (hS.osN 1 rfl).1
         have hS : St B w (_ :: _ :: _ :: _ :: _ :: _ :: _ :: _ :: l) hf := (congrArg (fun k_ : Nat => St B w (OSl 124 4 (.slice A17 a19.length c18) a19.length cs20 :: OSf E_api_State 105 (.slice A22 k_ c23) (setL a24 ((nth a27 0).To) (⟨(⟨x296, x297, x298, x299, x300, x301, x302, x303⟩ : Arr8xInti64), x304, x305⟩ : api_State)) :: OSf E_api_Message 53 (.slice A420 l419.length c421) l419 :: OSf E_api_Done 44 (.slice A28 a30.length c29) a30 :: OSf E_api_Message 53 (.slice A401 t399.length c402) t399 :: Cl b268 [.int .i64 (((nth a27 0).Key).Time), .int .i64 (((nth a27 0).Key).From), .int .i64 (((nth a27 0).Key).Seq), .int .i64 ((nth a27 0).To), .int .i64 ((nth a27 0).Value), .int .i64 ((nth a27 0).Uid), .bool ((nth a27 0).Anti)] 53 :: Cl b1 [.slice A3 a2.length c4, .slice A7 a6.length c8, .slice A11 a10.length c12, .int .u64 a14, .int .i64 a15, .int .i64 a16, .slice A17 a19.length c18, .slice A22 k_ c23, .slice A420 l419.length c421, .func (.func 55) #[] #[], .slice A28 a30.length c29] 65 :: Cl b295 [.int .i64 x296, .int .i64 x297, .int .i64 x298, .int .i64 x299, .int .i64 x300, .int .i64 x301, .int .i64 x302, .int .i64 x303, .int .i64 x304, .int .i64 x305] 105 :: l) hf) he456).mp hS
         refine ⟨kp ⟨(by intro hx; cases hx), trivial⟩, ?_⟩
         refine RP.re 138 rfl (congrArg (fun k_ : Nat => (.slice A22 k_ c23 : Value)) he456) (RP.nil (RQ.then_n (RC.seq (RC.planS (plD [0, 3, 6, 9, 13, 15, 19, 21, 25, 29, 32, 35, 38, 41, 44, 47, 50]) [13, 14, 15, 16] hS (fun w hS => hS) follows rfl (by kernel_rfl) (NoTmp.then NoTmp.body) fun w hS => pp 3 rfl (RP.s0 3 rfl (fun w => Vl.fa 10 underlying65 rfl sizeOf28 rfl rfl) rfl (RP.s 0 4 rfl rfl hS (fun w hS => Vl.ld 6 hS isAgg28 rfl rfl rfl) rfl (RP.s0 5 rfl (fun w => Vl.fa 0 underlying53 rfl sizeOf42 rfl rfl) rfl (RP.s 0 6 rfl rfl hS (fun w hS => Vl.loadA (vs := [.int .i64 (((nth a27 0).Key).Time), .int .i64 (((nth a27 0).Key).From), .int .i64 (((nth a27 0).Key).Seq)]) isAgg42 sizeOf42 rfl rfl (hS.cellsAt 5 rfl rfl)) rfl (RP.s0 7 rfl (fun w => Vl.fa 3 underlying53 rfl sizeOf3 rfl rfl) rfl (RP.s 0 8 rfl rfl hS (fun w hS => Vl.ld 5 hS isAgg3 rfl rfl rfl) rfl (RP.v1 9 rfl (Vl.fa 4 underlying53 rfl sizeOf2 rfl rfl) rfl rfl (RP.v1 10 rfl (Vl.ld 5 hS isAgg2 rfl rfl rfl) rfl rfl (RP.v1 11 rfl (Vl.build (v := .agg #[.int .i64 (((nth a27 0).Key).Time), .int .i64 (((nth a27 0).Key).From), .int .i64 (((nth a27 0).Key).Seq), .int .i64 ((nth a27 0).To), .int .i64 ((nth a27 0).Value)]) (parts := [(0, .tmp 149), (1, .tmp 151), (2, .tmp 153)]) rfl (by kernel_rfl)) rfl rfl (RP.e 12 rfl (OW.buildSlice (E := E_api_Done) (xs := [(⟨(nth a27 0).Key, (nth a27 0).To, (nth a27 0).Value⟩ : api_Done)]) (cs := [.int .i64 (((nth a27 0).Key).Time), .int .i64 (((nth a27 0).Key).From), .int .i64 (((nth a27 0).Key).Seq), .int .i64 ((nth a27 0).To), .int .i64 ((nth a27 0).Value)]) hS underlying28 zeroValue44 sizeOf44 (parts := [(0, .tmp 154)]) rfl rfl (by decide) (by decide) (by kernel_rfl) rfl) rfl rfl ?_))))))))))))))
         rintro _ w ⟨b457, rfl, hS⟩
         refine ⟨kp ⟨fun _ => hS.d0, trivial⟩, ?_⟩
         obtain ⟨hq458, h⟩ := h.req
         refine RP.e 13 rfl (OW.append (E := E_api_Done) (xs := a30) (ys := [(⟨(nth a27 0).Key, (nth a27 0).To, (nth a27 0).Value⟩ : api_Done)]) 4 hS rfl underlying28 type44 rfl rfl rfl rfl (by decide) rfl rfl rfl (hS.slW 0 rfl).2.2.flat (by simp only [maxLen, List.length_cons, List.length_nil] at *; omega) hq458 rfl) rfl rfl ?_
         rintro v461 w hS
         obtain ⟨A459, c460, rfl, _⟩ := hS.osShape 0 rfl
         have hS : St B w (_ :: _ :: _ :: _ :: _ :: _ :: _ :: _ :: _ :: l) hf := hS
         refine ⟨kp ⟨(by intro hx; cases hx), trivial⟩, ?_⟩
         refine RP.v1 14 rfl (Vl.nilCheck rfl) rfl rfl (RP.v1 15 rfl (Vl.fa 10 underlying65 rfl sizeOf28 rfl rfl) rfl rfl (RP.e0 16 rfl (OW.store (vs := [.slice A459 (a30 ++ ([(⟨(nth a27 0).Key, (nth a27 0).To, (nth a27 0).Value⟩ : api_Done)])).length c460]) 7 hS rfl rfl rfl rfl sizeOf28 rfl rfl rfl rfl) rfl ?_))
         rintro _ w ⟨rfl, hS⟩
         have hS : St B w (_ :: _ :: _ :: _ :: _ :: _ :: _ :: Cl _ [_, _, _, _, _, _, _, _, _, _, _] _ :: _ :: l) hf := hS
         refine ⟨kp ⟨(by intro hx; cases hx), trivial⟩, ?_⟩
         refine RP.nil (tsr (pn 1 rfl (lr ?_)))
         obtain rfl := h.some
         exact rt results35 rfl ⟨A22, c23, A420, c421, A459, c460, rfl, hS.d1.d4.d4.d5.p4.p1.p4.p4⟩
       next =>
        refine RC.condF rfl (sr (pn 2 rfl (ln ?_)))
        refine RC.iteP 88 rfl h (fun hc462 h => ?_) fun hc462 h => ?_
        next =>
         refine RC.condT rfl (sr (pn 1 rfl (RL.s (Vl.makeIface underlying32 rfl rfl) rfl (RL.s (Vl.build (v := .agg #[.int .i64 2, .iface 32 (.int .i64 x309)]) (parts := [(0, .const (.int .i64 2)), (1, .tmp 91)]) rfl (by kernel_rfl)) rfl (RL.s (Vl.makeIface underlying94 rfl rfl) rfl (pn 1 rfl (lr (RQ.inB_ret (RQ.ret ?_)))))))))
         obtain rfl := h.some
         exact rt results35 rfl ⟨rfl, hS.d4.d4.d5.p4⟩
        next =>
         refine RC.condF rfl (sr (pn 1 rfl (RL.s (Vl.makeIface underlying32 rfl rfl) rfl (RL.s (Vl.build (v := .agg #[.int .i64 3, .iface 32 (.int .i64 x309)]) (parts := [(0, .const (.int .i64 3)), (1, .tmp 83)]) rfl (by kernel_rfl)) rfl (RL.s (Vl.makeIface underlying94 rfl rfl) rfl (pn 1 rfl (lr (RQ.inB_ret (RQ.ret ?_)))))))))
         obtain rfl := h.some
         exact rt results35 rfl ⟨rfl, hS.d4.d4.d5.p4⟩
     · refine RC.planS (.pure 0 (.pure 1 (.pure 2 (.early 3 0 (.pure 4 (.early 5 0 (.early 6 0 (.early 7 0 (.pure 8 (.pure 9 (.pure 10 (.early 11 0 (.pure 12 (.early 13 0 (.early 14 0 (.early 15 0 (.early 16 0 (.fork 17 22 (.pure 18 (.pure 19 (.pure 20 (.pure 21 (.last 22 (.last 23 (.last 24 (.last 25 .nil)))))))) (.last 17 (.pure 18 (.pure 19 (.pure 20 (.pure 21 (.last 23 (.last 24 (.last 25 .nil)))))))))))))))))))))))))) [23, 24, 25] hS (fun w hS => hS) follows rfl (by kernel_rfl) (NoTmp.then NoTmp.body) fun w hS => ?_
       refine pp 2 rfl (RP.s0 2 rfl (fun w => Vl.fa 6 underlying65 rfl sizeOf60 rfl rfl) rfl (RP.s 0 3 rfl rfl hS (fun w hS => Vl.ld 1 hS isAgg60 rfl rfl rfl) rfl (RP.s0 4 rfl (fun w => Vl.fa 3 underlying53 rfl sizeOf3 rfl rfl) rfl (RP.s 0 5 rfl rfl hS (fun w hS => Vl.ld 0 hS isAgg3 rfl rfl rfl) rfl ?_))))
       obtain ⟨⟨hq463, hq464⟩, h⟩ := h.req
       refine RP.s 0 6 rfl rfl hS (fun w hS => Vl.indexOwn 2 hS rfl underlying60 sizeOf124 rfl rfl hq463 hq464) rfl ?_
       obtain ⟨_, ⟨A466, c467, A469, c470, rfl, hr468, hr471⟩, hl465⟩ := RepL.elem R_api_World_ok hx21 hq463 hq464
       refine RP.s 0 7 rfl rfl hS (fun w hS => Vl.loadA (vs := [.slice A466 ((nth a19 ((nth a27 0).To)).Prog).length c467, .int .i64 ((nth a19 ((nth a27 0).To)).Self), .slice A469 ((nth a19 ((nth a27 0).To)).Links).length c470, .int .u64 ((nth a19 ((nth a27 0).To)).Seed)]) isAgg124 sizeOf124 rfl rfl (hS.elemCells 2 rfl hl465 (off := 0) rfl)) rfl (pp 2 rfl (RP.s0 10 rfl (fun w => Vl.fa 7 underlying65 rfl sizeOf29 rfl rfl) rfl (RP.s 0 11 rfl rfl hS (fun w hS => Vl.ld 1 hS isAgg29 rfl rfl rfl) rfl (RP.s0 12 rfl (fun w => Vl.fa 3 underlying53 rfl sizeOf3 rfl rfl) rfl (RP.s 0 13 rfl rfl hS (fun w hS => Vl.ld 0 hS isAgg3 rfl rfl rfl) rfl ?_)))))
       obtain ⟨hq472, h⟩ := h.req
       refine RP.s 0 14 rfl rfl hS (fun w hS => Vl.indexOwn 3 hS rfl underlying29 sizeOf105 rfl rfl hq463 hq472) rfl (RP.s 0 15 rfl rfl hS (fun w hS => Vl.loadA isAgg105 sizeOf105 rfl rfl ((hS.slW 3 rfl).2.2.cells hq463 hq472)) rfl (RP.s 0 16 rfl rfl hS (fun w hS => Vl.lw 0 hS isAgg53 sizeOf53 rfl rfl rfl) rfl ?_))
       refine RP.fork ?_ ?_
       · obtain ⟨t473, hg474, h⟩ := h.bind
         have hc := vm_Run.ok hr468 hr471 hG0 hg474 hS
         obtain ⟨y475, y476, y477⟩ := t473
         refine RPW.e 17 rfl (OW.callF (ls := [.tmp 67, .tmp 75, .tmp 76]) rfl call58 hc) rfl rfl ?_
         rintro _ w ⟨A478, c479, rfl, hS⟩
         refine ⟨kp ⟨fun _ => hS.d0, trivial⟩, ?_⟩
         refine pp 4 rfl (RP.e 22 rfl (OW.alloc (cs := [.int .i64 0, .int .i64 0, .int .i64 0, .int .i64 0, .int .i64 0, .int .i64 0, .int .i64 0, .int .i64 0, .int .i64 0, .int .i64 0]) hS zeroValue105 rfl) rfl rfl ?_)
         rintro _ w ⟨b480, rfl, hS⟩
         refine ⟨kp ⟨fun _ => hS.d0.d0, trivial⟩, ?_⟩
         refine RP.e0 23 rfl (OW.store (vs := [.int .i64 y475.Regs.c0, .int .i64 y475.Regs.c1, .int .i64 y475.Regs.c2, .int .i64 y475.Regs.c3, .int .i64 y475.Regs.c4, .int .i64 y475.Regs.c5, .int .i64 y475.Regs.c6, .int .i64 y475.Regs.c7, .int .i64 y475.Draws, .int .i64 y475.Sent]) 0 hS rfl rfl rfl rfl sizeOf105 rfl rfl rfl rfl) rfl ?_
         rintro _ w ⟨rfl, hS⟩
         have hS : St B w (Cl _ [_, _, _, _, _, _, _, _, _, _] _ :: _ :: _ :: _ :: _ :: _ :: _ :: _ :: l) hf := hS
         refine ⟨kp ⟨(by intro hx; cases hx), trivial⟩, ?_⟩
         refine RP.v1 24 rfl (Vl.assign rfl) rfl rfl (RP.v1 25 rfl (Vl.assign rfl) rfl rfl (RP.nil ?_))
         exact fun a ha => ⟨(y475.Regs.c0, y475.Regs.c1, y475.Regs.c2, y475.Regs.c3, y475.Regs.c4, y475.Regs.c5, y475.Regs.c6, y475.Regs.c7, y475.Draws, y475.Sent, y476, y477), y475.Regs.c0, y475.Regs.c1, y475.Regs.c2, y475.Regs.c3, y475.Regs.c4, y475.Regs.c5, y475.Regs.c6, y475.Regs.c7, y475.Draws, y475.Sent, y476, y477, rfl, b480, A478, c479, ha.to ⟨rfl, rfl, rfl, rfl, rfl, trivial⟩, hS.p3.p3.p3.p7.p7.p7.p7, h⟩
       · refine RPW.e 22 rfl (OW.alloc (cs := [.int .i64 0, .int .i64 0, .int .i64 0, .int .i64 0, .int .i64 0, .int .i64 0, .int .i64 0, .int .i64 0, .int .i64 0, .int .i64 0]) hS zeroValue105 rfl) rfl rfl ?_
         rintro _ w ⟨b481, rfl, hS⟩
         refine ⟨kp ⟨fun _ => hS.d0, trivial⟩, ?_⟩
         obtain ⟨t482, hg483, h⟩ := h.bind
         have hc := vm_Run.ok hr468 hr471 hG0 hg483 hS
         obtain ⟨y484, y485, y486⟩ := t482
         refine RP.e 17 rfl (OW.callF (ls := [.tmp 67, .tmp 75, .tmp 76]) rfl call58 hc) rfl rfl ?_
         rintro _ w ⟨A487, c488, rfl, hS⟩
         refine ⟨kp ⟨fun _ => hS.d0.d0, trivial⟩, ?_⟩
         refine pp 4 rfl (RP.e0 23 rfl (OW.store (vs := [.int .i64 y484.Regs.c0, .int .i64 y484.Regs.c1, .int .i64 y484.Regs.c2, .int .i64 y484.Regs.c3, .int .i64 y484.Regs.c4, .int .i64 y484.Regs.c5, .int .i64 y484.Regs.c6, .int .i64 y484.Regs.c7, .int .i64 y484.Draws, .int .i64 y484.Sent]) 1 hS rfl rfl rfl rfl sizeOf105 rfl rfl rfl rfl) rfl ?_)
         rintro _ w ⟨rfl, hS⟩
         have hS : St B w (_ :: Cl _ [_, _, _, _, _, _, _, _, _, _] _ :: _ :: _ :: _ :: _ :: _ :: _ :: l) hf := hS
         refine ⟨kp ⟨(by intro hx; cases hx), trivial⟩, ?_⟩
         refine RP.v1 24 rfl (Vl.assign rfl) rfl rfl (RP.v1 25 rfl (Vl.assign rfl) rfl rfl (RP.nil ?_))
         exact fun a ha => ⟨(y484.Regs.c0, y484.Regs.c1, y484.Regs.c2, y484.Regs.c3, y484.Regs.c4, y484.Regs.c5, y484.Regs.c6, y484.Regs.c7, y484.Draws, y484.Sent, y485, y486), y484.Regs.c0, y484.Regs.c1, y484.Regs.c2, y484.Regs.c3, y484.Regs.c4, y484.Regs.c5, y484.Regs.c6, y484.Regs.c7, y484.Draws, y484.Sent, y485, y486, rfl, b481, A487, c488, ha.to ⟨rfl, rfl, rfl, rfl, rfl, trivial⟩, hS.p3.p3.p2.p7.p7.p7.p7, h⟩

/-! ### errors.As: function 25 -/
noncomputable def errors_As_6.f (a2 : Int) : Option (Bool) := some false
theorem errors_As_6.ok {a2 : Int} {b1 : Nat} {r : Bool} (h : errors_As_6.f a2 = some r) (hS : St B w (Cl b1 [.int .i64 a2, .nilIface] 94 :: l) hf) :
    Calls prog 25 #[.nilIface, .iface 95 (.pointer (some ⟨b1, 0, none⟩))] w (Ret fun v w => v = .bool r ∧ St B w (Cl b1 [.int .i64 a2, .nilIface] 94 :: l) hf) := by
  have h := Holds.of h
  refine en func25 rfl ntmps25 rfl (sr (pn 1 rfl (ln (RC.seq (sr (pn 1 rfl (RL.s (Vl.bin (v := .bool true) rfl rfl (by kernel_rfl)) rfl (ln (RC.condT rfl (sr ?_))))))))))
  refine pn 1 rfl (lr (RQ.ret ?_))
  obtain rfl := h.some
  exact rt results25 rfl ⟨rfl, hS⟩

/-! ### isochron/seq.run$1: function 33 -/
noncomputable def seq_run_1.f (a3 : Int) : Option (Int) := ((errors_As_6.f 0).bind fun t9 => (if t9 = true then some 0 else some a3))
theorem seq_run_1.ok {a3 : Int} {b1 b2 : Nat} {r : Int} (h : seq_run_1.f a3 = some r) (hS : St B w (Cl b1 [.nilIface] 83 :: Cl b2 [.int .i64 a3] 3 :: l) hf) :
    CallsD prog 33 #[.pointer (some ⟨b1, 0, none⟩), .pointer (some ⟨b2, 0, none⟩)] (.returning) w (fun e u' w' => u' = .returning ∧ (Ret fun v w => v = .tuple #[] ∧ St B w (Cl b1 [.nilIface] 83 :: Cl b2 [.int .i64 r] 3 :: l) hf) e w') := by
  have h := Holds.of h
  refine deferPlain (args := [.pointer (some ⟨b1, 0, none⟩), .pointer (some ⟨b2, 0, none⟩)]) func33 rfl ntmps33 (Nat.le_of_ble_eq_true rfl) (sr (al hS zeroValue94 rfl rfl rfl fun b8 w hS => lnsr (RL.s (Vl.ld 1 hS isAgg83 rfl rfl rfl) rfl (RL.s (Vl.makeIface underlying95 rfl rfl) rfl (cF (fun _ hg => errors_As_6.ok hg hS) call25 h rfl rfl rfl ?_)))))
  rintro t9 h _ w ⟨rfl, hS⟩
  refine ln ?_
  refine RC.iteB 5 rfl h (fun hc11 h => ?_) fun hc11 h => ?_
  next =>
   refine RC.condT rfl (RC.region (RL.s (Vl.fa 0 underlying94 rfl sizeOf3 rfl rfl) rfl (RL.s (Vl.ld 0 hS isAgg3 rfl rfl rfl) rfl (RL.e0 (OW.store (vs := [.int .i64 0]) 2 hS rfl rfl rfl rfl sizeOf3 rfl rfl rfl rfl) rfl ?_))))
   rintro _ w ⟨rfl, hS⟩
   have hS : St B w (_ :: _ :: Cl _ [_] _ :: l) hf := hS
   refine RL.nil ?_
   obtain rfl := h.some
   exact rtE results33 rfl ⟨rfl, hS.d0⟩
  next =>
   refine RC.condF rfl (RC.skip ?_)
   obtain rfl := h.some
   exact rtE results33 rfl ⟨rfl, hS.d0⟩

/-! ### errors.as: function 48 -/
noncomputable def errors_as_6.f (a1 a2 a4 : Int) : Option (Bool × Int × Int) := some (true, a1, a2)
theorem errors_as_6.ok {a1 a2 a4 : Int} {b3 b5 : Nat} {r : Bool × Int × Int} (h : errors_as_6.f a1 a2 a4 = some r) (hS : St B w (Cl b3 [.int .i64 a4, .nilIface] 94 :: Cl b5 [.pointer (some ⟨b3, 0, none⟩)] 95 :: l) hf) :
    Calls prog 48 #[.iface 94 (.agg #[.int .i64 a1, .iface 32 (.int .i64 a2)]), .iface 95 (.pointer (some ⟨b3, 0, none⟩)), .agg #[.pointer (some ⟨1, 95, none⟩), .pointer (some ⟨b5, 0, none⟩), .int .u64 150], .iface 148 (.agg #[.pointer (some ⟨1, 94, none⟩)])] w (Ret fun v w => v = .bool r.1 ∧ St B w (Cl b3 [.int .i64 r.2.1, .iface 32 (.int .i64 r.2.2)] 94 :: Cl b5 [.pointer (some ⟨b3, 0, none⟩)] 95 :: l) hf) := by
  have h := Holds.of h
  refine en func48 rfl ntmps48 rfl (sr (bx hS rfl rfl rfl rfl fun b9 w hS => pn 1 rfl (ln (RC.block (RC.unroll (RQ.round (RC.block (RC.seq (sr (pn 1 rfl (RL.s (Vl.extern (ls := [.tmp 16]) (v := .iface 148 (.agg #[.pointer (some ⟨1, 94, none⟩)])) rfl func49 (by kernel_rfl) (by kernel_rfl) (by kernel_rfl) (e := Extern.ReflectliteType.typeOf) (by kernel_rfl) (fun w => by kernel_rfl)) rfl ?_)))))))))))
  refine pn 1 rfl (RL.s (Vl.invokeX (F := 158) (ls := [.tmp 18]) (v := .bool true) (u' := .agg #[.pointer (some ⟨1, 94, none⟩)]) rfl rfl (fun w => by kernel_rfl) func158 (by kernel_rfl) (by kernel_rfl) (by kernel_rfl) (e := (Extern.ReflectliteType.relation "AssignableTo" Extern.ReflectliteType.assignableTo)) (by kernel_rfl) (fun w => by kernel_rfl)) rfl (ln (RC.condT rfl (sr (RL.s (Vl.lw 0 hS isAgg109 sizeOf109 rfl rfl rfl) rfl (RL.s (Vl.externAt (ls := [.tmp 20]) (v := .agg #[.pointer (some ⟨1, 94, none⟩), .pointer (some ⟨b3, 0, none⟩), .int .u64 409]) rfl func71 (by kernel_rfl) (by kernel_rfl) (by kernel_rfl) (e := Extern.ReflectliteValue.method (Extern.ReflectliteValue.valueError "reflectlite.Value.Elem" 0) Extern.ReflectliteValue.elem) (by kernel_rfl) (run_elemV (n := 150) (a := ⟨b5, 0, none⟩) (fun w => by kernel_rfl) underlying95 rfl (hS.cell 2 rfl rfl) (fun w => by kernel_rfl) (fun w => by kernel_rfl))) rfl (pn 1 rfl (RL.e (OW.externNew (ls := [.tmp 22]) (cs := [.int .i64 a1, .iface 32 (.int .i64 a2)]) (T := 94) (v := fun b => .agg #[.pointer (some ⟨1, 94, none⟩), .pointer (some ⟨b, 0, none⟩), .int .u64 153]) hS rfl func45 (by kernel_rfl) (by kernel_rfl) (by kernel_rfl) (e := fun args => Extern.ReflectliteValue.unpack (args.getD 0 (.tuple #[]))) (by kernel_rfl) (fun w => by kernel_rfl)) rfl rfl ?_))))))))
  rintro _ w ⟨b11, rfl, hS⟩
  refine RL.e (OW.setV (ls := [.tmp 21, .tmp 23]) (val := .agg #[.int .i64 a1, .iface 32 (.int .i64 a2)]) (vs := [.int .i64 a1, .iface 32 (.int .i64 a2)]) (n := 409) (m := 153) (a2 := ⟨b11, 0, none⟩) 2 hS rfl rfl func72 (by kernel_rfl) (by kernel_rfl) (by kernel_rfl) (by kernel_rfl) (fun w => by kernel_rfl) (fun w => by kernel_rfl) rfl (fun w => by kernel_rfl) (run_loadVarA (vs := [.int .i64 a1, .iface 32 (.int .i64 a2)]) isAgg94 sizeOf94 rfl (hS.cellsAt 0 rfl rfl)) rfl sizeOf94 rfl rfl rfl rfl) rfl rfl ?_
  rintro _ w ⟨rfl, hS⟩
  have hS : St B w (_ :: _ :: _ :: _ :: l) hf := hS
  refine lnsr (pn 1 rfl (lr (RQ.ret (RQ.inB_ret (RQ.ret (RQ.inB_ret ?_))))))
  obtain rfl := h.some
  exact rt results48 rfl ⟨rfl, hS.d0.d0⟩

/-! ### errors.As: function 25 -/
noncomputable def errors_As_7.f (a1 a2 a4 : Int) : Option (Bool × Int × Int) := ((errors_as_6.f a1 a2 a4).bind fun (y16, y17, y18) => some (y16, y17, y18))
theorem errors_As_7.ok {a1 a2 a4 : Int} {b3 : Nat} (hG0 : GlobAt hf 0 (.iface 148 (.agg #[.pointer (some ⟨1, 83, none⟩)]))) {r : Bool × Int × Int} (h : errors_As_7.f a1 a2 a4 = some r) (hS : St B w (Cl b3 [.int .i64 a4, .nilIface] 94 :: l) hf) :
    Calls prog 25 #[.iface 94 (.agg #[.int .i64 a1, .iface 32 (.int .i64 a2)]), .iface 95 (.pointer (some ⟨b3, 0, none⟩))] w (Ret fun v w => v = .bool r.1 ∧ St B w (Cl b3 [.int .i64 r.2.1, .iface 32 (.int .i64 r.2.2)] 94 :: l) hf) := by
  have h := Holds.of h
  refine en func25 rfl ntmps25 rfl (sr (pn 1 rfl (ln (RC.seq (sr (pn 1 rfl (RL.s (Vl.bin (v := .bool false) rfl rfl (by kernel_rfl)) rfl (ln (RC.condF rfl (sk ?_))))))))))
  refine RC.seq (sr (pn 1 rfl (RL.s (Vl.bin (v := .bool false) rfl rfl (by kernel_rfl)) rfl (ln (RC.condF rfl (sk (sr (pn 1 rfl (RL.e (OW.externNew (ls := [.tmp 13]) (cs := [.pointer (some ⟨b3, 0, none⟩)]) (T := 95) (v := fun b => .agg #[.pointer (some ⟨1, 95, none⟩), .pointer (some ⟨b, 0, none⟩), .int .u64 150]) hS rfl func45 (by kernel_rfl) (by kernel_rfl) (by kernel_rfl) (e := fun args => Extern.ReflectliteValue.unpack (args.getD 0 (.tuple #[]))) (by kernel_rfl) (fun w => by kernel_rfl)) rfl rfl ?_)))))))))
  rintro _ w ⟨b12, rfl, hS⟩
  refine al hS zeroValue109 rfl rfl rfl fun b13 w hS => RL.e0 (OW.store (vs := [.pointer (some ⟨1, 95, none⟩), .pointer (some ⟨b12, 0, none⟩), .int .u64 150]) 0 hS rfl rfl rfl rfl sizeOf109 rfl rfl rfl rfl) rfl ?_
  rintro _ w ⟨rfl, hS⟩
  have hS : St B w (Cl _ [_, _, _] _ :: _ :: _ :: l) hf := hS
  refine lnsr (RL.s (Vl.lw 0 hS isAgg109 sizeOf109 rfl rfl rfl) rfl (RL.s (Vl.extern (ls := [.tmp 15]) (v := .iface 148 (.agg #[.pointer (some ⟨1, 95, none⟩)])) rfl func46 (by kernel_rfl) (by kernel_rfl) (by kernel_rfl) (e := Extern.ReflectliteValue.methodAny (Extern.ReflectliteValue.valueError "reflectlite.Value.Type" 0) fun t _ _ _ => Extern.ReflectliteType.toType t) (by kernel_rfl) (fun w => by kernel_rfl)) rfl (pn 1 rfl (ln (RC.seq (sr (pn 1 rfl (RL.s (Vl.invokeX (F := 146) (ls := []) (v := .int .u8 22) (u' := .pointer (some ⟨1, 95, none⟩)) rfl rfl (fun w => by kernel_rfl) func146 (by kernel_rfl) (by kernel_rfl) (by kernel_rfl) (e := (Extern.ReflectliteType.abiMethod fun t => do pure (.int .u8 (← Extern.Rtype.kind t)))) (by kernel_rfl) (fun w => by kernel_rfl)) rfl (pn 2 rfl (RL.sg (Vl.lw 0 hS isAgg109 sizeOf109 rfl rfl rfl) rfl rfl ?_))))))))))
  refine RL.sg (Vl.externAt (ls := [.tmp 21]) (v := .bool false) rfl func47 (by kernel_rfl) (by kernel_rfl) (by kernel_rfl) (e := Extern.ReflectliteValue.method (Extern.ReflectliteValue.valueError "reflectlite.Value.IsNil" 0) Extern.ReflectliteValue.isNil) (by kernel_rfl) (run_isNil (n := 150) (a := ⟨b12, 0, none⟩) (fun w => by kernel_rfl) underlying95 rfl (hS.cell 1 rfl rfl))) rfl rfl (pn 1 rfl (ln (RC.condF rfl (sk (sr (pn 1 rfl (RL.s (Vl.invokeX (F := 160) (ls := []) (v := .iface 148 (.agg #[.pointer (some ⟨1, 94, none⟩)])) (u' := .agg #[.pointer (some ⟨1, 95, none⟩)]) rfl rfl (fun w => by kernel_rfl) func160 (by kernel_rfl) (by kernel_rfl) (by kernel_rfl) (e := (Extern.ReflectliteType.method Extern.ReflectliteType.elem)) (by kernel_rfl) (fun w => by kernel_rfl)) rfl (pn 1 rfl (ln (RC.seq (RC.seq ?_)))))))))))
  refine RC.region (pn 1 rfl (RL.s (Vl.invokeX (F := 146) (ls := []) (v := .int .u8 25) (u' := .pointer (some ⟨1, 94, none⟩)) rfl rfl (fun w => by kernel_rfl) func146 (by kernel_rfl) (by kernel_rfl) (by kernel_rfl) (e := (Extern.ReflectliteType.abiMethod fun t => do pure (.int .u8 (← Extern.Rtype.kind t)))) (by kernel_rfl) (fun w => by kernel_rfl)) rfl (pn 3 rfl (RL.sg (Vl.load isAgg112 rfl (cellH_world hS.sub hG0)) rfl rfl (RL.sg (Vl.invokeX (F := 161) (ls := [.tmp 32]) (v := .bool true) (u' := .agg #[.pointer (some ⟨1, 94, none⟩)]) rfl rfl (fun w => by kernel_rfl) func161 (by kernel_rfl) (by kernel_rfl) (by kernel_rfl) (e := (Extern.ReflectliteType.relation "Implements" Extern.ReflectliteType.implements_)) (by kernel_rfl) (fun w => by kernel_rfl)) rfl rfl (pn 2 rfl (ln (RC.condF rfl (sk (sr (pn 2 rfl (RL.s (Vl.lw 0 hS isAgg109 sizeOf109 rfl rfl rfl) rfl ?_))))))))))))
  refine pn 1 rfl (cF (fun _ hg => errors_as_6.ok hg hS.p1.p2) call48 h rfl rfl rfl ?_)
  rintro ⟨y16, y17, y18⟩ h _ w ⟨rfl, hS⟩
  refine pn 1 rfl (lr ?_)
  obtain rfl := h.some
  exact rt results25 rfl ⟨rfl, hS.d1.d1⟩

/-! ### isochron/seq.run$1: function 33 -/
noncomputable def seq_run_1v2.f (a2 a3 a5 : Int) : Option (Int) := ((errors_As_7.f a2 a3 0).bind fun (y16, y17, y18) => (if y16 = true then some y17 else some a5))
theorem seq_run_1v2.ok {a2 a3 a5 : Int} {b1 b4 : Nat} (hG0 : GlobAt hf 0 (.iface 148 (.agg #[.pointer (some ⟨1, 83, none⟩)]))) {r : Int} (h : seq_run_1v2.f a2 a3 a5 = some r) (hS : St B w (Cl b1 [.iface 94 (.agg #[.int .i64 a2, .iface 32 (.int .i64 a3)])] 83 :: Cl b4 [.int .i64 a5] 3 :: l) hf) :
    CallsD prog 33 #[.pointer (some ⟨b1, 0, none⟩), .pointer (some ⟨b4, 0, none⟩)] (.returning) w (fun e u' w' => u' = .returning ∧ (Ret fun v w => v = .tuple #[] ∧ St B w (Cl b1 [.iface 94 (.agg #[.int .i64 a2, .iface 32 (.int .i64 a3)])] 83 :: Cl b4 [.int .i64 r] 3 :: l) hf) e w') := by
  have h := Holds.of h
  refine deferPlain (args := [.pointer (some ⟨b1, 0, none⟩), .pointer (some ⟨b4, 0, none⟩)]) func33 rfl ntmps33 (Nat.le_of_ble_eq_true rfl) (sr (al hS zeroValue94 rfl rfl rfl fun b13 w hS => lnsr (RL.s (Vl.ld 1 hS isAgg83 rfl rfl rfl) rfl (RL.s (Vl.makeIface underlying95 rfl rfl) rfl (cF (fun _ hg => errors_As_7.ok hG0 hg hS) call25 h rfl rfl rfl ?_)))))
  rintro ⟨y16, y17, y18⟩ h _ w ⟨rfl, hS⟩
  refine ln ?_
  refine RC.iteB 5 rfl h (fun hc19 h => ?_) fun hc19 h => ?_
  next =>
   refine RC.condT rfl (RC.region (RL.s (Vl.fa 0 underlying94 rfl sizeOf3 rfl rfl) rfl (RL.s (Vl.ld 0 hS isAgg3 rfl rfl rfl) rfl (RL.e0 (OW.store (vs := [.int .i64 y17]) 2 hS rfl rfl rfl rfl sizeOf3 rfl rfl rfl rfl) rfl ?_))))
   rintro _ w ⟨rfl, hS⟩
   have hS : St B w (_ :: _ :: Cl _ [_] _ :: l) hf := hS
   refine RL.nil ?_
   obtain rfl := h.some
   exact rtE results33 rfl ⟨rfl, hS.d0⟩
  next =>
   refine RC.condF rfl (RC.skip ?_)
   obtain rfl := h.some
   exact rtE results33 rfl ⟨rfl, hS.d0⟩

/-! ### isochron/seq.run: function 20 -/
noncomputable def seq_run.l4b (a11 : Int) (y386 : List (List api_Instr)) (y387 : List api_Link) (y388 : List api_Start) (y389 y390 y391 : Int) (y392 : List api_World) : ((List api_State × List api_Message × List api_Done) ⊕ (List api_State × List api_Message × List api_Done × Int × Int)) → Option (((List api_State × List api_Message × List api_Done) ⊕ (List api_State × List api_Message × List api_Done × Int × Int)) ⊕ (List (List api_Instr) × List api_Link × List api_Start × Int × Int × Int × List api_World × List api_State × List api_Message × List api_Done × Int))
  | (.inl (l675, l678, l681)) => (if (l681.length : Int) = a11 then (Option.map Sum.inr ((seq_run_1.f 0).bind fun t733 => some (y386, y387, y388, y389, y390, y391, y392, l675, l678, l681, t733))) else ((seq_sim_step.f y386 y387 y388 y389 y390 y391 y392 l675 l678 l681).bind fun t735 => match t735 with | .inl (y737, y738) => some (.inl (.inr (l675, l678, l681, y737, y738))) | .inr ((y739, y740, y741)) => some (.inl (.inl (y739, y740, y741)))))
  | (.inr (l699, l702, l705, x708, x709)) => (Option.map Sum.inr ((seq_run_1v2.f x708 x709 0).bind fun t748 => some (y386, y387, y388, y389, y390, y391, y392, l699, l702, l705, t748)))
noncomputable def seq_run.l4 (a11 : Int) (y386 : List (List api_Instr)) (y387 : List api_Link) (y388 : List api_Start) (y389 y390 y391 : Int) (y392 : List api_World) (s : (List api_State × List api_Message × List api_Done) ⊕ (List api_State × List api_Message × List api_Done × Int × Int)) : Option (List (List api_Instr) × List api_Link × List api_Start × Int × Int × Int × List api_World × List api_State × List api_Message × List api_Done × Int) := loopR (seq_run.l4b a11 y386 y387 y388 y389 y390 y391 y392) s
noncomputable def seq_run.f (a1 : api_Model) (a11 : Int) : Option (List (List api_Instr) × List api_Link × List api_Start × Int × Int × Int × List api_World × List api_State × List api_Message × List api_Done × Int) := ((seq_start.f a1).bind fun (y386, y387, y388, y389, y390, y391, y392, y393, y394, y395) => seq_run.l4 a11 y386 y387 y388 y389 y390 y391 y392 (.inl (y393, y394, y395)))
theorem seq_run.ok {a1 : api_Model} {a11 : Int} {A2 : Option Addr} {c3 : Nat} {A5 : Option Addr} {c6 : Nat} {A8 : Option Addr} {c9 : Nat} (hr4 : SlR (Rep.sl E_api_Instr.rep) hf A2 c3 a1.Progs) (hr7 : SlR E_api_Link.rep hf A5 c6 a1.Links) (hr10 : SlR E_api_Start.rep hf A8 c9 a1.Starts) (hG0 : GlobAt hf 0 (.iface 148 (.agg #[.pointer (some ⟨1, 83, none⟩)]))) {r : List (List api_Instr) × List api_Link × List api_Start × Int × Int × Int × List api_World × List api_State × List api_Message × List api_Done × Int} (h : seq_run.f a1 a11 = some r) (hS : St B w (l) hf) :
    Calls prog 20 #[.agg #[.slice A2 a1.Progs.length c3, .slice A5 a1.Links.length c6, .slice A8 a1.Starts.length c9, .int .u64 a1.Seed, .int .i64 a1.End, .int .i64 a1.Budget], .int .i64 a11] w (Ret fun v w => ∃ hf_ : Hp, Sub hf hf_ ∧ ∃ (b_1 : Nat) (A_2 : Option Addr) (c_3 : Nat) (A_5 : Option Addr) (c_6 : Nat) (A_8 : Option Addr) (c_9 : Nat) (A_11 : Option Addr) (c_12 : Nat) (cs_13 : List Value) (A_15 : Option Addr) (c_16 : Nat) (A_17 : Option Addr) (c_18 : Nat) (A_19 : Option Addr) (c_20 : Nat), v = .tuple #[.pointer (some ⟨b_1, 0, none⟩), .int .i64 r.2.2.2.2.2.2.2.2.2.2] ∧ St B w (Cl b_1 [.slice A_2 r.1.length c_3, .slice A_5 r.2.1.length c_6, .slice A_8 r.2.2.1.length c_9, .int .u64 r.2.2.2.1, .int .i64 r.2.2.2.2.1, .int .i64 r.2.2.2.2.2.1, .slice A_11 r.2.2.2.2.2.2.1.length c_12, .slice A_15 r.2.2.2.2.2.2.2.1.length c_16, .slice A_17 r.2.2.2.2.2.2.2.2.1.length c_18, .func (.func 55) #[] #[], .slice A_19 r.2.2.2.2.2.2.2.2.2.1.length c_20] 65 :: OSl 124 4 (.slice A_11 r.2.2.2.2.2.2.1.length c_12) r.2.2.2.2.2.2.1.length cs_13 :: OSf E_api_State 105 (.slice A_15 r.2.2.2.2.2.2.2.1.length c_16) r.2.2.2.2.2.2.2.1 :: OSf E_api_Message 53 (.slice A_17 r.2.2.2.2.2.2.2.2.1.length c_18) r.2.2.2.2.2.2.2.2.1 :: OSf E_api_Done 44 (.slice A_19 r.2.2.2.2.2.2.2.2.2.1.length c_20) r.2.2.2.2.2.2.2.2.2.1 :: l) hf_ ∧ SlR (Rep.sl E_api_Instr.rep) hf_ A_2 c_3 r.1 ∧ SlR E_api_Link.rep hf_ A_5 c_6 r.2.1 ∧ SlR E_api_Start.rep hf_ A_8 c_9 r.2.2.1 ∧ RepL R_api_World hf_ cs_13 r.2.2.2.2.2.2.1) := by
  have h := Holds.of h
  refine enterD (args := [.agg #[.slice A2 a1.Progs.length c3, .slice A5 a1.Links.length c6, .slice A8 a1.Starts.length c9, .int .u64 a1.Seed, .int .i64 a1.End, .int .i64 a1.Budget], .int .i64 a11]) func20 rfl ntmps20 (Nat.le_of_ble_eq_true rfl) (sr (bx hS rfl rfl rfl rfl fun b381 w hS => pn 1 rfl (al hS zeroValue3 rfl rfl rfl fun b382 w hS => lnsr (al hS zeroValue83 rfl rfl rfl fun b383 w hS => lnsr (RL.s (Vl.makeFunc (fi := []) (ca := [.tmp 6, .tmp 5]) rfl rfl) rfl ?_)))))
  refine RL.defer rfl (lnsr (RL.s (Vl.lw 2 hS isAgg27 sizeOf27 rfl rfl rfl) rfl (cF (fun _ hg => seq_start.ok hr4 hr7 hr10 hG0 hg hS) call34 h rfl rfl rfl ?_)))
  rintro ⟨y386, y387, y388, y389, y390, y391, y392, y393, y394, y395⟩ h _ w ⟨hf, hs416, b396, A397, c398, A400, c401, A403, c404, A406, c407, cs408, A410, c411, A412, c413, A414, c415, rfl, hS, hr399, hr402, hr405, hx409⟩
  refine pn 1 rfl (ln (RC.seq (RC.block ?_)))
  refine fun a ha => RC.loop (N := ⟨24, [⟨.fn (.func 33) #[.pointer (some ⟨b383, 0, none⟩), .pointer (some ⟨b382, 0, none⟩)], #[]⟩], true⟩) (body := (seq_run.l4b a11 y386 y387 y388 y389 y390 y391 y392)) (φ := (· = r)) (fun (s : (List api_State × List api_Message × List api_Done) ⊕ (List api_State × List api_Message × List api_Done × Int × Int)) a w => match s with | (.inl s) => ∃ (l675 : List api_State) (l678 : List api_Message) (l681 : List api_Done), s = (l675, l678, l681) ∧ ∃ (A676 : Option Addr) (c677 : Nat) (A679 : Option Addr) (c680 : Nat) (A682 : Option Addr) (c683 : Nat), Has ⟨24, [⟨.fn (.func 33) #[.pointer (some ⟨b383, 0, none⟩), .pointer (some ⟨b382, 0, none⟩)], #[]⟩], true⟩ [(1, .int .i64 a11), (4, .pointer (some ⟨b396, 0, none⟩)), (5, .pointer (some ⟨b382, 0, none⟩)), (6, .pointer (some ⟨b383, 0, none⟩))] a ∧ St B w (OSl 124 4 (.slice A406 y392.length c407) y392.length cs408 :: OSf E_api_State 105 (.slice A676 l675.length c677) l675 :: OSf E_api_Message 53 (.slice A679 l678.length c680) l678 :: OSf E_api_Done 44 (.slice A682 l681.length c683) l681 :: Cl b396 [.slice A397 y386.length c398, .slice A400 y387.length c401, .slice A403 y388.length c404, .int .u64 y389, .int .i64 y390, .int .i64 y391, .slice A406 y392.length c407, .slice A676 l675.length c677, .slice A679 l678.length c680, .func (.func 55) #[] #[], .slice A682 l681.length c683] 65 :: Cl b383 [.nilIface] 83 :: Cl b382 [.int .i64 0] 3 :: l) hf | (.inr s) => ∃ (l699 : List api_State) (l702 : List api_Message) (l705 : List api_Done) (x708 : Int) (x709 : Int), s = (l699, l702, l705, x708, x709) ∧ ∃ (A700 : Option Addr) (c701 : Nat) (A703 : Option Addr) (c704 : Nat) (A706 : Option Addr) (c707 : Nat), Has ⟨24, [⟨.fn (.func 33) #[.pointer (some ⟨b383, 0, none⟩), .pointer (some ⟨b382, 0, none⟩)], #[]⟩], true⟩ [(1, .int .i64 a11), (4, .pointer (some ⟨b396, 0, none⟩)), (5, .pointer (some ⟨b382, 0, none⟩)), (6, .pointer (some ⟨b383, 0, none⟩))] a ∧ St B w (OSl 124 4 (.slice A406 y392.length c407) y392.length cs408 :: OSf E_api_State 105 (.slice A700 l699.length c701) l699 :: OSf E_api_Message 53 (.slice A703 l702.length c704) l702 :: OSf E_api_Done 44 (.slice A706 l705.length c707) l705 :: Cl b396 [.slice A397 y386.length c398, .slice A400 y387.length c401, .slice A403 y388.length c404, .int .u64 y389, .int .i64 y390, .int .i64 y391, .slice A406 y392.length c407, .slice A700 l699.length c701, .slice A703 l702.length c704, .func (.func 55) #[] #[], .slice A706 l705.length c707] 65 :: Cl b383 [.iface 94 (.agg #[.int .i64 x708, .iface 32 (.int .i64 x709)])] 83 :: Cl b382 [.int .i64 0] 3 :: l) hf) ?_ (s0 := (.inl (y393, y394, y395))) h (by exact ⟨y393, y394, y395, rfl, A410, c411, A412, c413, A414, c415, ha.to ⟨rfl, rfl, rfl, rfl, trivial⟩, hS.d7.p4.p4.p4.p4⟩)
  rintro G730 s_ a w hI h
  rcases s_ with s_ | s_
  · revert hI h
    rintro ⟨l675, l678, l681, rfl, A676, c677, A679, c680, A682, c683, ha, hS⟩ h
    have h : Holds _ ((if (l681.length : Int) = a11 then (Option.map Sum.inr ((seq_run_1.f 0).bind fun t733 => some (y386, y387, y388, y389, y390, y391, y392, l675, l678, l681, t733))) else ((seq_sim_step.f y386 y387 y388 y389 y390 y391 y392 l675 l678 l681).bind fun t735 => match t735 with | .inl (y737, y738) => some (.inl (.inr (l675, l678, l681, y737, y738))) | .inr ((y739, y740, y741)) => some (.inl (.inl (y739, y740, y741))))) : Option (((List api_State × List api_Message × List api_Done) ⊕ (List api_State × List api_Message × List api_Done × Int × Int)) ⊕ (List (List api_Instr) × List api_Link × List api_Start × Int × Int × Int × List api_World × List api_State × List api_Message × List api_Done × Int))) := h
    revert a
    show RC _ _ _ _ _ _
    refine RC.seq (sr (RL.s (Vl.ld 5 hS isAgg83 rfl rfl rfl) rfl (RL.s (Vl.bin (v := .bool true) rfl rfl (by kernel_rfl)) rfl (pn 3 rfl (RL.sg (Vl.fa 10 underlying65 rfl sizeOf28 rfl rfl) rfl rfl (RL.sg (Vl.ld 4 hS isAgg28 rfl rfl rfl) rfl rfl (RL.sg (Vl.lenSl underlying28 rfl) rfl rfl (pn 3 rfl (ln ?_)))))))))
    refine RC.iteN 20 rfl h (fun hc732 h => ?_) fun hc732 h => ?_
    next =>
     refine RC.condF rfl (RC.exit (RQ.exitT ?_))
     have h := h.inr
     refine RQ.exitT (RQ.inB_hit (tsr (pn 2 rfl (RL.e0 (OW.store (vs := [.int .i64 0]) 6 hS rfl rfl rfl rfl sizeOf3 rfl rfl rfl rfl) rfl ?_))))
     rintro _ w ⟨rfl, hS⟩
     have hS : St B w (_ :: _ :: _ :: _ :: _ :: _ :: Cl _ [_] _ :: l) hf := hS
     refine lr ?_
     obtain ⟨t733, hg734, h⟩ := h.bind
     obtain rfl := h.some
     refine RQ.deferRet results20 (fun w => by kernel_rfl) (seq_run_1.ok hg734 hS.p6.p6) ?_
     rintro _ w ⟨rfl, hS⟩
     have hS : St B w (_ :: _ :: _ :: _ :: _ :: _ :: _ :: l) hf := hS
     exact ⟨[.pointer (some ⟨b396, 0, none⟩), .int .i64 t733], ⟨rfl, ⟨_, rfl, run_loadVar1 isAgg3 (hS.cell 1 rfl rfl)⟩, trivial⟩, ⟨_, hs416, b396, A397, c398, A400, c401, A403, c404, A406, c407, cs408, A676, c677, A679, c680, A682, c683, rfl, hS.d0.d0.p4, hr399, hr402, hr405, hx409⟩⟩
    next =>
     refine RC.condT rfl (sk (RC.block (RC.region (pn 1 rfl ?_))))
     obtain ⟨t735, hg736, h⟩ := h.bind
     have hc := seq_sim_step.ok hr399 hr402 hr405 hx409 (hG0.mono hs416) hg736 hS.p4
     rcases t735 with ⟨y737, y738⟩ | ⟨y739, y740, y741⟩
     · refine RL.e (OW.callF (ls := [.tmp 21]) rfl call35 hc) rfl rfl ?_
       rintro _ w ⟨rfl, hS⟩
       refine RL.e0 (OW.store (vs := [.iface 94 (.agg #[.int .i64 y737, .iface 32 (.int .i64 y738)])]) 5 hS rfl rfl rfl rfl sizeOf83 rfl rfl rfl rfl) rfl ?_
       rintro _ w ⟨rfl, hS⟩
       have hS : St B w (_ :: _ :: _ :: _ :: _ :: Cl _ [_] _ :: _ :: l) hf := hS
       refine RL.nil (RQ.inB_n ?_)
       exact fun a ha => ⟨(.inr (l675, l678, l681, y737, y738)), ⟨l675, l678, l681, y737, y738, rfl, A676, c677, A679, c680, A682, c683, ha.to ⟨rfl, rfl, rfl, rfl, trivial⟩, hS.p4.p4.p4.p4⟩, h.some⟩
     · refine RL.e (OW.callF (ls := [.tmp 21]) rfl call35 hc) rfl rfl ?_
       rintro _ w ⟨A742, c743, A744, c745, A746, c747, rfl, hS⟩
       refine RL.e0 (OW.store (vs := [.nilIface]) 5 hS rfl rfl rfl rfl sizeOf83 rfl rfl rfl rfl) rfl ?_
       rintro _ w ⟨rfl, hS⟩
       have hS : St B w (_ :: _ :: _ :: _ :: _ :: Cl _ [_] _ :: _ :: l) hf := hS
       refine RL.nil (RQ.inB_n ?_)
       exact fun a ha => ⟨(.inl (y739, y740, y741)), ⟨y739, y740, y741, rfl, A742, c743, A744, c745, A746, c747, ha.to ⟨rfl, rfl, rfl, rfl, trivial⟩, hS.p4⟩, h.some⟩
  · revert hI h
    rintro ⟨l699, l702, l705, x708, x709, rfl, A700, c701, A703, c704, A706, c707, ha, hS⟩ h
    have h : Holds _ ((Option.map Sum.inr ((seq_run_1v2.f x708 x709 0).bind fun t748 => some (y386, y387, y388, y389, y390, y391, y392, l699, l702, l705, t748))) : Option (((List api_State × List api_Message × List api_Done) ⊕ (List api_State × List api_Message × List api_Done × Int × Int)) ⊕ (List (List api_Instr) × List api_Link × List api_Start × Int × Int × Int × List api_World × List api_State × List api_Message × List api_Done × Int))) := h
    revert a
    show RC _ _ _ _ _ _
    refine RC.seq (sr (RL.s (Vl.ld 5 hS isAgg83 rfl rfl rfl) rfl (RL.s (Vl.bin (v := .bool false) rfl rfl (by kernel_rfl)) rfl (pn 9 rfl (ln (RC.condF rfl (RC.exit (RQ.exitT ?_))))))))
    have h := h.inr
    refine RQ.exitT (RQ.inB_hit (tsr (pn 2 rfl (RL.e0 (OW.store (vs := [.int .i64 0]) 6 hS rfl rfl rfl rfl sizeOf3 rfl rfl rfl rfl) rfl ?_))))
    rintro _ w ⟨rfl, hS⟩
    have hS : St B w (_ :: _ :: _ :: _ :: _ :: _ :: Cl _ [_] _ :: l) hf := hS
    refine lr ?_
    obtain ⟨t748, hg749, h⟩ := h.bind
    obtain rfl := h.some
    refine RQ.deferRet results20 (fun w => by kernel_rfl) (seq_run_1v2.ok (hG0.mono hs416) hg749 hS.p6.p6) ?_
    rintro _ w ⟨rfl, hS⟩
    have hS : St B w (_ :: _ :: _ :: _ :: _ :: _ :: _ :: l) hf := hS
    exact ⟨[.pointer (some ⟨b396, 0, none⟩), .int .i64 t748], ⟨rfl, ⟨_, rfl, run_loadVar1 isAgg3 (hS.cell 1 rfl rfl)⟩, trivial⟩, ⟨_, hs416, b396, A397, c398, A400, c401, A403, c404, A406, c407, cs408, A700, c701, A703, c704, A706, c707, rfl, hS.d0.d0.p4, hr399, hr402, hr405, hx409⟩⟩

/-! ### isochron/seq.Run: function 9 -/
noncomputable def seq_Run.f (a1 : api_Model) : Option (api_Result × Int) := ((model_Check.f a1).bind fun t58 => (if t58 = 0 then ((seq_run.f a1 (-1)).bind fun (y63, y64, y65, y66, y67, y68, y69, y70, y71, y72, y73) => some ((⟨y72, y70, y73⟩ : api_Result), 0)) else some ((⟨([] : List api_Done), ([] : List api_State), 0⟩ : api_Result), t58)))
theorem seq_Run.ok {a1 : api_Model} {A2 : Option Addr} {c3 : Nat} {A5 : Option Addr} {c6 : Nat} {A8 : Option Addr} {c9 : Nat} (hr4 : SlR (Rep.sl E_api_Instr.rep) hf A2 c3 a1.Progs) (hr7 : SlR E_api_Link.rep hf A5 c6 a1.Links) (hr10 : SlR E_api_Start.rep hf A8 c9 a1.Starts) (hG0 : GlobAt hf 0 (.iface 148 (.agg #[.pointer (some ⟨1, 83, none⟩)]))) {r : api_Result × Int} (h : seq_Run.f a1 = some r) (hS : St B w (l) hf) :
    Calls prog 9 #[.agg #[.slice A2 a1.Progs.length c3, .slice A5 a1.Links.length c6, .slice A8 a1.Starts.length c9, .int .u64 a1.Seed, .int .i64 a1.End, .int .i64 a1.Budget]] w (Ret fun v w => ∃ (A_1 : Option Addr) (c_2 : Nat) (A_3 : Option Addr) (c_4 : Nat), v = .tuple #[.agg #[.slice A_1 r.1.History.length c_2, .slice A_3 r.1.States.length c_4, .int .i64 r.1.Stop], .int .i64 r.2] ∧ St B w (OSf E_api_Done 44 (.slice A_1 r.1.History.length c_2) r.1.History :: OSf E_api_State 105 (.slice A_3 r.1.States.length c_4) r.1.States :: l) hf) := by
  have h := Holds.of h
  refine en func9 rfl ntmps9 rfl (sr (bx hS rfl rfl rfl rfl fun b53 w hS => al hS zeroValue31 rfl rfl rfl fun b54 w hS => pn 1 rfl (ln (RC.seq (sr (RL.s (Vl.lw 1 hS isAgg27 sizeOf27 rfl rfl rfl) rfl (cF (fun _ hg => model_Check.ok hr4 hr7 hr10 hG0 hg hS) call13 h rfl rfl rfl ?_)))))))
  rintro t58 h _ w ⟨rfl, hS⟩
  refine pn 1 rfl (lnsr (pn 2 rfl (ln ?_)))
  refine RC.iteN 10 rfl h (fun hc60 h => ?_) fun hc60 h => ?_
  next =>
   refine RC.condF rfl (sk (sr (RL.s (Vl.lw 1 hS isAgg27 sizeOf27 rfl rfl rfl) rfl (cF (fun _ hg => seq_run.ok hr4 hr7 hr10 hG0 hg hS) call20 h rfl rfl rfl ?_))))
   rintro ⟨y63, y64, y65, y66, y67, y68, y69, y70, y71, y72, y73⟩ h _ w ⟨hf, hs94, b74, A75, c76, A78, c79, A81, c82, A84, c85, cs86, A88, c89, A90, c91, A92, c93, rfl, hS, hr77, hr80, hr83, hx87⟩
   refine pn 5 rfl (ln (RC.seq (RC.planS (plD [0, 3, 6, 10, 12, 15, 18, 22, 26, 29, 32, 35]) [9, 10, 11] hS (fun w hS => hS) follows rfl (by kernel_rfl) (NoTmp.then NoTmp.body) fun w hS => pp 2 rfl (RP.s0 2 rfl (fun w => Vl.fa 10 underlying65 rfl sizeOf28 rfl rfl) rfl (RP.s 0 3 rfl rfl hS (fun w hS => Vl.ld 0 hS isAgg28 rfl rfl rfl) rfl (pp 2 rfl (RP.s0 6 rfl (fun w => Vl.fa 7 underlying65 rfl sizeOf29 rfl rfl) rfl (RP.s 0 7 rfl rfl hS (fun w hS => Vl.ld 0 hS isAgg29 rfl rfl rfl) rfl (RP.v1 8 rfl (Vl.move rfl) rfl rfl (RP.v1 9 rfl (Vl.build (v := .agg #[.slice A92 y72.length c93, .slice A88 y70.length c89, .int .i64 y73]) (parts := [(0, .tmp 21), (1, .tmp 25), (2, .tmp 26)]) rfl (by kernel_rfl)) rfl rfl (RP.e0 10 rfl (OW.store (vs := [.slice A92 y72.length c93, .slice A88 y70.length c89, .int .i64 y73]) 5 hS rfl rfl rfl rfl sizeOf31 rfl rfl rfl rfl) rfl ?_)))))))))))
   rintro _ w ⟨rfl, hS⟩
   have hS : St B w (_ :: _ :: _ :: _ :: _ :: Cl _ [_, _, _] _ :: _ :: l) hf := hS
   refine ⟨kp ⟨(by intro hx; cases hx), trivial⟩, ?_⟩
   refine RP.v1 11 rfl (Vl.assign rfl) rfl rfl (RP.nil (tr ?_))
   obtain rfl := h.some
   refine RQ.ret0 (vs := [.agg #[.slice A92 y72.length c93, .slice A88 y70.length c89, .int .i64 y73], .int .i64 0]) results9 ⟨⟨_, rfl, run_loadVarA (vs := [.slice A92 y72.length c93, .slice A88 y70.length c89, .int .i64 y73]) isAgg31 sizeOf31 rfl (hS.cellsAt 5 rfl rfl)⟩, rfl, trivial⟩ ?_
   exact ⟨A92, c93, A88, c89, rfl, (hS.d0.d0.d1.d2.d2.p1).down hs94⟩
  next =>
   refine RC.condT rfl (sr (RL.s (Vl.build (v := .agg #[.slice none 0 0, .slice none 0 0, .int .i64 0]) (parts := []) rfl (by kernel_rfl)) rfl (pn 1 rfl (RL.e0 (OW.store (vs := [.slice none 0 0, .slice none 0 0, .int .i64 0]) 0 hS rfl rfl rfl rfl sizeOf31 rfl rfl rfl rfl) rfl ?_))))
   rintro _ w ⟨rfl, hS⟩
   have hS : St B w (Cl _ [_, _, _] _ :: _ :: l) hf := hS
   refine pn 1 rfl (lr (RQ.ret ?_))
   have hS := hS.nilSl E_api_Done 44
   have hS := hS.nilSl E_api_State 105
   obtain rfl := h.some
   refine RQ.ret0 (vs := [.agg #[.slice none 0 0, .slice none 0 0, .int .i64 0], .int .i64 t58]) results9 ⟨⟨_, rfl, run_loadVarA (vs := [.slice none 0 0, .slice none 0 0, .int .i64 0]) isAgg31 sizeOf31 rfl (hS.cellsAt 2 rfl rfl)⟩, rfl, trivial⟩ ?_
   exact ⟨none, 0, none, 0, rfl, hS.d2.d2.p1⟩

/-! ### isochron/isochronref01.Valid: function 36 -/
noncomputable def isochronref01vValid.f (a1 : Int) : Option (Bool) := (if 0 ≤ a1 then some (decide (a1 ≤ 4611686018427387903)) else some false)
theorem isochronref01vValid.ok {a1 : Int} {r : Bool} (h : isochronref01vValid.f a1 = some r) (hS : St B w (l) hf) :
    Calls prog 36 #[.int .i64 a1] w (Ret fun v w => v = .bool r ∧ St B w (l) hf) := by
  have h := Holds.of h
  refine en func36 rfl ntmps36 rfl (sr (pn 1 rfl (lnsr (pn 3 rfl ?_))))
  refine RL.iteP 5 rfl h (fun hc3 h => ?_) fun hc3 h => ?_
  next =>
   refine pn 4 rfl (lr ?_)
   obtain rfl := h.some
   exact rt results36 rfl ⟨rfl, hS⟩
  next =>
   refine pn 4 rfl (lr ?_)
   obtain rfl := h.some
   exact rt results36 rfl ⟨rfl, hS⟩

/-! ### isochron/isochronref03.reg: function 78 -/
noncomputable def isochronref03vreg.f (a1 : Int) : Option (Bool) := (if 0 ≤ a1 then some (decide (a1 ≤ 15)) else some false)
theorem isochronref03vreg.ok {a1 : Int} {r : Bool} (h : isochronref03vreg.f a1 = some r) (hS : St B w (l) hf) :
    Calls prog 78 #[.int .i64 a1] w (Ret fun v w => v = .bool r ∧ St B w (l) hf) := by
  have h := Holds.of h
  refine en func78 rfl ntmps78 rfl (sr (pn 1 rfl (lnsr (pn 3 rfl ?_))))
  refine RL.iteP 5 rfl h (fun hc3 h => ?_) fun hc3 h => ?_
  next =>
   refine pn 4 rfl (lr ?_)
   obtain rfl := h.some
   exact rt results78 rfl ⟨rfl, hS⟩
  next =>
   refine pn 4 rfl (lr ?_)
   obtain rfl := h.some
   exact rt results78 rfl ⟨rfl, hS⟩

end Go.Proofs.Gx
