/-
  The walks of functions, each with what it computes: printed by wip/gx.py.
-/
import Derived.Test.YtdaibkppbhbggaaGreatDoorW3
set_option linter.unusedVariables false
set_option linter.unusedSimpArgs false
set_option maxRecDepth 100000
set_option maxHeartbeats 4000000
namespace Go.Proofs.Gx
open Go.Sl Tryz
variable {B : Base} {w : World} {l : List HProp} {hf : Hp}
noncomputable section
def vm_Run.j2 (a8 : api_State) (fn139 : (Nat → Int)) (x140 : Int) (l141 : List api_Out) (x144 : Int) : Option (api_State × List api_Out × Int) := some ((⟨(⟨fn139 0, fn139 1, fn139 2, fn139 3, fn139 4, fn139 5, fn139 6, fn139 7⟩ : Arr8xInti64), x140, IntKind.i64.wrap (a8.Sent + (l141.length : Int))⟩ : api_State), l141, 0)
def vm_Run.f (a1 : api_World) (a8 : api_State) (a9 : api_Message) : Option (api_State × List api_Out × Int) := ((vm_Check.f a1).bind fun t98 => (if t98 = 0 then ((event_Check.f a9).bind fun t106 => (if t106 = 0 then (if (if a8.Sent < a8.Draws then a8.Sent else a8.Draws) < 0 then some ((⟨(⟨0, 0, 0, 0, 0, 0, 0, 0⟩ : Arr8xInti64), 0, 0⟩ : api_State), ([] : List api_Out), 1) else (if 1125899906842624 < (if a8.Draws < a8.Sent then a8.Sent else a8.Draws) then some ((⟨(⟨0, 0, 0, 0, 0, 0, 0, 0⟩ : Arr8xInti64), 0, 0⟩ : api_State), ([] : List api_Out), 1) else ((vm_cpu_run.f a1.Prog a1.Self a1.Links a1.Seed a9.Key.Time a9.Key.From a9.Key.Seq a9.To a9.Value a9.Uid a9.Anti a8.Draws ([] : List api_Out) 0 (ovl [a8.Regs.c0, a8.Regs.c1, a8.Regs.c2, a8.Regs.c3, a8.Regs.c4, a8.Regs.c5, a8.Regs.c6, a8.Regs.c7] zfn)).bind fun t146 => match t146 with | .inl (y148, y149, y150, y151) => ((errors_As_4.f (⟨0, 0⟩ : vm_fault)).bind fun t154 => (if t154 = true then some (a8, ([] : List api_Out), 0) else vm_Run.j2 a8 y148 y149 y150 y151)) | .inr ((y157, y158, y159, y160, y161)) => ((errors_As_5.f y157 (⟨0, 0⟩ : vm_fault)).bind fun (y169, y170) => (if y169 = true then some (a8, ([] : List api_Out), y170.why) else vm_Run.j2 a8 y158 y159 y160 y161))))) else some ((⟨(⟨0, 0, 0, 0, 0, 0, 0, 0⟩ : Arr8xInti64), 0, 0⟩ : api_State), ([] : List api_Out), 1))) else some ((⟨(⟨0, 0, 0, 0, 0, 0, 0, 0⟩ : Arr8xInti64), 0, 0⟩ : api_State), ([] : List api_Out), t98)))
theorem vm_Run.ok {a1 : api_World} {a8 : api_State} {a9 : api_Message} {A2 : Option Addr} {c3 : Nat} {A5 : Option Addr} {c6 : Nat} (hr4 : SlR E_api_Instr.rep hf A2 c3 a1.Prog) (hr7 : SlR E_api_Link.rep hf A5 c6 a1.Links) (hG0 : GlobAt hf 0 (.iface 215 (.agg #[.pointer (some ⟨1, 108, none⟩)]))) {r : api_State × List api_Out × Int} (h : vm_Run.f a1 a8 a9 = some r) (hS : St B w (l) hf) :
    Calls prog 122 #[.agg (C_api_World a1 A2 c3 A5 c6).toArray, .agg (C_api_State a8).toArray, .agg (C_api_Message a9).toArray] w (Ret fun v w => ∃ (A_1 : Option Addr) (c_2 : Nat), v = .tuple #[.agg (C_api_State r.1).toArray, .slice A_1 r.2.1.length c_2, .int .i64 r.2.2] ∧ St B w (OSf E_api_Out 265 (.slice A_1 r.2.1.length c_2) r.2.1 :: l) hf) := by
  have h := Holds.of h
  refine en func122 rfl ntmps122 rfl (sr (bx hS rfl rfl rfl rfl fun b91 w hS => bx hS rfl rfl rfl rfl fun b92 w hS => bx hS rfl rfl rfl rfl fun b93 w hS => al hS zeroValue70 rfl rfl rfl fun b94 w hS => pn 2 rfl (ln (RC.seq (sr (RL.s (Vl.lw 3 hS isAgg91 sizeOf91 rfl rfl rfl) rfl (cF (fun _ hg => vm_Check.ok hr4 hr7 hg hS) call80 h rfl rfl rfl ?_)))))))
  rintro t98 h _ w ⟨rfl, hS⟩
  refine pn 1 rfl (lnsr (pn 2 rfl (ln ?_)))
  refine RC.iteN 17 rfl h (fun hc100 h => ?_) fun hc100 h => ?_
  next =>
   refine RC.condF rfl (sk (RC.seq (sr (RL.s (Vl.lw 1 hS isAgg48 sizeOf48 rfl rfl rfl) rfl (cF (fun _ hg => event_Check.ok hg hS) call29 h rfl rfl rfl ?_)))))
   rintro t106 h _ w ⟨rfl, hS⟩
   refine pn 2 rfl ?_
   refine RL.iteN 23 rfl h (fun hc108 h => ?_) fun hc108 h => ?_
   next =>
    refine RL.sg (Vl.fa 8 underlying70 rfl sizeOf3 rfl rfl) rfl rfl (RL.sg (Vl.ld 2 hS isAgg3 rfl rfl rfl) rfl rfl (RL.sg (Vl.fa 9 underlying70 rfl sizeOf3 rfl rfl) rfl rfl (RL.sg (Vl.ld 2 hS isAgg3 rfl rfl rfl) rfl rfl (RL.sg (Vl.min2 rfl rfl) rfl rfl (pn 3 rfl ?_)))))
    refine RL.iteP 31 rfl h (fun hc109 h => ?_) fun hc109 h => ?_
    next =>
     refine pn 7 rfl (ln (RC.condT rfl (sr (RL.s (Vl.build (v := .agg #[.int .i64 0, .int .i64 0, .int .i64 0, .int .i64 0, .int .i64 0, .int .i64 0, .int .i64 0, .int .i64 0, .int .i64 0, .int .i64 0]) (parts := []) rfl (by kernel_rfl)) rfl (RL.e0 (OW.store (vs := [.int .i64 0, .int .i64 0, .int .i64 0, .int .i64 0, .int .i64 0, .int .i64 0, .int .i64 0, .int .i64 0, .int .i64 0, .int .i64 0]) 0 hS rfl rfl rfl rfl sizeOf70 rfl rfl rfl rfl) rfl ?_)))))
     rintro _ w ⟨rfl, hS⟩
     have hS : St B w (Cl _ [_, _, _, _, _, _, _, _, _, _] _ :: _ :: _ :: _ :: l) hf := hS
     refine pn 2 rfl (lr (RQ.ret ?_))
     have hS := hS.nilSl E_api_Out 265
     obtain rfl := h.some
     refine RQ.ret0 (vs := [.agg #[.int .i64 0, .int .i64 0, .int .i64 0, .int .i64 0, .int .i64 0, .int .i64 0, .int .i64 0, .int .i64 0, .int .i64 0, .int .i64 0], .slice none 0 0, .int .i64 1]) results122 ⟨⟨_, rfl, run_loadVarA (vs := [.int .i64 0, .int .i64 0, .int .i64 0, .int .i64 0, .int .i64 0, .int .i64 0, .int .i64 0, .int .i64 0, .int .i64 0, .int .i64 0]) isAgg70 sizeOf70 rfl (hS.cellsAt 1 rfl rfl)⟩, rfl, rfl, trivial⟩ ?_
     exact ⟨none, 0, rfl, hS.d1.d1.d1.d1⟩
    refine RL.sg (Vl.fa 8 underlying70 rfl sizeOf3 rfl rfl) rfl rfl (RL.sg (Vl.ld 2 hS isAgg3 rfl rfl rfl) rfl rfl (RL.sg (Vl.fa 9 underlying70 rfl sizeOf3 rfl rfl) rfl rfl (RL.sg (Vl.ld 2 hS isAgg3 rfl rfl rfl) rfl rfl (RL.sg (Vl.max2 rfl rfl) rfl rfl (pn 2 rfl (ln ?_))))))
    refine RC.iteP 38 rfl h (fun hc110 h => ?_) fun hc110 h => ?_
    next =>
     refine RC.condT rfl (sr (RL.s (Vl.build (v := .agg #[.int .i64 0, .int .i64 0, .int .i64 0, .int .i64 0, .int .i64 0, .int .i64 0, .int .i64 0, .int .i64 0, .int .i64 0, .int .i64 0]) (parts := []) rfl (by kernel_rfl)) rfl (RL.e0 (OW.store (vs := [.int .i64 0, .int .i64 0, .int .i64 0, .int .i64 0, .int .i64 0, .int .i64 0, .int .i64 0, .int .i64 0, .int .i64 0, .int .i64 0]) 0 hS rfl rfl rfl rfl sizeOf70 rfl rfl rfl rfl) rfl ?_)))
     rintro _ w ⟨rfl, hS⟩
     have hS : St B w (Cl _ [_, _, _, _, _, _, _, _, _, _] _ :: _ :: _ :: _ :: l) hf := hS
     refine pn 2 rfl (lr (RQ.ret ?_))
     have hS := hS.nilSl E_api_Out 265
     obtain rfl := h.some
     refine RQ.ret0 (vs := [.agg #[.int .i64 0, .int .i64 0, .int .i64 0, .int .i64 0, .int .i64 0, .int .i64 0, .int .i64 0, .int .i64 0, .int .i64 0, .int .i64 0], .slice none 0 0, .int .i64 1]) results122 ⟨⟨_, rfl, run_loadVarA (vs := [.int .i64 0, .int .i64 0, .int .i64 0, .int .i64 0, .int .i64 0, .int .i64 0, .int .i64 0, .int .i64 0, .int .i64 0, .int .i64 0]) isAgg70 sizeOf70 rfl (hS.cellsAt 1 rfl rfl)⟩, rfl, rfl, trivial⟩ ?_
     exact ⟨none, 0, rfl, hS.d1.d1.d1.d1⟩
    refine RC.condF rfl (sk (sr (RL.s (Vl.lw 3 hS isAgg91 sizeOf91 rfl rfl rfl) rfl (RL.s (Vl.lw 1 hS isAgg48 sizeOf48 rfl rfl rfl) rfl (RL.s (Vl.fa 8 underlying70 rfl sizeOf3 rfl rfl) rfl (RL.s (Vl.ld 2 hS isAgg3 rfl rfl rfl) rfl (RL.s (Vl.build (v := .agg #[.slice A2 a1.Prog.length c3, .int .i64 a1.Self, .slice A5 a1.Links.length c6, .int .u64 a1.Seed, .int .i64 a9.Key.Time, .int .i64 a9.Key.From, .int .i64 a9.Key.Seq, .int .i64 a9.To, .int .i64 a9.Value, .int .i64 a9.Uid, .bool a9.Anti, .int .i64 0, .int .i64 0, .int .i64 0, .int .i64 0, .int .i64 0, .int .i64 0, .int .i64 0, .int .i64 0, .int .i64 0, .int .i64 0, .int .i64 0, .int .i64 0, .int .i64 0, .int .i64 0, .int .i64 0, .int .i64 0, .int .i64 a8.Draws, .slice none 0 0, .int .i64 0]) (parts := [(0, .tmp 40), (1, .tmp 41), (3, .tmp 43)]) rfl (by kernel_rfl)) rfl (bx hS rfl rfl rfl rfl fun b111 w hS => pn 1 rfl (ln (RC.seq (RC.planS (plD [0, 3, 6, 10, 14, 17, 20]) [6] hS (fun w hS => hS) follows rfl (by kernel_rfl) (NoTmp.then NoTmp.body) fun w hS => ?_)))))))))))
    refine pp 2 rfl (RP.s0 2 rfl (fun w => Vl.fa 11 underlying260 rfl sizeOf258 rfl rfl) rfl (RP.s 0 3 rfl rfl hS (fun w hS => Vl.sliceArr underlying258 sizeOf2 rfl) rfl (RP.v1 4 rfl (Vl.fa 0 underlying70 rfl sizeOf68 rfl rfl) rfl rfl (RP.v1 5 rfl (Vl.sliceArr underlying68 sizeOf2 rfl) rfl rfl (RP.e 6 rfl (OW.copyB (m := 8) (vs := (C_Arr8xInti64 a8.Regs)) 0 3 hS rfl rfl underlying192 rfl rfl rfl rfl rfl rfl (Nat.le_of_ble_eq_true rfl) rfl rfl) rfl rfl ?_)))))
    rintro _ w ⟨rfl, hS⟩
    have hS : St B w (Cl b111 [.slice A2 a1.Prog.length c3, .int .i64 a1.Self, .slice A5 a1.Links.length c6, .int .u64 a1.Seed, .int .i64 a9.Key.Time, .int .i64 a9.Key.From, .int .i64 a9.Key.Seq, .int .i64 a9.To, .int .i64 a9.Value, .int .i64 a9.Uid, .bool a9.Anti, .int .i64 ((ovl [a8.Regs.c0, a8.Regs.c1, a8.Regs.c2, a8.Regs.c3, a8.Regs.c4, a8.Regs.c5, a8.Regs.c6, a8.Regs.c7] zfn) 0), .int .i64 ((ovl [a8.Regs.c0, a8.Regs.c1, a8.Regs.c2, a8.Regs.c3, a8.Regs.c4, a8.Regs.c5, a8.Regs.c6, a8.Regs.c7] zfn) 1), .int .i64 ((ovl [a8.Regs.c0, a8.Regs.c1, a8.Regs.c2, a8.Regs.c3, a8.Regs.c4, a8.Regs.c5, a8.Regs.c6, a8.Regs.c7] zfn) 2), .int .i64 ((ovl [a8.Regs.c0, a8.Regs.c1, a8.Regs.c2, a8.Regs.c3, a8.Regs.c4, a8.Regs.c5, a8.Regs.c6, a8.Regs.c7] zfn) 3), .int .i64 ((ovl [a8.Regs.c0, a8.Regs.c1, a8.Regs.c2, a8.Regs.c3, a8.Regs.c4, a8.Regs.c5, a8.Regs.c6, a8.Regs.c7] zfn) 4), .int .i64 ((ovl [a8.Regs.c0, a8.Regs.c1, a8.Regs.c2, a8.Regs.c3, a8.Regs.c4, a8.Regs.c5, a8.Regs.c6, a8.Regs.c7] zfn) 5), .int .i64 ((ovl [a8.Regs.c0, a8.Regs.c1, a8.Regs.c2, a8.Regs.c3, a8.Regs.c4, a8.Regs.c5, a8.Regs.c6, a8.Regs.c7] zfn) 6), .int .i64 ((ovl [a8.Regs.c0, a8.Regs.c1, a8.Regs.c2, a8.Regs.c3, a8.Regs.c4, a8.Regs.c5, a8.Regs.c6, a8.Regs.c7] zfn) 7), .int .i64 ((ovl [a8.Regs.c0, a8.Regs.c1, a8.Regs.c2, a8.Regs.c3, a8.Regs.c4, a8.Regs.c5, a8.Regs.c6, a8.Regs.c7] zfn) 8), .int .i64 ((ovl [a8.Regs.c0, a8.Regs.c1, a8.Regs.c2, a8.Regs.c3, a8.Regs.c4, a8.Regs.c5, a8.Regs.c6, a8.Regs.c7] zfn) 9), .int .i64 ((ovl [a8.Regs.c0, a8.Regs.c1, a8.Regs.c2, a8.Regs.c3, a8.Regs.c4, a8.Regs.c5, a8.Regs.c6, a8.Regs.c7] zfn) 10), .int .i64 ((ovl [a8.Regs.c0, a8.Regs.c1, a8.Regs.c2, a8.Regs.c3, a8.Regs.c4, a8.Regs.c5, a8.Regs.c6, a8.Regs.c7] zfn) 11), .int .i64 ((ovl [a8.Regs.c0, a8.Regs.c1, a8.Regs.c2, a8.Regs.c3, a8.Regs.c4, a8.Regs.c5, a8.Regs.c6, a8.Regs.c7] zfn) 12), .int .i64 ((ovl [a8.Regs.c0, a8.Regs.c1, a8.Regs.c2, a8.Regs.c3, a8.Regs.c4, a8.Regs.c5, a8.Regs.c6, a8.Regs.c7] zfn) 13), .int .i64 ((ovl [a8.Regs.c0, a8.Regs.c1, a8.Regs.c2, a8.Regs.c3, a8.Regs.c4, a8.Regs.c5, a8.Regs.c6, a8.Regs.c7] zfn) 14), .int .i64 ((ovl [a8.Regs.c0, a8.Regs.c1, a8.Regs.c2, a8.Regs.c3, a8.Regs.c4, a8.Regs.c5, a8.Regs.c6, a8.Regs.c7] zfn) 15), .int .i64 a8.Draws, .slice none 0 0, .int .i64 0] 260 :: _ :: _ :: _ :: _ :: l) hf := hS
    refine ⟨kp ⟨(by intro hx; cases hx), trivial⟩, ?_⟩
    refine RP.nil (tsr (al hS zeroValue262 rfl rfl rfl fun b112 w hS => ln ?_))
    refine RC.join (fun (s : (Nat → Int) × Int × List api_Out × Int) a w => ∃ (fn139 : (Nat → Int)) (x140 : Int) (l141 : List api_Out) (x144 : Int), s = (fn139, x140, l141, x144) ∧ ∃ (A142 : Option Addr) (c143 : Nat), Has 86 [(4, .pointer (some ⟨b92, 0, none⟩)), (6, .pointer (some ⟨b94, 0, none⟩)), (10, .pointer (some ⟨b111, 0, none⟩))] a ∧ St B w (OSf E_api_Out 265 (.slice A142 l141.length c143) l141 :: Cl b111 [.slice A2 a1.Prog.length c3, .int .i64 a1.Self, .slice A5 a1.Links.length c6, .int .u64 a1.Seed, .int .i64 a9.Key.Time, .int .i64 a9.Key.From, .int .i64 a9.Key.Seq, .int .i64 a9.To, .int .i64 a9.Value, .int .i64 a9.Uid, .bool a9.Anti, .int .i64 (fn139 0), .int .i64 (fn139 1), .int .i64 (fn139 2), .int .i64 (fn139 3), .int .i64 (fn139 4), .int .i64 (fn139 5), .int .i64 (fn139 6), .int .i64 (fn139 7), .int .i64 (fn139 8), .int .i64 (fn139 9), .int .i64 (fn139 10), .int .i64 (fn139 11), .int .i64 (fn139 12), .int .i64 (fn139 13), .int .i64 (fn139 14), .int .i64 (fn139 15), .int .i64 x140, .slice A142 l141.length c143, .int .i64 x144] 260 :: Cl b94 [.int .i64 0, .int .i64 0, .int .i64 0, .int .i64 0, .int .i64 0, .int .i64 0, .int .i64 0, .int .i64 0, .int .i64 0, .int .i64 0] 70 :: Cl b92 (C_api_State a8) 70 :: l) hf ∧ Holds (· = r) (vm_Run.j2 a8 fn139 x140 l141 x144)) ?_ ?_
    · rintro _ a w ⟨fn139, x140, l141, x144, rfl, A142, c143, ha, hS, h⟩
      revert a
      show RC _ _ _ _ _ _
      refine RC.seq (RC.planS (plD [0, 3, 6, 10, 12, 16, 18, 21, 24, 28, 30, 33, 36, 41, 44]) [14] hS (fun w hS => hS) follows rfl (by kernel_rfl) (NoTmp.then NoTmp.body) fun w hS => pp 2 rfl (RP.s0 2 rfl (fun w => Vl.fa 27 underlying260 rfl sizeOf3 rfl rfl) rfl (RP.s 0 3 rfl rfl hS (fun w hS => Vl.ld 1 hS isAgg3 rfl rfl rfl) rfl (RP.s0 4 rfl (fun w => Vl.fa 9 underlying70 rfl sizeOf3 rfl rfl) rfl (RP.s 0 5 rfl rfl hS (fun w hS => Vl.ld 3 hS isAgg3 rfl rfl rfl) rfl (pp 2 rfl (RP.s0 8 rfl (fun w => Vl.fa 28 underlying260 rfl sizeOf231 rfl rfl) rfl (RP.s 0 9 rfl rfl hS (fun w hS => Vl.ld 1 hS isAgg231 rfl rfl rfl) rfl (RP.s0 10 rfl (fun w => Vl.lenSl underlying231 rfl) rfl (pp 1 rfl (RP.s0 12 rfl (fun w => Vl.build (v := .agg #[.int .i64 0, .int .i64 0, .int .i64 0, .int .i64 0, .int .i64 0, .int .i64 0, .int .i64 0, .int .i64 0, .int .i64 x140, .int .i64 (IntKind.i64.wrap (a8.Sent + (l141.length : Int)))]) (parts := [(1, .tmp 64), (2, .tmp 72)]) rfl (by kernel_rfl)) rfl (RP.e 13 rfl (OW.alloc (cs := [.int .i64 0, .int .i64 0, .int .i64 0, .int .i64 0, .int .i64 0, .int .i64 0, .int .i64 0, .int .i64 0, .int .i64 0, .int .i64 0]) hS zeroValue70 rfl) rfl rfl ?_))))))))))))
      rintro _ w ⟨b145, rfl, hS⟩
      refine ⟨kp ⟨fun _ => hS.d0, trivial⟩, ?_⟩
      refine RP.e0 14 rfl (OW.store (vs := [.int .i64 0, .int .i64 0, .int .i64 0, .int .i64 0, .int .i64 0, .int .i64 0, .int .i64 0, .int .i64 0, .int .i64 x140, .int .i64 (IntKind.i64.wrap (a8.Sent + (l141.length : Int)))]) 0 hS rfl rfl rfl rfl sizeOf70 rfl rfl rfl rfl) rfl ?_
      rintro _ w ⟨rfl, hS⟩
      have hS : St B w (Cl _ [_, _, _, _, _, _, _, _, _, _] _ :: _ :: _ :: _ :: _ :: l) hf := hS
      refine ⟨kp ⟨(by intro hx; cases hx), trivial⟩, ?_⟩
      refine RP.nil (RQ.then_n (RC.seq (RC.planS (plD [0, 4, 8, 11, 14, 17, 20]) [6] hS (fun w hS => hS) follows rfl (by kernel_rfl) (NoTmp.then NoTmp.body) fun w hS => RP.s0 0 rfl (fun w => Vl.fa 0 underlying70 rfl sizeOf68 rfl rfl) rfl (RP.s 0 1 rfl rfl hS (fun w hS => Vl.sliceArr underlying68 sizeOf2 rfl) rfl (RP.v1 2 rfl (Vl.move rfl) rfl rfl (RP.v1 3 rfl (Vl.nilCheck rfl) rfl rfl (RP.v1 4 rfl (Vl.fa 11 underlying260 rfl sizeOf258 rfl rfl) rfl rfl (RP.v1 5 rfl (Vl.sliceArr underlying258 sizeOf2 rfl) rfl rfl (RP.e 6 rfl (OW.copyB (m := 8) (vs := [.int .i64 (fn139 0), .int .i64 (fn139 1), .int .i64 (fn139 2), .int .i64 (fn139 3), .int .i64 (fn139 4), .int .i64 (fn139 5), .int .i64 (fn139 6), .int .i64 (fn139 7)]) 0 2 hS rfl rfl underlying192 rfl rfl rfl rfl rfl rfl (Nat.le_of_ble_eq_true rfl) rfl rfl) rfl rfl ?_)))))))))
      rintro _ w ⟨rfl, hS⟩
      have hS : St B w (Cl _ [_, _, _, _, _, _, _, _, _, _] _ :: _ :: _ :: _ :: _ :: l) hf := hS
      refine ⟨kp ⟨(by intro hx; cases hx), trivial⟩, ?_⟩
      refine RP.nil (RQ.then_n (RC.seq (RC.planS (plD [1, 3, 6, 9, 13, 17, 20, 23]) [6, 7] hS (fun w hS => hS.d3) follows rfl (by kernel_rfl) (NoTmp.then NoTmp.body) fun w hS => RP.s 0 0 rfl rfl hS.d3 (fun w hS => Vl.lw 0 hS isAgg70 sizeOf70 rfl rfl rfl) rfl (pp 2 rfl (RP.s0 3 rfl (fun w => Vl.fa 28 underlying260 rfl sizeOf231 rfl rfl) rfl (RP.s 0 4 rfl rfl hS.d3 (fun w hS => Vl.ld 2 hS isAgg231 rfl rfl rfl) rfl (RP.e0 5 rfl (OW.store (vs := [.int .i64 (fn139 0), .int .i64 (fn139 1), .int .i64 (fn139 2), .int .i64 (fn139 3), .int .i64 (fn139 4), .int .i64 (fn139 5), .int .i64 (fn139 6), .int .i64 (fn139 7), .int .i64 x140, .int .i64 (IntKind.i64.wrap (a8.Sent + (l141.length : Int)))]) 3 hS rfl rfl rfl rfl sizeOf70 rfl rfl rfl rfl) rfl ?_)))))))
      rintro _ w ⟨rfl, hS⟩
      have hS : St B w (_ :: _ :: _ :: Cl _ [_, _, _, _, _, _, _, _, _, _] _ :: _ :: l) hf := hS
      refine ⟨kp ⟨fun _ => hS.d3, trivial⟩, ?_⟩
      refine RP.v1 6 rfl (Vl.assign rfl) rfl rfl (RP.v1 7 rfl (Vl.assign rfl) rfl rfl (RP.nil (tr ?_)))
      obtain rfl := h.some
      refine RQ.ret0 (vs := [.agg #[.int .i64 (fn139 0), .int .i64 (fn139 1), .int .i64 (fn139 2), .int .i64 (fn139 3), .int .i64 (fn139 4), .int .i64 (fn139 5), .int .i64 (fn139 6), .int .i64 (fn139 7), .int .i64 x140, .int .i64 (IntKind.i64.wrap (a8.Sent + (l141.length : Int)))], .slice A142 l141.length c143, .int .i64 0]) results122 ⟨⟨_, rfl, run_loadVarA (vs := [.int .i64 (fn139 0), .int .i64 (fn139 1), .int .i64 (fn139 2), .int .i64 (fn139 3), .int .i64 (fn139 4), .int .i64 (fn139 5), .int .i64 (fn139 6), .int .i64 (fn139 7), .int .i64 x140, .int .i64 (IntKind.i64.wrap (a8.Sent + (l141.length : Int)))]) isAgg70 sizeOf70 rfl (hS.cellsAt 3 rfl rfl)⟩, rfl, rfl, trivial⟩ ?_
      exact ⟨A142, c143, rfl, hS.d0.d1.d1.d1⟩
    refine sr (pn 1 rfl ?_)
    have hS := hS.nilSl E_api_Out 265
    have hS : St B w (_ :: _ :: _ :: _ :: _ :: _ :: _ :: l) hf := hS
    obtain ⟨t146, hg147, h⟩ := h.bind
    have hc := vm_cpu_run.ok hr4 hr7 hg147 hS.p2
    rcases t146 with ⟨y148, y149, y150, y151⟩ | ⟨y157, y158, y159, y160, y161⟩
    · refine RL.e (OW.callF (ls := [.tmp 53]) rfl call129 hc) rfl rfl ?_
      rintro _ w ⟨A152, c153, rfl, hS⟩
      refine pn 1 rfl (lnsr (pn 1 rfl (RL.s (Vl.makeIface underlying263 rfl rfl) rfl (cF (fun _ hg => errors_As_4.ok hg hS.p2) call43 h rfl rfl rfl ?_))))
      rintro t154 h _ w ⟨rfl, hS⟩
      refine ln ?_
      refine RC.iteB 57 rfl h (fun hc156 h => ?_) fun hc156 h => ?_
      next =>
       refine RC.condT rfl (RC.seq (RC.planS (plD [1, 3, 7, 11, 14, 17]) [5] hS (fun w hS => hS.d3) follows rfl (by kernel_rfl) (NoTmp.then (NoTmp.then NoTmp.body)) fun w hS => RP.s 0 0 rfl rfl hS.d3 (fun w hS => Vl.lw 4 hS isAgg70 sizeOf70 rfl rfl rfl) rfl (RP.s0 1 rfl (fun w => Vl.fa 1 underlying262 rfl sizeOf29 rfl rfl) rfl (RP.s 0 2 rfl rfl hS.d3 (fun w hS => Vl.ld 0 hS isAgg29 rfl rfl rfl) rfl (RP.e0 3 rfl (OW.store (vs := (C_api_State a8)) 3 hS rfl rfl rfl rfl sizeOf70 rfl rfl rfl rfl) rfl ?_)))))
       rintro _ w ⟨rfl, hS⟩
       have hS : St B w (_ :: _ :: _ :: Cl _ [_, _, _, _, _, _, _, _, _, _] _ :: _ :: _ :: _ :: l) hf := hS
       refine ⟨kp ⟨fun _ => hS.d3, trivial⟩, ?_⟩
       refine RP.v1 4 rfl (Vl.assign rfl) rfl rfl (RP.v1 5 rfl (Vl.assign rfl) rfl rfl (RP.nil (tr (RQ.ret ?_))))
       have hS := hS.nilSl E_api_Out 265
       obtain rfl := h.some
       refine RQ.ret0 (vs := [.agg (C_api_State a8).toArray, .slice none 0 0, .int .i64 0]) results122 ⟨⟨_, rfl, run_loadVarA (vs := (C_api_State a8)) isAgg70 sizeOf70 rfl (hS.cellsAt 4 rfl rfl)⟩, rfl, rfl, trivial⟩ ?_
       exact ⟨none, 0, rfl, hS.d1.d1.d1.d1.d1.d1.d1⟩
      refine RC.condF rfl (RC.skip ?_)
      exact fun a ha => ⟨(y148, y149, y150, y151), y148, y149, y150, y151, rfl, A152, c153, ha.to ⟨rfl, rfl, rfl, trivial⟩, hS.d0.d3.d4, h⟩
    refine RL.e (OW.callF (ls := [.tmp 53]) rfl call129 hc) rfl rfl ?_
    rintro _ w ⟨b162, A163, c164, A165, c166, rfl, hS⟩
    refine pn 1 rfl (lnsr (pn 1 rfl (RL.s (Vl.makeIface underlying263 rfl rfl) rfl (cF (fun _ hg => errors_As_5.ok hG0 hg hS.p4.p1.p2) call43 h rfl rfl rfl ?_))))
    rintro ⟨y169, y170⟩ h _ w ⟨rfl, hS⟩
    refine ln ?_
    refine RC.iteB 57 rfl h (fun hc171 h => ?_) fun hc171 h => ?_
    next =>
     refine RC.condT rfl (RC.seq (RC.planS (plD [1, 3, 7, 11, 14, 17]) [5] hS (fun w hS => hS.d5) follows rfl (by kernel_rfl) (NoTmp.then (NoTmp.then NoTmp.body)) fun w hS => RP.s 0 0 rfl rfl hS.d5 (fun w hS => Vl.lw 6 hS isAgg70 sizeOf70 rfl rfl rfl) rfl (RP.s0 1 rfl (fun w => Vl.fa 1 underlying262 rfl sizeOf29 rfl rfl) rfl (RP.s 0 2 rfl rfl hS.d5 (fun w hS => Vl.ld 2 hS isAgg29 rfl rfl rfl) rfl (RP.e0 3 rfl (OW.store (vs := (C_api_State a8)) 5 hS rfl rfl rfl rfl sizeOf70 rfl rfl rfl rfl) rfl ?_)))))
     rintro _ w ⟨rfl, hS⟩
     have hS : St B w (_ :: _ :: _ :: _ :: _ :: Cl _ [_, _, _, _, _, _, _, _, _, _] _ :: _ :: _ :: _ :: l) hf := hS
     refine ⟨kp ⟨fun _ => hS.d5, trivial⟩, ?_⟩
     refine RP.v1 4 rfl (Vl.assign rfl) rfl rfl (RP.v1 5 rfl (Vl.assign rfl) rfl rfl (RP.nil (tr (RQ.ret ?_))))
     have hS := hS.nilSl E_api_Out 265
     obtain rfl := h.some
     refine RQ.ret0 (vs := [.agg (C_api_State a8).toArray, .slice none 0 0, .int .i64 y170.why]) results122 ⟨⟨_, rfl, run_loadVarA (vs := (C_api_State a8)) isAgg70 sizeOf70 rfl (hS.cellsAt 6 rfl rfl)⟩, rfl, rfl, trivial⟩ ?_
     exact ⟨none, 0, rfl, hS.d1.d1.d1.d1.d1.d1.d1.d1.d1⟩
    refine RC.condF rfl (RC.skip ?_)
    exact fun a ha => ⟨(y158, y159, y160, y161), y158, y159, y160, y161, rfl, A165, c166, ha.to ⟨rfl, rfl, rfl, trivial⟩, hS.d0.d0.d0.d3.d4, h⟩
   refine pn 15 rfl (ln (RC.condT rfl (sr (RL.s (Vl.build (v := .agg #[.int .i64 0, .int .i64 0, .int .i64 0, .int .i64 0, .int .i64 0, .int .i64 0, .int .i64 0, .int .i64 0, .int .i64 0, .int .i64 0]) (parts := []) rfl (by kernel_rfl)) rfl (RL.e0 (OW.store (vs := [.int .i64 0, .int .i64 0, .int .i64 0, .int .i64 0, .int .i64 0, .int .i64 0, .int .i64 0, .int .i64 0, .int .i64 0, .int .i64 0]) 0 hS rfl rfl rfl rfl sizeOf70 rfl rfl rfl rfl) rfl ?_)))))
   rintro _ w ⟨rfl, hS⟩
   have hS : St B w (Cl _ [_, _, _, _, _, _, _, _, _, _] _ :: _ :: _ :: _ :: l) hf := hS
   refine pn 2 rfl (lr (RQ.ret ?_))
   have hS := hS.nilSl E_api_Out 265
   obtain rfl := h.some
   refine RQ.ret0 (vs := [.agg #[.int .i64 0, .int .i64 0, .int .i64 0, .int .i64 0, .int .i64 0, .int .i64 0, .int .i64 0, .int .i64 0, .int .i64 0, .int .i64 0], .slice none 0 0, .int .i64 1]) results122 ⟨⟨_, rfl, run_loadVarA (vs := [.int .i64 0, .int .i64 0, .int .i64 0, .int .i64 0, .int .i64 0, .int .i64 0, .int .i64 0, .int .i64 0, .int .i64 0, .int .i64 0]) isAgg70 sizeOf70 rfl (hS.cellsAt 1 rfl rfl)⟩, rfl, rfl, trivial⟩ ?_
   exact ⟨none, 0, rfl, hS.d1.d1.d1.d1⟩
  refine RC.condT rfl (sr (RL.s (Vl.build (v := .agg #[.int .i64 0, .int .i64 0, .int .i64 0, .int .i64 0, .int .i64 0, .int .i64 0, .int .i64 0, .int .i64 0, .int .i64 0, .int .i64 0]) (parts := []) rfl (by kernel_rfl)) rfl (pn 1 rfl (RL.e0 (OW.store (vs := [.int .i64 0, .int .i64 0, .int .i64 0, .int .i64 0, .int .i64 0, .int .i64 0, .int .i64 0, .int .i64 0, .int .i64 0, .int .i64 0]) 0 hS rfl rfl rfl rfl sizeOf70 rfl rfl rfl rfl) rfl ?_))))
  rintro _ w ⟨rfl, hS⟩
  have hS : St B w (Cl _ [_, _, _, _, _, _, _, _, _, _] _ :: _ :: _ :: _ :: l) hf := hS
  refine pn 2 rfl (lr (RQ.ret ?_))
  have hS := hS.nilSl E_api_Out 265
  obtain rfl := h.some
  refine RQ.ret0 (vs := [.agg #[.int .i64 0, .int .i64 0, .int .i64 0, .int .i64 0, .int .i64 0, .int .i64 0, .int .i64 0, .int .i64 0, .int .i64 0, .int .i64 0], .slice none 0 0, .int .i64 t98]) results122 ⟨⟨_, rfl, run_loadVarA (vs := [.int .i64 0, .int .i64 0, .int .i64 0, .int .i64 0, .int .i64 0, .int .i64 0, .int .i64 0, .int .i64 0, .int .i64 0, .int .i64 0]) isAgg70 sizeOf70 rfl (hS.cellsAt 1 rfl rfl)⟩, rfl, rfl, trivial⟩ ?_
  exact ⟨none, 0, rfl, hS.d1.d1.d1.d1⟩
def log_Log_states_1.j23 (a6 : log_Log) (l1251 : List api_Entry) (x1257 : Int) (y1488 : api_State) : Option ((List api_Entry × api_State × Int) ⊕ (List api_Entry × Int)) := ((log_Log_All_round0.f a6 l1251 x1257 y1488).bind fun t1497 => (if 0 ≤ x1257 then ((vm_Run.f a6.w y1488 ((nth a6.l x1257).event)).bind fun (y1523, y1524, y1525) => some (.inl (t1497, y1523, IntKind.i64.wrap (x1257 + 1)))) else none))
def log_Log_states_1.l21b (a6 : log_Log) (x971 : Int) : List api_Entry × api_State × Int → Option ((List api_Entry × api_State × Int) ⊕ (List api_Entry × Int))
  | (l1251, y1256, x1257) => (if x1257 < (a6.l.length : Int) then (if 0 ≤ x1257 then (if ((nth a6.l x1257).ahead).has = true then log_Log_states_1.j23 a6 l1251 x1257 (((nth a6.l x1257).ahead).val) else log_Log_states_1.j23 a6 l1251 x1257 y1256) else none) else some (.inr (l1251, x971)))
def log_Log_states_1.l21 (a6 : log_Log) (x971 : Int) (s : List api_Entry × api_State × Int) : Option (List api_Entry × Int) := loopR (log_Log_states_1.l21b a6 x971) s
def log_Log_states_1.j14 (a6 : log_Log) (a8 : (List api_Entry)) (x971 : Int) : Option (List api_Entry × Int) := log_Log_states_1.l21 a6 x971 (a8, (⟨(⟨0, 0, 0, 0, 0, 0, 0, 0⟩ : Arr8xInti64), 0, 0⟩ : api_State), x971)
def log_Log_states_1.l24b (a6 : log_Log) (a8 : (List api_Entry)) : Int → Option ((Int) ⊕ (List api_Entry × Int))
  | (x1579) => (if 0 < x1579 then (if 0 ≤ x1579 ∧ x1579 < (a6.l.length : Int) then (if ((nth a6.l x1579).ahead).has = true then (Option.map Sum.inr (log_Log_states_1.j14 a6 a8 x1579)) else some (.inl (IntKind.i64.wrap (x1579 - 1)))) else none) else (Option.map Sum.inr (log_Log_states_1.j14 a6 a8 x1579)))
def log_Log_states_1.l24 (a6 : log_Log) (a8 : (List api_Entry)) (s : Int) : Option (List api_Entry × Int) := loopR (log_Log_states_1.l24b a6 a8) s
def log_Log_states_1.f (a6 : log_Log) (a8 : (List api_Entry)) (a14 : Int) : Option (List api_Entry × Int) := log_Log_states_1.l24 a6 a8 (a14)
theorem log_Log_states_1.ok {a6 : log_Log} {a8 : (List api_Entry)} {a14 : Int} {b1 : Nat} {rc2 : Loop} {b4 b5 b7 : Nat} {A9 : Option Addr} {c10 : Nat} {cs11 : List Value} {b13 b15 : Nat} (hx12 : RepL R_api_Entry hf cs11 a8) (hr3 : RecF f47 0 25 [(1, .pointer (some ⟨b4, 0, none⟩)), (3, .pointer (some ⟨b7, 0, none⟩))] rc2) (hG0 : GlobAt hf 0 (.iface 215 (.agg #[.pointer (some ⟨1, 108, none⟩)]))) {r : List api_Entry × Int} (h : log_Log_states_1.f a6 a8 a14 = some r) (hS : St B w (pts b1 (.loop rc2) :: O_log_Log hf a6 b5 :: Cl b4 [.pointer (some ⟨b5, 0, none⟩)] 51 :: Cl b7 [.slice A9 a8.length c10] 41 :: OSl 79 19 (.slice A9 a8.length c10) a8.length cs11 :: Cl b13 [.int .i64 a14] 3 :: Cl b15 [.pointer (some ⟨b5, 0, none⟩)] 51 :: l) hf) :
    Calls prog 121 #[.func (.yield b1) #[] #[], .pointer (some ⟨b13, 0, none⟩), .pointer (some ⟨b15, 0, none⟩)] w (Ret fun v w => ∃ hf_ : Hp, Sub hf hf_ ∧ ∃ (A_1 : Option Addr) (c_2 : Nat) (cs_3 : List Value), v = .tuple #[] ∧ St B w (OSl 79 19 (.slice A_1 r.1.length c_2) r.1.length cs_3 :: pts b1 (.loop rc2) :: O_log_Log hf_ a6 b5 :: Cl b4 [.pointer (some ⟨b5, 0, none⟩)] 51 :: Cl b7 [.slice A_1 r.1.length c_2] 41 :: Cl b13 [.int .i64 r.2] 3 :: Cl b15 [.pointer (some ⟨b5, 0, none⟩)] 51 :: l) hf_ ∧ RepL R_api_Entry hf_ cs_3 r.1) := by
  have h := Holds.of h
  refine en func121 rfl ntmps121 rfl ?_
  refine RC.join (fun (s : Int) a w => ∃ (x971 : Int), s = (x971) ∧ Has 68 [(0, .func (.yield b1) #[] #[]), (1, .pointer (some ⟨b13, 0, none⟩)), (2, .pointer (some ⟨b15, 0, none⟩))] a ∧ St B w (OSl 79 19 (.slice A9 a8.length c10) a8.length cs11 :: O_log_Log hf a6 b5 :: pts b1 (.loop rc2) :: Cl b4 [.pointer (some ⟨b5, 0, none⟩)] 51 :: Cl b7 [.slice A9 a8.length c10] 41 :: Cl b13 [.int .i64 x971] 3 :: Cl b15 [.pointer (some ⟨b5, 0, none⟩)] 51 :: l) hf ∧ Holds (· = r) (log_Log_states_1.j14 a6 a8 x971)) ?_ ?_
  · rintro x971 a w ⟨_, rfl, ha, hS, h⟩
    revert a
    show RC _ _ _ _ _ _
    refine sr (al hS zeroValue70 rfl rfl rfl fun b972 w hS => lnsr (RL.s (Vl.ld 6 hS isAgg3 rfl rfl rfl) rfl (pn 1 rfl (ln (RC.block ?_)))))
    refine fun a ha => RC.loop (N := 68) (body := (log_Log_states_1.l21b a6 x971)) (φ := (· = r)) (fun (s : List api_Entry × api_State × Int) a w => ∃ (l1251 : List api_Entry) (y1256 : api_State) (x1257 : Int), s = (l1251, y1256, x1257) ∧ ∃ hf_ : Hp, Sub hf hf_ ∧ ∃ (A1252 : Option Addr) (c1253 : Nat) (cs1254 : List Value), Has 68 [(0, .func (.yield b1) #[] #[]), (2, .pointer (some ⟨b15, 0, none⟩)), (4, .pointer (some ⟨b972, 0, none⟩)), (5, .int .i64 x1257)] a ∧ St B w (OSl 79 19 (.slice A1252 l1251.length c1253) l1251.length cs1254 :: Cl b972 (C_api_State y1256) 70 :: O_log_Log hf_ a6 b5 :: pts b1 (.loop rc2) :: Cl b4 [.pointer (some ⟨b5, 0, none⟩)] 51 :: Cl b7 [.slice A1252 l1251.length c1253] 41 :: Cl b13 [.int .i64 x971] 3 :: Cl b15 [.pointer (some ⟨b5, 0, none⟩)] 51 :: l) hf_ ∧ RepL R_api_Entry hf_ cs1254 l1251) ?_ (s0 := (a8, (⟨(⟨0, 0, 0, 0, 0, 0, 0, 0⟩ : Arr8xInti64), 0, 0⟩ : api_State), x971)) h ⟨a8, (⟨(⟨0, 0, 0, 0, 0, 0, 0, 0⟩ : Arr8xInti64), 0, 0⟩ : api_State), x971, rfl, _, (Sub.refl _), A9, c10, cs11, ha.to ⟨rfl, rfl, rfl, rfl, trivial⟩, hS.p1, hx12⟩
    rintro G1400 _ a w ⟨l1251, y1256, x1257, rfl, hf, hs1108, A1252, c1253, cs1254, ha, hS, hx1255⟩ h
    revert a
    show RC _ _ _ _ _ _
    refine RC.seq (sr (pn 1 rfl (RL.s (Vl.ld 7 hS isAgg51 rfl rfl rfl) rfl (pn 1 rfl (RL.s (Vl.fa 16 underlying150 rfl sizeOf148 rfl rfl) rfl ?_)))))
    obtain ⟨A1412, c1413, A1415, c1416, A1418, c1419, cs1420, hr1414, hr1417, hx1421, hS⟩ := O_log_Log.o hS.p2
    refine RL.s (Vl.ld 0 hS isAgg148 rfl rfl rfl) rfl (RL.s (Vl.lenSl underlying148 rfl) rfl (pn 1 rfl (ln ?_)))
    refine RC.iteP 29 rfl h (fun hc1422 h => ?_) fun hc1422 h => ?_
    next =>
     refine RC.condT rfl (sk (RC.seq (RC.block ?_)))
     refine RC.join (fun (s : api_State) a w => ∃ (y1488 : api_State), s = (y1488) ∧ Has 68 [(0, .func (.yield b1) #[] #[]), (2, .pointer (some ⟨b15, 0, none⟩)), (4, .pointer (some ⟨b972, 0, none⟩)), (5, .int .i64 x1257)] a ∧ St B w (OSl 79 19 (.slice A1252 l1251.length c1253) l1251.length cs1254 :: O_log_Log hf a6 b5 :: Cl b972 (C_api_State y1488) 70 :: pts b1 (.loop rc2) :: Cl b4 [.pointer (some ⟨b5, 0, none⟩)] 51 :: Cl b7 [.slice A1252 l1251.length c1253] 41 :: Cl b13 [.int .i64 x971] 3 :: Cl b15 [.pointer (some ⟨b5, 0, none⟩)] 51 :: l) hf ∧ Holds (Sum.elim G1400 (· = r)) (log_Log_states_1.j23 a6 l1251 x1257 y1488)) ?_ ?_
     · rintro y1488 a w ⟨_, rfl, ha, hS, h⟩
       revert a
       show RC _ _ _ _ _ _
       refine RC.seq (sr (pn 2 rfl (RL.s (Vl.lw 2 hS isAgg70 sizeOf70 rfl rfl rfl) rfl (yc (fun _ hg1498 => log_Log_All_round0.ok hx1255 hr3 hg1498 hS.p5.p5.p3.p5) rfl h rfl rfl rfl rfl ?_))))
       intro t1497 h
       rintro _ w ⟨hf, hs1503, A1499, c1500, cs1501, rfl, hS, hx1502⟩
       have hS : St B w (_ :: _ :: _ :: _ :: _ :: _ :: _ :: _ :: l) hf := hS
       refine pn 1 rfl (ln (RC.condF rfl (sk ?_)))
       obtain ⟨A1504, c1505, A1507, c1508, A1510, c1511, cs1512, hr1506, hr1509, hx1513, hS⟩ := O_log_Log.o hS.p2
       refine RC.planS (plD [1, 3, 6, 10, 13, 16, 18, 21, 25, 27, 31, 33, 37, 41, 42, 45, 48, 51, 56]) [18] hS (fun w hS => hS) follows rfl (by kernel_rfl) (NoTmp.block (NoTmp.then (NoTmp.then (NoTmp.block NoTmp.body)))) fun w hS => RP.s 0 0 rfl rfl hS (fun w hS => Vl.ld 8 hS isAgg51 rfl rfl rfl) rfl (pp 1 rfl (RP.s0 2 rfl (fun w => Vl.fa 0 underlying150 rfl sizeOf91 rfl rfl) rfl (RP.s 0 3 rfl rfl hS (fun w hS => Vl.loadA (vs := (C_api_World a6.w A1504 c1505 A1507 c1508)) isAgg91 sizeOf91 rfl rfl (hS.cellsAt 0 rfl rfl)) rfl (RP.s 0 4 rfl rfl hS (fun w hS => Vl.lw 6 hS isAgg70 sizeOf70 rfl rfl rfl) rfl (RP.s 0 5 rfl rfl hS (fun w hS => Vl.ld 8 hS isAgg51 rfl rfl rfl) rfl (pp 1 rfl (RP.s0 7 rfl (fun w => Vl.fa 16 underlying150 rfl sizeOf148 rfl rfl) rfl (RP.s 0 8 rfl rfl hS (fun w hS => Vl.ld 0 hS isAgg148 rfl rfl rfl) rfl (pp 1 rfl ?_)))))))))
       obtain ⟨hq1514, h⟩ := h.req
       refine RP.s 0 10 rfl rfl hS (fun w hS => Vl.indexOwn 1 hS rfl underlying148 sizeOf176 rfl rfl hq1514 hc1422) rfl (RP.s0 11 rfl (fun w => Vl.fieldAddr (a'' := (ad A1510).add (x1257.toNat * 10 + 0)) underlying176 rfl sizeOf48 rfl (add_add _ _ _)) rfl ?_)
       obtain ⟨_, ⟨A1516, c1517, b1519, rfl, hr1518, hr1520⟩, hl1515⟩ := RepL.elem R_log_done_ok hx1513 hq1514 hc1422
       refine RP.s 0 12 rfl rfl hS (fun w hS => Vl.loadA (vs := (C_api_Message ((nth a6.l x1257).event))) isAgg48 sizeOf48 rfl rfl (hS.elemCells 1 rfl hl1515 (off := 0) rfl)) rfl ?_
       obtain ⟨t1521, hg1522, h⟩ := h.bind
       have hc := vm_Run.ok hr1506 hr1509 ((hG0.mono hs1108).mono hs1503) hg1522 hS
       obtain ⟨y1523, y1524, y1525⟩ := t1521
       refine RP.e 13 rfl (OW.callF (ls := [.tmp 54, .tmp 55, .tmp 63]) rfl call122 hc) rfl rfl ?_
       rintro _ w ⟨A1526, c1527, rfl, hS⟩
       refine ⟨kp ⟨fun _ => hS.d0, trivial⟩, ?_⟩
       refine pp 4 rfl (RP.e0 18 rfl (OW.store (vs := (C_api_State y1523)) 7 hS rfl rfl rfl rfl sizeOf70 rfl rfl rfl rfl) rfl ?_)
       rintro _ w ⟨rfl, hS⟩
       have hS : St B w (_ :: _ :: _ :: _ :: _ :: _ :: _ :: Cl _ [_, _, _, _, _, _, _, _, _, _] _ :: _ :: _ :: l) hf := hS
       refine ⟨kp ⟨(by intro hx; cases hx), trivial⟩, ?_⟩
       refine RP.nil (RQ.inB_n (RQ.then_n (RC.region (pn 3 rfl (RL.nil ?_)))))
       have hS := O_log_Log.c (x := a6) hr1506 hr1509 hx1513 hS.p2.p2
       exact fun a ha => ⟨(t1497, y1523, IntKind.i64.wrap (x1257 + 1)), ⟨t1497, y1523, (IntKind.i64.wrap (x1257 + 1)), rfl, _, (hs1108.trans hs1503), A1499, c1500, cs1501, ha.to ⟨rfl, rfl, rfl, rfl, trivial⟩, hS.d1.p5.p2, hx1502⟩, h.some⟩
     refine sr (RL.s (Vl.ld 8 hS isAgg51 rfl rfl rfl) rfl (pn 1 rfl (RL.s (Vl.fa 16 underlying150 rfl sizeOf148 rfl rfl) rfl (RL.s (Vl.ld 0 hS isAgg148 rfl rfl rfl) rfl (pn 1 rfl ?_)))))
     obtain ⟨hq1528, h⟩ := h.req
     refine RL.s (Vl.indexOwn 1 hS rfl underlying148 sizeOf176 rfl rfl hq1528 hc1422) rfl (RL.s (Vl.fieldAddr (a'' := (ad A1418).add (x1257.toNat * 10 + 9)) underlying176 rfl sizeOf174 rfl (add_add _ _ _)) rfl ?_)
     obtain ⟨_, ⟨A1530, c1531, b1533, rfl, hr1532, hr1534⟩, hl1529⟩ := RepL.elem R_log_done_ok hx1421 hq1528 hc1422
     refine RL.s (Vl.load isAgg174 rfl (hS.litCell 1 rfl (hl1529 9 _ rfl))) rfl (pn 1 rfl (lnsr (pn 1 rfl (RL.s (Vl.ptNeq (fun b w => by kernel_rfl) (fun w => by kernel_rfl) rfl rfl) rfl (ln ?_)))))
     refine RC.iteB 41 rfl h (fun hc1535 h => ?_) fun hc1535 h => ?_
     next =>
      refine RC.condT rfl (RC.region (pn 1 rfl (RL.s (Vl.nilCheckO hc1535 rfl) rfl (RL.s (Vl.loadA (vs := (C_api_State (((nth a6.l x1257).ahead).val))) isAgg70 sizeOf70 rfl rfl ((hr1534.on hc1535).cells hS.sub)) rfl (RL.e0 (OW.store (vs := (C_api_State (((nth a6.l x1257).ahead).val))) 3 hS rfl rfl rfl rfl sizeOf70 rfl rfl rfl rfl) rfl ?_)))))
      rintro _ w ⟨rfl, hS⟩
      have hS : St B w (_ :: _ :: _ :: Cl _ [_, _, _, _, _, _, _, _, _, _] _ :: _ :: _ :: _ :: _ :: _ :: l) hf := hS
      refine RL.nil ?_
      have hS := O_log_Log.c (x := a6) hr1414 hr1417 hx1421 hS
      exact fun a ha => ⟨(((nth a6.l x1257).ahead).val), (((nth a6.l x1257).ahead).val), rfl, ha.to ⟨rfl, rfl, rfl, rfl, trivial⟩, hS.p1, h⟩
     refine RC.condF rfl (RC.skip ?_)
     have hS := O_log_Log.c (x := a6) hr1414 hr1417 hx1421 hS
     exact fun a ha => ⟨(y1256), y1256, rfl, ha.to ⟨rfl, rfl, rfl, rfl, trivial⟩, hS.p1, h⟩
    refine RC.condF rfl (RC.exit (RQ.exitT ?_))
    have h := h.inrS
    refine RQ.exitT (RQ.inB_hit ?_)
    have hS := O_log_Log.c (x := a6) hr1414 hr1417 hx1421 hS
    obtain rfl := h.some
    exact rtE results121 rfl ⟨_, hs1108, A1252, c1253, cs1254, rfl, hS.d2.p2.p2, hx1255⟩
  refine RC.block ?_
  refine fun a ha => RC.loop (N := 68) (body := (log_Log_states_1.l24b a6 a8)) (φ := (· = r)) (fun (s : Int) a w => ∃ (x1579 : Int), s = (x1579) ∧ Has 68 [(0, .func (.yield b1) #[] #[]), (1, .pointer (some ⟨b13, 0, none⟩)), (2, .pointer (some ⟨b15, 0, none⟩))] a ∧ St B w (OSl 79 19 (.slice A9 a8.length c10) a8.length cs11 :: pts b1 (.loop rc2) :: O_log_Log hf a6 b5 :: Cl b4 [.pointer (some ⟨b5, 0, none⟩)] 51 :: Cl b7 [.slice A9 a8.length c10] 41 :: Cl b13 [.int .i64 x1579] 3 :: Cl b15 [.pointer (some ⟨b5, 0, none⟩)] 51 :: l) hf) ?_ (s0 := (a14)) h ⟨a14, rfl, ha.to ⟨rfl, rfl, rfl, trivial⟩, hS.p4⟩
  rintro G1623 x1579 a w ⟨_, rfl, ha, hS⟩ h
  revert a
  show RC _ _ _ _ _ _
  refine RC.seq (RC.seq ?_)
  obtain ⟨A1646, c1647, A1649, c1650, A1652, c1653, cs1654, hr1648, hr1651, hx1655, hS⟩ := O_log_Log.o hS.p2
  refine RC.planS (plD [1, 3, 6, 10, 12, 15, 19, 23, 26, 29, 32, 35, 38]) [8, 9, 10, 11, 12] hS (fun w hS => hS) follows rfl (by kernel_rfl) (NoTmp.then (NoTmp.then (NoTmp.then (NoTmp.block (NoTmp.then NoTmp.body))))) fun w hS => RP.s 0 0 rfl rfl hS (fun w hS => Vl.ld 6 hS isAgg3 rfl rfl rfl) rfl (pp 2 rfl ?_)
  refine RP.iteP 9 rfl h (fun hc1656 h => ?_) fun hc1656 h => ?_
  next =>
   refine RP.sg 0 3 rfl rfl hS (fun w hS => Vl.ld 7 hS isAgg51 rfl rfl rfl) rfl rfl (pp 1 rfl (RP.sg0 5 rfl (fun w => Vl.fa 16 underlying150 rfl sizeOf148 rfl rfl) rfl rfl (RP.sg 0 6 rfl rfl hS (fun w hS => Vl.ld 0 hS isAgg148 rfl rfl rfl) rfl rfl (RP.v1 7 rfl (Vl.ld 6 hS isAgg3 rfl rfl rfl) rfl rfl ?_))))
   obtain ⟨⟨hq1657, hq1658⟩, h⟩ := h.req
   refine RP.v1 8 rfl (Vl.indexOwn 1 hS rfl underlying148 sizeOf176 rfl rfl hq1657 hq1658) rfl rfl (RP.v1 9 rfl (Vl.fieldAddr (a'' := (ad A1652).add (x1579.toNat * 10 + 9)) underlying176 rfl sizeOf174 rfl (add_add _ _ _)) rfl rfl ?_)
   obtain ⟨_, ⟨A1660, c1661, b1663, rfl, hr1662, hr1664⟩, hl1659⟩ := RepL.elem R_log_done_ok hx1655 hq1657 hq1658
   refine RP.v1 10 rfl (Vl.load isAgg174 rfl (hS.litCell 1 rfl (hl1659 9 _ rfl))) rfl rfl (RP.v1 11 rfl (Vl.ptEql (fun b w => by kernel_rfl) (fun w => by kernel_rfl) rfl rfl) rfl rfl (RP.v1 12 rfl (Vl.pickT rfl rfl) rfl rfl (RP.nil (RQ.then_n ?_))))
   refine RC.iteM 19 rfl h (fun hc1665 h => ?_) fun hc1665 h => ?_
   next =>
    refine RC.condF rfl (RC.exit (RQ.exitT ?_))
    have h := h.inr
    refine RQ.exitT (RQ.inB_hit ?_)
    have hS := O_log_Log.c (x := a6) hr1648 hr1651 hx1655 hS
    exact fun a ha => ⟨(x1579), x1579, rfl, ha.to ⟨rfl, rfl, rfl, trivial⟩, hS.p1, h⟩
   refine RC.condT rfl (sk (RC.block (RC.region (RL.s (Vl.ld 6 hS isAgg3 rfl rfl rfl) rfl (pn 1 rfl (RL.e0 (OW.store (vs := [.int .i64 (IntKind.i64.wrap (x1579 - 1))]) 6 hS rfl rfl rfl rfl sizeOf3 rfl rfl rfl rfl) rfl ?_))))))
   rintro _ w ⟨rfl, hS⟩
   have hS : St B w (_ :: _ :: _ :: _ :: _ :: _ :: Cl _ [_] _ :: _ :: l) hf := hS
   refine RL.nil (RQ.inB_n ?_)
   have hS := O_log_Log.c (x := a6) hr1648 hr1651 hx1655 hS
   exact fun a ha => ⟨(IntKind.i64.wrap (x1579 - 1)), ⟨(IntKind.i64.wrap (x1579 - 1)), rfl, ha.to ⟨rfl, rfl, rfl, trivial⟩, hS.p2.p2⟩, h.some⟩
  refine RP.nn 0 3 rfl rfl rfl (pp 2 rfl (RP.nn 0 6 rfl rfl rfl (RP.n1 7 rfl rfl rfl (RP.n1 8 rfl rfl rfl (RP.n1 9 rfl rfl rfl (RP.n1 10 rfl rfl rfl (RP.n1 11 rfl rfl rfl (RP.v1 12 rfl (Vl.pickF rfl rfl) rfl rfl (RP.nil (RQ.then_n (RC.condF rfl (RC.exit (RQ.exitT ?_)))))))))))))
  have h := h.inr
  refine RQ.exitT (RQ.inB_hit ?_)
  have hS := O_log_Log.c (x := a6) hr1648 hr1651 hx1655 hS
  exact fun a ha => ⟨(x1579), x1579, rfl, ha.to ⟨rfl, rfl, rfl, trivial⟩, hS.p1, h⟩
def log_Log_All.f (a2 : log_Log) : Option (List api_Entry) := ((log_Log_none.f a2).bind fun t50 => (if t50 = true then some ([] : List api_Entry) else ((log_Log_states.f a2 0).bind fun t72 => ((log_Log_states_1.f a2 ([] : List api_Entry) t72).bind fun (y82, y83) => some y82))))
theorem log_Log_All.ok {a2 : log_Log} {b1 : Nat} (hG0 : GlobAt hf 0 (.iface 215 (.agg #[.pointer (some ⟨1, 108, none⟩)]))) {r : List api_Entry} (h : log_Log_All.f a2 = some r) (hS : St B w (O_log_Log hf a2 b1 :: l) hf) :
    Calls prog 47 #[.pointer (some ⟨b1, 0, none⟩)] w (Ret fun v w => ∃ hf_ : Hp, Sub hf hf_ ∧ ∃ (A_1 : Option Addr) (c_2 : Nat) (cs_3 : List Value), v = .slice A_1 r.length c_2 ∧ St B w (OSl 79 19 (.slice A_1 r.length c_2) r.length cs_3 :: O_log_Log hf_ a2 b1 :: l) hf_ ∧ RepL R_api_Entry hf_ cs_3 r) := by
  have h := Holds.of h
  refine enM func47 rfl ntmps47 rfl (sr (bx hS rfl rfl rfl rfl fun b46 w hS => pn 1 rfl (ln (RC.seq (sr (RL.s (Vl.ld 0 hS isAgg51 rfl rfl rfl) rfl (cF (fun _ hg => log_Log_none.ok hg hS.p1) call94 h rfl rfl rfl ?_)))))))
  rintro t50 h _ w ⟨rfl, hS⟩
  refine ln ?_
  refine RC.iteB 7 rfl h (fun hc52 h => ?_) fun hc52 h => ?_
  next =>
   refine RC.condT rfl (sr (pn 1 rfl (lr (RQ.ret ?_))))
   have hS := hS.nilSlR 79 19
   obtain rfl := h.some
   exact rtM0 (vs := [.slice none 0 0]) results47 ⟨rfl, trivial⟩ ⟨_, (Sub.refl _), none, 0, ([]), rfl, hS.d2, RepL.nil⟩
  refine RC.condF rfl (sk (sr (al hS zeroValue41 rfl rfl rfl fun b53 w hS => ln (RC.seq (sr (RL.s (Vl.ld 2 hS isAgg51 rfl rfl rfl) rfl (cF (fun _ hg => log_Log_states.ok hg hS.p1) call95 h rfl rfl rfl ?_)))))))
  rintro t72 h _ w ⟨b74, b75, rfl, hS⟩
  refine ln (RC.block ?_)
  have hS := hS.nilSlR 79 19
  have hS : St B w (_ :: _ :: _ :: _ :: _ :: _ :: l) hf := hS
  obtain ⟨t80, hg81, h⟩ := h.bind
  refine RC.rf (args := fun b76 => #[.func (.yield b76) #[] #[], .pointer (some ⟨b74, 0, none⟩), .pointer (some ⟨b75, 0, none⟩)]) rfl call121 rfl hS (fun _ => by simp) (fun b76 d77 rc78 w hr79 hS => log_Log_states_1.ok RepL.nil (RecOK.to (M := 25) hr79 rfl rfl ⟨rfl, rfl, trivial⟩) hG0 hg81 hS.p4.p4.p4.p6.p7.p7.p6) ?_
  obtain ⟨y82, y83⟩ := t80
  rintro b76 d77 rc78 _ w hr79 ⟨hf, hs88, A84, c85, cs86, rfl, hS, hx87⟩
  refine RE.n hS.p1 hr79.state hr79.pending fun w hS => RQ.inB_n (tsr (RL.s (Vl.ld 3 hS isAgg41 rfl rfl rfl) rfl (pn 1 rfl (lr ?_))))
  obtain rfl := h.some
  exact rtM1 (vs := [.slice A84 y82.length c85]) results47 hS.p6 fun w hS => ⟨⟨rfl, trivial⟩, ⟨_, hs88, A84, c85, cs86, rfl, hS.d2.d2.d2.d2, hx87⟩⟩
def lane_Lane_Done.f (a2 : lane_Lane) : Option (List api_Entry) := ((lane_Lane_none.f a2).bind fun _ => ((log_Log_All.f a2.log).bind fun t58 => some t58))
theorem lane_Lane_Done.ok {a2 : lane_Lane} {b1 : Nat} (hG0 : GlobAt hf 0 (.iface 215 (.agg #[.pointer (some ⟨1, 108, none⟩)]))) {r : List api_Entry} (h : lane_Lane_Done.f a2 = some r) (hS : St B w (O_lane_Lane hf a2 b1 :: l) hf) :
    Calls prog 14 #[.pointer (some ⟨b1, 0, none⟩)] w (Ret fun v w => ∃ hf_ : Hp, Sub hf hf_ ∧ ∃ (A_1 : Option Addr) (c_2 : Nat) (cs_3 : List Value), v = .slice A_1 r.length c_2 ∧ St B w (OSl 79 19 (.slice A_1 r.length c_2) r.length cs_3 :: O_lane_Lane hf_ a2 b1 :: l) hf_ ∧ RepL R_api_Entry hf_ cs_3 r) := by
  have h := Holds.of h
  refine en func14 rfl ntmps14 rfl (sr (pn 1 rfl (ln (RC.seq (sr (pn 1 rfl (cF (fun _ hg => lane_Lane_none.ok hg hS) call45 h rfl rfl rfl ?_)))))))
  rintro _ h _ w ⟨rfl, hS⟩
  refine ln (RC.condF rfl (sk (sr (pn 2 rfl (RL.s (Vl.fa 11 underlying61 rfl sizeOf51 rfl rfl) rfl ?_)))))
  obtain ⟨A38, c39, A41, c42, A44, c45, A47, c48, b50, b51, A52, c53, A54, c55, b56, b57, hr40, hr43, hr46, hr49, hS⟩ := O_lane_Lane.o hS
  refine RL.s (Vl.ld 0 hS isAgg51 rfl rfl rfl) rfl (cF (fun _ hg => log_Log_All.ok hG0 hg hS.p1) call47 h rfl rfl rfl ?_)
  rintro t58 h _ w ⟨hf, hs64, A60, c61, cs62, rfl, hS, hx63⟩
  have hS := O_pend_Pend.l hs64 hS.p3
  refine pn 1 rfl (lr ?_)
  have hS := O_lane_Lane.c (x := a2) (hr40.mono hs64) (hr43.mono hs64) (hr46.mono hs64) (hr49.mono hs64) hS.p7.p7.p7.p7.p4.p6.p7
  obtain rfl := h.some
  exact rt results14 rfl ⟨_, hs64, A60, c61, cs62, rfl, hS.p1, hx63⟩
def log_Log_Len.f (a2 : log_Log) : Option (Int) := ((log_Log_none.f a2).bind fun t22 => (if t22 = true then some 0 else some (a2.l.length : Int)))
theorem log_Log_Len.ok {a2 : log_Log} {b1 : Nat} {r : Int} (h : log_Log_Len.f a2 = some r) (hS : St B w (O_log_Log hf a2 b1 :: l) hf) :
    Calls prog 97 #[.pointer (some ⟨b1, 0, none⟩)] w (Ret fun v w => v = .int .i64 r ∧ St B w (O_log_Log hf a2 b1 :: l) hf) := by
  have h := Holds.of h
  refine en func97 rfl ntmps97 rfl (sr (pn 1 rfl (ln (RC.seq (sr (pn 1 rfl (cF (fun _ hg => log_Log_none.ok hg hS) call94 h rfl rfl rfl ?_)))))))
  rintro t22 h _ w ⟨rfl, hS⟩
  refine ln ?_
  refine RC.iteB 4 rfl h (fun hc24 h => ?_) fun hc24 h => ?_
  next =>
   refine RC.condT rfl (sr (pn 1 rfl (lr (RQ.ret ?_))))
   obtain rfl := h.some
   exact rt results97 rfl ⟨rfl, hS⟩
  refine RC.condF rfl (sk (sr (pn 2 rfl (RL.s (Vl.fa 16 underlying150 rfl sizeOf148 rfl rfl) rfl ?_))))
  obtain ⟨A25, c26, A28, c29, A31, c32, cs33, hr27, hr30, hx34, hS⟩ := O_log_Log.o hS
  refine RL.s (Vl.ld 0 hS isAgg148 rfl rfl rfl) rfl (RL.s (Vl.lenSl underlying148 rfl) rfl (pn 1 rfl (lr ?_)))
  have hS := O_log_Log.c (x := a2) hr27 hr30 hx34 hS
  obtain rfl := h.some
  exact rt results97 rfl ⟨rfl, hS⟩
def lane_Lane_next.j4 (a2 : lane_Lane) (y175 : api_Message) (q218 : Bool) : Option ((api_Message × lane_refusal) ⊕ (api_Message)) := (if q218 = true then some (.inl (y175, (⟨180⟩ : lane_refusal))) else ((log_Log_Len.f a2.log).bind fun t240 => (if a2.caps.Log ≤ t240 then some (.inl (y175, (⟨9⟩ : lane_refusal))) else some (.inr (y175)))))
def lane_Lane_next.f (a2 : lane_Lane) (a3 : Int) : Option ((api_Message × lane_refusal) ⊕ (api_Message)) := ((pend_Pend_First.f a2.wait).bind fun (y175, y176) => (if y176 = 0 then (if a3 ≤ y175.Key.Time then lane_Lane_next.j4 a2 y175 true else (if a2.m.End < y175.Key.Time then lane_Lane_next.j4 a2 y175 true else ((log_Log_Stuck.f a2.log).bind fun t246 => lane_Lane_next.j4 a2 y175 t246))) else lane_Lane_next.j4 a2 y175 true))
theorem lane_Lane_next.ok {a2 : lane_Lane} {a3 : Int} {b1 : Nat} {r : (api_Message × lane_refusal) ⊕ (api_Message)} (h : lane_Lane_next.f a2 a3 = some r) (hS : St B w (O_lane_Lane hf a2 b1 :: l) hf) :
    Calls prog 48 #[.pointer (some ⟨b1, 0, none⟩), .int .i64 a3] w (Ret fun v w => match (generalizing := false) r with | .inl r_ => v = .tuple #[.agg (C_api_Message r_.1).toArray, .iface 179 (.agg #[.int .i64 r_.2.why])] ∧ St B w (O_lane_Lane hf a2 b1 :: l) hf | .inr (r_) => v = .tuple #[.agg (C_api_Message r_).toArray, .nilIface] ∧ St B w (O_lane_Lane hf a2 b1 :: l) hf) := by
  have h := Holds.of h
  refine en func48 rfl ntmps48 rfl (sr (al hS zeroValue48 rfl rfl rfl fun b127 w hS => pn 1 rfl (lnsr (pn 2 rfl (RL.s (Vl.fa 12 underlying61 rfl sizeOf52 rfl rfl) rfl ?_)))))
  obtain ⟨A153, c154, A156, c157, A159, c160, A162, c163, b165, b166, A167, c168, A169, c170, b171, b172, hr155, hr158, hr161, hr164, hS⟩ := O_lane_Lane.o hS.p1
  refine RL.s (Vl.ld 0 hS isAgg52 rfl rfl rfl) rfl (cF (fun _ hg => pend_Pend_First.ok hg hS.p2) call63 h rfl rfl rfl ?_)
  rintro ⟨y175, y176⟩ h _ w ⟨rfl, hS⟩
  refine pn 3 rfl (al hS zeroValue48 rfl rfl rfl fun b177 w hS => RL.e0 (OW.store (vs := (C_api_Message y175)) 0 hS rfl rfl rfl rfl sizeOf48 rfl rfl rfl rfl) rfl ?_)
  rintro _ w ⟨rfl, hS⟩
  have hS : St B w (Cl _ [_, _, _, _, _, _, _] _ :: _ :: _ :: _ :: _ :: _ :: _ :: _ :: _ :: l) hf := hS
  refine pn 1 rfl (ln (RC.seq (RC.block ?_)))
  refine RC.join (fun (s : Bool) a w => ∃ (q218 : Bool), s = (q218) ∧ Has 57 [(0, .pointer (some ⟨b1, 0, none⟩)), (4, .pointer (some ⟨b127, 0, none⟩)), (6, .pointer (some ⟨b177, 0, none⟩)), (16, .bool q218)] a ∧ St B w (O_lane_Lane hf a2 b1 :: Cl b177 (C_api_Message y175) 48 :: Cl b127 [.int .i64 0, .int .i64 0, .int .i64 0, .int .i64 0, .int .i64 0, .int .i64 0, .bool false] 48 :: l) hf ∧ Holds (· = r) (lane_Lane_next.j4 a2 y175 q218)) ?_ ?_
  · rintro q218 a w ⟨_, rfl, ha, hS, h⟩
    revert a
    show RC _ _ _ _ _ _
    refine RC.iteB 16 rfl h (fun hc219 h => ?_) fun hc219 h => ?_
    next =>
     refine RC.condT rfl (sr (RL.s (Vl.lw 1 hS isAgg48 sizeOf48 rfl rfl rfl) rfl (RL.s (Vl.build (v := .agg #[.int .i64 180]) (parts := [(0, .const (.int .i64 180))]) rfl (by kernel_rfl)) rfl (RL.s (Vl.makeIface underlying179 rfl rfl) rfl (RL.e0 (OW.store (vs := (C_api_Message y175)) 2 hS rfl rfl rfl rfl sizeOf48 rfl rfl rfl rfl) rfl ?_)))))
     rintro _ w ⟨rfl, hS⟩
     have hS : St B w (_ :: _ :: Cl _ [_, _, _, _, _, _, _] _ :: l) hf := hS
     refine pn 1 rfl (lr (RQ.inB_ret (RQ.ret ?_)))
     obtain rfl := h.some
     refine RQ.ret0 (vs := [.agg (C_api_Message y175).toArray, .iface 179 (.agg #[.int .i64 180])]) results48 ⟨⟨_, rfl, run_loadVarA (vs := (C_api_Message y175)) isAgg48 sizeOf48 rfl (hS.cellsAt 2 rfl rfl)⟩, rfl, trivial⟩ ?_
     exact ⟨rfl, hS.d1.d1⟩
    refine RC.condF rfl (RC.seq ?_)
    obtain ⟨A220, c221, A223, c224, A226, c227, A229, c230, b232, b233, A234, c235, A236, c237, b238, b239, hr222, hr225, hr228, hr231, hS⟩ := O_lane_Lane.o hS
    refine RC.planS (plD [0, 3, 6, 10, 15, 18, 21, 24, 28, 14, 32, 35]) [10, 11] hS (fun w hS => hS) follows rfl (by kernel_rfl) (NoTmp.then (NoTmp.block (NoTmp.then NoTmp.body))) fun w hS => pp 2 rfl (RP.s0 2 rfl (fun w => Vl.fa 11 underlying61 rfl sizeOf51 rfl rfl) rfl (RP.s 0 3 rfl rfl hS (fun w hS => Vl.ld 0 hS isAgg51 rfl rfl rfl) rfl (pp 2 rfl (RP.s0 7 rfl (fun w => Vl.fa 7 underlying61 rfl sizeOf33 rfl rfl) rfl (RP.s0 8 rfl (fun w => Vl.fa 9 underlying33 rfl sizeOf3 rfl rfl) rfl (RP.s 0 9 rfl rfl hS (fun w hS => Vl.ld 0 hS isAgg3 rfl rfl rfl) rfl ?_))))))
    obtain ⟨t240, hg241, h⟩ := h.bind
    have hc := log_Log_Len.ok hg241 hS.p1
    refine RP.e 4 rfl (OW.callF (ls := [.tmp 45]) rfl call97 hc) rfl rfl ?_
    rintro _ w ⟨rfl, hS⟩
    refine ⟨kp ⟨fun _ => hS.p1, trivial⟩, ?_⟩
    refine RP.v1 10 rfl (Vl.int rfl rfl rfl) rfl rfl (RP.v1 11 rfl (Vl.assign rfl) rfl rfl (RP.nil (RQ.then_n ?_)))
    refine RC.iteP 41 rfl h (fun hc242 h => ?_) fun hc242 h => ?_
    next =>
     refine RC.condT rfl (sr (RL.s (Vl.lw 7 hS isAgg48 sizeOf48 rfl rfl rfl) rfl (RL.s (Vl.build (v := .agg #[.int .i64 9]) (parts := [(0, .const (.int .i64 9))]) rfl (by kernel_rfl)) rfl (RL.s (Vl.makeIface underlying179 rfl rfl) rfl (RL.e0 (OW.store (vs := (C_api_Message y175)) 8 hS rfl rfl rfl rfl sizeOf48 rfl rfl rfl rfl) rfl ?_)))))
     rintro _ w ⟨rfl, hS⟩
     have hS : St B w (_ :: _ :: _ :: _ :: _ :: _ :: _ :: _ :: Cl _ [_, _, _, _, _, _, _] _ :: l) hf := hS
     refine pn 1 rfl (lr (RQ.inB_ret (RQ.ret ?_)))
     have hS := O_lane_Lane.c (x := a2) hr222 hr225 hr228 hr231 hS.p1
     obtain rfl := h.some
     refine RQ.ret0 (vs := [.agg (C_api_Message y175).toArray, .iface 179 (.agg #[.int .i64 9])]) results48 ⟨⟨_, rfl, run_loadVarA (vs := (C_api_Message y175)) isAgg48 sizeOf48 rfl (hS.cellsAt 2 rfl rfl)⟩, rfl, trivial⟩ ?_
     exact ⟨rfl, hS.d1.d1⟩
    refine RC.condF rfl (RC.skip (RQ.inB_n (tsr (RL.s (Vl.lw 7 hS isAgg48 sizeOf48 rfl rfl rfl) rfl (RL.e0 (OW.store (vs := (C_api_Message y175)) 8 hS rfl rfl rfl rfl sizeOf48 rfl rfl rfl rfl) rfl ?_)))))
    rintro _ w ⟨rfl, hS⟩
    have hS : St B w (_ :: _ :: _ :: _ :: _ :: _ :: _ :: _ :: Cl _ [_, _, _, _, _, _, _] _ :: l) hf := hS
    refine pn 1 rfl (lr ?_)
    have hS := O_lane_Lane.c (x := a2) hr222 hr225 hr228 hr231 hS.p1
    obtain rfl := h.some
    refine RQ.ret0 (vs := [.agg (C_api_Message y175).toArray, .nilIface]) results48 ⟨⟨_, rfl, run_loadVarA (vs := (C_api_Message y175)) isAgg48 sizeOf48 rfl (hS.cellsAt 2 rfl rfl)⟩, rfl, trivial⟩ ?_
    exact ⟨rfl, hS.d1.d1⟩
  refine sr (pn 3 rfl (ln ?_))
  refine RC.iteN 16 rfl h (fun hc243 h => ?_) fun hc243 h => ?_
  next =>
   refine RC.condF rfl (sr (RL.s (Vl.fa 0 underlying48 rfl sizeOf46 rfl rfl) rfl (RL.s (Vl.fa 0 underlying46 rfl sizeOf2 rfl rfl) rfl (RL.s (Vl.ld 0 hS isAgg2 rfl rfl rfl) rfl (pn 3 rfl (ln ?_))))))
   refine RC.iteP 16 rfl h (fun hc244 h => ?_) fun hc244 h => ?_
   next =>
    refine RC.condT rfl (RC.skip ?_)
    have hS := O_lane_Lane.c (x := a2) hr155 hr158 hr161 hr164 hS.p7.p7.p7.p7.p5.p7.p7
    exact fun a ha => ⟨(true), true, rfl, ha.to ⟨rfl, rfl, rfl, rfl, trivial⟩, hS, h⟩
   refine RC.condF rfl (RC.seq (RC.planS (plD [0, 3, 7, 11, 14, 17, 20, 23, 26, 29]) [8, 9] hS (fun w hS => hS) follows rfl (by kernel_rfl) (NoTmp.then (NoTmp.then (NoTmp.block (NoTmp.then NoTmp.body)))) fun w hS => RP.s0 0 rfl (fun w => Vl.fa 0 underlying48 rfl sizeOf46 rfl rfl) rfl (RP.s0 1 rfl (fun w => Vl.fa 0 underlying46 rfl sizeOf2 rfl rfl) rfl (RP.s 0 2 rfl rfl hS (fun w hS => Vl.ld 0 hS isAgg2 rfl rfl rfl) rfl (RP.v1 3 rfl (Vl.move rfl) rfl rfl (RP.v1 4 rfl (Vl.nilCheck rfl) rfl rfl (RP.v1 5 rfl (Vl.fa 0 underlying61 rfl sizeOf27 rfl rfl) rfl rfl (RP.v1 6 rfl (Vl.fa 4 underlying27 rfl sizeOf2 rfl rfl) rfl rfl (RP.v1 7 rfl (Vl.ld 2 hS isAgg2 rfl rfl rfl) rfl rfl (RP.v1 8 rfl (Vl.int rfl rfl rfl) rfl rfl (RP.v1 9 rfl (Vl.assign rfl) rfl rfl (RP.nil (RQ.then_n ?_)))))))))))))
   refine RC.iteP 16 rfl h (fun hc245 h => ?_) fun hc245 h => ?_
   next =>
    refine RC.condT rfl (RC.skip ?_)
    have hS := O_lane_Lane.c (x := a2) hr155 hr158 hr161 hr164 hS.p7.p7.p7.p7.p5.p7.p7
    exact fun a ha => ⟨(true), true, rfl, ha.to ⟨rfl, rfl, rfl, rfl, trivial⟩, hS, h⟩
   refine RC.condF rfl (RC.region (pn 2 rfl (RL.s (Vl.fa 11 underlying61 rfl sizeOf51 rfl rfl) rfl (RL.s (Vl.ld 2 hS isAgg51 rfl rfl rfl) rfl (cF (fun _ hg => log_Log_Stuck.ok hg hS.p3) call67 h rfl rfl rfl ?_)))))
   rintro t246 h _ w ⟨rfl, hS⟩
   refine pn 1 rfl (RL.nil ?_)
   have hS := O_lane_Lane.c (x := a2) hr155 hr158 hr161 hr164 hS.p7.p7.p7.p7.p6.p5.p7
   exact fun a ha => ⟨(t246), t246, rfl, ha.to ⟨rfl, rfl, rfl, rfl, trivial⟩, hS, h⟩
  refine RC.condT rfl (RC.skip ?_)
  have hS := O_lane_Lane.c (x := a2) hr155 hr158 hr161 hr164 hS.p7.p7.p7.p7.p5.p7.p7
  exact fun a ha => ⟨(true), true, rfl, ha.to ⟨rfl, rfl, rfl, rfl, trivial⟩, hS, h⟩
def lane_refusal_Unwrap.f (a1 : lane_refusal) : Option (Int) := some a1.why
theorem lane_refusal_Unwrap.ok {a1 : lane_refusal} {r : Int} (h : lane_refusal_Unwrap.f a1 = some r) (hS : St B w (l) hf) :
    Calls prog 191 #[.agg #[.int .i64 a1.why]] w (Ret fun v w => v = .iface 29 (.int .i64 r) ∧ St B w (l) hf) := by
  have h := Holds.of h
  refine en func191 rfl ntmps191 rfl (sr (bx hS rfl rfl rfl rfl fun b3 w hS => pn 1 rfl (lnsr (RL.s (Vl.fa 0 underlying179 rfl sizeOf29 rfl rfl) rfl (RL.s (Vl.ld 0 hS isAgg29 rfl rfl rfl) rfl (RL.s (Vl.makeIface underlying29 rfl rfl) rfl (pn 1 rfl (lr ?_))))))))
  obtain rfl := h.some
  exact rt results191 rfl ⟨rfl, hS.d0⟩
def errors_is_5.f (a1 : lane_refusal) (a2 : Int) (a3 : Bool) : Option (Bool) := (if a3 = true then ((lane_refusal_Unwrap.f a1).bind fun t14 => (if t14 = a2 then some true else some false)) else ((lane_refusal_Unwrap.f a1).bind fun t18 => some false))
theorem errors_is_5.ok {a1 : lane_refusal} {a2 : Int} {a3 : Bool} {r : Bool} (h : errors_is_5.f a1 a2 a3 = some r) (hS : St B w (l) hf) :
    Calls prog 92 #[.iface 179 (.agg #[.int .i64 a1.why]), .iface 29 (.int .i64 a2), .bool a3] w (Ret fun v w => v = .bool r ∧ St B w (l) hf) := by
  have h := Holds.of h
  refine en func92 rfl ntmps92 rfl (sr (pn 1 rfl (ln (RC.block (RC.unroll (RQ.round (RC.block (RC.seq (sr (pn 2 rfl ?_))))))))))
  refine RL.iteB 15 rfl h (fun hc13 h => ?_) fun hc13 h => ?_
  next =>
   refine pn 2 rfl (RL.sg (Vl.ifaceNeq rfl rfl underlying108 rfl) rfl rfl (pn 1 rfl (ln (RC.condF rfl (sk (RC.seq (sr (pn 1 rfl (RL.s (Vl.tassert (r := .tuple #[.nilIface, .bool false]) rfl (fun w => run_typeAssert_lacksB underlying227 (by kernel_rfl) (by kernel_rfl) _ _ w)) rfl (pn 5 rfl (ln ?_)))))))))))
   refine sr (pn 6 rfl (ln (RC.condF rfl (sk (sr (pn 1 rfl (ln (RC.block (sr ?_)))))))))
   refine RL.s (Vl.tassert (r := .tuple #[.iface 179 (.agg #[.int .i64 a1.why]), .bool true]) rfl (fun w => run_typeAssert_hasB underlying222 (by kernel_rfl) _ _ w)) rfl (pn 2 rfl (ln (RC.condT rfl (sr (pn 1 rfl (lnsr (pn 1 rfl ?_)))))))
   obtain ⟨t14, hg15, h⟩ := h.bind
   have hc := lane_refusal_Unwrap.ok hg15 hS
   refine RL.e (OW.invoke (F := 191) (u' := .agg #[.int .i64 a1.why]) (ls := []) rfl rfl (fun w => by kernel_rfl) call191 rfl hc) rfl rfl ?_
   rintro _ w ⟨rfl, hS⟩
   refine pn 1 rfl (lnsr (pn 1 rfl (RL.s (Vl.bin (v := .bool false) rfl rfl (by kernel_rfl)) rfl (ln (RC.condF rfl (RC.skip (RQ.inB_n (RQ.inB_n (RQ.then_n (RQ.round (RC.block ?_)))))))))))
   refine RC.seq (sr (pn 2 rfl (RL.re 15 rfl (congrArg Value.bool (id hc13)) (pn 2 rfl (RL.sg (Vl.ifaceInt rfl rfl underlying108 underlying29 type29 rfl) rfl rfl (pn 1 rfl (ln ?_)))))))
   refine RC.iteP 19 rfl h (fun hc17 h => ?_) fun hc17 h => ?_
   next =>
    refine RC.condT rfl (sr (pn 1 rfl (lr (RQ.ret (RQ.inB_ret (RQ.ret (RQ.inB_ret ?_)))))))
    obtain rfl := h.some
    exact rt results92 rfl ⟨rfl, hS⟩
   refine RC.condF rfl (sk (RC.seq (sr (pn 1 rfl (RL.s (Vl.tassert (r := .tuple #[.nilIface, .bool false]) rfl (fun w => run_typeAssert_lacksB underlying227 (by kernel_rfl) (by kernel_rfl) _ _ w)) rfl (pn 5 rfl (lnsr (pn 6 rfl (ln ?_)))))))))
   refine RC.condF rfl (sk (sr (pn 1 rfl (ln (RC.block (sr (RL.s (Vl.tassert (r := .tuple #[.nilIface, .bool false]) rfl (fun w => run_typeAssert_lacksB underlying222 (by kernel_rfl) (by kernel_rfl) _ _ w)) rfl (pn 2 rfl (ln (RC.condF rfl ?_))))))))))
   refine sr (RL.s (Vl.tassert (r := .tuple #[.nilIface, .bool false]) rfl (fun w => run_typeAssert_lacksB underlying224 (by kernel_rfl) (by kernel_rfl) _ _ w)) rfl (pn 2 rfl (ln (RC.condF rfl (sr (pn 1 rfl (lnsr (pn 1 rfl (RL.nil ?_)))))))))
   refine tr (RQ.inB_ret (RQ.inB_ret (RQ.ret (RQ.inB_ret ?_))))
   obtain rfl := h.some
   exact rt results92 rfl ⟨rfl, hS⟩
  refine pn 4 rfl (ln (RC.condF rfl (sk (RC.seq (sr (pn 1 rfl (RL.s (Vl.tassert (r := .tuple #[.nilIface, .bool false]) rfl (fun w => run_typeAssert_lacksB underlying227 (by kernel_rfl) (by kernel_rfl) _ _ w)) rfl (pn 5 rfl (lnsr ?_)))))))))
  refine pn 6 rfl (ln (RC.condF rfl (sk (sr (pn 1 rfl (ln (RC.block (sr (RL.s (Vl.tassert (r := .tuple #[.iface 179 (.agg #[.int .i64 a1.why]), .bool true]) rfl (fun w => run_typeAssert_hasB underlying222 (by kernel_rfl) _ _ w)) rfl (pn 2 rfl ?_))))))))))
  refine ln (RC.condT rfl (sr (pn 1 rfl (lnsr (pn 1 rfl ?_)))))
  obtain ⟨t18, hg19, h⟩ := h.bind
  have hc := lane_refusal_Unwrap.ok hg19 hS
  refine RL.e (OW.invoke (F := 191) (u' := .agg #[.int .i64 a1.why]) (ls := []) rfl rfl (fun w => by kernel_rfl) call191 rfl hc) rfl rfl ?_
  rintro _ w ⟨rfl, hS⟩
  refine pn 1 rfl (lnsr (pn 1 rfl (RL.s (Vl.bin (v := .bool false) rfl rfl (by kernel_rfl)) rfl (ln (RC.condF rfl (RC.skip (RQ.inB_n (RQ.inB_n (RQ.then_n (RQ.round (RC.block ?_)))))))))))
  refine RC.seq (sr (pn 2 rfl (RL.re 15 rfl (congrArg Value.bool (eq_false_of hc13)) (pn 4 rfl (ln (RC.condF rfl (sk (RC.seq (sr (pn 1 rfl (RL.s (Vl.tassert (r := .tuple #[.nilIface, .bool false]) rfl (fun w => run_typeAssert_lacksB underlying227 (by kernel_rfl) (by kernel_rfl) _ _ w)) rfl ?_)))))))))))
  refine pn 5 rfl (lnsr (pn 6 rfl (ln (RC.condF rfl (sk (sr (pn 1 rfl (ln ?_))))))))
  refine RC.block (sr (RL.s (Vl.tassert (r := .tuple #[.nilIface, .bool false]) rfl (fun w => run_typeAssert_lacksB underlying222 (by kernel_rfl) (by kernel_rfl) _ _ w)) rfl (pn 2 rfl (ln (RC.condF rfl (sr (RL.s (Vl.tassert (r := .tuple #[.nilIface, .bool false]) rfl (fun w => run_typeAssert_lacksB underlying224 (by kernel_rfl) (by kernel_rfl) _ _ w)) rfl (pn 2 rfl (ln (RC.condF rfl (RC.seq ?_)))))))))))
  refine RC.region (pn 1 rfl (lnsr (pn 1 rfl (lr (RQ.inB_ret (RQ.inB_ret (RQ.ret (RQ.inB_ret ?_))))))))
  obtain rfl := h.some
  exact rt results92 rfl ⟨rfl, hS⟩
def errors_Is_6.f (a1 : lane_refusal) (a2 : Int) : Option (Bool) := ((errors_is_5.f a1 a2 true).bind fun t5 => some t5)
theorem errors_Is_6.ok {a1 : lane_refusal} {a2 : Int} {r : Bool} (h : errors_Is_6.f a1 a2 = some r) (hS : St B w (l) hf) :
    Calls prog 44 #[.iface 179 (.agg #[.int .i64 a1.why]), .iface 29 (.int .i64 a2)] w (Ret fun v w => v = .bool r ∧ St B w (l) hf) := by
  have h := Holds.of h
  refine en func44 rfl ntmps44 rfl (sr (pn 1 rfl (ln (RC.seq (sr (pn 1 rfl (RL.s (Vl.bin (v := .bool false) rfl rfl (by kernel_rfl)) rfl (pn 2 rfl (RL.sg (Vl.bin (v := .bool false) rfl rfl (by kernel_rfl)) rfl rfl (pn 1 rfl (ln ?_)))))))))))
  refine RC.condF rfl (sk (sr (pn 1 rfl (RL.s (Vl.extern (ls := [.tmp 15]) (v := .iface 215 (.agg #[.pointer (some ⟨1, 29, none⟩)])) rfl func91 (by kernel_rfl) (by kernel_rfl) (by kernel_rfl) (e := Extern.ReflectliteType.typeOf) (by kernel_rfl) (fun w => by kernel_rfl)) rfl (RL.s (Vl.invokeX (F := 237) (ls := []) (v := .bool true) (u' := .agg #[.pointer (some ⟨1, 29, none⟩)]) rfl rfl (fun w => by kernel_rfl) func237 (by kernel_rfl) (by kernel_rfl) (by kernel_rfl) (e := (Extern.ReflectliteType.method fun t => do Extern.Rtype.noPackHeld "Comparable" t; pure (.bool (← typeInfo t).comparable))) (by kernel_rfl) (fun w => by kernel_rfl)) rfl (pn 1 rfl (lnsr (pn 3 rfl (cF (fun _ hg => errors_is_5.ok hg hS) call92 h rfl rfl rfl ?_)))))))))
  rintro t5 h _ w ⟨rfl, hS⟩
  refine pn 1 rfl (lr ?_)
  obtain rfl := h.some
  exact rt results44 rfl ⟨rfl, hS⟩
def lane_told.l2b (a1 : lane_refusal) : Int → Option ((Int) ⊕ (Int))
  | (x39) => (if x39 < 3 then (if 0 ≤ x39 then ((errors_Is_6.f a1 (nth ([180, 9, 181] : List Int) x39)).bind fun t59 => (if t59 = true then some (.inr (nth ([180, 9, 181] : List Int) x39)) else some (.inl (IntKind.i64.wrap (x39 + 1))))) else none) else some (.inr 0))
def lane_told.l2 (a1 : lane_refusal) (s : Int) : Option (Int) := loopR (lane_told.l2b a1) s
def lane_told.f (a1 : lane_refusal) : Option (Int) := lane_told.l2 a1 (0)
theorem lane_told.ok {a1 : lane_refusal} {r : Int} (h : lane_told.f a1 = some r) (hS : St B w (l) hf) :
    Calls prog 49 #[.iface 179 (.agg #[.int .i64 a1.why])] w (Ret fun v w => v = .int .i64 r ∧ St B w (l) hf) := by
  have h := Holds.of h
  refine en func49 rfl ntmps49 rfl (sr (pn 1 rfl (ln (RC.seq (sr (RL.s (Vl.build (v := .agg #[.int .i64 180, .int .i64 9, .int .i64 181]) (parts := [(0, .const (.int .i64 180)), (1, .const (.int .i64 9)), (2, .const (.int .i64 181))]) rfl (by kernel_rfl)) rfl (pn 1 rfl (ln (RC.block ?_)))))))))
  refine fun a ha => RC.loop (N := 15) (body := (lane_told.l2b a1)) (φ := (· = r)) (fun (s : Int) a w => ∃ (x39 : Int), s = (x39) ∧ Has 15 [(0, .iface 179 (.agg #[.int .i64 a1.why])), (5, .agg #[.int .i64 180, .int .i64 9, .int .i64 181]), (6, .int .i64 x39)] a ∧ St B w (l) hf) ?_ (s0 := (0)) h ⟨0, rfl, ha.to ⟨rfl, rfl, rfl, trivial⟩, hS⟩
  rintro G51 x39 a w ⟨_, rfl, ha, hS⟩ h
  revert a
  show RC _ _ _ _ _ _
  refine sr (pn 1 rfl (ln (RC.seq ?_)))
  refine RC.iteP 7 rfl h (fun hc53 h => ?_) fun hc53 h => ?_
  next =>
   refine RC.condT rfl (sk (RC.seq (RC.block (sr ?_))))
   obtain ⟨hq58, h⟩ := h.req
   refine RL.s (Vl.indexMap (f := (Value.int .i64)) (l := ([180, 9, 181] : List Int)) underlying180 sizeOf29 isAgg29 rfl rfl rfl hq58 hc53) rfl (pn 1 rfl (lnsr (pn 2 rfl (RL.s (Vl.makeIface underlying29 rfl rfl) rfl (cF (fun _ hg => errors_Is_6.ok hg hS) call44 h rfl rfl rfl ?_)))))
   rintro t59 h _ w ⟨rfl, hS⟩
   refine ln ?_
   refine RC.iteB 12 rfl h (fun hc61 h => ?_) fun hc61 h => ?_
   next =>
    refine RC.condT rfl (sr (pn 2 rfl (lr (RQ.inB_ret (RQ.ret ?_)))))
    have h := h.inrS
    refine RQ.ret (RQ.inB_ret (RQ.ret ?_))
    obtain rfl := h.some
    exact rt results49 rfl ⟨rfl, hS⟩
   refine RC.condF rfl (RC.skip (RQ.inB_n (RQ.then_n (RC.region (pn 2 rfl (RL.nil ?_))))))
   exact fun a ha => ⟨(IntKind.i64.wrap (x39 + 1)), ⟨(IntKind.i64.wrap (x39 + 1)), rfl, ha.to ⟨rfl, rfl, rfl, trivial⟩, hS⟩, h.some⟩
  refine RC.condF rfl (RC.exit (RQ.exitT ?_))
  have h := h.inrS
  refine RQ.exitT (RQ.inB_hit (tsr (pn 1 rfl (lr ?_))))
  obtain rfl := h.some
  exact rt results49 rfl ⟨rfl, hS⟩
def event_One.f (a1 a2 : api_Message) : Option (Bool) := (if a1.Key.From = a2.Key.From then some (decide (a1.Uid = a2.Uid)) else some false)
theorem event_One.ok {a1 a2 : api_Message} {r : Bool} (h : event_One.f a1 a2 = some r) (hS : St B w (l) hf) :
    Calls prog 31 #[.agg (C_api_Message a1).toArray, .agg (C_api_Message a2).toArray] w (Ret fun v w => v = .bool r ∧ St B w (l) hf) := by
  have h := Holds.of h
  refine en func31 rfl ntmps31 rfl (sr (bx hS rfl rfl rfl rfl fun b6 w hS => bx hS rfl rfl rfl rfl fun b7 w hS => pn 1 rfl (lnsr (RL.s (Vl.fa 0 underlying48 rfl sizeOf46 rfl rfl) rfl (RL.s (Vl.fa 1 underlying46 rfl sizeOf3 rfl rfl) rfl (RL.s (Vl.ld 1 hS isAgg3 rfl rfl rfl) rfl (RL.s (Vl.fa 0 underlying48 rfl sizeOf46 rfl rfl) rfl (RL.s (Vl.fa 1 underlying46 rfl sizeOf3 rfl rfl) rfl (RL.s (Vl.ld 0 hS isAgg3 rfl rfl rfl) rfl ?_)))))))))
  refine pn 2 rfl ?_
  refine RL.iteP 12 rfl h (fun hc8 h => ?_) fun hc8 h => ?_
  next =>
   refine RL.sg (Vl.fa 5 underlying48 rfl sizeOf3 rfl rfl) rfl rfl (RL.sg (Vl.ld 1 hS isAgg3 rfl rfl rfl) rfl rfl (RL.sg (Vl.fa 5 underlying48 rfl sizeOf3 rfl rfl) rfl rfl (RL.sg (Vl.ld 0 hS isAgg3 rfl rfl rfl) rfl rfl (pn 3 rfl (lr ?_)))))
   obtain rfl := h.some
   exact rt results31 rfl ⟨rfl, hS.d0.d0⟩
  refine pn 7 rfl (lr ?_)
  obtain rfl := h.some
  exact rt results31 rfl ⟨rfl, hS.d0.d0⟩
def lane_Lane_Step_1.f (a1 : lane_open) (a3 : api_Message) : Option (Bool) := ((event_One.f a1.by_ a3).bind fun t8 => some t8)
theorem lane_Lane_Step_1.ok {a1 : lane_open} {a3 : api_Message} {b2 : Nat} {r : Bool} (h : lane_Lane_Step_1.f a1 a3 = some r) (hS : St B w (Cl b2 (C_api_Message a3) 48 :: l) hf) :
    Calls prog 50 #[.agg (C_lane_open a1).toArray, .pointer (some ⟨b2, 0, none⟩)] w (Ret fun v w => v = .bool r ∧ St B w (Cl b2 (C_api_Message a3) 48 :: l) hf) := by
  have h := Holds.of h
  refine en func50 rfl ntmps50 rfl (sr (bx hS rfl rfl rfl rfl fun b7 w hS => pn 1 rfl (lnsr (RL.s (Vl.fa 0 underlying116 rfl sizeOf48 rfl rfl) rfl (RL.s (Vl.loadA (vs := (C_api_Message a1.by_)) isAgg48 sizeOf48 rfl rfl (hS.cellsAt 0 rfl rfl)) rfl (RL.s (Vl.lw 1 hS isAgg48 sizeOf48 rfl rfl rfl) rfl (cF (fun _ hg => event_One.ok hg hS) call31 h rfl rfl rfl ?_)))))))
  rintro t8 h _ w ⟨rfl, hS⟩
  refine pn 1 rfl (lr ?_)
  obtain rfl := h.some
  exact rt results50 rfl ⟨rfl, hS.d0⟩
def log_Log_Last.f (a2 : log_Log) : Option (api_Message × Bool) := ((log_Log_none.f a2).bind fun t55 => (if t55 = true then some ((⟨(⟨0, 0, 0⟩ : api_Key), 0, 0, 0, false⟩ : api_Message), false) else (if (a2.l.length : Int) = 0 then some ((⟨(⟨0, 0, 0⟩ : api_Key), 0, 0, 0, false⟩ : api_Message), false) else (if 0 ≤ IntKind.i64.wrap ((a2.l.length : Int) - 1) ∧ IntKind.i64.wrap ((a2.l.length : Int) - 1) < (a2.l.length : Int) then some ((nth a2.l (IntKind.i64.wrap ((a2.l.length : Int) - 1))).event, true) else none))))
theorem log_Log_Last.ok {a2 : log_Log} {b1 : Nat} {r : api_Message × Bool} (h : log_Log_Last.f a2 = some r) (hS : St B w (O_log_Log hf a2 b1 :: l) hf) :
    Calls prog 61 #[.pointer (some ⟨b1, 0, none⟩)] w (Ret fun v w => v = .tuple #[.agg (C_api_Message r.1).toArray, .bool r.2] ∧ St B w (O_log_Log hf a2 b1 :: l) hf) := by
  have h := Holds.of h
  refine en func61 rfl ntmps61 rfl (sr (al hS zeroValue48 rfl rfl rfl fun b40 w hS => pn 1 rfl (ln (RC.seq (sr (pn 1 rfl (cF (fun _ hg => log_Log_none.ok hg hS.p1) call94 h rfl rfl rfl ?_)))))))
  rintro t55 h _ w ⟨rfl, hS⟩
  refine pn 1 rfl ?_
  refine RL.iteB 6 rfl h (fun hc57 h => ?_) fun hc57 h => ?_
  next =>
   refine pn 7 rfl (ln (RC.condT rfl (sr (RL.s (Vl.build (v := .agg #[.int .i64 0, .int .i64 0, .int .i64 0, .int .i64 0, .int .i64 0, .int .i64 0, .bool false]) (parts := []) rfl (by kernel_rfl)) rfl (RL.e0 (OW.store (vs := [.int .i64 0, .int .i64 0, .int .i64 0, .int .i64 0, .int .i64 0, .int .i64 0, .bool false]) 1 hS rfl rfl rfl rfl sizeOf48 rfl rfl rfl rfl) rfl ?_)))))
   rintro _ w ⟨rfl, hS⟩
   have hS : St B w (_ :: Cl _ [_, _, _, _, _, _, _] _ :: l) hf := hS
   refine pn 1 rfl (lr (RQ.ret ?_))
   obtain rfl := h.some
   refine RQ.ret0 (vs := [.agg #[.int .i64 0, .int .i64 0, .int .i64 0, .int .i64 0, .int .i64 0, .int .i64 0, .bool false], .bool false]) results61 ⟨⟨_, rfl, run_loadVarA (vs := [.int .i64 0, .int .i64 0, .int .i64 0, .int .i64 0, .int .i64 0, .int .i64 0, .bool false]) isAgg48 sizeOf48 rfl (hS.cellsAt 1 rfl rfl)⟩, rfl, trivial⟩ ?_
   exact ⟨rfl, hS.d1⟩
  refine pn 2 rfl (RL.sg (Vl.fa 16 underlying150 rfl sizeOf148 rfl rfl) rfl rfl ?_)
  obtain ⟨A58, c59, A61, c62, A64, c65, cs66, hr60, hr63, hx67, hS⟩ := O_log_Log.o hS
  refine RL.sg (Vl.ld 0 hS isAgg148 rfl rfl rfl) rfl rfl (RL.sg (Vl.lenSl underlying148 rfl) rfl rfl (pn 2 rfl (ln ?_)))
  refine RC.iteP 13 rfl h (fun hc68 h => ?_) fun hc68 h => ?_
  next =>
   refine RC.condT rfl (sr (RL.s (Vl.build (v := .agg #[.int .i64 0, .int .i64 0, .int .i64 0, .int .i64 0, .int .i64 0, .int .i64 0, .bool false]) (parts := []) rfl (by kernel_rfl)) rfl (RL.e0 (OW.store (vs := [.int .i64 0, .int .i64 0, .int .i64 0, .int .i64 0, .int .i64 0, .int .i64 0, .bool false]) 2 hS rfl rfl rfl rfl sizeOf48 rfl rfl rfl rfl) rfl ?_)))
   rintro _ w ⟨rfl, hS⟩
   have hS : St B w (_ :: _ :: Cl _ [_, _, _, _, _, _, _] _ :: l) hf := hS
   refine pn 1 rfl (lr (RQ.ret ?_))
   have hS := O_log_Log.c (x := a2) hr60 hr63 hx67 hS
   obtain rfl := h.some
   refine RQ.ret0 (vs := [.agg #[.int .i64 0, .int .i64 0, .int .i64 0, .int .i64 0, .int .i64 0, .int .i64 0, .bool false], .bool false]) results61 ⟨⟨_, rfl, run_loadVarA (vs := [.int .i64 0, .int .i64 0, .int .i64 0, .int .i64 0, .int .i64 0, .int .i64 0, .bool false]) isAgg48 sizeOf48 rfl (hS.cellsAt 1 rfl rfl)⟩, rfl, trivial⟩ ?_
   exact ⟨rfl, hS.d1⟩
  refine RC.condF rfl (sk (RC.seq (RC.planS (plD [0, 3, 6, 10, 14, 17, 20, 23, 26, 29, 32, 35, 38, 41, 44]) [10, 11, 12, 13, 14] hS (fun w hS => hS) follows rfl (by kernel_rfl) (NoTmp.then NoTmp.body) fun w hS => pp 2 rfl (RP.s0 2 rfl (fun w => Vl.fa 16 underlying150 rfl sizeOf148 rfl rfl) rfl (RP.s 0 3 rfl rfl hS (fun w hS => Vl.ld 0 hS isAgg148 rfl rfl rfl) rfl (RP.v1 4 rfl (Vl.move rfl) rfl rfl (RP.v1 5 rfl (Vl.nilCheck rfl) rfl rfl (RP.v1 6 rfl (Vl.fa 16 underlying150 rfl sizeOf148 rfl rfl) rfl rfl (RP.v1 7 rfl (Vl.ld 0 hS isAgg148 rfl rfl rfl) rfl rfl (RP.v1 8 rfl (Vl.lenSl underlying148 rfl) rfl rfl (RP.v1 9 rfl (Vl.int rfl rfl rfl) rfl rfl ?_)))))))))))
  obtain ⟨⟨hq69, hq70⟩, h⟩ := h.req
  refine RP.v1 10 rfl (Vl.indexOwn 1 hS rfl underlying148 sizeOf176 rfl rfl hq69 hq70) rfl rfl (RP.v1 11 rfl (Vl.fieldAddr (a'' := (ad A64).add ((IntKind.i64.wrap ((a2.l.length : Int) - 1)).toNat * 10 + 0)) underlying176 rfl sizeOf48 rfl (add_add _ _ _)) rfl rfl ?_)
  obtain ⟨_, ⟨A72, c73, b75, rfl, hr74, hr76⟩, hl71⟩ := RepL.elem R_log_done_ok hx67 hq69 hq70
  refine RP.v1 12 rfl (Vl.loadA (vs := (C_api_Message ((nth a2.l (IntKind.i64.wrap ((a2.l.length : Int) - 1))).event))) isAgg48 sizeOf48 rfl rfl (hS.elemCells 1 rfl hl71 (off := 0) rfl)) rfl rfl (RP.e0 13 rfl (OW.store (vs := (C_api_Message ((nth a2.l (IntKind.i64.wrap ((a2.l.length : Int) - 1))).event))) 2 hS rfl rfl rfl rfl sizeOf48 rfl rfl rfl rfl) rfl ?_)
  rintro _ w ⟨rfl, hS⟩
  have hS : St B w (_ :: _ :: Cl _ [_, _, _, _, _, _, _] _ :: l) hf := hS
  refine ⟨kp ⟨(by intro hx; cases hx), trivial⟩, ?_⟩
  refine RP.v1 14 rfl (Vl.assign rfl) rfl rfl (RP.nil (tr ?_))
  have hS := O_log_Log.c (x := a2) hr60 hr63 hx67 hS
  obtain rfl := h.some
  refine RQ.ret0 (vs := [.agg (C_api_Message ((nth a2.l (IntKind.i64.wrap ((a2.l.length : Int) - 1))).event)).toArray, .bool true]) results61 ⟨⟨_, rfl, run_loadVarA (vs := (C_api_Message ((nth a2.l (IntKind.i64.wrap ((a2.l.length : Int) - 1))).event))) isAgg48 sizeOf48 rfl (hS.cellsAt 1 rfl rfl)⟩, rfl, trivial⟩ ?_
  exact ⟨rfl, hS.d1⟩
def log_Log_may.f (a2 : log_Log) (a3 : api_Message) (a4 : Int) : Option (Int) := ((log_Log_Last.f a2).bind fun (y48, y49) => ((event_Check.f a3).bind fun t51 => (if t51 = 0 then (if a3.Anti = true then some 1 else (if a4 < 0 then some 1 else (if 1099511627776 < a4 then some 1 else (if y49 = true then ((event_Before.f y48 a3).bind fun t58 => (if t58 = true then (if a2.stuck = true then some 5 else (if 16384 ≤ (a2.l.length : Int) then some 9 else some 0)) else some 1)) else (if a2.stuck = true then some 5 else (if 16384 ≤ (a2.l.length : Int) then some 9 else some 0)))))) else some 1)))
theorem log_Log_may.ok {a2 : log_Log} {a3 : api_Message} {a4 : Int} {b1 : Nat} {r : Int} (h : log_Log_may.f a2 a3 a4 = some r) (hS : St B w (O_log_Log hf a2 b1 :: l) hf) :
    Calls prog 98 #[.pointer (some ⟨b1, 0, none⟩), .agg (C_api_Message a3).toArray, .int .i64 a4] w (Ret fun v w => v = .int .i64 r ∧ St B w (O_log_Log hf a2 b1 :: l) hf) := by
  have h := Holds.of h
  refine en func98 rfl ntmps98 rfl (sr (bx hS rfl rfl rfl rfl fun b45 w hS => pn 1 rfl (lnsr (pn 1 rfl (cF (fun _ hg => log_Log_Last.ok hg hS.p1) call61 h rfl rfl rfl ?_)))))
  rintro ⟨y48, y49⟩ h _ w ⟨rfl, hS⟩
  refine pn 3 rfl (al hS zeroValue48 rfl rfl rfl fun b50 w hS => RL.e0 (OW.store (vs := (C_api_Message y48)) 0 hS rfl rfl rfl rfl sizeOf48 rfl rfl rfl rfl) rfl ?_)
  rintro _ w ⟨rfl, hS⟩
  have hS : St B w (Cl _ [_, _, _, _, _, _, _] _ :: _ :: _ :: l) hf := hS
  refine pn 1 rfl (ln (RC.seq (RC.block (sr (RL.s (Vl.lw 2 hS isAgg48 sizeOf48 rfl rfl rfl) rfl (cF (fun _ hg => event_Check.ok hg hS) call29 h rfl rfl rfl ?_))))))
  rintro t51 h _ w ⟨rfl, hS⟩
  refine pn 2 rfl ?_
  refine RL.iteN 18 rfl h (fun hc53 h => ?_) fun hc53 h => ?_
  next =>
   refine RL.sg (Vl.fa 6 underlying48 rfl sizeOf4 rfl rfl) rfl rfl (RL.sg (Vl.ld 2 hS isAgg4 rfl rfl rfl) rfl rfl (pn 2 rfl ?_))
   refine RL.iteB 22 rfl h (fun hc54 h => ?_) fun hc54 h => ?_
   next =>
    refine pn 17 rfl (ln (RC.condT rfl (sr (pn 1 rfl (lr (RQ.inB_ret (RQ.ret ?_)))))))
    obtain rfl := h.some
    exact rt results98 rfl ⟨rfl, hS.d0.d1⟩
   refine pn 4 rfl ?_
   refine RL.iteP 26 rfl h (fun hc55 h => ?_) fun hc55 h => ?_
   next =>
    refine pn 13 rfl (ln (RC.condT rfl (sr (pn 1 rfl (lr (RQ.inB_ret (RQ.ret ?_)))))))
    obtain rfl := h.some
    exact rt results98 rfl ⟨rfl, hS.d0.d1⟩
   refine pn 4 rfl ?_
   refine RL.iteP 30 rfl h (fun hc56 h => ?_) fun hc56 h => ?_
   next =>
    refine pn 9 rfl (ln (RC.condT rfl (sr (pn 1 rfl (lr (RQ.inB_ret (RQ.ret ?_)))))))
    obtain rfl := h.some
    exact rt results98 rfl ⟨rfl, hS.d0.d1⟩
   refine pn 2 rfl ?_
   refine RL.iteB 32 rfl h (fun hc57 h => ?_) fun hc57 h => ?_
   next =>
    refine RL.sg (Vl.lw 0 hS isAgg48 sizeOf48 rfl rfl rfl) rfl rfl (RL.sg (Vl.lw 2 hS isAgg48 sizeOf48 rfl rfl rfl) rfl rfl (cF (fun _ hg => event_Before.ok hg hS) call62 h rfl rfl rfl ?_))
    rintro t58 h _ w ⟨rfl, hS⟩
    refine pn 4 rfl (ln ?_)
    refine RC.iteM 14 rfl h (fun hc60 h => ?_) fun hc60 h => ?_
    next =>
     refine RC.condF rfl (sr (pn 2 rfl (RL.s (Vl.fa 17 underlying150 rfl sizeOf4 rfl rfl) rfl ?_)))
     obtain ⟨A61, c62, A64, c65, A67, c68, cs69, hr63, hr66, hx70, hS⟩ := O_log_Log.o hS.p1
     refine RL.s (Vl.ld 0 hS isAgg4 rfl rfl rfl) rfl (pn 1 rfl (ln ?_))
     refine RC.iteB 39 rfl h (fun hc71 h => ?_) fun hc71 h => ?_
     next =>
      refine RC.condT rfl (sr (pn 1 rfl (lr (RQ.inB_ret (RQ.ret ?_)))))
      have hS := O_log_Log.c (x := a2) hr63 hr66 hx70 hS
      obtain rfl := h.some
      exact rt results98 rfl ⟨rfl, hS.d1.d1⟩
     refine RC.condF rfl (sr (pn 2 rfl (RL.s (Vl.fa 16 underlying150 rfl sizeOf148 rfl rfl) rfl (RL.s (Vl.ld 0 hS isAgg148 rfl rfl rfl) rfl (RL.s (Vl.lenSl underlying148 rfl) rfl (pn 2 rfl (ln ?_)))))))
     refine RC.iteP 44 rfl h (fun hc72 h => ?_) fun hc72 h => ?_
     next =>
      refine RC.condT rfl (sr (pn 1 rfl (lr (RQ.inB_ret (RQ.ret ?_)))))
      have hS := O_log_Log.c (x := a2) hr63 hr66 hx70 hS
      obtain rfl := h.some
      exact rt results98 rfl ⟨rfl, hS.d1.d1⟩
     refine RC.condF rfl (RC.skip (RQ.inB_n (tsr (pn 1 rfl (lr ?_)))))
     have hS := O_log_Log.c (x := a2) hr63 hr66 hx70 hS
     obtain rfl := h.some
     exact rt results98 rfl ⟨rfl, hS.d1.d1⟩
    refine RC.condT rfl (sr (pn 1 rfl (lr (RQ.inB_ret (RQ.ret ?_)))))
    obtain rfl := h.some
    exact rt results98 rfl ⟨rfl, hS.d0.d1⟩
   refine pn 7 rfl (ln (RC.condF rfl (sr (pn 2 rfl (RL.s (Vl.fa 17 underlying150 rfl sizeOf4 rfl rfl) rfl ?_)))))
   obtain ⟨A73, c74, A76, c77, A79, c80, cs81, hr75, hr78, hx82, hS⟩ := O_log_Log.o hS.p1
   refine RL.s (Vl.ld 0 hS isAgg4 rfl rfl rfl) rfl (pn 1 rfl (ln ?_))
   refine RC.iteB 39 rfl h (fun hc83 h => ?_) fun hc83 h => ?_
   next =>
    refine RC.condT rfl (sr (pn 1 rfl (lr (RQ.inB_ret (RQ.ret ?_)))))
    have hS := O_log_Log.c (x := a2) hr75 hr78 hx82 hS
    obtain rfl := h.some
    exact rt results98 rfl ⟨rfl, hS.d1.d1⟩
   refine RC.condF rfl (sr (pn 2 rfl (RL.s (Vl.fa 16 underlying150 rfl sizeOf148 rfl rfl) rfl (RL.s (Vl.ld 0 hS isAgg148 rfl rfl rfl) rfl (RL.s (Vl.lenSl underlying148 rfl) rfl (pn 2 rfl (ln ?_)))))))
   refine RC.iteP 44 rfl h (fun hc84 h => ?_) fun hc84 h => ?_
   next =>
    refine RC.condT rfl (sr (pn 1 rfl (lr (RQ.inB_ret (RQ.ret ?_)))))
    have hS := O_log_Log.c (x := a2) hr75 hr78 hx82 hS
    obtain rfl := h.some
    exact rt results98 rfl ⟨rfl, hS.d1.d1⟩
   refine RC.condF rfl (RC.skip (RQ.inB_n (tsr (pn 1 rfl (lr ?_)))))
   have hS := O_log_Log.c (x := a2) hr75 hr78 hx82 hS
   obtain rfl := h.some
   exact rt results98 rfl ⟨rfl, hS.d1.d1⟩
  refine pn 21 rfl (ln (RC.condT rfl (sr (pn 1 rfl (lr (RQ.inB_ret (RQ.ret ?_)))))))
  obtain rfl := h.some
  exact rt results98 rfl ⟨rfl, hS.d0.d1⟩
def vm_Sends.l2b (a1 : api_World) (a8 : api_State) (a9 : api_Message) (a10 : List api_Out) (a14 : Int) : List api_Message × Int → Option ((List api_Message × Int) ⊕ (List api_Message))
  | (l134, x137) => (if x137 < (a10.length : Int) then (if 0 ≤ x137 then (if 0 ≤ (nth a10 x137).Link then (if (nth a10 x137).Link < (a1.Links.length : Int) then (if (nth a10 x137).Delay ≤ IntKind.i64.wrap (4611686018427387903 - a9.Key.Time) then (if (l134.length + 1) * 56 ≤ 140737488355328 then some (.inl ((l134 ++ ([(⟨(⟨IntKind.i64.wrap (a9.Key.Time + ((nth a10 x137).Delay)), a1.Self, IntKind.i64.wrap (a8.Sent + x137)⟩ : api_Key), (nth a1.Links ((nth a10 x137).Link)).To, (nth a10 x137).Value, IntKind.i64.wrap (a14 + x137), false⟩ : api_Message)])), IntKind.i64.wrap (x137 + 1))) else none) else some (.inl (l134, IntKind.i64.wrap (x137 + 1)))) else some (.inl (l134, IntKind.i64.wrap (x137 + 1)))) else some (.inl (l134, IntKind.i64.wrap (x137 + 1)))) else none) else some (.inr l134))
def vm_Sends.l2 (a1 : api_World) (a8 : api_State) (a9 : api_Message) (a10 : List api_Out) (a14 : Int) (s : List api_Message × Int) : Option (List api_Message) := loopR (vm_Sends.l2b a1 a8 a9 a10 a14) s
def vm_Sends.f (a1 : api_World) (a8 : api_State) (a9 : api_Message) (a10 : List api_Out) (a14 : Int) : Option (List api_Message) := vm_Sends.l2 a1 a8 a9 a10 a14 ([], 0)
theorem vm_Sends.ok {a1 : api_World} {a8 : api_State} {a9 : api_Message} {a10 : List api_Out} {a14 : Int} {A2 : Option Addr} {c3 : Nat} {A5 : Option Addr} {c6 : Nat} {A11 : Option Addr} {c12 : Nat} (hr4 : SlR E_api_Instr.rep hf A2 c3 a1.Prog) (hr7 : SlR E_api_Link.rep hf A5 c6 a1.Links) (hr13 : SlR E_api_Out.rep hf A11 c12 a10) {r : List api_Message} (h : vm_Sends.f a1 a8 a9 a10 a14 = some r) (hS : St B w (l) hf) :
    Calls prog 123 #[.agg (C_api_World a1 A2 c3 A5 c6).toArray, .agg (C_api_State a8).toArray, .agg (C_api_Message a9).toArray, .slice A11 a10.length c12, .int .i64 a14] w (Ret fun v w => ∃ (A_1 : Option Addr) (c_2 : Nat), v = .slice A_1 r.length c_2 ∧ St B w (OSf E_api_Message 48 (.slice A_1 r.length c_2) r :: l) hf) := by
  have h := Holds.of h
  refine en func123 rfl ntmps123 rfl (sr (bx hS rfl rfl rfl rfl fun b104 w hS => bx hS rfl rfl rfl rfl fun b105 w hS => bx hS rfl rfl rfl rfl fun b106 w hS => pn 1 rfl (lnsr (pn 1 rfl (ln (RC.seq (RC.seq ?_)))))))
  refine RC.region (pn 1 rfl (RL.s (Vl.lenSl underlying231 rfl) rfl (pn 1 rfl (ln (RC.block ?_)))))
  have hS := hS.nilSl E_api_Message 48
  refine fun a ha => RC.loop (N := 72) (body := (vm_Sends.l2b a1 a8 a9 a10 a14)) (φ := (· = r)) (fun (s : List api_Message × Int) a w => ∃ (l134 : List api_Message) (x137 : Int), s = (l134, x137) ∧ ∃ (A135 : Option Addr) (c136 : Nat), Has 72 [(4, .int .i64 a14), (5, .pointer (some ⟨b104, 0, none⟩)), (6, .pointer (some ⟨b105, 0, none⟩)), (7, .pointer (some ⟨b106, 0, none⟩)), (11, .slice A135 l134.length c136), (14, .slice A11 a10.length c12), (15, .int .i64 (a10.length : Int)), (16, .int .i64 x137)] a ∧ St B w (OSf E_api_Message 48 (.slice A135 l134.length c136) l134 :: Cl b106 (C_api_Message a9) 48 :: Cl b105 (C_api_State a8) 70 :: Cl b104 (C_api_World a1 A2 c3 A5 c6) 91 :: l) hf) ?_ (s0 := ([], 0)) h ⟨([]), 0, rfl, none, 0, ha.to ⟨rfl, rfl, rfl, rfl, rfl, rfl, rfl, rfl, trivial⟩, hS⟩
  rintro G167 _ a w ⟨l134, x137, rfl, A135, c136, ha, hS⟩ h
  revert a
  show RC _ _ _ _ _ _
  refine sr (pn 1 rfl (ln (RC.seq ?_)))
  refine RC.iteP 17 rfl h (fun hc169 h => ?_) fun hc169 h => ?_
  next =>
   refine RC.condT rfl (sk (RC.seq (RC.block (sr (pn 1 rfl ?_)))))
   obtain ⟨hq183, h⟩ := h.req
   refine RL.s (Vl.indexAddr underlying231 sizeOf265 rfl rfl ((hr13.2.world hS.sub).adr hq183 hc169) hq183 hc169 rfl) rfl (RL.s (Vl.loadA isAgg265 sizeOf265 rfl rfl ((hr13.2.world hS.sub).cells hq183 hc169)) rfl (al hS zeroValue265 rfl rfl rfl fun b184 w hS => pn 1 rfl (RL.e0 (OW.store (vs := (C_api_Out (nth a10 x137))) 0 hS rfl rfl rfl rfl sizeOf265 rfl rfl rfl rfl) rfl ?_)))
   rintro _ w ⟨rfl, hS⟩
   have hS : St B w (Cl _ [_, _, _] _ :: _ :: _ :: _ :: _ :: l) hf := hS
   refine lnsr (RL.s (Vl.fa 0 underlying265 rfl sizeOf3 rfl rfl) rfl (RL.s (Vl.ld 0 hS isAgg3 rfl rfl rfl) rfl (pn 2 rfl ?_)))
   refine RL.iteP 24 rfl h (fun hc185 h => ?_) fun hc185 h => ?_
   next =>
    refine RL.sg (Vl.fa 0 underlying265 rfl sizeOf3 rfl rfl) rfl rfl (RL.sg (Vl.ld 0 hS isAgg3 rfl rfl rfl) rfl rfl (RL.sg (Vl.fa 2 underlying91 rfl sizeOf23 rfl rfl) rfl rfl (RL.sg (Vl.ld 4 hS isAgg23 rfl rfl rfl) rfl rfl (RL.sg (Vl.lenSl underlying23 rfl) rfl rfl (pn 3 rfl ?_)))))
    refine RL.iteP 32 rfl h (fun hc186 h => ?_) fun hc186 h => ?_
    next =>
     refine RL.sg (Vl.fa 1 underlying265 rfl sizeOf2 rfl rfl) rfl rfl (RL.sg (Vl.ld 0 hS isAgg2 rfl rfl rfl) rfl rfl (RL.sg (Vl.fa 0 underlying48 rfl sizeOf46 rfl rfl) rfl rfl (RL.sg (Vl.fa 0 underlying46 rfl sizeOf2 rfl rfl) rfl rfl (RL.sg (Vl.ld 2 hS isAgg2 rfl rfl rfl) rfl rfl (pn 3 rfl (ln ?_))))))
     refine RC.iteP 40 rfl h (fun hc187 h => ?_) fun hc187 h => ?_
     next =>
      refine RC.condT rfl (RC.planS (plD [0, 3, 6, 10, 12, 16, 18, 21, 25, 27, 31, 33, 36, 39, 42, 46, 48, 52, 55, 57, 61, 63, 67, 69, 74, 77, 80, 83, 86, 89]) [26, 27, 28, 29] hS (fun w hS => hS) follows rfl (by kernel_rfl) (NoTmp.block (NoTmp.then (NoTmp.then (NoTmp.block (NoTmp.then NoTmp.body))))) fun w hS => pp 1 rfl (RP.s0 1 rfl (fun w => Vl.fa 0 underlying48 rfl sizeOf46 rfl rfl) rfl (RP.s0 2 rfl (fun w => Vl.fa 0 underlying46 rfl sizeOf2 rfl rfl) rfl (RP.s 0 3 rfl rfl hS (fun w hS => Vl.ld 2 hS isAgg2 rfl rfl rfl) rfl (RP.s0 4 rfl (fun w => Vl.fa 1 underlying265 rfl sizeOf2 rfl rfl) rfl (RP.s 0 5 rfl rfl hS (fun w hS => Vl.ld 0 hS isAgg2 rfl rfl rfl) rfl (pp 1 rfl (RP.s0 7 rfl (fun w => Vl.fa 1 underlying91 rfl sizeOf3 rfl rfl) rfl (RP.s 0 8 rfl rfl hS (fun w hS => Vl.ld 4 hS isAgg3 rfl rfl rfl) rfl (RP.s0 9 rfl (fun w => Vl.fa 9 underlying70 rfl sizeOf3 rfl rfl) rfl (RP.s 0 10 rfl rfl hS (fun w hS => Vl.ld 3 hS isAgg3 rfl rfl rfl) rfl (pp 2 rfl (RP.s0 13 rfl (fun w => Vl.build (v := .agg #[.int .i64 (IntKind.i64.wrap (a9.Key.Time + ((nth a10 x137).Delay))), .int .i64 a1.Self, .int .i64 (IntKind.i64.wrap (a8.Sent + x137))]) (parts := [(0, .tmp 47), (1, .tmp 49), (2, .tmp 53)]) rfl (by kernel_rfl)) rfl (RP.s0 14 rfl (fun w => Vl.fa 2 underlying91 rfl sizeOf23 rfl rfl) rfl ?_))))))))))))))
      refine RP.s 0 15 rfl rfl hS (fun w hS => Vl.ld 4 hS isAgg23 rfl rfl rfl) rfl (RP.s0 16 rfl (fun w => Vl.fa 0 underlying265 rfl sizeOf3 rfl rfl) rfl (RP.s 0 17 rfl rfl hS (fun w hS => Vl.ld 0 hS isAgg3 rfl rfl rfl) rfl (RP.s 0 18 rfl rfl hS (fun w hS => Vl.indexAddr underlying23 sizeOf144 rfl rfl ((hr7.2.world hS.sub).adr hc185 hc186) hc185 hc186 rfl) rfl (RP.s0 19 rfl (fun w => Vl.fieldAddr (a'' := (ad A5).add (((nth a10 x137).Link).toNat * 4 + 1)) underlying144 rfl sizeOf3 rfl (add_add _ _ _)) rfl (RP.s 0 20 rfl rfl hS (fun w hS => Vl.load isAgg3 rfl ((hr7.2.world hS.sub).cell (j := 1) hc185 hc186 rfl)) rfl (RP.s0 21 rfl (fun w => Vl.fa 2 underlying265 rfl sizeOf2 rfl rfl) rfl (RP.s 0 22 rfl rfl hS (fun w hS => Vl.ld 0 hS isAgg2 rfl rfl rfl) rfl (pp 1 rfl (RP.v1 24 rfl (Vl.move rfl) rfl rfl (RP.v1 25 rfl (Vl.int rfl rfl rfl) rfl rfl (RP.v1 26 rfl (Vl.build (v := .agg #[.int .i64 (IntKind.i64.wrap (a9.Key.Time + ((nth a10 x137).Delay))), .int .i64 a1.Self, .int .i64 (IntKind.i64.wrap (a8.Sent + x137)), .int .i64 ((nth a1.Links ((nth a10 x137).Link)).To), .int .i64 ((nth a10 x137).Value), .int .i64 (IntKind.i64.wrap (a14 + x137)), .bool false]) (parts := [(0, .tmp 54), (1, .tmp 61), (2, .tmp 63), (3, .tmp 66)]) rfl (by kernel_rfl)) rfl rfl (RP.e 27 rfl (OW.buildSlice (E := E_api_Message) (xs := [(⟨(⟨IntKind.i64.wrap (a9.Key.Time + ((nth a10 x137).Delay)), a1.Self, IntKind.i64.wrap (a8.Sent + x137)⟩ : api_Key), (nth a1.Links ((nth a10 x137).Link)).To, (nth a10 x137).Value, IntKind.i64.wrap (a14 + x137), false⟩ : api_Message)]) (cs := [.int .i64 (IntKind.i64.wrap (a9.Key.Time + ((nth a10 x137).Delay))), .int .i64 a1.Self, .int .i64 (IntKind.i64.wrap (a8.Sent + x137)), .int .i64 ((nth a1.Links ((nth a10 x137).Link)).To), .int .i64 ((nth a10 x137).Value), .int .i64 (IntKind.i64.wrap (a14 + x137)), .bool false]) hS underlying39 zeroValue48 sizeOf48 (parts := [(0, .tmp 67)]) rfl rfl (by decide) (by decide) (by kernel_rfl) rfl) rfl rfl ?_))))))))))))
      rintro _ w ⟨b188, rfl, hS⟩
      refine ⟨kp ⟨(by intro hx; cases hx), trivial⟩, ?_⟩
      obtain ⟨hq189, h⟩ := h.req
      refine RP.e 28 rfl (OW.append (E := E_api_Message) (xs := l134) (ys := [(⟨(⟨IntKind.i64.wrap (a9.Key.Time + ((nth a10 x137).Delay)), a1.Self, IntKind.i64.wrap (a8.Sent + x137)⟩ : api_Key), (nth a1.Links ((nth a10 x137).Link)).To, (nth a10 x137).Value, IntKind.i64.wrap (a14 + x137), false⟩ : api_Message)]) 2 hS rfl underlying39 type48 rfl rfl rfl rfl (by decide) rfl rfl rfl (hS.slW 0 rfl).2.2.flat (by simp only [maxLen, List.length_cons, List.length_nil] at *; omega) hq189 rfl) rfl rfl ?_
      rintro v192 w hS
      obtain ⟨A190, c191, rfl, _⟩ := hS.osShape 0 rfl
      have hS : St B w (_ :: _ :: _ :: _ :: _ :: _ :: l) hf := hS
      refine ⟨kp ⟨(by intro hx; cases hx), trivial⟩, ?_⟩
      refine RP.v1 29 rfl (Vl.assign rfl) rfl rfl (RP.nil (RQ.inB_n (RQ.then_n (RC.region (pn 2 rfl (RL.nil ?_))))))
      exact fun a ha => ⟨((l134 ++ ([(⟨(⟨IntKind.i64.wrap (a9.Key.Time + ((nth a10 x137).Delay)), a1.Self, IntKind.i64.wrap (a8.Sent + x137)⟩ : api_Key), (nth a1.Links ((nth a10 x137).Link)).To, (nth a10 x137).Value, IntKind.i64.wrap (a14 + x137), false⟩ : api_Message)])), IntKind.i64.wrap (x137 + 1)), ⟨(l134 ++ ([(⟨(⟨IntKind.i64.wrap (a9.Key.Time + ((nth a10 x137).Delay)), a1.Self, IntKind.i64.wrap (a8.Sent + x137)⟩ : api_Key), (nth a1.Links ((nth a10 x137).Link)).To, (nth a10 x137).Value, IntKind.i64.wrap (a14 + x137), false⟩ : api_Message)])), (IntKind.i64.wrap (x137 + 1)), rfl, A190, c191, ha.to ⟨rfl, rfl, rfl, rfl, rfl, rfl, rfl, rfl, trivial⟩, hS.d1.d1⟩, h.some⟩
     refine RC.condF rfl (RC.skip (RQ.inB_n (RQ.then_n (RC.region (pn 2 rfl (RL.nil ?_))))))
     exact fun a ha => ⟨(l134, IntKind.i64.wrap (x137 + 1)), ⟨l134, (IntKind.i64.wrap (x137 + 1)), rfl, A135, c136, ha.to ⟨rfl, rfl, rfl, rfl, rfl, rfl, rfl, rfl, trivial⟩, hS.d0⟩, h.some⟩
    refine pn 8 rfl (ln (RC.condF rfl (RC.skip (RQ.inB_n (RQ.then_n (RC.region (pn 2 rfl (RL.nil ?_))))))))
    exact fun a ha => ⟨(l134, IntKind.i64.wrap (x137 + 1)), ⟨l134, (IntKind.i64.wrap (x137 + 1)), rfl, A135, c136, ha.to ⟨rfl, rfl, rfl, rfl, rfl, rfl, rfl, rfl, trivial⟩, hS.d0⟩, h.some⟩
   refine pn 16 rfl (ln (RC.condF rfl (RC.skip (RQ.inB_n (RQ.then_n (RC.region (pn 2 rfl (RL.nil ?_))))))))
   exact fun a ha => ⟨(l134, IntKind.i64.wrap (x137 + 1)), ⟨l134, (IntKind.i64.wrap (x137 + 1)), rfl, A135, c136, ha.to ⟨rfl, rfl, rfl, rfl, rfl, rfl, rfl, rfl, trivial⟩, hS.d0⟩, h.some⟩
  refine RC.condF rfl (RC.exit (RQ.exitT ?_))
  have h := h.inrS
  refine RQ.exitT (RQ.inB_hit (tsr (pn 2 rfl (lr ?_))))
  obtain rfl := h.some
  exact rt results123 rfl ⟨A135, c136, rfl, hS.d1.d1.d1⟩
def log_Log_run_1.l2b (a1 : api_Message) (a3 : (List api_Message)) : Int → Option ((Int) ⊕ (Int × Bool × List api_Message))
  | (x109) => (if x109 < (a3.length : Int) then (if 0 ≤ x109 then (if a1.Key = (nth a3 x109).Key then (if a1.To = (nth a3 x109).To then (if a1.Value = (nth a3 x109).Value then (if x109 ≤ (a3.length : Int) then (if 0 ≤ IntKind.i64.wrap (x109 + 1) ∧ IntKind.i64.wrap (x109 + 1) ≤ (a3.length : Int) then (if ((subL a3 0 x109).length + (subL a3 (IntKind.i64.wrap (x109 + 1)) (a3.length : Int)).length) * 56 ≤ 140737488355328 then some (.inr ((nth a3 x109).Uid, true, ((subL a3 0 x109) ++ (subL a3 (IntKind.i64.wrap (x109 + 1)) (a3.length : Int))))) else none) else none) else none) else some (.inl (IntKind.i64.wrap (x109 + 1)))) else some (.inl (IntKind.i64.wrap (x109 + 1)))) else some (.inl (IntKind.i64.wrap (x109 + 1)))) else none) else some (.inr (0, false, a3)))
def log_Log_run_1.l2 (a1 : api_Message) (a3 : (List api_Message)) (s : Int) : Option (Int × Bool × List api_Message) := loopR (log_Log_run_1.l2b a1 a3) s
def log_Log_run_1.f (a1 : api_Message) (a3 : (List api_Message)) : Option (Int × Bool × List api_Message) := log_Log_run_1.l2 a1 a3 (0)
theorem log_Log_run_1.ok {a1 : api_Message} {a3 : (List api_Message)} {b2 : Nat} {A4 : Option Addr} {c5 : Nat} {r : Int × Bool × List api_Message} (h : log_Log_run_1.f a1 a3 = some r) (hS : St B w (Cl b2 [.slice A4 a3.length c5] 39 :: OSf E_api_Message 48 (.slice A4 a3.length c5) a3 :: l) hf) :
    Calls prog 124 #[.agg (C_api_Message a1).toArray, .pointer (some ⟨b2, 0, none⟩)] w (Ret fun v w => ∃ (A_1 : Option Addr) (c_2 : Nat), v = .tuple #[.int .i64 r.1, .bool r.2.1] ∧ St B w (OSf E_api_Message 48 (.slice A_1 r.2.2.length c_2) r.2.2 :: Cl b2 [.slice A_1 r.2.2.length c_2] 39 :: l) hf) := by
  have h := Holds.of h
  refine en func124 rfl ntmps124 rfl (sr (bx hS rfl rfl rfl rfl fun b85 w hS => pn 2 rfl (ln (RC.seq (sr (RL.s (Vl.ld 1 hS isAgg39 rfl rfl rfl) rfl (RL.s (Vl.lenSl underlying39 rfl) rfl (pn 1 rfl (ln (RC.block ?_))))))))))
  refine fun a ha => RC.loop (N := 45) (body := (log_Log_run_1.l2b a1 a3)) (φ := (· = r)) (fun (s : Int) a w => ∃ (x109 : Int), s = (x109) ∧ Has 45 [(1, .pointer (some ⟨b2, 0, none⟩)), (2, .pointer (some ⟨b85, 0, none⟩)), (7, .slice A4 a3.length c5), (8, .int .i64 (a3.length : Int)), (9, .int .i64 x109)] a ∧ St B w (OSf E_api_Message 48 (.slice A4 a3.length c5) a3 :: Cl b85 (C_api_Message a1) 48 :: Cl b2 [.slice A4 a3.length c5] 39 :: l) hf) ?_ (s0 := (0)) h ⟨0, rfl, ha.to ⟨rfl, rfl, rfl, rfl, rfl, trivial⟩, hS.p2⟩
  rintro G137 x109 a w ⟨_, rfl, ha, hS⟩ h
  revert a
  show RC _ _ _ _ _ _
  refine sr (pn 1 rfl (ln (RC.seq ?_)))
  refine RC.iteP 10 rfl h (fun hc139 h => ?_) fun hc139 h => ?_
  next =>
   refine RC.condT rfl (sk (RC.seq (RC.block (sr (pn 1 rfl ?_)))))
   obtain ⟨hq152, h⟩ := h.req
   refine RL.s (Vl.indexOwn 0 hS rfl underlying39 sizeOf48 rfl rfl hq152 hc139) rfl (RL.s (Vl.loadA isAgg48 sizeOf48 rfl rfl ((hS.slW 0 rfl).2.2.cells hq152 hc139)) rfl (al hS zeroValue48 rfl rfl rfl fun b153 w hS => pn 1 rfl (RL.e0 (OW.store (vs := (C_api_Message (nth a3 x109))) 0 hS rfl rfl rfl rfl sizeOf48 rfl rfl rfl rfl) rfl ?_)))
   rintro _ w ⟨rfl, hS⟩
   have hS : St B w (Cl _ [_, _, _, _, _, _, _] _ :: _ :: _ :: _ :: l) hf := hS
   refine lnsr (RL.s (Vl.fa 0 underlying48 rfl sizeOf46 rfl rfl) rfl (RL.s (Vl.loadA (vs := (C_api_Key a1.Key)) isAgg46 sizeOf46 rfl rfl (hS.cellsAt 2 rfl rfl)) rfl (RL.s (Vl.fa 0 underlying48 rfl sizeOf46 rfl rfl) rfl (RL.s (Vl.loadA (vs := (C_api_Key ((nth a3 x109).Key))) isAgg46 sizeOf46 rfl rfl (hS.cellsAt 0 rfl rfl)) rfl (RL.s (Vl.eqlS (run_eql_api_Key _ _ a1.Key ((nth a3 x109).Key)) rfl rfl) rfl (pn 1 rfl ?_))))))
   refine RL.iteP 19 rfl h (fun hc154 h => ?_) fun hc154 h => ?_
   next =>
    refine RL.sg (Vl.fa 3 underlying48 rfl sizeOf3 rfl rfl) rfl rfl (RL.sg (Vl.ld 2 hS isAgg3 rfl rfl rfl) rfl rfl (RL.sg (Vl.fa 3 underlying48 rfl sizeOf3 rfl rfl) rfl rfl (RL.sg (Vl.ld 0 hS isAgg3 rfl rfl rfl) rfl rfl (pn 3 rfl ?_))))
    refine RL.iteP 26 rfl h (fun hc155 h => ?_) fun hc155 h => ?_
    next =>
     refine RL.sg (Vl.fa 4 underlying48 rfl sizeOf2 rfl rfl) rfl rfl (RL.sg (Vl.ld 2 hS isAgg2 rfl rfl rfl) rfl rfl (RL.sg (Vl.fa 4 underlying48 rfl sizeOf2 rfl rfl) rfl rfl (RL.sg (Vl.ld 0 hS isAgg2 rfl rfl rfl) rfl rfl (pn 2 rfl (ln ?_)))))
     refine RC.iteP 32 rfl h (fun hc156 h => ?_) fun hc156 h => ?_
     next =>
      refine RC.condT rfl (RC.seq (RC.planS (plD [1, 3, 6, 10, 13, 17, 20, 23, 26, 29]) [8, 9] hS (fun w hS => hS) follows rfl (by kernel_rfl) (NoTmp.then (NoTmp.block (NoTmp.then (NoTmp.then (NoTmp.block (NoTmp.then NoTmp.body)))))) fun w hS => RP.s 0 0 rfl rfl hS (fun w hS => Vl.ld 3 hS isAgg39 rfl rfl rfl) rfl (pp 2 rfl ?_)))
      obtain ⟨hq157, h⟩ := h.req
      refine RP.s 0 3 rfl rfl hS (fun w hS => Vl.slice3 (xs := a3) 1 hS rfl underlying39 sizeOf48 rfl rfl rfl hq152 hq157) rfl (RP.s 0 4 rfl rfl hS (fun w hS => Vl.ld 3 hS isAgg39 rfl rfl rfl) rfl (RP.v1 5 rfl (Vl.move rfl) rfl rfl (RP.v1 6 rfl (Vl.int rfl rfl rfl) rfl rfl ?_)))
      obtain ⟨⟨hq158, hq159⟩, h⟩ := h.req
      refine RP.v1 7 rfl (Vl.sliceLO (xs := a3) 1 hS rfl underlying39 sizeOf48 rfl rfl  hq158 hq159) rfl rfl ?_
      obtain ⟨hq160, h⟩ := h.req
      refine RP.e 8 rfl (OW.appendCut (E := E_api_Message) (xs := a3) (k := x109) (m := IntKind.i64.wrap (x109 + 1)) 1 hS rfl underlying39 type48 rfl rfl rfl rfl (by decide) (by decide) rfl rfl hq152 hq157 hq158 hq159 hq160 rfl) rfl rfl ?_
      rintro v163 w hS
      obtain ⟨A161, c162, rfl, _⟩ := hS.osShape 0 rfl
      have hS : St B w (_ :: _ :: _ :: _ :: l) hf := hS
      refine ⟨kp ⟨(by intro hx; cases hx), trivial⟩, ?_⟩
      refine RP.e0 9 rfl (OW.store (vs := [.slice A161 ((subL a3 0 x109) ++ (subL a3 (IntKind.i64.wrap (x109 + 1)) (a3.length : Int))).length c162]) 3 hS rfl rfl rfl rfl sizeOf39 rfl rfl rfl rfl) rfl ?_
      rintro _ w ⟨rfl, hS⟩
      have hS : St B w (_ :: _ :: _ :: Cl _ [_] _ :: l) hf := hS
      refine ⟨kp ⟨(by intro hx; cases hx), trivial⟩, ?_⟩
      refine RP.nil (tsr (RL.s (Vl.fa 5 underlying48 rfl sizeOf3 rfl rfl) rfl (RL.s (Vl.ld 1 hS isAgg3 rfl rfl rfl) rfl (pn 2 rfl (lr (RQ.inB_ret (RQ.ret ?_)))))))
      have h := h.inrS
      refine RQ.ret (RQ.inB_ret (RQ.ret ?_))
      obtain rfl := h.some
      exact rt results124 rfl ⟨A161, c162, rfl, hS.d1.d1⟩
     refine RC.condF rfl (RC.skip (RQ.inB_n (RQ.then_n (RC.region (pn 2 rfl (RL.nil ?_))))))
     exact fun a ha => ⟨(IntKind.i64.wrap (x109 + 1)), ⟨(IntKind.i64.wrap (x109 + 1)), rfl, ha.to ⟨rfl, rfl, rfl, rfl, rfl, trivial⟩, hS.d0⟩, h.some⟩
    refine pn 6 rfl (ln (RC.condF rfl (RC.skip (RQ.inB_n (RQ.then_n (RC.region (pn 2 rfl (RL.nil ?_))))))))
    exact fun a ha => ⟨(IntKind.i64.wrap (x109 + 1)), ⟨(IntKind.i64.wrap (x109 + 1)), rfl, ha.to ⟨rfl, rfl, rfl, rfl, rfl, trivial⟩, hS.d0⟩, h.some⟩
   refine pn 13 rfl (ln (RC.condF rfl (RC.skip (RQ.inB_n (RQ.then_n (RC.region (pn 2 rfl (RL.nil ?_))))))))
   exact fun a ha => ⟨(IntKind.i64.wrap (x109 + 1)), ⟨(IntKind.i64.wrap (x109 + 1)), rfl, ha.to ⟨rfl, rfl, rfl, rfl, rfl, trivial⟩, hS.d0⟩, h.some⟩
  refine RC.condF rfl (RC.exit (RQ.exitT ?_))
  have h := h.inrS
  refine RQ.exitT (RQ.inB_hit (tsr (pn 2 rfl (lr ?_))))
  obtain rfl := h.some
  exact rt results124 rfl ⟨A4, c5, rfl, hS.d1⟩
def log_Log_run.j32 (l593 : List api_Message) (x599 : Int) (y661 : List api_Message) (x665 x666 : Int) : Option ((Int × List api_Message × List api_Message × Int) ⊕ (log_done × api_State)) := some (.inl (x665, (setL l593 x599 (⟨(nth l593 x599).Key, (nth l593 x599).To, (nth l593 x599).Value, x666, (nth l593 x599).Anti⟩ : api_Message)), y661, IntKind.i64.wrap (x599 + 1)))
def log_Log_run.l30b (a3 : api_Message) (x397 x398 x399 x400 x401 x402 x403 x404 x405 x406 x410 : Int) (l440 : List api_Message) : Int × List api_Message × List api_Message × Int → Option ((Int × List api_Message × List api_Message × Int) ⊕ (log_done × api_State))
  | (x592, l593, l596, x599) => (if x599 < (l440.length : Int) then (if 0 ≤ x599 ∧ x599 < (l593.length : Int) then ((log_Log_run_1.f (nth l593 x599) l596).bind fun (y659, y660, y661) => (if y660 = true then log_Log_run.j32 l593 x599 y661 x592 y659 else log_Log_run.j32 l593 x599 y661 (IntKind.i64.wrap (x592 + 1)) x592)) else none) else some (.inr ((⟨a3, x410, l593, (⟨false, default⟩ : Pt api_State)⟩ : log_done), (⟨(⟨x397, x398, x399, x400, x401, x402, x403, x404⟩ : Arr8xInti64), x405, x406⟩ : api_State))))
def log_Log_run.l30 (a3 : api_Message) (x397 x398 x399 x400 x401 x402 x403 x404 x405 x406 x410 : Int) (l440 : List api_Message) (s : Int × List api_Message × List api_Message × Int) : Option (log_done × api_State) := loopR (log_Log_run.l30b a3 x397 x398 x399 x400 x401 x402 x403 x404 x405 x406 x410 l440) s
def log_Log_run.j18 (a3 : api_Message) (a4 : Int) (a5 : List api_Message) (x397 x398 x399 x400 x401 x402 x403 x404 x405 x406 x410 : Int) (l440 : List api_Message) : Option (log_done × api_State) := (if (([] : List api_Message).length + a5.length) * 56 ≤ 140737488355328 then log_Log_run.l30 a3 x397 x398 x399 x400 x401 x402 x403 x404 x405 x406 x410 l440 (a4, l440, (([] : List api_Message) ++ a5), 0) else none)
def log_Log_run.j17 (a2 : log_Log) (a3 : api_Message) (a4 : Int) (a5 : List api_Message) (x397 x398 x399 x400 x401 x402 x403 x404 x405 x406 : Int) (l407 : List api_Out) (x410 : Int) : Option (log_done × api_State) := ((vm_Sends.f a2.w a2.state a3 l407 0).bind fun t683 => log_Log_run.j18 a3 a4 a5 x397 x398 x399 x400 x401 x402 x403 x404 x405 x406 x410 t683)
def log_Log_run.f (a2 : log_Log) (a3 : api_Message) (a4 : Int) (a5 : List api_Message) : Option (log_done × api_State) := ((vm_Run.f a2.w a2.state a3).bind fun (y709, y710, y711) => log_Log_run.j17 a2 a3 a4 a5 y709.Regs.c0 y709.Regs.c1 y709.Regs.c2 y709.Regs.c3 y709.Regs.c4 y709.Regs.c5 y709.Regs.c6 y709.Regs.c7 y709.Draws y709.Sent y710 y711)
theorem log_Log_run.ok {a2 : log_Log} {a3 : api_Message} {a4 : Int} {a5 : List api_Message} {b1 : Nat} {A6 : Option Addr} {c7 : Nat} (hr8 : SlR E_api_Message.rep hf A6 c7 a5) (hG0 : GlobAt hf 0 (.iface 215 (.agg #[.pointer (some ⟨1, 108, none⟩)]))) {r : log_done × api_State} (h : log_Log_run.f a2 a3 a4 a5 = some r) (hS : St B w (O_log_Log hf a2 b1 :: l) hf) :
    Calls prog 99 #[.pointer (some ⟨b1, 0, none⟩), .agg (C_api_Message a3).toArray, .int .i64 a4, .slice A6 a5.length c7] w (Ret fun v w => ∃ (A_1 : Option Addr) (c_2 : Nat), v = .tuple #[.agg #[.int .i64 r.1.event.Key.Time, .int .i64 r.1.event.Key.From, .int .i64 r.1.event.Key.Seq, .int .i64 r.1.event.To, .int .i64 r.1.event.Value, .int .i64 r.1.event.Uid, .bool r.1.event.Anti, .int .i64 r.1.fault, .slice A_1 r.1.sent.length c_2, .pointer none], .agg (C_api_State r.2).toArray] ∧ St B w (OSf E_api_Message 48 (.slice A_1 r.1.sent.length c_2) r.1.sent :: O_log_Log hf a2 b1 :: l) hf) := by
  have h := Holds.of h
  refine en func99 rfl ntmps99 rfl (sr (bx hS rfl rfl rfl rfl fun b366 w hS => bx hS rfl rfl rfl rfl fun b367 w hS => al hS zeroValue176 rfl rfl rfl fun b368 w hS => al hS zeroValue70 rfl rfl rfl fun b369 w hS => ln ?_))
  refine RC.join (fun (s : Int × Int × Int × Int × Int × Int × Int × Int × Int × Int × List api_Out × Int) a w => ∃ (x397 : Int) (x398 : Int) (x399 : Int) (x400 : Int) (x401 : Int) (x402 : Int) (x403 : Int) (x404 : Int) (x405 : Int) (x406 : Int) (l407 : List api_Out) (x410 : Int), s = (x397, x398, x399, x400, x401, x402, x403, x404, x405, x406, l407, x410) ∧ ∃ (b396 : Nat) (A408 : Option Addr) (c409 : Nat), Has 79 [(0, .pointer (some ⟨b1, 0, none⟩)), (2, .int .i64 a4), (5, .pointer (some ⟨b366, 0, none⟩)), (7, .pointer (some ⟨b367, 0, none⟩)), (8, .pointer (some ⟨b368, 0, none⟩)), (9, .pointer (some ⟨b369, 0, none⟩)), (10, .pointer (some ⟨b396, 0, none⟩)), (11, .slice A408 l407.length c409), (12, .int .i64 x410)] a ∧ St B w (OSf E_api_Out 265 (.slice A408 l407.length c409) l407 :: O_log_Log hf a2 b1 :: Cl b369 [.int .i64 0, .int .i64 0, .int .i64 0, .int .i64 0, .int .i64 0, .int .i64 0, .int .i64 0, .int .i64 0, .int .i64 0, .int .i64 0] 70 :: Cl b368 [.int .i64 0, .int .i64 0, .int .i64 0, .int .i64 0, .int .i64 0, .int .i64 0, .bool false, .int .i64 0, .slice none 0 0, .pointer none] 176 :: Cl b367 [.slice A6 a5.length c7] 39 :: Cl b366 (C_api_Message a3) 48 :: Cl b396 [.int .i64 x397, .int .i64 x398, .int .i64 x399, .int .i64 x400, .int .i64 x401, .int .i64 x402, .int .i64 x403, .int .i64 x404, .int .i64 x405, .int .i64 x406] 70 :: l) hf ∧ Holds (· = r) (log_Log_run.j17 a2 a3 a4 a5 x397 x398 x399 x400 x401 x402 x403 x404 x405 x406 l407 x410)) ?_ ?_
  · rintro _ a w ⟨x397, x398, x399, x400, x401, x402, x403, x404, x405, x406, l407, x410, rfl, b396, A408, c409, ha, hS, h⟩
    revert a
    show RC _ _ _ _ _ _
    refine RC.join (fun (s : List api_Message) a w => ∃ (l440 : List api_Message), s = (l440) ∧ ∃ (b439 : Nat) (A441 : Option Addr) (c442 : Nat), Has 79 [(2, .int .i64 a4), (7, .pointer (some ⟨b367, 0, none⟩)), (8, .pointer (some ⟨b368, 0, none⟩)), (9, .pointer (some ⟨b369, 0, none⟩)), (10, .pointer (some ⟨b396, 0, none⟩)), (13, .pointer (some ⟨b439, 0, none⟩))] a ∧ St B w (OSf E_api_Message 48 (.slice A441 l440.length c442) l440 :: O_log_Log hf a2 b1 :: Cl b369 [.int .i64 0, .int .i64 0, .int .i64 0, .int .i64 0, .int .i64 0, .int .i64 0, .int .i64 0, .int .i64 0, .int .i64 0, .int .i64 0] 70 :: Cl b368 [.int .i64 0, .int .i64 0, .int .i64 0, .int .i64 0, .int .i64 0, .int .i64 0, .bool false, .int .i64 0, .slice none 0 0, .pointer none] 176 :: Cl b367 [.slice A6 a5.length c7] 39 :: Cl b396 [.int .i64 x397, .int .i64 x398, .int .i64 x399, .int .i64 x400, .int .i64 x401, .int .i64 x402, .int .i64 x403, .int .i64 x404, .int .i64 x405, .int .i64 x406] 70 :: Cl b439 [.int .i64 a3.Key.Time, .int .i64 a3.Key.From, .int .i64 a3.Key.Seq, .int .i64 a3.To, .int .i64 a3.Value, .int .i64 a3.Uid, .bool a3.Anti, .int .i64 x410, .slice A441 l440.length c442, .pointer none] 176 :: l) hf ∧ Holds (· = r) (log_Log_run.j18 a3 a4 a5 x397 x398 x399 x400 x401 x402 x403 x404 x405 x406 x410 l440)) ?_ ?_
    · rintro l440 a w ⟨_, rfl, b439, A441, c442, ha, hS, h⟩
      revert a
      show RC _ _ _ _ _ _
      refine sr (RL.s (Vl.ld 4 hS isAgg39 rfl rfl rfl) rfl ?_)
      obtain ⟨hq443, h⟩ := h.req
      have hS := hS.nilSl E_api_Message 48
      refine RL.e (OW.appendV (E := E_api_Message) (xs := ([] : List api_Message)) (ys := a5) 0 hS rfl underlying39 type48 rfl rfl rfl rfl (by decide) (by decide) rfl rfl (hr8.2.world hS.sub) hq443 rfl) rfl rfl ?_
      rintro v446 w hS
      obtain ⟨A444, c445, rfl, _⟩ := hS.osShape 0 rfl
      have hS : St B w (_ :: _ :: _ :: _ :: _ :: _ :: _ :: _ :: l) hf := hS
      refine RL.e0 (OW.store (vs := [.slice A444 (([] : List api_Message) ++ a5).length c445]) 5 hS rfl rfl rfl rfl sizeOf39 rfl rfl rfl rfl) rfl ?_
      rintro _ w ⟨rfl, hS⟩
      have hS : St B w (_ :: _ :: _ :: _ :: _ :: Cl _ [_] _ :: _ :: _ :: l) hf := hS
      refine lnsr (RL.s (Vl.makeFunc (fi := []) (ca := [.tmp 7]) rfl rfl) rfl (pn 1 rfl (ln (RC.seq (sr (RL.s (Vl.fa 8 underlying176 rfl sizeOf39 rfl rfl) rfl (RL.s (Vl.ld 7 hS isAgg39 rfl rfl rfl) rfl (RL.s (Vl.lenSl underlying39 rfl) rfl (pn 1 rfl (RL.nil ?_))))))))))
      refine RQ.then_n (RC.block ?_)
      refine fun a ha => RC.loop (N := 79) (body := (log_Log_run.l30b a3 x397 x398 x399 x400 x401 x402 x403 x404 x405 x406 x410 l440)) (φ := (· = r)) (fun (s : Int × List api_Message × List api_Message × Int) a w => ∃ (x592 : Int) (l593 : List api_Message) (l596 : List api_Message) (x599 : Int), s = (x592, l593, l596, x599) ∧ ∃ (A594 : Option Addr) (c595 : Nat) (A597 : Option Addr) (c598 : Nat), Has 79 [(2, .int .i64 x592), (8, .pointer (some ⟨b368, 0, none⟩)), (9, .pointer (some ⟨b369, 0, none⟩)), (10, .pointer (some ⟨b396, 0, none⟩)), (13, .pointer (some ⟨b439, 0, none⟩)), (14, .func (.func 124) #[] #[.pointer (some ⟨b367, 0, none⟩)]), (51, .int .i64 (l440.length : Int)), (52, .int .i64 x599)] a ∧ St B w (OSf E_api_Message 48 (.slice A594 l593.length c595) l593 :: OSf E_api_Message 48 (.slice A597 l596.length c598) l596 :: O_log_Log hf a2 b1 :: Cl b369 [.int .i64 0, .int .i64 0, .int .i64 0, .int .i64 0, .int .i64 0, .int .i64 0, .int .i64 0, .int .i64 0, .int .i64 0, .int .i64 0] 70 :: Cl b368 [.int .i64 0, .int .i64 0, .int .i64 0, .int .i64 0, .int .i64 0, .int .i64 0, .bool false, .int .i64 0, .slice none 0 0, .pointer none] 176 :: Cl b367 [.slice A597 l596.length c598] 39 :: Cl b396 [.int .i64 x397, .int .i64 x398, .int .i64 x399, .int .i64 x400, .int .i64 x401, .int .i64 x402, .int .i64 x403, .int .i64 x404, .int .i64 x405, .int .i64 x406] 70 :: Cl b439 [.int .i64 a3.Key.Time, .int .i64 a3.Key.From, .int .i64 a3.Key.Seq, .int .i64 a3.To, .int .i64 a3.Value, .int .i64 a3.Uid, .bool a3.Anti, .int .i64 x410, .slice A594 l593.length c595, .pointer none] 176 :: l) hf) ?_ (s0 := (a4, l440, (([] : List api_Message) ++ a5), 0)) h ⟨a4, l440, (([] : List api_Message) ++ a5), 0, rfl, A441, c442, A444, c445, ha.to ⟨rfl, rfl, rfl, rfl, rfl, rfl, rfl, rfl, trivial⟩, hS.p1⟩
      rintro G638 _ a w ⟨x592, l593, l596, x599, rfl, A594, c595, A597, c598, ha, hS⟩ h
      revert a
      show RC _ _ _ _ _ _
      refine sr (pn 1 rfl (ln (RC.seq ?_)))
      refine RC.iteP 53 rfl h (fun hc640 h => ?_) fun hc640 h => ?_
      next =>
       refine RC.condT rfl (sk (RC.seq (RC.block (sr (pn 2 rfl (lnsr (pn 1 rfl (RL.s (Vl.fa 8 underlying176 rfl sizeOf39 rfl rfl) rfl (RL.s (Vl.ld 7 hS isAgg39 rfl rfl rfl) rfl (pn 1 rfl ?_))))))))))
       obtain ⟨⟨hq655, hq656⟩, h⟩ := h.req
       refine RL.s (Vl.indexOwn 0 hS rfl underlying39 sizeOf48 rfl rfl hq655 hq656) rfl (RL.s (Vl.loadA isAgg48 sizeOf48 rfl rfl ((hS.slW 0 rfl).2.2.cells hq655 hq656)) rfl ?_)
       obtain ⟨t657, hg658, h⟩ := h.bind
       have hc := log_Log_run_1.ok hg658 hS.p1.p5
       obtain ⟨y659, y660, y661⟩ := t657
       refine RL.e (OW.call (ls := [.tmp 61]) rfl rfl call124 rfl hc) rfl rfl ?_
       rintro _ w ⟨A662, c663, rfl, hS⟩
       refine pn 5 rfl (ln ?_)
       refine RC.join (fun (s : Int × Int) a w => ∃ (x665 : Int) (x666 : Int), s = (x665, x666) ∧ Has 79 [(2, .int .i64 x665), (8, .pointer (some ⟨b368, 0, none⟩)), (9, .pointer (some ⟨b369, 0, none⟩)), (10, .pointer (some ⟨b396, 0, none⟩)), (13, .pointer (some ⟨b439, 0, none⟩)), (14, .func (.func 124) #[] #[.pointer (some ⟨b367, 0, none⟩)]), (15, .int .i64 x599), (16, .int .i64 x666), (51, .int .i64 (l440.length : Int)), (52, .int .i64 x599)] a ∧ St B w (OSf E_api_Message 48 (.slice A594 l593.length c595) l593 :: OSf E_api_Message 48 (.slice A662 y661.length c663) y661 :: Cl b367 [.slice A662 y661.length c663] 39 :: O_log_Log hf a2 b1 :: Cl b369 [.int .i64 0, .int .i64 0, .int .i64 0, .int .i64 0, .int .i64 0, .int .i64 0, .int .i64 0, .int .i64 0, .int .i64 0, .int .i64 0] 70 :: Cl b368 [.int .i64 0, .int .i64 0, .int .i64 0, .int .i64 0, .int .i64 0, .int .i64 0, .bool false, .int .i64 0, .slice none 0 0, .pointer none] 176 :: Cl b396 [.int .i64 x397, .int .i64 x398, .int .i64 x399, .int .i64 x400, .int .i64 x401, .int .i64 x402, .int .i64 x403, .int .i64 x404, .int .i64 x405, .int .i64 x406] 70 :: Cl b439 [.int .i64 a3.Key.Time, .int .i64 a3.Key.From, .int .i64 a3.Key.Seq, .int .i64 a3.To, .int .i64 a3.Value, .int .i64 a3.Uid, .bool a3.Anti, .int .i64 x410, .slice A594 l593.length c595, .pointer none] 176 :: l) hf ∧ Holds (Sum.elim G638 (· = r)) (log_Log_run.j32 l593 x599 y661 x665 x666)) ?_ ?_
       · rintro _ a w ⟨x665, x666, rfl, ha, hS, h⟩
         revert a
         show RC _ _ _ _ _ _
         refine RC.region (RL.s (Vl.fa 8 underlying176 rfl sizeOf39 rfl rfl) rfl (RL.s (Vl.ld 7 hS isAgg39 rfl rfl rfl) rfl (pn 2 rfl (RL.s (Vl.indexOwn 0 hS rfl underlying39 sizeOf48 rfl rfl hq655 hq656) rfl (RL.s (Vl.fieldAddr (a'' := (ad A594).add (x599.toNat * 7 + 5)) underlying48 rfl sizeOf3 rfl (add_add _ _ _)) rfl (RL.e0 (OW.storeOwn (E := E_api_Message) (off := 5) (j := x599) (x' := (⟨(nth l593 x599).Key, (nth l593 x599).To, (nth l593 x599).Value, x666, (nth l593 x599).Anti⟩ : api_Message)) (vs := [.int .i64 x666]) 0 hS rfl rfl rfl rfl sizeOf3 rfl (Nat.succ_pos _) hq655 hq656 (Nat.le_of_ble_eq_true rfl) rfl rfl) rfl ?_))))))
         rintro _ w ⟨rfl, hS⟩
         have he667 := (hS.osN 0 rfl).1
         have hS : St B w (_ :: _ :: _ :: _ :: _ :: _ :: _ :: _ :: l) hf := (congrArg (fun k_ : Nat => St B w (OSf E_api_Message 48 (.slice A594 k_ c595) (setL l593 x599 (⟨(nth l593 x599).Key, (nth l593 x599).To, (nth l593 x599).Value, x666, (nth l593 x599).Anti⟩ : api_Message)) :: OSf E_api_Message 48 (.slice A662 y661.length c663) y661 :: Cl b367 [.slice A662 y661.length c663] 39 :: O_log_Log hf a2 b1 :: Cl b369 [.int .i64 0, .int .i64 0, .int .i64 0, .int .i64 0, .int .i64 0, .int .i64 0, .int .i64 0, .int .i64 0, .int .i64 0, .int .i64 0] 70 :: Cl b368 [.int .i64 0, .int .i64 0, .int .i64 0, .int .i64 0, .int .i64 0, .int .i64 0, .bool false, .int .i64 0, .slice none 0 0, .pointer none] 176 :: Cl b396 [.int .i64 x397, .int .i64 x398, .int .i64 x399, .int .i64 x400, .int .i64 x401, .int .i64 x402, .int .i64 x403, .int .i64 x404, .int .i64 x405, .int .i64 x406] 70 :: Cl b439 [.int .i64 a3.Key.Time, .int .i64 a3.Key.From, .int .i64 a3.Key.Seq, .int .i64 a3.To, .int .i64 a3.Value, .int .i64 a3.Uid, .bool a3.Anti, .int .i64 x410, .slice A594 k_ c595, .pointer none] 176 :: l) hf) he667).mp hS
         refine RL.re 71 rfl (congrArg (fun k_ : Nat => (.slice A594 k_ c595 : Value)) he667) (RL.nil (RQ.inB_n (RQ.then_n (RC.region (pn 2 rfl (RL.nil ?_))))))
         exact fun a ha => ⟨(x665, (setL l593 x599 (⟨(nth l593 x599).Key, (nth l593 x599).To, (nth l593 x599).Value, x666, (nth l593 x599).Anti⟩ : api_Message)), y661, IntKind.i64.wrap (x599 + 1)), ⟨x665, (setL l593 x599 (⟨(nth l593 x599).Key, (nth l593 x599).To, (nth l593 x599).Value, x666, (nth l593 x599).Anti⟩ : api_Message)), y661, (IntKind.i64.wrap (x599 + 1)), rfl, A594, c595, A662, c663, ha.to ⟨rfl, rfl, rfl, rfl, rfl, rfl, rfl, rfl, trivial⟩, hS.p5.p5.p5.p4.p4⟩, h.some⟩
       refine sr (pn 2 rfl (ln ?_))
       refine RC.iteM 66 rfl h (fun hc668 h => ?_) fun hc668 h => ?_
       next =>
        refine RC.condF rfl (RC.skip ?_)
        exact fun a ha => ⟨(x592, y659), x592, y659, rfl, ha.to ⟨rfl, rfl, rfl, rfl, rfl, rfl, rfl, rfl, rfl, rfl, trivial⟩, hS.p2, h⟩
       refine RC.condT rfl (sr (pn 2 rfl (ln (RC.region (pn 3 rfl (RL.nil ?_))))))
       exact fun a ha => ⟨(IntKind.i64.wrap (x592 + 1), x592), (IntKind.i64.wrap (x592 + 1)), x592, rfl, ha.to ⟨rfl, rfl, rfl, rfl, rfl, rfl, rfl, rfl, rfl, rfl, trivial⟩, hS.p2, h⟩
      refine RC.condF rfl (RC.exit (RQ.exitT ?_))
      have h := h.inrS
      refine RQ.exitT (RQ.inB_hit (RQ.then_n (RC.seq (RC.planS (plD [1, 4, 8, 11]) [3] hS (fun w hS => hS.d4) follows rfl (by kernel_rfl) (NoTmp.then NoTmp.body) fun w hS => RP.s 0 0 rfl rfl hS.d4 (fun w hS => Vl.lw 6 hS isAgg176 sizeOf176 rfl rfl rfl) rfl (RP.s 0 1 rfl rfl hS.d4 (fun w hS => Vl.lw 5 hS isAgg70 sizeOf70 rfl rfl rfl) rfl (RP.e0 2 rfl (OW.store (vs := [.int .i64 a3.Key.Time, .int .i64 a3.Key.From, .int .i64 a3.Key.Seq, .int .i64 a3.To, .int .i64 a3.Value, .int .i64 a3.Uid, .bool a3.Anti, .int .i64 x410, .slice A594 l593.length c595, .pointer none]) 4 hS rfl rfl rfl rfl sizeOf176 rfl rfl rfl rfl) rfl ?_))))))
      rintro _ w ⟨rfl, hS⟩
      have hS : St B w (_ :: _ :: _ :: _ :: Cl _ [_, _, _, _, _, _, _, _, _, _] _ :: _ :: _ :: _ :: l) hf := hS
      refine ⟨kp ⟨fun _ => hS.d4, trivial⟩, ?_⟩
      refine RP.e0 3 rfl (OW.store (vs := [.int .i64 x397, .int .i64 x398, .int .i64 x399, .int .i64 x400, .int .i64 x401, .int .i64 x402, .int .i64 x403, .int .i64 x404, .int .i64 x405, .int .i64 x406]) 3 hS rfl rfl rfl rfl sizeOf70 rfl rfl rfl rfl) rfl ?_
      rintro _ w ⟨rfl, hS⟩
      have hS : St B w (_ :: _ :: _ :: Cl _ [_, _, _, _, _, _, _, _, _, _] _ :: _ :: _ :: _ :: _ :: l) hf := hS
      refine ⟨kp ⟨(by intro hx; cases hx), trivial⟩, ?_⟩
      refine RP.nil (tr ?_)
      obtain rfl := h.some
      refine RQ.ret0 (vs := [.agg #[.int .i64 a3.Key.Time, .int .i64 a3.Key.From, .int .i64 a3.Key.Seq, .int .i64 a3.To, .int .i64 a3.Value, .int .i64 a3.Uid, .bool a3.Anti, .int .i64 x410, .slice A594 l593.length c595, .pointer none], .agg #[.int .i64 x397, .int .i64 x398, .int .i64 x399, .int .i64 x400, .int .i64 x401, .int .i64 x402, .int .i64 x403, .int .i64 x404, .int .i64 x405, .int .i64 x406]]) results99 ⟨⟨_, rfl, run_loadVarA (vs := [.int .i64 a3.Key.Time, .int .i64 a3.Key.From, .int .i64 a3.Key.Seq, .int .i64 a3.To, .int .i64 a3.Value, .int .i64 a3.Uid, .bool a3.Anti, .int .i64 x410, .slice A594 l593.length c595, .pointer none]) isAgg176 sizeOf176 rfl (hS.cellsAt 4 rfl rfl)⟩, ⟨_, rfl, run_loadVarA (vs := [.int .i64 x397, .int .i64 x398, .int .i64 x399, .int .i64 x400, .int .i64 x401, .int .i64 x402, .int .i64 x403, .int .i64 x404, .int .i64 x405, .int .i64 x406]) isAgg70 sizeOf70 rfl (hS.cellsAt 3 rfl rfl)⟩, trivial⟩ ?_
      exact ⟨A594, c595, rfl, hS.d1.d2.d2.d2.d2.d2⟩
    obtain ⟨A669, c670, A672, c673, A675, c676, cs677, hr671, hr674, hx678, hS⟩ := O_log_Log.o hS.p1
    refine RC.planS (.early 0 0 (.pure 1 (.pure 2 (.pure 3 (.pure 4 (.early 5 0 (.pure 6 (.pure 7 (.pure 8 (.early 9 0 (.early 10 0 (.pure 11 (.fork 12 14 (.pure 13 (.last 14 (.last 15 .nil))) (.last 12 (.last 13 (.last 15 .nil)))))))))))))))) [15] hS (fun w hS => hS) follows rfl (by kernel_rfl) (NoTmp.then NoTmp.body) fun w hS => RP.s 0 0 rfl rfl hS (fun w hS => Vl.lw 6 hS isAgg48 sizeOf48 rfl rfl rfl) rfl (pp 3 rfl (RP.s0 4 rfl (fun w => Vl.fa 0 underlying150 rfl sizeOf91 rfl rfl) rfl (RP.s 0 5 rfl rfl hS (fun w hS => Vl.loadA (vs := (C_api_World a2.w A669 c670 A672 c673)) isAgg91 sizeOf91 rfl rfl (hS.cellsAt 0 rfl rfl)) rfl (pp 2 rfl (RP.s0 8 rfl (fun w => Vl.fa 5 underlying150 rfl sizeOf70 rfl rfl) rfl (RP.s 0 9 rfl rfl hS (fun w hS => Vl.loadA (vs := (C_api_State a2.state)) isAgg70 sizeOf70 rfl rfl (hS.cellsAt 0 rfl rfl)) rfl (RP.s 0 10 rfl rfl hS (fun w hS => Vl.lw 6 hS isAgg48 sizeOf48 rfl rfl rfl) rfl (pp 1 rfl ?_))))))))
    refine RP.fork ?_ ?_
    · obtain ⟨hf682, hs680, hS, hr679, hb681⟩ := St.lendSl hS.p2
      obtain ⟨t683, hg684, h⟩ := h.bind
      have hc := vm_Sends.ok (hr671.mono hs680) (hr674.mono hs680) hr679 hg684 hS
      refine RPW.e 12 rfl (OW.callF (ls := [.tmp 37, .tmp 41, .tmp 42, .tmp 43, .const (.int .i64 0)]) rfl call123 hc) rfl rfl ?_
      rintro _ w ⟨A685, c686, rfl, hS⟩
      have hS := hb681 _ _ hS
      have hS : St B w (_ :: _ :: _ :: _ :: _ :: _ :: _ :: _ :: _ :: l) hf := hS
      refine ⟨kp ⟨fun _ => hS.d1.p2.p2, trivial⟩, ?_⟩
      refine RP.s0 13 rfl (fun w => Vl.build (v := .agg #[.int .i64 a3.Key.Time, .int .i64 a3.Key.From, .int .i64 a3.Key.Seq, .int .i64 a3.To, .int .i64 a3.Value, .int .i64 a3.Uid, .bool a3.Anti, .int .i64 x410, .slice A685 t683.length c686, .pointer none]) (parts := [(0, .tmp 32), (1, .tmp 33), (2, .tmp 44)]) rfl (by kernel_rfl)) rfl (RP.e 14 rfl (OW.alloc (cs := [.int .i64 0, .int .i64 0, .int .i64 0, .int .i64 0, .int .i64 0, .int .i64 0, .bool false, .int .i64 0, .slice none 0 0, .pointer none]) hS zeroValue176 rfl) rfl rfl ?_)
      rintro _ w ⟨b687, rfl, hS⟩
      refine ⟨kp ⟨fun _ => hS.d0.d1.p2.p2, trivial⟩, ?_⟩
      refine RP.e0 15 rfl (OW.store (vs := [.int .i64 a3.Key.Time, .int .i64 a3.Key.From, .int .i64 a3.Key.Seq, .int .i64 a3.To, .int .i64 a3.Value, .int .i64 a3.Uid, .bool a3.Anti, .int .i64 x410, .slice A685 t683.length c686, .pointer none]) 0 hS rfl rfl rfl rfl sizeOf176 rfl rfl rfl rfl) rfl ?_
      rintro _ w ⟨rfl, hS⟩
      have hS : St B w (Cl _ [_, _, _, _, _, _, _, _, _, _] _ :: _ :: _ :: _ :: _ :: _ :: _ :: _ :: _ :: _ :: l) hf := hS
      refine ⟨kp ⟨(by intro hx; cases hx), trivial⟩, ?_⟩
      refine RP.nil ?_
      have hS := O_log_Log.c (x := a2) hr671 hr674 hx678 hS.p4.p4
      exact fun a ha => ⟨(t683), t683, rfl, b687, A685, c686, ha.to ⟨rfl, rfl, rfl, rfl, rfl, rfl, trivial⟩, hS.d2.d6.p6.p6.p6.p6.p4.p6, h⟩
    · refine RPW.e 14 rfl (OW.alloc (cs := [.int .i64 0, .int .i64 0, .int .i64 0, .int .i64 0, .int .i64 0, .int .i64 0, .bool false, .int .i64 0, .slice none 0 0, .pointer none]) hS zeroValue176 rfl) rfl rfl ?_
      rintro _ w ⟨b688, rfl, hS⟩
      refine ⟨kp ⟨fun _ => hS.d0, trivial⟩, ?_⟩
      obtain ⟨hf692, hs690, hS, hr689, hb691⟩ := St.lendSl hS.p3
      obtain ⟨t693, hg694, h⟩ := h.bind
      have hc := vm_Sends.ok (hr671.mono hs690) (hr674.mono hs690) hr689 hg694 hS
      refine RP.e 12 rfl (OW.callF (ls := [.tmp 37, .tmp 41, .tmp 42, .tmp 43, .const (.int .i64 0)]) rfl call123 hc) rfl rfl ?_
      rintro _ w ⟨A695, c696, rfl, hS⟩
      have hS := hb691 _ _ hS
      have hS : St B w (_ :: _ :: _ :: _ :: _ :: _ :: _ :: _ :: _ :: _ :: l) hf := hS
      refine ⟨kp ⟨fun _ => hS.d1.d1.p2.p2, trivial⟩, ?_⟩
      refine RP.v1 13 rfl (Vl.build (v := .agg #[.int .i64 a3.Key.Time, .int .i64 a3.Key.From, .int .i64 a3.Key.Seq, .int .i64 a3.To, .int .i64 a3.Value, .int .i64 a3.Uid, .bool a3.Anti, .int .i64 x410, .slice A695 t693.length c696, .pointer none]) (parts := [(0, .tmp 32), (1, .tmp 33), (2, .tmp 44)]) rfl (by kernel_rfl)) rfl rfl (RP.e0 15 rfl (OW.store (vs := [.int .i64 a3.Key.Time, .int .i64 a3.Key.From, .int .i64 a3.Key.Seq, .int .i64 a3.To, .int .i64 a3.Value, .int .i64 a3.Uid, .bool a3.Anti, .int .i64 x410, .slice A695 t693.length c696, .pointer none]) 2 hS rfl rfl rfl rfl sizeOf176 rfl rfl rfl rfl) rfl ?_)
      rintro _ w ⟨rfl, hS⟩
      have hS : St B w (_ :: _ :: Cl _ [_, _, _, _, _, _, _, _, _, _] _ :: _ :: _ :: _ :: _ :: _ :: _ :: _ :: l) hf := hS
      refine ⟨kp ⟨(by intro hx; cases hx), trivial⟩, ?_⟩
      refine RP.nil ?_
      have hS := O_log_Log.c (x := a2) hr671 hr674 hx678 hS.p4.p4
      exact fun a ha => ⟨(t693), t693, rfl, b688, A695, c696, ha.to ⟨rfl, rfl, rfl, rfl, rfl, rfl, trivial⟩, hS.d1.d6.p6.p6.p6.p6.p4.p5, h⟩
  obtain ⟨A697, c698, A700, c701, A703, c704, cs705, hr699, hr702, hx706, hS⟩ := O_log_Log.o hS.p4
  refine RC.planS (.pure 0 (.pure 1 (.pure 2 (.early 3 0 (.pure 4 (.pure 5 (.pure 6 (.early 7 0 (.early 8 0 (.fork 9 14 (.pure 10 (.pure 11 (.pure 12 (.pure 13 (.last 14 (.last 15 (.last 16 (.last 17 .nil)))))))) (.last 9 (.pure 10 (.pure 11 (.pure 12 (.pure 13 (.last 15 (.last 16 (.last 17 .nil)))))))))))))))))) [15, 16, 17] hS (fun w hS => hS) follows rfl (by kernel_rfl) (NoTmp.then NoTmp.body) fun w hS => pp 2 rfl (RP.s0 2 rfl (fun w => Vl.fa 0 underlying150 rfl sizeOf91 rfl rfl) rfl (RP.s 0 3 rfl rfl hS (fun w hS => Vl.loadA (vs := (C_api_World a2.w A697 c698 A700 c701)) isAgg91 sizeOf91 rfl rfl (hS.cellsAt 0 rfl rfl)) rfl (pp 2 rfl (RP.s0 6 rfl (fun w => Vl.fa 5 underlying150 rfl sizeOf70 rfl rfl) rfl (RP.s 0 7 rfl rfl hS (fun w hS => Vl.loadA (vs := (C_api_State a2.state)) isAgg70 sizeOf70 rfl rfl (hS.cellsAt 0 rfl rfl)) rfl (RP.s 0 8 rfl rfl hS (fun w hS => Vl.lw 5 hS isAgg48 sizeOf48 rfl rfl rfl) rfl ?_))))))
  refine RP.fork ?_ ?_
  · obtain ⟨t707, hg708, h⟩ := h.bind
    have hc := vm_Run.ok hr699 hr702 hG0 hg708 hS
    obtain ⟨y709, y710, y711⟩ := t707
    refine RPW.e 9 rfl (OW.callF (ls := [.tmp 22, .tmp 26, .tmp 27]) rfl call122 hc) rfl rfl ?_
    rintro _ w ⟨A712, c713, rfl, hS⟩
    refine ⟨kp ⟨fun _ => hS.d0, trivial⟩, ?_⟩
    refine pp 4 rfl (RP.e 14 rfl (OW.alloc (cs := [.int .i64 0, .int .i64 0, .int .i64 0, .int .i64 0, .int .i64 0, .int .i64 0, .int .i64 0, .int .i64 0, .int .i64 0, .int .i64 0]) hS zeroValue70 rfl) rfl rfl ?_)
    rintro _ w ⟨b714, rfl, hS⟩
    refine ⟨kp ⟨fun _ => hS.d0.d0, trivial⟩, ?_⟩
    refine RP.e0 15 rfl (OW.store (vs := (C_api_State y709)) 0 hS rfl rfl rfl rfl sizeOf70 rfl rfl rfl rfl) rfl ?_
    rintro _ w ⟨rfl, hS⟩
    have hS : St B w (Cl _ [_, _, _, _, _, _, _, _, _, _] _ :: _ :: _ :: _ :: _ :: _ :: _ :: _ :: l) hf := hS
    refine ⟨kp ⟨(by intro hx; cases hx), trivial⟩, ?_⟩
    refine RP.v1 16 rfl (Vl.assign rfl) rfl rfl (RP.v1 17 rfl (Vl.assign rfl) rfl rfl (RP.nil ?_))
    have hS := O_log_Log.c (x := a2) hr699 hr702 hx706 hS.p3.p3
    exact fun a ha => ⟨(y709.Regs.c0, y709.Regs.c1, y709.Regs.c2, y709.Regs.c3, y709.Regs.c4, y709.Regs.c5, y709.Regs.c6, y709.Regs.c7, y709.Draws, y709.Sent, y710, y711), y709.Regs.c0, y709.Regs.c1, y709.Regs.c2, y709.Regs.c3, y709.Regs.c4, y709.Regs.c5, y709.Regs.c6, y709.Regs.c7, y709.Draws, y709.Sent, y710, y711, rfl, b714, A712, c713, ha.to ⟨rfl, rfl, rfl, rfl, rfl, rfl, rfl, rfl, rfl, trivial⟩, hS.p6.p6.p6.p6.p4.p6, h⟩
  · refine RPW.e 14 rfl (OW.alloc (cs := [.int .i64 0, .int .i64 0, .int .i64 0, .int .i64 0, .int .i64 0, .int .i64 0, .int .i64 0, .int .i64 0, .int .i64 0, .int .i64 0]) hS zeroValue70 rfl) rfl rfl ?_
    rintro _ w ⟨b715, rfl, hS⟩
    refine ⟨kp ⟨fun _ => hS.d0, trivial⟩, ?_⟩
    obtain ⟨t716, hg717, h⟩ := h.bind
    have hc := vm_Run.ok hr699 hr702 hG0 hg717 hS
    obtain ⟨y718, y719, y720⟩ := t716
    refine RP.e 9 rfl (OW.callF (ls := [.tmp 22, .tmp 26, .tmp 27]) rfl call122 hc) rfl rfl ?_
    rintro _ w ⟨A721, c722, rfl, hS⟩
    refine ⟨kp ⟨fun _ => hS.d0.d0, trivial⟩, ?_⟩
    refine pp 4 rfl (RP.e0 15 rfl (OW.store (vs := (C_api_State y718)) 1 hS rfl rfl rfl rfl sizeOf70 rfl rfl rfl rfl) rfl ?_)
    rintro _ w ⟨rfl, hS⟩
    have hS : St B w (_ :: Cl _ [_, _, _, _, _, _, _, _, _, _] _ :: _ :: _ :: _ :: _ :: _ :: _ :: l) hf := hS
    refine ⟨kp ⟨(by intro hx; cases hx), trivial⟩, ?_⟩
    refine RP.v1 16 rfl (Vl.assign rfl) rfl rfl (RP.v1 17 rfl (Vl.assign rfl) rfl rfl (RP.nil ?_))
    have hS := O_log_Log.c (x := a2) hr699 hr702 hx706 hS.p3.p3
    exact fun a ha => ⟨(y718.Regs.c0, y718.Regs.c1, y718.Regs.c2, y718.Regs.c3, y718.Regs.c4, y718.Regs.c5, y718.Regs.c6, y718.Regs.c7, y718.Draws, y718.Sent, y719, y720), y718.Regs.c0, y718.Regs.c1, y718.Regs.c2, y718.Regs.c3, y718.Regs.c4, y718.Regs.c5, y718.Regs.c6, y718.Regs.c7, y718.Draws, y718.Sent, y719, y720, rfl, b715, A721, c722, ha.to ⟨rfl, rfl, rfl, rfl, rfl, rfl, rfl, rfl, rfl, trivial⟩, hS.p6.p6.p6.p6.p4.p5, h⟩
def log_Log_Try.f (a2 : log_Log) (a3 : api_Message) (a4 : Int) (a5 : List api_Message) : Option (api_Entry × Int) := ((log_Log_none.f a2).bind fun t54 => (if t54 = true then some ((⟨(⟨(⟨0, 0, 0⟩ : api_Key), 0, 0, 0, false⟩ : api_Message), (⟨(⟨0, 0, 0, 0, 0, 0, 0, 0⟩ : Arr8xInti64), 0, 0⟩ : api_State), 0, ([] : List api_Message)⟩ : api_Entry), 7) else ((log_Log_may.f a2 a3 a4).bind fun t60 => (if t60 = 0 then ((log_Log_run.f a2 a3 a4 a5).bind fun (y65, y66) => ((log_done_entry.f ({ y65 with ahead := (⟨false, default⟩ : Pt api_State) } : log_done) a2.state).bind fun t85 => some (t85, 0))) else some ((⟨(⟨(⟨0, 0, 0⟩ : api_Key), 0, 0, 0, false⟩ : api_Message), (⟨(⟨0, 0, 0, 0, 0, 0, 0, 0⟩ : Arr8xInti64), 0, 0⟩ : api_State), 0, ([] : List api_Message)⟩ : api_Entry), t60)))))
theorem log_Log_Try.ok {a2 : log_Log} {a3 : api_Message} {a4 : Int} {a5 : List api_Message} {b1 : Nat} {A6 : Option Addr} {c7 : Nat} (hr8 : SlR E_api_Message.rep hf A6 c7 a5) (hG0 : GlobAt hf 0 (.iface 215 (.agg #[.pointer (some ⟨1, 108, none⟩)]))) {r : api_Entry × Int} (h : log_Log_Try.f a2 a3 a4 a5 = some r) (hS : St B w (O_log_Log hf a2 b1 :: l) hf) :
    Calls prog 51 #[.pointer (some ⟨b1, 0, none⟩), .agg (C_api_Message a3).toArray, .int .i64 a4, .slice A6 a5.length c7] w (Ret fun v w => ∃ (A_1 : Option Addr) (c_2 : Nat), v = .tuple #[.agg (C_api_Entry r.1 A_1 c_2).toArray, .int .i64 r.2] ∧ St B w (OSf E_api_Message 48 (.slice A_1 r.1.Sent.length c_2) r.1.Sent :: O_log_Log hf a2 b1 :: l) hf) := by
  have h := Holds.of h
  refine en func51 rfl ntmps51 rfl (sr (bx hS rfl rfl rfl rfl fun b49 w hS => al hS zeroValue79 rfl rfl rfl fun b50 w hS => pn 1 rfl (ln (RC.seq (sr (pn 1 rfl (cF (fun _ hg => log_Log_none.ok hg hS.p2) call94 h rfl rfl rfl ?_)))))))
  rintro t54 h _ w ⟨rfl, hS⟩
  refine ln ?_
  refine RC.iteB 14 rfl h (fun hc56 h => ?_) fun hc56 h => ?_
  next =>
   refine RC.condT rfl (sr (RL.s (Vl.build (v := .agg #[.int .i64 0, .int .i64 0, .int .i64 0, .int .i64 0, .int .i64 0, .int .i64 0, .bool false, .int .i64 0, .int .i64 0, .int .i64 0, .int .i64 0, .int .i64 0, .int .i64 0, .int .i64 0, .int .i64 0, .int .i64 0, .int .i64 0, .int .i64 0, .slice none 0 0]) (parts := []) rfl (by kernel_rfl)) rfl (RL.e0 (OW.store (vs := [.int .i64 0, .int .i64 0, .int .i64 0, .int .i64 0, .int .i64 0, .int .i64 0, .bool false, .int .i64 0, .int .i64 0, .int .i64 0, .int .i64 0, .int .i64 0, .int .i64 0, .int .i64 0, .int .i64 0, .int .i64 0, .int .i64 0, .int .i64 0, .slice none 0 0]) 1 hS rfl rfl rfl rfl sizeOf79 rfl rfl rfl rfl) rfl ?_)))
   rintro _ w ⟨rfl, hS⟩
   have hS : St B w (_ :: Cl _ [_, _, _, _, _, _, _, _, _, _, _, _, _, _, _, _, _, _, _] _ :: _ :: l) hf := hS
   refine pn 1 rfl (lr (RQ.ret ?_))
   have hS := hS.nilSl E_api_Message 48
   obtain rfl := h.some
   refine RQ.ret0 (vs := [.agg #[.int .i64 0, .int .i64 0, .int .i64 0, .int .i64 0, .int .i64 0, .int .i64 0, .bool false, .int .i64 0, .int .i64 0, .int .i64 0, .int .i64 0, .int .i64 0, .int .i64 0, .int .i64 0, .int .i64 0, .int .i64 0, .int .i64 0, .int .i64 0, .slice none 0 0], .int .i64 7]) results51 ⟨⟨_, rfl, run_loadVarA (vs := [.int .i64 0, .int .i64 0, .int .i64 0, .int .i64 0, .int .i64 0, .int .i64 0, .bool false, .int .i64 0, .int .i64 0, .int .i64 0, .int .i64 0, .int .i64 0, .int .i64 0, .int .i64 0, .int .i64 0, .int .i64 0, .int .i64 0, .int .i64 0, .slice none 0 0]) isAgg79 sizeOf79 rfl (hS.cellsAt 2 rfl rfl)⟩, rfl, trivial⟩ ?_
   exact ⟨none, 0, rfl, hS.d2.d2⟩
  refine RC.condF rfl (sk (RC.seq (sr (pn 1 rfl (RL.s (Vl.lw 2 hS isAgg48 sizeOf48 rfl rfl rfl) rfl (pn 1 rfl (cF (fun _ hg => log_Log_may.ok hg hS) call98 h rfl rfl rfl ?_)))))))
  rintro t60 h _ w ⟨rfl, hS⟩
  refine pn 1 rfl (lnsr (pn 2 rfl (ln ?_)))
  refine RC.iteN 21 rfl h (fun hc62 h => ?_) fun hc62 h => ?_
  next =>
   refine RC.condF rfl (sk (sr (pn 1 rfl (RL.s (Vl.lw 2 hS isAgg48 sizeOf48 rfl rfl rfl) rfl (pn 2 rfl (cF (fun _ hg => log_Log_run.ok hr8 hG0 hg hS) call99 h rfl rfl rfl ?_))))))
   rintro ⟨y65, y66⟩ h _ w ⟨A67, c68, rfl, hS⟩
   refine pn 3 rfl (al hS zeroValue176 rfl rfl rfl fun b69 w hS => al hS zeroValue70 rfl rfl rfl fun b70 w hS => RL.e0 (OW.store (vs := [.int .i64 y65.event.Key.Time, .int .i64 y65.event.Key.From, .int .i64 y65.event.Key.Seq, .int .i64 y65.event.To, .int .i64 y65.event.Value, .int .i64 y65.event.Uid, .bool y65.event.Anti, .int .i64 y65.fault, .slice A67 y65.sent.length c68, .pointer none]) 1 hS rfl rfl rfl rfl sizeOf176 rfl rfl rfl rfl) rfl ?_)
   rintro _ w ⟨rfl, hS⟩
   have hS : St B w (_ :: Cl _ [_, _, _, _, _, _, _, _, _, _] _ :: _ :: _ :: _ :: _ :: l) hf := hS
   refine RL.e0 (OW.store (vs := (C_api_State y66)) 0 hS rfl rfl rfl rfl sizeOf70 rfl rfl rfl rfl) rfl ?_
   rintro _ w ⟨rfl, hS⟩
   have hS : St B w (Cl _ [_, _, _, _, _, _, _, _, _, _] _ :: _ :: _ :: _ :: _ :: _ :: l) hf := hS
   refine ln (RC.seq ?_)
   obtain ⟨A71, c72, A74, c75, A77, c78, cs79, hr73, hr76, hx80, hS⟩ := O_log_Log.o hS.p3
   refine RC.planS (plD [1, 5, 8, 11, 14, 17, 20, 23]) [5, 6, 7] hS (fun w hS => hS) follows rfl (by kernel_rfl) (NoTmp.then NoTmp.body) fun w hS => RP.s 0 0 rfl rfl hS (fun w hS => Vl.lw 3 hS isAgg176 sizeOf176 rfl rfl rfl) rfl (RP.v1 1 rfl (Vl.move rfl) rfl rfl (RP.v1 2 rfl (Vl.nilCheck rfl) rfl rfl (RP.v1 3 rfl (Vl.fa 5 underlying150 rfl sizeOf70 rfl rfl) rfl rfl (RP.v1 4 rfl (Vl.loadA (vs := (C_api_State a2.state)) isAgg70 sizeOf70 rfl rfl (hS.cellsAt 0 rfl rfl)) rfl rfl ?_))))
   obtain ⟨hf84, hs82, hS, hr81, hb83⟩ := St.lendSl hS.p4
   obtain ⟨t85, hg86, h⟩ := h.bind
   have hc := log_done_entry.ok (a1 := ({ y65 with ahead := (⟨false, default⟩ : Pt api_State) } : log_done)) hr81 ((PtR.nil (b := 0)).mono hs82) hg86 hS
   refine RP.e 5 rfl (OW.callF (ls := [.tmp 32, .tmp 36]) rfl call96 hc) rfl rfl ?_
   rintro _ w ⟨A87, c88, rfl, hS⟩
   have hS := hb83 _ _ hS
   have hS : St B w (_ :: _ :: _ :: _ :: _ :: _ :: _ :: _ :: l) hf := hS
   refine ⟨kp ⟨(by intro hx; cases hx), trivial⟩, ?_⟩
   refine RP.e0 6 rfl (OW.store (vs := (C_api_Entry t85 A87 c88)) 6 hS rfl rfl rfl rfl sizeOf79 rfl rfl rfl rfl) rfl ?_
   rintro _ w ⟨rfl, hS⟩
   have hS : St B w (_ :: _ :: _ :: _ :: _ :: _ :: Cl _ [_, _, _, _, _, _, _, _, _, _, _, _, _, _, _, _, _, _, _] _ :: _ :: l) hf := hS
   refine ⟨kp ⟨(by intro hx; cases hx), trivial⟩, ?_⟩
   refine RP.v1 7 rfl (Vl.assign rfl) rfl rfl (RP.nil (tr ?_))
   have hS := O_log_Log.c (x := a2) hr73 hr76 hx80 hS.p3.p3
   obtain rfl := h.some
   refine RQ.ret0 (vs := [.agg (C_api_Entry t85 A87 c88).toArray, .int .i64 0]) results51 ⟨⟨_, rfl, run_loadVarA (vs := (C_api_Entry t85 A87 c88)) isAgg79 sizeOf79 rfl (hS.cellsAt 5 rfl rfl)⟩, rfl, trivial⟩ ?_
   exact ⟨A87, c88, rfl, hS.d1.d2.d2.d2.d2.p1⟩
  refine RC.condT rfl (sr (RL.s (Vl.build (v := .agg #[.int .i64 0, .int .i64 0, .int .i64 0, .int .i64 0, .int .i64 0, .int .i64 0, .bool false, .int .i64 0, .int .i64 0, .int .i64 0, .int .i64 0, .int .i64 0, .int .i64 0, .int .i64 0, .int .i64 0, .int .i64 0, .int .i64 0, .int .i64 0, .slice none 0 0]) (parts := []) rfl (by kernel_rfl)) rfl (pn 1 rfl (RL.e0 (OW.store (vs := [.int .i64 0, .int .i64 0, .int .i64 0, .int .i64 0, .int .i64 0, .int .i64 0, .bool false, .int .i64 0, .int .i64 0, .int .i64 0, .int .i64 0, .int .i64 0, .int .i64 0, .int .i64 0, .int .i64 0, .int .i64 0, .int .i64 0, .int .i64 0, .slice none 0 0]) 1 hS rfl rfl rfl rfl sizeOf79 rfl rfl rfl rfl) rfl ?_))))
  rintro _ w ⟨rfl, hS⟩
  have hS : St B w (_ :: Cl _ [_, _, _, _, _, _, _, _, _, _, _, _, _, _, _, _, _, _, _] _ :: _ :: l) hf := hS
  refine pn 1 rfl (lr (RQ.ret ?_))
  have hS := hS.nilSl E_api_Message 48
  obtain rfl := h.some
  refine RQ.ret0 (vs := [.agg #[.int .i64 0, .int .i64 0, .int .i64 0, .int .i64 0, .int .i64 0, .int .i64 0, .bool false, .int .i64 0, .int .i64 0, .int .i64 0, .int .i64 0, .int .i64 0, .int .i64 0, .int .i64 0, .int .i64 0, .int .i64 0, .int .i64 0, .int .i64 0, .slice none 0 0], .int .i64 t60]) results51 ⟨⟨_, rfl, run_loadVarA (vs := [.int .i64 0, .int .i64 0, .int .i64 0, .int .i64 0, .int .i64 0, .int .i64 0, .bool false, .int .i64 0, .int .i64 0, .int .i64 0, .int .i64 0, .int .i64 0, .int .i64 0, .int .i64 0, .int .i64 0, .int .i64 0, .int .i64 0, .int .i64 0, .slice none 0 0]) isAgg79 sizeOf79 rfl (hS.cellsAt 2 rfl rfl)⟩, rfl, trivial⟩ ?_
  exact ⟨none, 0, rfl, hS.d2.d2⟩
def lane_Lane_fits.j23 (x905 : Int) (l989 : List (Int × Int)) : Option ((List (Int × Int) × Int) ⊕ ((lane_refusal) ⊕ (Unit))) := some (.inl (l989, IntKind.i64.wrap (x905 + 1)))
def lane_Lane_fits.j30 (a2 : lane_Lane) (l904 : List (Int × Int)) (x1156 x1319 : Int) : Option ((Int) ⊕ ((lane_refusal) ⊕ (Unit))) := (if 0 ≤ nth a2.ways x1156 ∧ nth a2.ways x1156 < (a2.m.Links.length : Int) then (if 0 < (mget l904 ((nth a2.m.Links (nth a2.ways x1156)).To)).getD 0 then (if x1319 < (mget l904 ((nth a2.m.Links (nth a2.ways x1156)).To)).getD 0 then some (.inr (.inl (⟨181⟩ : lane_refusal))) else some (.inl (IntKind.i64.wrap (x1156 + 1)))) else some (.inl (IntKind.i64.wrap (x1156 + 1)))) else none)
def lane_Lane_fits.l28b (a2 : lane_Lane) (a7 : List Int) (l904 : List (Int × Int)) : Int → Option ((Int) ⊕ ((lane_refusal) ⊕ (Unit)))
  | (x1156) => (if x1156 < (a2.ways.length : Int) then (if 0 ≤ x1156 then (if x1156 < (a7.length : Int) then lane_Lane_fits.j30 a2 l904 x1156 (nth a7 x1156) else lane_Lane_fits.j30 a2 l904 x1156 0) else none) else some (.inr (.inr (()))))
def lane_Lane_fits.l28 (a2 : lane_Lane) (a7 : List Int) (l904 : List (Int × Int)) (s : Int) : Option ((lane_refusal) ⊕ (Unit)) := loopR (lane_Lane_fits.l28b a2 a7 l904) s
def lane_Lane_fits.l22b (a2 : lane_Lane) (a3 : List api_Message) (a7 : List Int) : List (Int × Int) × Int → Option ((List (Int × Int) × Int) ⊕ ((lane_refusal) ⊕ (Unit)))
  | (l904, x905) => (if x905 < (a3.length : Int) then (if 0 ≤ x905 then (if a2.uid ≤ (nth a3 x905).Uid then lane_Lane_fits.j23 x905 (mset l904 ((nth a3 x905).To) (IntKind.i64.wrap (((mget l904 ((nth a3 x905).To)).getD 0) + 1))) else lane_Lane_fits.j23 x905 l904) else none) else (Option.map Sum.inr (lane_Lane_fits.l28 a2 a7 l904 (0))))
def lane_Lane_fits.l22 (a2 : lane_Lane) (a3 : List api_Message) (a7 : List Int) (s : List (Int × Int) × Int) : Option ((lane_refusal) ⊕ (Unit)) := loopR (lane_Lane_fits.l22b a2 a3 a7) s
def lane_Lane_fits.f (a2 : lane_Lane) (a3 : List api_Message) (a7 : List Int) : Option ((lane_refusal) ⊕ (Unit)) := lane_Lane_fits.l22 a2 a3 a7 (([] : List (Int × Int)), 0)
theorem lane_Lane_fits.ok {a2 : lane_Lane} {a3 : List api_Message} {a7 : List Int} {b1 : Nat} {A4 : Option Addr} {c5 : Nat} {A8 : Option Addr} {c9 : Nat} (hr6 : SlR E_api_Message.rep hf A4 c5 a3) (hr10 : SlR ((FI .i64).rep) hf A8 c9 a7) {r : (lane_refusal) ⊕ (Unit)} (h : lane_Lane_fits.f a2 a3 a7 = some r) (hS : St B w (O_lane_Lane hf a2 b1 :: l) hf) :
    Calls prog 52 #[.pointer (some ⟨b1, 0, none⟩), .slice A4 a3.length c5, .slice A8 a7.length c9] w (Ret fun v w => match (generalizing := false) r with | .inl r_ => v = .iface 179 (.agg #[.int .i64 r_.why]) ∧ St B w (O_lane_Lane hf a2 b1 :: l) hf | .inr (r_) => v = .nilIface ∧ St B w (O_lane_Lane hf a2 b1 :: l) hf) := by
  have h := Holds.of h
  refine en func52 rfl ntmps52 rfl (sr (pn 1 rfl (lnsr (RL.e (OW.makeMapF (kv := (Value.int .i64)) (vv := (Value.int .i64)) hS) rfl rfl ?_))))
  rintro _ w ⟨b690, rfl, hS⟩
  refine pn 1 rfl (ln (RC.seq (sr (pn 1 rfl (RL.s (Vl.lenSl underlying39 rfl) rfl (pn 1 rfl (ln (RC.block ?_))))))))
  refine fun a ha => RC.loop (N := 73) (body := (lane_Lane_fits.l22b a2 a3 a7)) (φ := (· = r)) (fun (s : List (Int × Int) × Int) a w => ∃ (l904 : List (Int × Int)) (x905 : Int), s = (l904, x905) ∧ Has 73 [(0, .pointer (some ⟨b1, 0, none⟩)), (2, .slice A8 a7.length c9), (7, .map (some b690)), (15, .slice A4 a3.length c5), (16, .int .i64 (a3.length : Int)), (17, .int .i64 x905)] a ∧ St B w (MapF (Value.int .i64) (Value.int .i64) b690 l904 :: O_lane_Lane hf a2 b1 :: l) hf) ?_ (s0 := (([] : List (Int × Int)), 0)) h ⟨([] : List (Int × Int)), 0, rfl, ha.to ⟨rfl, rfl, rfl, rfl, rfl, rfl, trivial⟩, hS⟩
  rintro G961 _ a w ⟨l904, x905, rfl, ha, hS⟩ h
  revert a
  show RC _ _ _ _ _ _
  refine sr (pn 1 rfl (ln (RC.seq ?_)))
  refine RC.iteP 18 rfl h (fun hc963 h => ?_) fun hc963 h => ?_
  next =>
   refine RC.condT rfl (sk ?_)
   refine RC.join (fun (s : List (Int × Int)) a w => ∃ (l989 : List (Int × Int)), s = (l989) ∧ Has 73 [(0, .pointer (some ⟨b1, 0, none⟩)), (2, .slice A8 a7.length c9), (7, .map (some b690)), (15, .slice A4 a3.length c5), (16, .int .i64 (a3.length : Int)), (17, .int .i64 x905)] a ∧ St B w (O_lane_Lane hf a2 b1 :: MapF (Value.int .i64) (Value.int .i64) b690 l989 :: l) hf ∧ Holds (Sum.elim G961 (· = r)) (lane_Lane_fits.j23 x905 l989)) ?_ ?_
   · rintro l989 a w ⟨_, rfl, ha, hS, h⟩
     revert a
     show RC _ _ _ _ _ _
     refine RC.region (pn 2 rfl (RL.nil ?_))
     exact fun a ha => ⟨(l989, IntKind.i64.wrap (x905 + 1)), ⟨l989, (IntKind.i64.wrap (x905 + 1)), rfl, ha.to ⟨rfl, rfl, rfl, rfl, rfl, rfl, trivial⟩, hS.p1⟩, h.some⟩
   refine RC.block (sr ?_)
   obtain ⟨hq992, h⟩ := h.req
   refine RL.s (Vl.indexAddr underlying39 sizeOf48 rfl rfl ((hr6.2.world hS.sub).adr hq992 hc963) hq992 hc963 rfl) rfl (RL.s (Vl.loadA isAgg48 sizeOf48 rfl rfl ((hr6.2.world hS.sub).cells hq992 hc963)) rfl (al hS zeroValue48 rfl rfl rfl fun b993 w hS => RL.e0 (OW.store (vs := (C_api_Message (nth a3 x905))) 0 hS rfl rfl rfl rfl sizeOf48 rfl rfl rfl rfl) rfl ?_))
   rintro _ w ⟨rfl, hS⟩
   have hS : St B w (Cl _ [_, _, _, _, _, _, _] _ :: _ :: _ :: l) hf := hS
   refine ln (RC.seq ?_)
   obtain ⟨A994, c995, A997, c998, A1000, c1001, A1003, c1004, b1006, b1007, A1008, c1009, A1010, c1011, b1012, b1013, hr996, hr999, hr1002, hr1005, hS⟩ := O_lane_Lane.o hS.p2
   refine RC.planS (plD [0, 4, 8, 11, 14, 17, 20]) [6] hS (fun w hS => hS) follows rfl (by kernel_rfl) (NoTmp.then (NoTmp.block (NoTmp.then (NoTmp.then (NoTmp.block (NoTmp.then NoTmp.body)))))) fun w hS => RP.s0 0 rfl (fun w => Vl.fa 5 underlying48 rfl sizeOf3 rfl rfl) rfl (RP.s 0 1 rfl rfl hS (fun w hS => Vl.ld 7 hS isAgg3 rfl rfl rfl) rfl (RP.v1 2 rfl (Vl.move rfl) rfl rfl (RP.v1 3 rfl (Vl.nilCheck rfl) rfl rfl (RP.v1 4 rfl (Vl.fa 17 underlying61 rfl sizeOf3 rfl rfl) rfl rfl (RP.v1 5 rfl (Vl.ld 0 hS isAgg3 rfl rfl rfl) rfl rfl (RP.v1 6 rfl (Vl.int rfl rfl rfl) rfl rfl (RP.nil (RQ.then_n ?_))))))))
   refine RC.iteP 27 rfl h (fun hc1014 h => ?_) fun hc1014 h => ?_
   next =>
    refine RC.condT rfl (RC.region (pn 1 rfl (RL.s (Vl.fa 3 underlying48 rfl sizeOf3 rfl rfl) rfl (RL.s (Vl.ld 7 hS isAgg3 rfl rfl rfl) rfl (RL.s (Vl.lookupF (k := (nth a3 x905).To) (z := 0) 8 hS rfl (KeyOK.int underlying3) underlying184 zeroValue3 rfl rfl) rfl (pn 1 rfl (RL.e0 (OW.mapUpdF (k := (nth a3 x905).To) (v := IntKind.i64.wrap (((mget l904 ((nth a3 x905).To)).getD 0) + 1)) 8 hS rfl (KeyOK.int underlying3) underlying184 rfl rfl rfl rfl) rfl ?_)))))))
    rintro _ w ⟨rfl, hS⟩
    have hS : St B w (_ :: _ :: _ :: _ :: _ :: _ :: _ :: _ :: _ :: l) hf := hS
    refine RL.nil (RQ.inB_n ?_)
    have hS := O_lane_Lane.c (x := a2) hr996 hr999 hr1002 hr1005 hS.p7.p7.p7.p7.p7.p7.p7
    exact fun a ha => ⟨((mset l904 ((nth a3 x905).To) (IntKind.i64.wrap (((mget l904 ((nth a3 x905).To)).getD 0) + 1)))), (mset l904 ((nth a3 x905).To) (IntKind.i64.wrap (((mget l904 ((nth a3 x905).To)).getD 0) + 1))), rfl, ha.to ⟨rfl, rfl, rfl, rfl, rfl, rfl, trivial⟩, hS.d2, h⟩
   refine RC.condF rfl (RC.skip (RQ.inB_n ?_))
   have hS := O_lane_Lane.c (x := a2) hr996 hr999 hr1002 hr1005 hS
   exact fun a ha => ⟨(l904), l904, rfl, ha.to ⟨rfl, rfl, rfl, rfl, rfl, rfl, trivial⟩, hS.d1, h⟩
  refine RC.condF rfl (RC.exit (RQ.exitT ?_))
  have h := h.inr
  refine RQ.exitT (RQ.inB_hit (RQ.then_n (RC.seq (sr (pn 2 rfl (RL.s (Vl.fa 10 underlying61 rfl sizeOf37 rfl rfl) rfl ?_))))))
  obtain ⟨A1035, c1036, A1038, c1039, A1041, c1042, A1044, c1045, b1047, b1048, A1049, c1050, A1051, c1052, b1053, b1054, hr1037, hr1040, hr1043, hr1046, hS⟩ := O_lane_Lane.o hS.p1
  refine RL.s (Vl.ld 0 hS isAgg37 rfl rfl rfl) rfl (RL.s (Vl.lenSl underlying37 rfl) rfl (pn 1 rfl (ln (RC.block ?_))))
  have hS := O_lane_Lane.c (x := a2) hr1037 hr1040 hr1043 hr1046 hS
  refine fun a ha => RC.loop (N := 73) (body := (lane_Lane_fits.l28b a2 a7 l904)) (φ := (· = r)) (fun (s : Int) a w => ∃ (x1156 : Int), s = (x1156) ∧ Has 73 [(0, .pointer (some ⟨b1, 0, none⟩)), (2, .slice A8 a7.length c9), (7, .map (some b690)), (37, .slice A1044 a2.ways.length c1045), (38, .int .i64 (a2.ways.length : Int)), (39, .int .i64 x1156)] a ∧ St B w (O_lane_Lane hf a2 b1 :: MapF (Value.int .i64) (Value.int .i64) b690 l904 :: l) hf) ?_ (s0 := (0)) h ⟨0, rfl, ha.to ⟨rfl, rfl, rfl, rfl, rfl, rfl, trivial⟩, hS⟩
  rintro G1262 x1156 a w ⟨_, rfl, ha, hS⟩ h
  revert a
  show RC _ _ _ _ _ _
  refine sr (pn 1 rfl (ln (RC.seq ?_)))
  refine RC.iteP 40 rfl h (fun hc1264 h => ?_) fun hc1264 h => ?_
  next =>
   refine RC.condT rfl (sk (RC.seq (RC.block (sr (pn 1 rfl ?_)))))
   obtain ⟨hq1317, h⟩ := h.req
   refine RL.s (Vl.indexAddr underlying37 sizeOf3 rfl rfl ((hr1046.2.world hS.sub).adr hq1317 hc1264) hq1317 hc1264 rfl) rfl (RL.s (Vl.load isAgg3 rfl ((hr1046.2.world hS.sub).cell (j := 0) hq1317 hc1264 rfl)) rfl (pn 2 rfl (lnsr (pn 1 rfl (ln ?_)))))
   refine RC.join (fun (s : Int) a w => ∃ (x1319 : Int), s = (x1319) ∧ Has 73 [(0, .pointer (some ⟨b1, 0, none⟩)), (2, .slice A8 a7.length c9), (7, .map (some b690)), (11, .int .i64 (nth a2.ways x1156)), (12, .int .i64 x1319), (37, .slice A1044 a2.ways.length c1045), (38, .int .i64 (a2.ways.length : Int)), (39, .int .i64 x1156)] a ∧ St B w (O_lane_Lane hf a2 b1 :: MapF (Value.int .i64) (Value.int .i64) b690 l904 :: l) hf ∧ Holds (Sum.elim G1262 (· = r)) (lane_Lane_fits.j30 a2 l904 x1156 x1319)) ?_ ?_
   · rintro x1319 a w ⟨_, rfl, ha, hS, h⟩
     revert a
     show RC _ _ _ _ _ _
     refine sr (pn 3 rfl (RL.s (Vl.fa 0 underlying61 rfl sizeOf27 rfl rfl) rfl (RL.s (Vl.fa 1 underlying27 rfl sizeOf23 rfl rfl) rfl ?_)))
     obtain ⟨A1342, c1343, A1345, c1346, A1348, c1349, A1351, c1352, b1354, b1355, A1356, c1357, A1358, c1359, b1360, b1361, hr1344, hr1347, hr1350, hr1353, hS⟩ := O_lane_Lane.o hS
     refine RL.s (Vl.ld 0 hS isAgg23 rfl rfl rfl) rfl (pn 1 rfl ?_)
     obtain ⟨⟨hq1362, hq1363⟩, h⟩ := h.req
     refine RL.s (Vl.indexAddr underlying23 sizeOf144 rfl rfl ((hr1347.2.world hS.sub).adr hq1362 hq1363) hq1362 hq1363 rfl) rfl (RL.s (Vl.fieldAddr (a'' := (ad A1345).add ((nth a2.ways x1156).toNat * 4 + 1)) underlying144 rfl sizeOf3 rfl (add_add _ _ _)) rfl (RL.s (Vl.load isAgg3 rfl ((hr1347.2.world hS.sub).cell (j := 1) hq1362 hq1363 rfl)) rfl (RL.s (Vl.lookupF (k := (nth a2.m.Links (nth a2.ways x1156)).To) (z := 0) 7 hS rfl (KeyOK.int underlying3) underlying184 zeroValue3 rfl rfl) rfl (pn 1 rfl (lnsr (pn 3 rfl ?_))))))
     refine RL.iteP 65 rfl h (fun hc1364 h => ?_) fun hc1364 h => ?_
     next =>
      refine pn 4 rfl (ln ?_)
      refine RC.iteP 69 rfl h (fun hc1365 h => ?_) fun hc1365 h => ?_
      next =>
       refine RC.condT rfl (sr (RL.s (Vl.build (v := .agg #[.int .i64 181]) (parts := [(0, .const (.int .i64 181))]) rfl (by kernel_rfl)) rfl (RL.s (Vl.makeIface underlying179 rfl rfl) rfl (pn 1 rfl (lr (RQ.inB_ret (RQ.ret ?_)))))))
       have h := h.inrS
       refine RQ.ret (RQ.inB_ret (RQ.ret ?_))
       have hS := O_lane_Lane.c (x := a2) hr1344 hr1347 hr1350 hr1353 hS
       obtain rfl := h.some
       exact rt results52 rfl ⟨rfl, hS.d1⟩
      refine RC.condF rfl (RC.skip (RQ.inB_n (RQ.then_n (RC.region (pn 2 rfl (RL.nil ?_))))))
      have hS := O_lane_Lane.c (x := a2) hr1344 hr1347 hr1350 hr1353 hS
      exact fun a ha => ⟨(IntKind.i64.wrap (x1156 + 1)), ⟨(IntKind.i64.wrap (x1156 + 1)), rfl, ha.to ⟨rfl, rfl, rfl, rfl, rfl, rfl, trivial⟩, hS⟩, h.some⟩
     refine pn 4 rfl (ln (RC.condF rfl (RC.skip (RQ.inB_n (RQ.then_n (RC.region (pn 2 rfl (RL.nil ?_))))))))
     have hS := O_lane_Lane.c (x := a2) hr1344 hr1347 hr1350 hr1353 hS
     exact fun a ha => ⟨(IntKind.i64.wrap (x1156 + 1)), ⟨(IntKind.i64.wrap (x1156 + 1)), rfl, ha.to ⟨rfl, rfl, rfl, rfl, rfl, rfl, trivial⟩, hS⟩, h.some⟩
   refine sr (pn 2 rfl (RL.s (Vl.lenSl underlying37 rfl) rfl (pn 1 rfl (ln ?_))))
   refine RC.iteP 47 rfl h (fun hc1366 h => ?_) fun hc1366 h => ?_
   next =>
    refine RC.condT rfl (RC.region (pn 2 rfl (RL.s (Vl.indexAddr underlying37 sizeOf3 rfl rfl ((hr10.2.world hS.sub).adr hq1317 hc1366) hq1317 hc1366 rfl) rfl (RL.s (Vl.load isAgg3 rfl ((hr10.2.world hS.sub).cell (j := 0) hq1317 hc1366 rfl)) rfl (pn 1 rfl (RL.nil ?_))))))
    exact fun a ha => ⟨(nth a7 x1156), (nth a7 x1156), rfl, ha.to ⟨rfl, rfl, rfl, rfl, rfl, rfl, rfl, rfl, trivial⟩, hS, h⟩
   refine RC.condF rfl (RC.skip ?_)
   exact fun a ha => ⟨(0), 0, rfl, ha.to ⟨rfl, rfl, rfl, rfl, rfl, rfl, rfl, rfl, trivial⟩, hS, h⟩
  refine RC.condF rfl (RC.exit (RQ.exitT ?_))
  have h := h.inrS
  refine RQ.exitT (RQ.inB_hit (tsr (pn 1 rfl (lr ?_))))
  obtain rfl := h.some
  exact rt results52 rfl ⟨rfl, hS.d1⟩
def log_Log_due.l2b (a2 : log_Log) : Int → Option ((Int) ⊕ (Bool))
  | (x188) => (if x188 < (a2.l.length : Int) then (if 0 ≤ IntKind.i64.wrap ((IntKind.i64.wrap ((a2.l.length : Int) - 1)) - x188) ∧ IntKind.i64.wrap ((IntKind.i64.wrap ((a2.l.length : Int) - 1)) - x188) < (a2.l.length : Int) then (if ((nth a2.l (IntKind.i64.wrap ((IntKind.i64.wrap ((a2.l.length : Int) - 1)) - x188))).ahead).has = true then some (.inr (decide (a2.every ≤ IntKind.i64.wrap (x188 + 1)))) else some (.inl (IntKind.i64.wrap (x188 + 1)))) else none) else some (.inr true))
def log_Log_due.l2 (a2 : log_Log) (s : Int) : Option (Bool) := loopR (log_Log_due.l2b a2) s
def log_Log_due.f (a2 : log_Log) : Option (Bool) := log_Log_due.l2 a2 (0)
theorem log_Log_due.ok {a2 : log_Log} {b1 : Nat} {r : Bool} (h : log_Log_due.f a2 = some r) (hS : St B w (O_log_Log hf a2 b1 :: l) hf) :
    Calls prog 100 #[.pointer (some ⟨b1, 0, none⟩)] w (Ret fun v w => v = .bool r ∧ St B w (O_log_Log hf a2 b1 :: l) hf) := by
  have h := Holds.of h
  refine en func100 rfl ntmps100 rfl (sr (pn 1 rfl (ln (RC.seq (sr (pn 2 rfl (RL.s (Vl.fa 16 underlying150 rfl sizeOf148 rfl rfl) rfl ?_)))))))
  obtain ⟨A137, c138, A140, c141, A143, c144, cs145, hr139, hr142, hx146, hS⟩ := O_log_Log.o hS
  refine RL.s (Vl.ld 0 hS isAgg148 rfl rfl rfl) rfl (RL.s (Vl.lenSl underlying148 rfl) rfl (pn 1 rfl (ln (RC.block ?_))))
  have hS := O_log_Log.c (x := a2) hr139 hr142 hx146 hS
  refine fun a ha => RC.loop (N := 36) (body := (log_Log_due.l2b a2)) (φ := (· = r)) (fun (s : Int) a w => ∃ (x188 : Int), s = (x188) ∧ Has 36 [(0, .pointer (some ⟨b1, 0, none⟩)), (8, .int .i64 (a2.l.length : Int)), (9, .int .i64 x188)] a ∧ St B w (O_log_Log hf a2 b1 :: l) hf) ?_ (s0 := (0)) h ⟨0, rfl, ha.to ⟨rfl, rfl, rfl, trivial⟩, hS⟩
  rintro G230 x188 a w ⟨_, rfl, ha, hS⟩ h
  revert a
  show RC _ _ _ _ _ _
  refine sr (pn 1 rfl (ln (RC.seq ?_)))
  refine RC.iteP 10 rfl h (fun hc232 h => ?_) fun hc232 h => ?_
  next =>
   refine RC.condT rfl (sk (RC.seq (RC.block (sr (pn 2 rfl (ln (RC.seq ?_)))))))
   obtain ⟨A252, c253, A255, c256, A258, c259, cs260, hr254, hr257, hx261, hS⟩ := O_log_Log.o hS
   refine RC.planS (plD [0, 3, 6, 10, 12, 15, 18, 22, 24, 27, 32, 35, 38, 41, 44, 47]) [12, 13, 14, 15] hS (fun w hS => hS) follows rfl (by kernel_rfl) (NoTmp.then (NoTmp.block (NoTmp.then (NoTmp.then (NoTmp.block (NoTmp.then NoTmp.body)))))) fun w hS => pp 2 rfl (RP.s0 2 rfl (fun w => Vl.fa 16 underlying150 rfl sizeOf148 rfl rfl) rfl (RP.s 0 3 rfl rfl hS (fun w hS => Vl.ld 0 hS isAgg148 rfl rfl rfl) rfl (pp 2 rfl (RP.s0 6 rfl (fun w => Vl.fa 16 underlying150 rfl sizeOf148 rfl rfl) rfl (RP.s 0 7 rfl rfl hS (fun w hS => Vl.ld 0 hS isAgg148 rfl rfl rfl) rfl (RP.s0 8 rfl (fun w => Vl.lenSl underlying148 rfl) rfl (pp 1 rfl (RP.v1 10 rfl (Vl.move rfl) rfl rfl (RP.v1 11 rfl (Vl.int rfl rfl rfl) rfl rfl ?_)))))))))
   obtain ⟨⟨hq262, hq263⟩, h⟩ := h.req
   refine RP.v1 12 rfl (Vl.indexOwn 1 hS rfl underlying148 sizeOf176 rfl rfl hq262 hq263) rfl rfl (RP.v1 13 rfl (Vl.fieldAddr (a'' := (ad A258).add ((IntKind.i64.wrap ((IntKind.i64.wrap ((a2.l.length : Int) - 1)) - x188)).toNat * 10 + 9)) underlying176 rfl sizeOf174 rfl (add_add _ _ _)) rfl rfl ?_)
   obtain ⟨_, ⟨A265, c266, b268, rfl, hr267, hr269⟩, hl264⟩ := RepL.elem R_log_done_ok hx261 hq262 hq263
   refine RP.v1 14 rfl (Vl.load isAgg174 rfl (hS.litCell 1 rfl (hl264 9 _ rfl))) rfl rfl (RP.v1 15 rfl (Vl.ptNeq (fun b w => by kernel_rfl) (fun w => by kernel_rfl) rfl rfl) rfl rfl (RP.nil (RQ.then_n ?_)))
   refine RC.iteB 27 rfl h (fun hc270 h => ?_) fun hc270 h => ?_
   next =>
    refine RC.condT rfl (sr (pn 4 rfl (RL.s (Vl.fa 15 underlying150 rfl sizeOf3 rfl rfl) rfl (RL.s (Vl.ld 0 hS isAgg3 rfl rfl rfl) rfl (pn 2 rfl (lr (RQ.inB_ret (RQ.ret ?_))))))))
    have h := h.inrS
    refine RQ.ret (RQ.inB_ret (RQ.ret ?_))
    have hS := O_log_Log.c (x := a2) hr254 hr257 hx261 hS
    obtain rfl := h.some
    exact rt results100 rfl ⟨rfl, hS⟩
   refine RC.condF rfl (RC.skip (RQ.inB_n (RQ.then_n (RC.region (pn 2 rfl (RL.nil ?_))))))
   have hS := O_log_Log.c (x := a2) hr254 hr257 hx261 hS
   exact fun a ha => ⟨(IntKind.i64.wrap (x188 + 1)), ⟨(IntKind.i64.wrap (x188 + 1)), rfl, ha.to ⟨rfl, rfl, rfl, trivial⟩, hS⟩, h.some⟩
  refine RC.condF rfl (RC.exit (RQ.exitT ?_))
  have h := h.inrS
  refine RQ.exitT (RQ.inB_hit (tsr (pn 1 rfl (lr ?_))))
  obtain rfl := h.some
  exact rt results100 rfl ⟨rfl, hS⟩
def log_Log_Do.f (a2 : log_Log) (a3 : api_Message) (a4 : Int) (a5 : List api_Message) : Option (api_Entry × Int × log_Log) := ((log_Log_none.f a2).bind fun t168 => (if t168 = true then some ((⟨(⟨(⟨0, 0, 0⟩ : api_Key), 0, 0, 0, false⟩ : api_Message), (⟨(⟨0, 0, 0, 0, 0, 0, 0, 0⟩ : Arr8xInti64), 0, 0⟩ : api_State), 0, ([] : List api_Message)⟩ : api_Entry), 7, a2) else ((log_Log_may.f a2 a3 a4).bind fun t174 => (if t174 = 0 then ((log_Log_run.f a2 a3 a4 a5).bind fun (y179, y180) => ((log_Log_due.f a2).bind fun t202 => (if t202 = true then (if (a2.l.length + ([({ y179 with ahead := (⟨true, a2.state⟩ : Pt api_State) } : log_done)]).length) * 96 ≤ 140737488355328 then ((log_done_entry.f ({ y179 with ahead := (⟨true, a2.state⟩ : Pt api_State) } : log_done) a2.state).bind fun t258 => some (t258, 0, ({ a2 with state := y180, l := (a2.l ++ ([({ y179 with ahead := (⟨true, a2.state⟩ : Pt api_State) } : log_done)])), stuck := (!decide (y179.fault = 0)) } : log_Log))) else none) else (if (a2.l.length + ([({ y179 with ahead := (⟨false, default⟩ : Pt api_State) } : log_done)]).length) * 96 ≤ 140737488355328 then ((log_done_entry.f ({ y179 with ahead := (⟨false, default⟩ : Pt api_State) } : log_done) a2.state).bind fun t313 => some (t313, 0, ({ a2 with state := y180, l := (a2.l ++ ([({ y179 with ahead := (⟨false, default⟩ : Pt api_State) } : log_done)])), stuck := (!decide (y179.fault = 0)) } : log_Log))) else none)))) else some ((⟨(⟨(⟨0, 0, 0⟩ : api_Key), 0, 0, 0, false⟩ : api_Message), (⟨(⟨0, 0, 0, 0, 0, 0, 0, 0⟩ : Arr8xInti64), 0, 0⟩ : api_State), 0, ([] : List api_Message)⟩ : api_Entry), t174, a2)))))
theorem log_Log_Do.ok {a2 : log_Log} {a3 : api_Message} {a4 : Int} {a5 : List api_Message} {b1 : Nat} {A6 : Option Addr} {c7 : Nat} (hr8 : SlR E_api_Message.rep hf A6 c7 a5) (hG0 : GlobAt hf 0 (.iface 215 (.agg #[.pointer (some ⟨1, 108, none⟩)]))) {r : api_Entry × Int × log_Log} (h : log_Log_Do.f a2 a3 a4 a5 = some r) (hS : St B w (O_log_Log hf a2 b1 :: l) hf) :
    Calls prog 53 #[.pointer (some ⟨b1, 0, none⟩), .agg (C_api_Message a3).toArray, .int .i64 a4, .slice A6 a5.length c7] w (Ret fun v w => ∃ hf_ : Hp, Sub hf hf_ ∧ ∃ (A_1 : Option Addr) (c_2 : Nat), v = .tuple #[.agg (C_api_Entry r.1 A_1 c_2).toArray, .int .i64 r.2.1] ∧ St B w (OSf E_api_Message 48 (.slice A_1 r.1.Sent.length c_2) r.1.Sent :: O_log_Log hf_ r.2.2 b1 :: l) hf_) := by
  have h := Holds.of h
  refine en func53 rfl ntmps53 rfl (sr (bx hS rfl rfl rfl rfl fun b163 w hS => al hS zeroValue79 rfl rfl rfl fun b164 w hS => pn 1 rfl (ln (RC.seq (sr (pn 1 rfl (cF (fun _ hg => log_Log_none.ok hg hS.p2) call94 h rfl rfl rfl ?_)))))))
  rintro t168 h _ w ⟨rfl, hS⟩
  refine ln ?_
  refine RC.iteB 15 rfl h (fun hc170 h => ?_) fun hc170 h => ?_
  next =>
   refine RC.condT rfl (sr (RL.s (Vl.build (v := .agg #[.int .i64 0, .int .i64 0, .int .i64 0, .int .i64 0, .int .i64 0, .int .i64 0, .bool false, .int .i64 0, .int .i64 0, .int .i64 0, .int .i64 0, .int .i64 0, .int .i64 0, .int .i64 0, .int .i64 0, .int .i64 0, .int .i64 0, .int .i64 0, .slice none 0 0]) (parts := []) rfl (by kernel_rfl)) rfl (RL.e0 (OW.store (vs := [.int .i64 0, .int .i64 0, .int .i64 0, .int .i64 0, .int .i64 0, .int .i64 0, .bool false, .int .i64 0, .int .i64 0, .int .i64 0, .int .i64 0, .int .i64 0, .int .i64 0, .int .i64 0, .int .i64 0, .int .i64 0, .int .i64 0, .int .i64 0, .slice none 0 0]) 1 hS rfl rfl rfl rfl sizeOf79 rfl rfl rfl rfl) rfl ?_)))
   rintro _ w ⟨rfl, hS⟩
   have hS : St B w (_ :: Cl _ [_, _, _, _, _, _, _, _, _, _, _, _, _, _, _, _, _, _, _] _ :: _ :: l) hf := hS
   refine pn 1 rfl (lr (RQ.ret ?_))
   have hS := hS.nilSl E_api_Message 48
   obtain rfl := h.some
   refine RQ.ret0 (vs := [.agg #[.int .i64 0, .int .i64 0, .int .i64 0, .int .i64 0, .int .i64 0, .int .i64 0, .bool false, .int .i64 0, .int .i64 0, .int .i64 0, .int .i64 0, .int .i64 0, .int .i64 0, .int .i64 0, .int .i64 0, .int .i64 0, .int .i64 0, .int .i64 0, .slice none 0 0], .int .i64 7]) results53 ⟨⟨_, rfl, run_loadVarA (vs := [.int .i64 0, .int .i64 0, .int .i64 0, .int .i64 0, .int .i64 0, .int .i64 0, .bool false, .int .i64 0, .int .i64 0, .int .i64 0, .int .i64 0, .int .i64 0, .int .i64 0, .int .i64 0, .int .i64 0, .int .i64 0, .int .i64 0, .int .i64 0, .slice none 0 0]) isAgg79 sizeOf79 rfl (hS.cellsAt 2 rfl rfl)⟩, rfl, trivial⟩ ?_
   exact ⟨_, (Sub.refl _), none, 0, rfl, hS.d2.d2⟩
  refine RC.condF rfl (sk (RC.seq (sr (pn 1 rfl (RL.s (Vl.lw 2 hS isAgg48 sizeOf48 rfl rfl rfl) rfl (pn 1 rfl (cF (fun _ hg => log_Log_may.ok hg hS) call98 h rfl rfl rfl ?_)))))))
  rintro t174 h _ w ⟨rfl, hS⟩
  refine pn 1 rfl (lnsr (pn 2 rfl (ln ?_)))
  refine RC.iteN 22 rfl h (fun hc176 h => ?_) fun hc176 h => ?_
  next =>
   refine RC.condF rfl (sk (sr (pn 1 rfl (RL.s (Vl.lw 2 hS isAgg48 sizeOf48 rfl rfl rfl) rfl (pn 2 rfl (cF (fun _ hg => log_Log_run.ok hr8 hG0 hg hS) call99 h rfl rfl rfl ?_))))))
   rintro ⟨y179, y180⟩ h _ w ⟨A181, c182, rfl, hS⟩
   refine pn 3 rfl (al hS zeroValue176 rfl rfl rfl fun b183 w hS => al hS zeroValue70 rfl rfl rfl fun b184 w hS => RL.e0 (OW.store (vs := [.int .i64 y179.event.Key.Time, .int .i64 y179.event.Key.From, .int .i64 y179.event.Key.Seq, .int .i64 y179.event.To, .int .i64 y179.event.Value, .int .i64 y179.event.Uid, .bool y179.event.Anti, .int .i64 y179.fault, .slice A181 y179.sent.length c182, .pointer none]) 1 hS rfl rfl rfl rfl sizeOf176 rfl rfl rfl rfl) rfl ?_)
   rintro _ w ⟨rfl, hS⟩
   have hS : St B w (_ :: Cl _ [_, _, _, _, _, _, _, _, _, _] _ :: _ :: _ :: _ :: _ :: l) hf := hS
   refine RL.e0 (OW.store (vs := (C_api_State y180)) 0 hS rfl rfl rfl rfl sizeOf70 rfl rfl rfl rfl) rfl ?_
   rintro _ w ⟨rfl, hS⟩
   have hS : St B w (Cl _ [_, _, _, _, _, _, _, _, _, _] _ :: _ :: _ :: _ :: _ :: _ :: l) hf := hS
   refine lnsr (pn 2 rfl (RL.s (Vl.fa 5 underlying150 rfl sizeOf70 rfl rfl) rfl ?_))
   obtain ⟨A185, c186, A188, c189, A191, c192, cs193, hr187, hr190, hx194, hS⟩ := O_log_Log.o hS.p3
   refine RL.s (Vl.loadA (vs := (C_api_State a2.state)) isAgg70 sizeOf70 rfl rfl (hS.cellsAt 0 rfl rfl)) rfl (al hS zeroValue70 rfl rfl rfl fun b195 w hS => RL.e0 (OW.store (vs := (C_api_State a2.state)) 0 hS rfl rfl rfl rfl sizeOf70 rfl rfl rfl rfl) rfl ?_)
   rintro _ w ⟨rfl, hS⟩
   have hS : St B w (Cl _ [_, _, _, _, _, _, _, _, _, _] _ :: _ :: _ :: _ :: _ :: _ :: _ :: _ :: l) hf := hS
   refine ln (RC.seq (sr (pn 1 rfl ?_)))
   have hS := O_log_Log.c (x := a2) hr187 hr190 hx194 hS.p2.p2
   refine cF (fun _ hg => log_Log_due.ok hg hS) call100 h rfl rfl rfl ?_
   rintro t202 h _ w ⟨rfl, hS⟩
   refine ln ?_
   refine RC.iteB 38 rfl h (fun hc204 h => ?_) fun hc204 h => ?_
   next =>
    refine RC.condT rfl (RC.region (RL.s (Vl.fa 9 underlying176 rfl sizeOf174 rfl rfl) rfl ?_))
    obtain ⟨hf, hs205, hS, hr206⟩ := St.freeze (E := E_api_State) (x := a2.state) hS.p1 rfl
    have hS := O_log_Log.l hs205 hS
    refine RL.e0 (OW.store (vs := [.pointer (some ⟨b195, 0, none⟩)]) 2 hS rfl rfl rfl rfl sizeOf174 rfl rfl rfl rfl) rfl ?_
    rintro _ w ⟨rfl, hS⟩
    have hS : St B w (_ :: _ :: Cl _ [_, _, _, _, _, _, _, _, _, _] _ :: _ :: _ :: _ :: l) hf := hS
    refine ln (RC.seq ?_)
    obtain ⟨A207, c208, A210, c211, A213, c214, cs215, hr209, hr212, hx216, hS⟩ := O_log_Log.o hS
    refine RC.planS2 (plD [0, 3, 6, 9, 12, 15, 3019, 22, 31, 33, 37, 39, 26, 29, 44, 47, 50, 53, 56, 59, 62, 65, 68]) [20, 21, 22] [9, 14, 15, 16, 17, 18, 19, 20, 21, 22] hS (fun w hS => hS.d0.d0.d2) (fun w hS => hS.d4) follows rfl (by kernel_rfl) (NoTmp.then NoTmp.body) fun w hS => pp 5 rfl (RP.s0 5 rfl (fun w => Vl.fa 16 underlying150 rfl sizeOf148 rfl rfl) rfl (RP.s 1 6 rfl rfl hS.d4 (fun w hS => Vl.ld 0 hS isAgg148 rfl rfl rfl) rfl (RP.s 0 7 rfl rfl hS.d0.d0.d2 (fun w hS => Vl.lw 1 hS isAgg176 sizeOf176 rfl rfl rfl) rfl (RP.s 0 10 rfl rfl hS.d0.d0.d2 (fun w hS => Vl.lw 0 hS isAgg70 sizeOf70 rfl rfl rfl) rfl (RP.s0 11 rfl (fun w => Vl.fa 7 underlying176 rfl sizeOf29 rfl rfl) rfl (RP.s 0 12 rfl rfl hS.d0.d0.d2 (fun w hS => Vl.ld 1 hS isAgg29 rfl rfl rfl) rfl (pp 1 rfl ?_)))))))
    obtain ⟨hf, hs247, hS, hr248⟩ := St.promote hS.p4
    have hx250 : RepL R_log_done hf [.int .i64 y179.event.Key.Time, .int .i64 y179.event.Key.From, .int .i64 y179.event.Key.Seq, .int .i64 y179.event.To, .int .i64 y179.event.Value, .int .i64 y179.event.Uid, .bool y179.event.Anti, .int .i64 y179.fault, .slice A181 y179.sent.length c182, .pointer (some ⟨b195, 0, none⟩)] [({ y179 with ahead := (⟨true, a2.state⟩ : Pt api_State) } : log_done)] := (RepL.cons (c := [.int .i64 y179.event.Key.Time, .int .i64 y179.event.Key.From, .int .i64 y179.event.Key.Seq, .int .i64 y179.event.To, .int .i64 y179.event.Value, .int .i64 y179.event.Uid, .bool y179.event.Anti, .int .i64 y179.fault, .slice A181 y179.sent.length c182, .pointer (some ⟨b195, 0, none⟩)]) (r := []) ⟨_, _, _, rfl, hr248, (hr206.mono hs247).pt⟩ RepL.nil)
    refine RP.e 8 rfl (OW.buildSliceR (sz := 10) (cs := [.int .i64 y179.event.Key.Time, .int .i64 y179.event.Key.From, .int .i64 y179.event.Key.Seq, .int .i64 y179.event.To, .int .i64 y179.event.Value, .int .i64 y179.event.Uid, .bool y179.event.Anti, .int .i64 y179.fault, .slice A181 y179.sent.length c182, .pointer (some ⟨b195, 0, none⟩)]) hS underlying148 zeroValue176 sizeOf176 (parts := [(0, .tmp 47)]) rfl rfl (by decide) (by decide) (by kernel_rfl)) rfl rfl ?_
    rintro _ w ⟨b249, rfl, hS⟩
    refine ⟨kp ⟨fun _ => (St.down hS.d0.d0.d0 hs247), fun _ => (St.down hS.d0 hs247), trivial⟩, ?_⟩
    obtain ⟨hq253, h⟩ := h.req
    obtain ⟨hf, hs251, hS, hr252⟩ := St.promoteR R_log_done_ok hS rfl hx250
    refine RP.e 9 rfl (OW.appendR (R := R_log_done) R_log_done_ok (xs := a2.l) (ys := [({ y179 with ahead := (⟨true, a2.state⟩ : Pt api_State) } : log_done)]) 1 hS rfl underlying148 type176 rfl rfl rfl rfl (by decide) (by decide) ((hx216.mono hs247).mono hs251) rfl rfl hr252 hq253 rfl) rfl rfl ?_
    rintro _ w ⟨cs256, hx257, hS⟩
    obtain ⟨A254, c255, rfl, _⟩ := hS.osShape 0 rfl
    have hS : St B w (_ :: _ :: _ :: _ :: _ :: _ :: l) hf := hS
    refine ⟨kp ⟨fun _ => (St.down hS.d0.d0 (hs247.trans hs251)), (by intro hx; cases hx), trivial⟩, ?_⟩
    refine RP.v1 14 rfl (Vl.nilCheck rfl) rfl rfl (RP.v1 15 rfl (Vl.fa 16 underlying150 rfl sizeOf148 rfl rfl) rfl rfl (RP.e0 16 rfl (OW.store (vs := [.slice A254 (a2.l ++ ([({ y179 with ahead := (⟨true, a2.state⟩ : Pt api_State) } : log_done)])).length c255]) 1 hS rfl rfl rfl rfl sizeOf148 rfl rfl rfl rfl) rfl ?_))
    rintro _ w ⟨rfl, hS⟩
    have hS : St B w (_ :: Cl _ [_, _, _, _, _, _, _, _, _, _, _, _, _, _, _, _, _, _] _ :: _ :: _ :: _ :: _ :: l) hf := hS
    refine ⟨kp ⟨fun _ => (St.down hS.d0.d0 (hs247.trans hs251)), (by intro hx; cases hx), trivial⟩, ?_⟩
    refine RP.v1 17 rfl (Vl.nilCheck rfl) rfl rfl (RP.v1 18 rfl (Vl.fa 5 underlying150 rfl sizeOf70 rfl rfl) rfl rfl (RP.e0 19 rfl (OW.store (vs := (C_api_State y180)) 1 hS rfl rfl rfl rfl sizeOf70 rfl rfl rfl rfl) rfl ?_))
    rintro _ w ⟨rfl, hS⟩
    have hS : St B w (_ :: Cl _ [_, _, _, _, _, _, _, _, _, _, _, _, _, _, _, _, _, _] _ :: _ :: _ :: _ :: _ :: l) hf := hS
    refine ⟨kp ⟨fun _ => (St.down hS.d0.d0 (hs247.trans hs251)), (by intro hx; cases hx), trivial⟩, ?_⟩
    refine RP.v1 20 rfl (Vl.nilCheck rfl) rfl rfl (RP.v1 21 rfl (Vl.fa 17 underlying150 rfl sizeOf4 rfl rfl) rfl rfl (RP.e0 22 rfl (OW.store (vs := [.bool (!decide (y179.fault = 0))]) 1 hS rfl rfl rfl rfl sizeOf4 rfl rfl rfl rfl) rfl ?_))
    rintro _ w ⟨rfl, hS⟩
    have hS : St B w (_ :: Cl _ [_, _, _, _, _, _, _, _, _, _, _, _, _, _, _, _, _, _] _ :: _ :: _ :: _ :: _ :: l) hf := hS
    refine ⟨kp ⟨(by intro hx; cases hx), (by intro hx; cases hx), trivial⟩, ?_⟩
    refine RP.nil (tsr (RL.s (Vl.lw 3 hS isAgg176 sizeOf176 rfl rfl rfl) rfl (RL.s (Vl.loadA (vs := (C_api_State a2.state)) isAgg70 sizeOf70 rfl rfl (((hr206.mono hs247).mono hs251).cells hS.sub)) rfl (cF (fun _ hg => log_done_entry.ok (a1 := ({ y179 with ahead := (⟨true, a2.state⟩ : Pt api_State) } : log_done)) (hr248.mono hs251) (((hr206.mono hs247).mono hs251).pt) hg hS) call96 h rfl rfl rfl ?_))))
    rintro t258 h _ w ⟨A260, c261, rfl, hS⟩
    refine RL.e0 (OW.store (vs := (C_api_Entry t258 A260 c261)) 5 hS rfl rfl rfl rfl sizeOf79 rfl rfl rfl rfl) rfl ?_
    rintro _ w ⟨rfl, hS⟩
    have hS : St B w (_ :: _ :: _ :: _ :: _ :: Cl _ [_, _, _, _, _, _, _, _, _, _, _, _, _, _, _, _, _, _, _] _ :: _ :: l) hf := hS
    refine pn 1 rfl (lr ?_)
    have hS := O_log_Log.c (x := ({ a2 with state := y180, l := (a2.l ++ ([({ y179 with ahead := (⟨true, a2.state⟩ : Pt api_State) } : log_done)])), stuck := (!decide (y179.fault = 0)) } : log_Log)) ((hr209.mono hs247).mono hs251) ((hr212.mono hs247).mono hs251) hx257 hS.p1.p2
    obtain rfl := h.some
    refine RQ.ret0 (vs := [.agg (C_api_Entry t258 A260 c261).toArray, .int .i64 0]) results53 ⟨⟨_, rfl, run_loadVarA (vs := (C_api_Entry t258 A260 c261)) isAgg79 sizeOf79 rfl (hS.cellsAt 4 rfl rfl)⟩, rfl, trivial⟩ ?_
    exact ⟨_, ((hs205.trans hs247).trans hs251), A260, c261, rfl, hS.d2.d2.d2.d2.p1⟩
   refine RC.condF rfl (sk (RC.seq ?_))
   obtain ⟨A262, c263, A265, c266, A268, c269, cs270, hr264, hr267, hx271, hS⟩ := O_log_Log.o hS
   refine RC.planS2 (plD [0, 3, 6, 9, 12, 15, 3019, 22, 31, 33, 37, 39, 26, 29, 44, 47, 50, 53, 56, 59, 62, 65, 68]) [20, 21, 22] [9, 14, 15, 16, 17, 18, 19, 20, 21, 22] hS (fun w hS => hS.d0.d0.d3) (fun w hS => hS.d5) follows rfl (by kernel_rfl) (NoTmp.then NoTmp.body) fun w hS => pp 5 rfl (RP.s0 5 rfl (fun w => Vl.fa 16 underlying150 rfl sizeOf148 rfl rfl) rfl (RP.s 1 6 rfl rfl hS.d5 (fun w hS => Vl.ld 0 hS isAgg148 rfl rfl rfl) rfl (RP.s 0 7 rfl rfl hS.d0.d0.d3 (fun w hS => Vl.lw 2 hS isAgg176 sizeOf176 rfl rfl rfl) rfl (RP.s 0 10 rfl rfl hS.d0.d0.d3 (fun w hS => Vl.lw 1 hS isAgg70 sizeOf70 rfl rfl rfl) rfl (RP.s0 11 rfl (fun w => Vl.fa 7 underlying176 rfl sizeOf29 rfl rfl) rfl (RP.s 0 12 rfl rfl hS.d0.d0.d3 (fun w hS => Vl.ld 2 hS isAgg29 rfl rfl rfl) rfl (pp 1 rfl ?_)))))))
   obtain ⟨hf, hs302, hS, hr303⟩ := St.promote hS.p5
   have hx305 : RepL R_log_done hf [.int .i64 y179.event.Key.Time, .int .i64 y179.event.Key.From, .int .i64 y179.event.Key.Seq, .int .i64 y179.event.To, .int .i64 y179.event.Value, .int .i64 y179.event.Uid, .bool y179.event.Anti, .int .i64 y179.fault, .slice A181 y179.sent.length c182, .pointer none] [({ y179 with ahead := (⟨false, default⟩ : Pt api_State) } : log_done)] := (RepL.cons (c := [.int .i64 y179.event.Key.Time, .int .i64 y179.event.Key.From, .int .i64 y179.event.Key.Seq, .int .i64 y179.event.To, .int .i64 y179.event.Value, .int .i64 y179.event.Uid, .bool y179.event.Anti, .int .i64 y179.fault, .slice A181 y179.sent.length c182, .pointer none]) (r := []) ⟨_, _, 0, rfl, hr303, PtR.nil⟩ RepL.nil)
   refine RP.e 8 rfl (OW.buildSliceR (sz := 10) (cs := [.int .i64 y179.event.Key.Time, .int .i64 y179.event.Key.From, .int .i64 y179.event.Key.Seq, .int .i64 y179.event.To, .int .i64 y179.event.Value, .int .i64 y179.event.Uid, .bool y179.event.Anti, .int .i64 y179.fault, .slice A181 y179.sent.length c182, .pointer none]) hS underlying148 zeroValue176 sizeOf176 (parts := [(0, .tmp 47)]) rfl rfl (by decide) (by decide) (by kernel_rfl)) rfl rfl ?_
   rintro _ w ⟨b304, rfl, hS⟩
   refine ⟨kp ⟨fun _ => (St.down hS.d0.d0.d0 hs302), fun _ => (St.down hS.d0 hs302), trivial⟩, ?_⟩
   obtain ⟨hq308, h⟩ := h.req
   obtain ⟨hf, hs306, hS, hr307⟩ := St.promoteR R_log_done_ok hS rfl hx305
   refine RP.e 9 rfl (OW.appendR (R := R_log_done) R_log_done_ok (xs := a2.l) (ys := [({ y179 with ahead := (⟨false, default⟩ : Pt api_State) } : log_done)]) 1 hS rfl underlying148 type176 rfl rfl rfl rfl (by decide) (by decide) ((hx271.mono hs302).mono hs306) rfl rfl hr307 hq308 rfl) rfl rfl ?_
   rintro _ w ⟨cs311, hx312, hS⟩
   obtain ⟨A309, c310, rfl, _⟩ := hS.osShape 0 rfl
   have hS : St B w (_ :: _ :: _ :: _ :: _ :: _ :: _ :: l) hf := hS
   refine ⟨kp ⟨fun _ => (St.down hS.d0.d0 (hs302.trans hs306)), (by intro hx; cases hx), trivial⟩, ?_⟩
   refine RP.v1 14 rfl (Vl.nilCheck rfl) rfl rfl (RP.v1 15 rfl (Vl.fa 16 underlying150 rfl sizeOf148 rfl rfl) rfl rfl (RP.e0 16 rfl (OW.store (vs := [.slice A309 (a2.l ++ ([({ y179 with ahead := (⟨false, default⟩ : Pt api_State) } : log_done)])).length c310]) 1 hS rfl rfl rfl rfl sizeOf148 rfl rfl rfl rfl) rfl ?_))
   rintro _ w ⟨rfl, hS⟩
   have hS : St B w (_ :: Cl _ [_, _, _, _, _, _, _, _, _, _, _, _, _, _, _, _, _, _] _ :: _ :: _ :: _ :: _ :: _ :: l) hf := hS
   refine ⟨kp ⟨fun _ => (St.down hS.d0.d0 (hs302.trans hs306)), (by intro hx; cases hx), trivial⟩, ?_⟩
   refine RP.v1 17 rfl (Vl.nilCheck rfl) rfl rfl (RP.v1 18 rfl (Vl.fa 5 underlying150 rfl sizeOf70 rfl rfl) rfl rfl (RP.e0 19 rfl (OW.store (vs := (C_api_State y180)) 1 hS rfl rfl rfl rfl sizeOf70 rfl rfl rfl rfl) rfl ?_))
   rintro _ w ⟨rfl, hS⟩
   have hS : St B w (_ :: Cl _ [_, _, _, _, _, _, _, _, _, _, _, _, _, _, _, _, _, _] _ :: _ :: _ :: _ :: _ :: _ :: l) hf := hS
   refine ⟨kp ⟨fun _ => (St.down hS.d0.d0 (hs302.trans hs306)), (by intro hx; cases hx), trivial⟩, ?_⟩
   refine RP.v1 20 rfl (Vl.nilCheck rfl) rfl rfl (RP.v1 21 rfl (Vl.fa 17 underlying150 rfl sizeOf4 rfl rfl) rfl rfl (RP.e0 22 rfl (OW.store (vs := [.bool (!decide (y179.fault = 0))]) 1 hS rfl rfl rfl rfl sizeOf4 rfl rfl rfl rfl) rfl ?_))
   rintro _ w ⟨rfl, hS⟩
   have hS : St B w (_ :: Cl _ [_, _, _, _, _, _, _, _, _, _, _, _, _, _, _, _, _, _] _ :: _ :: _ :: _ :: _ :: _ :: l) hf := hS
   refine ⟨kp ⟨(by intro hx; cases hx), (by intro hx; cases hx), trivial⟩, ?_⟩
   refine RP.nil (tsr (RL.s (Vl.lw 4 hS isAgg176 sizeOf176 rfl rfl rfl) rfl (RL.s (Vl.lw 2 hS isAgg70 sizeOf70 rfl rfl rfl) rfl (cF (fun _ hg => log_done_entry.ok (a1 := ({ y179 with ahead := (⟨false, default⟩ : Pt api_State) } : log_done)) (hr303.mono hs306) (PtR.nil (b := 0)) hg hS) call96 h rfl rfl rfl ?_))))
   rintro t313 h _ w ⟨A315, c316, rfl, hS⟩
   refine RL.e0 (OW.store (vs := (C_api_Entry t313 A315 c316)) 6 hS rfl rfl rfl rfl sizeOf79 rfl rfl rfl rfl) rfl ?_
   rintro _ w ⟨rfl, hS⟩
   have hS : St B w (_ :: _ :: _ :: _ :: _ :: _ :: Cl _ [_, _, _, _, _, _, _, _, _, _, _, _, _, _, _, _, _, _, _] _ :: _ :: l) hf := hS
   refine pn 1 rfl (lr ?_)
   have hS := O_log_Log.c (x := ({ a2 with state := y180, l := (a2.l ++ ([({ y179 with ahead := (⟨false, default⟩ : Pt api_State) } : log_done)])), stuck := (!decide (y179.fault = 0)) } : log_Log)) ((hr264.mono hs302).mono hs306) ((hr267.mono hs302).mono hs306) hx312 hS.p1.p2
   obtain rfl := h.some
   refine RQ.ret0 (vs := [.agg (C_api_Entry t313 A315 c316).toArray, .int .i64 0]) results53 ⟨⟨_, rfl, run_loadVarA (vs := (C_api_Entry t313 A315 c316)) isAgg79 sizeOf79 rfl (hS.cellsAt 5 rfl rfl)⟩, rfl, trivial⟩ ?_
   exact ⟨_, (hs302.trans hs306), A315, c316, rfl, hS.d2.d2.d2.d2.d2.p1⟩
  refine RC.condT rfl (sr (RL.s (Vl.build (v := .agg #[.int .i64 0, .int .i64 0, .int .i64 0, .int .i64 0, .int .i64 0, .int .i64 0, .bool false, .int .i64 0, .int .i64 0, .int .i64 0, .int .i64 0, .int .i64 0, .int .i64 0, .int .i64 0, .int .i64 0, .int .i64 0, .int .i64 0, .int .i64 0, .slice none 0 0]) (parts := []) rfl (by kernel_rfl)) rfl (pn 1 rfl (RL.e0 (OW.store (vs := [.int .i64 0, .int .i64 0, .int .i64 0, .int .i64 0, .int .i64 0, .int .i64 0, .bool false, .int .i64 0, .int .i64 0, .int .i64 0, .int .i64 0, .int .i64 0, .int .i64 0, .int .i64 0, .int .i64 0, .int .i64 0, .int .i64 0, .int .i64 0, .slice none 0 0]) 1 hS rfl rfl rfl rfl sizeOf79 rfl rfl rfl rfl) rfl ?_))))
  rintro _ w ⟨rfl, hS⟩
  have hS : St B w (_ :: Cl _ [_, _, _, _, _, _, _, _, _, _, _, _, _, _, _, _, _, _, _] _ :: _ :: l) hf := hS
  refine pn 1 rfl (lr (RQ.ret ?_))
  have hS := hS.nilSl E_api_Message 48
  obtain rfl := h.some
  refine RQ.ret0 (vs := [.agg #[.int .i64 0, .int .i64 0, .int .i64 0, .int .i64 0, .int .i64 0, .int .i64 0, .bool false, .int .i64 0, .int .i64 0, .int .i64 0, .int .i64 0, .int .i64 0, .int .i64 0, .int .i64 0, .int .i64 0, .int .i64 0, .int .i64 0, .int .i64 0, .slice none 0 0], .int .i64 t174]) results53 ⟨⟨_, rfl, run_loadVarA (vs := [.int .i64 0, .int .i64 0, .int .i64 0, .int .i64 0, .int .i64 0, .int .i64 0, .bool false, .int .i64 0, .int .i64 0, .int .i64 0, .int .i64 0, .int .i64 0, .int .i64 0, .int .i64 0, .int .i64 0, .int .i64 0, .int .i64 0, .int .i64 0, .slice none 0 0]) isAgg79 sizeOf79 rfl (hS.cellsAt 2 rfl rfl)⟩, rfl, trivial⟩ ?_
  exact ⟨_, (Sub.refl _), none, 0, rfl, hS.d2.d2⟩
def heap_pile_api_Message_down.l2b : List api_Message × Int → Option ((List api_Message × Int) ⊕ (List api_Message))
  | (l263, x266) => (if (l263.length : Int) ≤ IntKind.i64.wrap ((IntKind.i64.wrap (2 * x266)) + 1) then some (.inr l263) else (if IntKind.i64.wrap ((IntKind.i64.wrap ((IntKind.i64.wrap (2 * x266)) + 1)) + 1) < (l263.length : Int) then (if 0 ≤ IntKind.i64.wrap ((IntKind.i64.wrap ((IntKind.i64.wrap (2 * x266)) + 1)) + 1) then (if 0 ≤ IntKind.i64.wrap ((IntKind.i64.wrap (2 * x266)) + 1) ∧ IntKind.i64.wrap ((IntKind.i64.wrap (2 * x266)) + 1) < (l263.length : Int) then ((event_Before.f (nth l263 (IntKind.i64.wrap ((IntKind.i64.wrap ((IntKind.i64.wrap (2 * x266)) + 1)) + 1))) (nth l263 (IntKind.i64.wrap ((IntKind.i64.wrap (2 * x266)) + 1)))).bind fun t346 => (if t346 = true then (if 0 ≤ x266 ∧ x266 < (l263.length : Int) then ((event_Before.f (nth l263 (IntKind.i64.wrap ((IntKind.i64.wrap ((IntKind.i64.wrap (2 * x266)) + 1)) + 1))) (nth l263 x266)).bind fun t356 => (if t356 = true then (if IntKind.i64.wrap ((IntKind.i64.wrap ((IntKind.i64.wrap (2 * x266)) + 1)) + 1) < ((setL l263 x266 (nth l263 (IntKind.i64.wrap ((IntKind.i64.wrap ((IntKind.i64.wrap (2 * x266)) + 1)) + 1)))).length : Int) then some (.inl ((setL (setL l263 x266 (nth l263 (IntKind.i64.wrap ((IntKind.i64.wrap ((IntKind.i64.wrap (2 * x266)) + 1)) + 1)))) (IntKind.i64.wrap ((IntKind.i64.wrap ((IntKind.i64.wrap (2 * x266)) + 1)) + 1)) (nth l263 x266)), IntKind.i64.wrap ((IntKind.i64.wrap ((IntKind.i64.wrap (2 * x266)) + 1)) + 1))) else none) else some (.inr l263))) else none) else (if 0 ≤ x266 ∧ x266 < (l263.length : Int) then ((event_Before.f (nth l263 (IntKind.i64.wrap ((IntKind.i64.wrap (2 * x266)) + 1))) (nth l263 x266)).bind fun t369 => (if t369 = true then (if IntKind.i64.wrap ((IntKind.i64.wrap (2 * x266)) + 1) < ((setL l263 x266 (nth l263 (IntKind.i64.wrap ((IntKind.i64.wrap (2 * x266)) + 1)))).length : Int) then some (.inl ((setL (setL l263 x266 (nth l263 (IntKind.i64.wrap ((IntKind.i64.wrap (2 * x266)) + 1)))) (IntKind.i64.wrap ((IntKind.i64.wrap (2 * x266)) + 1)) (nth l263 x266)), IntKind.i64.wrap ((IntKind.i64.wrap (2 * x266)) + 1))) else none) else some (.inr l263))) else none))) else none) else none) else (if 0 ≤ IntKind.i64.wrap ((IntKind.i64.wrap (2 * x266)) + 1) ∧ IntKind.i64.wrap ((IntKind.i64.wrap (2 * x266)) + 1) < (l263.length : Int) then (if 0 ≤ x266 ∧ x266 < (l263.length : Int) then ((event_Before.f (nth l263 (IntKind.i64.wrap ((IntKind.i64.wrap (2 * x266)) + 1))) (nth l263 x266)).bind fun t386 => (if t386 = true then (if IntKind.i64.wrap ((IntKind.i64.wrap (2 * x266)) + 1) < ((setL l263 x266 (nth l263 (IntKind.i64.wrap ((IntKind.i64.wrap (2 * x266)) + 1)))).length : Int) then some (.inl ((setL (setL l263 x266 (nth l263 (IntKind.i64.wrap ((IntKind.i64.wrap (2 * x266)) + 1)))) (IntKind.i64.wrap ((IntKind.i64.wrap (2 * x266)) + 1)) (nth l263 x266)), IntKind.i64.wrap ((IntKind.i64.wrap (2 * x266)) + 1))) else none) else some (.inr l263))) else none) else none)))
def heap_pile_api_Message_down.l2 (s : List api_Message × Int) : Option (List api_Message) := loopR (heap_pile_api_Message_down.l2b) s
def heap_pile_api_Message_down.f (a4 : List api_Message) (a5 : Int) : Option (List api_Message) := heap_pile_api_Message_down.l2 (a4, a5)
theorem heap_pile_api_Message_down.ok {a4 : List api_Message} {a5 : Int} {b1 : Nat} {A2 : Option Addr} {c3 : Nat} {r : List api_Message} (h : heap_pile_api_Message_down.f a4 a5 = some r) (hS : St B w (Cl b1 [.slice A2 a4.length c3, .func (.func 62) #[] #[]] 245 :: OSf E_api_Message 48 (.slice A2 a4.length c3) a4 :: l) hf) :
    Calls prog 203 #[.pointer (some ⟨b1, 0, none⟩), .int .i64 a5] w (Ret fun v w => ∃ (A_1 : Option Addr) (c_2 : Nat), v = .tuple #[] ∧ St B w (OSf E_api_Message 48 (.slice A_1 r.length c_2) r :: Cl b1 [.slice A_1 r.length c_2, .func (.func 62) #[] #[]] 245 :: l) hf) := by
  have h := Holds.of h
  refine en func203 rfl ntmps203 rfl (RC.block ?_)
  refine fun a ha => RC.loop (N := 94) (body := (heap_pile_api_Message_down.l2b)) (φ := (· = r)) (fun (s : List api_Message × Int) a w => ∃ (l263 : List api_Message) (x266 : Int), s = (l263, x266) ∧ ∃ (A264 : Option Addr) (c265 : Nat), Has 94 [(0, .pointer (some ⟨b1, 0, none⟩)), (1, .int .i64 x266)] a ∧ St B w (OSf E_api_Message 48 (.slice A264 l263.length c265) l263 :: Cl b1 [.slice A264 l263.length c265, .func (.func 62) #[] #[]] 245 :: l) hf) ?_ (s0 := (a4, a5)) h ⟨a4, a5, rfl, A2, c3, ha.to ⟨rfl, rfl, trivial⟩, hS.p1⟩
  rintro G331 _ a w ⟨l263, x266, rfl, A264, c265, ha, hS⟩ h
  revert a
  show RC _ _ _ _ _ _
  refine RC.block (sr (pn 4 rfl (ln (RC.seq (sr (pn 3 rfl (RL.s (Vl.fa 0 underlying243 rfl sizeOf39 rfl rfl) rfl (RL.s (Vl.ld 1 hS isAgg39 rfl rfl rfl) rfl (RL.s (Vl.lenSl underlying39 rfl) rfl (pn 1 rfl (ln ?_)))))))))))
  refine RC.iteP 14 rfl h (fun hc333 h => ?_) fun hc333 h => ?_
  next =>
   refine RC.condT rfl (RC.ret (RQ.ret (RQ.inB_ret ?_)))
   have h := h.inrS
   refine RQ.ret (RQ.inB_ret ?_)
   obtain rfl := h.some
   exact rt results203 rfl ⟨A264, c265, rfl, hS⟩
  refine RC.condF rfl (sk (RC.seq (RC.seq (RC.planS (plD [0, 3, 6, 9, 12, 16, 18, 21, 24, 27, 30, 33, 37, 39, 42, 45, 49, 51, 54, 58, 61, 63, 66, 69, 73, 77, 80, 83, 86, 89]) [28, 29] hS (fun w hS => hS) follows rfl (by kernel_rfl) (NoTmp.then (NoTmp.then (NoTmp.block (NoTmp.then (NoTmp.block NoTmp.body))))) fun w hS => pp 4 rfl (RP.s0 4 rfl (fun w => Vl.fa 0 underlying243 rfl sizeOf39 rfl rfl) rfl (RP.s 0 5 rfl rfl hS (fun w hS => Vl.ld 1 hS isAgg39 rfl rfl rfl) rfl (RP.s0 6 rfl (fun w => Vl.lenSl underlying39 rfl) rfl (pp 2 rfl ?_))))))))
  refine RP.iteP 23 rfl h (fun hc342 h => ?_) fun hc342 h => ?_
  next =>
   refine pp 2 rfl (RP.sg0 11 rfl (fun w => Vl.fa 1 underlying243 rfl sizeOf77 rfl rfl) rfl rfl (RP.sg 0 12 rfl rfl hS (fun w hS => Vl.ld 1 hS isAgg77 rfl rfl rfl) rfl rfl (pp 2 rfl (RP.sg0 15 rfl (fun w => Vl.fa 0 underlying243 rfl sizeOf39 rfl rfl) rfl rfl (RP.sg 0 16 rfl rfl hS (fun w hS => Vl.ld 1 hS isAgg39 rfl rfl rfl) rfl rfl (pp 2 rfl ?_))))))
   obtain ⟨hq343, h⟩ := h.req
   refine RP.sg 0 19 rfl rfl hS (fun w hS => Vl.indexOwn 0 hS rfl underlying39 sizeOf48 rfl rfl hq343 hc342) rfl rfl (RP.sg 0 20 rfl rfl hS (fun w hS => Vl.loadA isAgg48 sizeOf48 rfl rfl ((hS.slW 0 rfl).2.2.cells hq343 hc342)) rfl rfl (pp 2 rfl (RP.sg0 23 rfl (fun w => Vl.fa 0 underlying243 rfl sizeOf39 rfl rfl) rfl rfl (RP.sg 0 24 rfl rfl hS (fun w hS => Vl.ld 1 hS isAgg39 rfl rfl rfl) rfl rfl (RP.v1 25 rfl (Vl.move rfl) rfl rfl ?_)))))
   obtain ⟨⟨hq344, hq345⟩, h⟩ := h.req
   refine RP.v1 26 rfl (Vl.indexOwn 0 hS rfl underlying39 sizeOf48 rfl rfl hq344 hq345) rfl rfl (RP.v1 27 rfl (Vl.loadA isAgg48 sizeOf48 rfl rfl ((hS.slW 0 rfl).2.2.cells hq344 hq345)) rfl rfl ?_)
   obtain ⟨t346, hg347, h⟩ := h.bind
   have hc := event_Before.ok hg347 hS
   refine RP.e 28 rfl (OW.call (ls := [.tmp 35, .tmp 42]) rfl rfl call62 rfl hc) rfl rfl ?_
   rintro _ w ⟨rfl, hS⟩
   refine ⟨kp ⟨(by intro hx; cases hx), trivial⟩, ?_⟩
   refine RP.v1 29 rfl (Vl.pickT rfl rfl) rfl rfl (RP.nil (RQ.then_n ?_))
   refine RC.iteB 44 rfl h (fun hc348 h => ?_) fun hc348 h => ?_
   next =>
    refine RC.condT rfl (RC.region (pn 3 rfl (ln (RC.seq (RC.seq (RC.planS (plD [0, 3, 6, 10, 12, 15, 18, 22, 24, 28, 31, 33, 36, 39, 43, 47, 50, 53, 56, 59]) [18, 19] hS (fun w hS => hS) follows rfl (by kernel_rfl) (NoTmp.then (NoTmp.then (NoTmp.block (NoTmp.then (NoTmp.block NoTmp.body))))) fun w hS => pp 2 rfl (RP.s0 2 rfl (fun w => Vl.fa 1 underlying243 rfl sizeOf77 rfl rfl) rfl (RP.s 0 3 rfl rfl hS (fun w hS => Vl.ld 1 hS isAgg77 rfl rfl rfl) rfl (pp 2 rfl (RP.s0 6 rfl (fun w => Vl.fa 0 underlying243 rfl sizeOf39 rfl rfl) rfl (RP.s 0 7 rfl rfl hS (fun w hS => Vl.ld 1 hS isAgg39 rfl rfl rfl) rfl (pp 1 rfl (RP.s 0 9 rfl rfl hS (fun w hS => Vl.indexOwn 0 hS rfl underlying39 sizeOf48 rfl rfl hq343 hc342) rfl ?_)))))))))))))
    refine RP.s 0 10 rfl rfl hS (fun w hS => Vl.loadA isAgg48 sizeOf48 rfl rfl ((hS.slW 0 rfl).2.2.cells hq343 hc342)) rfl (pp 2 rfl (RP.s0 13 rfl (fun w => Vl.fa 0 underlying243 rfl sizeOf39 rfl rfl) rfl (RP.s 0 14 rfl rfl hS (fun w hS => Vl.ld 1 hS isAgg39 rfl rfl rfl) rfl (RP.v1 15 rfl (Vl.move rfl) rfl rfl ?_))))
    obtain ⟨⟨hq354, hq355⟩, h⟩ := h.req
    refine RP.v1 16 rfl (Vl.indexOwn 0 hS rfl underlying39 sizeOf48 rfl rfl hq354 hq355) rfl rfl (RP.v1 17 rfl (Vl.loadA isAgg48 sizeOf48 rfl rfl ((hS.slW 0 rfl).2.2.cells hq354 hq355)) rfl rfl ?_)
    obtain ⟨t356, hg357, h⟩ := h.bind
    have hc := event_Before.ok hg357 hS
    refine RP.e 18 rfl (OW.call (ls := [.tmp 57, .tmp 64]) rfl rfl call62 rfl hc) rfl rfl ?_
    rintro _ w ⟨rfl, hS⟩
    refine ⟨kp ⟨(by intro hx; cases hx), trivial⟩, ?_⟩
    refine RP.v1 19 rfl (Vl.not rfl) rfl rfl (RP.nil (RQ.then_n ?_))
    refine RC.iteM 66 rfl h (fun hc358 h => ?_) fun hc358 h => ?_
    next =>
     refine RC.condF rfl (sk (RC.seq (RC.planS (plD [0, 3, 6, 10, 12, 15, 18, 21, 25, 27, 30, 33, 36, 40, 42, 46, 49, 51, 54, 57, 61, 65, 68, 71, 74, 77, 80, 83]) [24, 25, 26, 27] hS (fun w hS => hS) follows rfl (by kernel_rfl) (NoTmp.then (NoTmp.block (NoTmp.then (NoTmp.block NoTmp.body)))) fun w hS => pp 2 rfl (RP.s0 2 rfl (fun w => Vl.fa 0 underlying243 rfl sizeOf39 rfl rfl) rfl (RP.s 0 3 rfl rfl hS (fun w hS => Vl.ld 1 hS isAgg39 rfl rfl rfl) rfl (pp 3 rfl (RP.s0 7 rfl (fun w => Vl.fa 0 underlying243 rfl sizeOf39 rfl rfl) rfl (RP.s 0 8 rfl rfl hS (fun w hS => Vl.ld 1 hS isAgg39 rfl rfl rfl) rfl (pp 3 rfl (RP.s0 12 rfl (fun w => Vl.fa 0 underlying243 rfl sizeOf39 rfl rfl) rfl (RP.s 0 13 rfl rfl hS (fun w hS => Vl.ld 1 hS isAgg39 rfl rfl rfl) rfl (pp 1 rfl (RP.s 0 15 rfl rfl hS (fun w hS => Vl.indexOwn 0 hS rfl underlying39 sizeOf48 rfl rfl hq343 hc342) rfl ?_)))))))))))))
     refine RP.s 0 16 rfl rfl hS (fun w hS => Vl.loadA isAgg48 sizeOf48 rfl rfl ((hS.slW 0 rfl).2.2.cells hq343 hc342)) rfl (pp 2 rfl (RP.s0 19 rfl (fun w => Vl.fa 0 underlying243 rfl sizeOf39 rfl rfl) rfl (RP.s 0 20 rfl rfl hS (fun w hS => Vl.ld 1 hS isAgg39 rfl rfl rfl) rfl (RP.v1 21 rfl (Vl.move rfl) rfl rfl (RP.v1 22 rfl (Vl.indexOwn 0 hS rfl underlying39 sizeOf48 rfl rfl hq354 hq355) rfl rfl (RP.v1 23 rfl (Vl.loadA isAgg48 sizeOf48 rfl rfl ((hS.slW 0 rfl).2.2.cells hq354 hq355)) rfl rfl (RP.v1 24 rfl (Vl.indexOwn 0 hS rfl underlying39 sizeOf48 rfl rfl hq354 hq355) rfl rfl (RP.e0 25 rfl (OW.storeOwn (E := E_api_Message) (off := 0) (j := x266) (x' := nth l263 (IntKind.i64.wrap ((IntKind.i64.wrap ((IntKind.i64.wrap (2 * x266)) + 1)) + 1))) (vs := (C_api_Message (nth l263 (IntKind.i64.wrap ((IntKind.i64.wrap ((IntKind.i64.wrap (2 * x266)) + 1)) + 1))))) 0 hS rfl rfl rfl rfl sizeOf48 rfl (Nat.succ_pos _) hq354 hq355 (Nat.le_of_ble_eq_true rfl) rfl rfl) rfl ?_))))))))
     rintro _ w ⟨rfl, hS⟩
     have he359 := (hS.osN 0 rfl).1
     have hS : St B w (_ :: _ :: l) hf := (congrArg (fun k_ : Nat => St B w (OSf E_api_Message 48 (.slice A264 k_ c265) (setL l263 x266 (nth l263 (IntKind.i64.wrap ((IntKind.i64.wrap ((IntKind.i64.wrap (2 * x266)) + 1)) + 1)))) :: Cl b1 [.slice A264 k_ c265, .func (.func 62) #[] #[]] 245 :: l) hf) he359).mp hS
     refine ⟨kp ⟨(by intro hx; cases hx), trivial⟩, ?_⟩
     refine RP.re 12 rfl (congrArg (fun k_ : Nat => (.slice A264 k_ c265 : Value)) he359) (RP.re 20 rfl (congrArg (fun k_ : Nat => (.slice A264 k_ c265 : Value)) he359) (RP.re 31 rfl (congrArg (fun k_ : Nat => (.slice A264 k_ c265 : Value)) he359) (RP.re 39 rfl (congrArg (fun k_ : Nat => (.slice A264 k_ c265 : Value)) he359) (RP.re 54 rfl (congrArg (fun k_ : Nat => (.slice A264 k_ c265 : Value)) he359) (RP.re 61 rfl (congrArg (fun k_ : Nat => (.slice A264 k_ c265 : Value)) he359) (RP.re 70 rfl (congrArg (fun k_ : Nat => (.slice A264 k_ c265 : Value)) he359) (RP.re 75 rfl (congrArg (fun k_ : Nat => (.slice A264 k_ c265 : Value)) he359) (RP.re 80 rfl (congrArg (fun k_ : Nat => (.slice A264 k_ c265 : Value)) he359) (RP.re 87 rfl (congrArg (fun k_ : Nat => (.slice A264 k_ c265 : Value)) he359) ?_)))))))))
     obtain ⟨hq360, h⟩ := h.req
     refine RP.v1 26 rfl (Vl.indexOwn 0 hS rfl underlying39 sizeOf48 rfl rfl hq343 hq360) rfl rfl (RP.e0 27 rfl (OW.storeOwn (E := E_api_Message) (off := 0) (j := IntKind.i64.wrap ((IntKind.i64.wrap ((IntKind.i64.wrap (2 * x266)) + 1)) + 1)) (x' := nth l263 x266) (vs := (C_api_Message (nth l263 x266))) 0 hS rfl rfl rfl rfl sizeOf48 rfl (Nat.succ_pos _) hq343 hq360 (Nat.le_of_ble_eq_true rfl) rfl rfl) rfl ?_)
     rintro _ w ⟨rfl, hS⟩
     have he361 := (hS.osN 0 rfl).1
     have hS : St B w (_ :: _ :: l) hf := (congrArg (fun k_ : Nat => St B w (OSf E_api_Message 48 (.slice A264 k_ c265) (setL (setL l263 x266 (nth l263 (IntKind.i64.wrap ((IntKind.i64.wrap ((IntKind.i64.wrap (2 * x266)) + 1)) + 1)))) (IntKind.i64.wrap ((IntKind.i64.wrap ((IntKind.i64.wrap (2 * x266)) + 1)) + 1)) (nth l263 x266)) :: Cl b1 [.slice A264 k_ c265, .func (.func 62) #[] #[]] 245 :: l) hf) he361).mp hS
     refine ⟨kp ⟨(by intro hx; cases hx), trivial⟩, ?_⟩
     refine RP.re 12 rfl (congrArg (fun k_ : Nat => (.slice A264 k_ c265 : Value)) he361) (RP.re 20 rfl (congrArg (fun k_ : Nat => (.slice A264 k_ c265 : Value)) he361) (RP.re 31 rfl (congrArg (fun k_ : Nat => (.slice A264 k_ c265 : Value)) he361) (RP.re 39 rfl (congrArg (fun k_ : Nat => (.slice A264 k_ c265 : Value)) he361) (RP.re 54 rfl (congrArg (fun k_ : Nat => (.slice A264 k_ c265 : Value)) he361) (RP.re 61 rfl (congrArg (fun k_ : Nat => (.slice A264 k_ c265 : Value)) he361) (RP.re 70 rfl (congrArg (fun k_ : Nat => (.slice A264 k_ c265 : Value)) he361) (RP.re 75 rfl (congrArg (fun k_ : Nat => (.slice A264 k_ c265 : Value)) he361) (RP.re 80 rfl (congrArg (fun k_ : Nat => (.slice A264 k_ c265 : Value)) he361) (RP.re 87 rfl (congrArg (fun k_ : Nat => (.slice A264 k_ c265 : Value)) he361) (RP.nil (RQ.then_n (RC.region (pn 2 rfl (RL.nil (RQ.inB_n ?_)))))))))))))))
     exact fun a ha => ⟨((setL (setL l263 x266 (nth l263 (IntKind.i64.wrap ((IntKind.i64.wrap ((IntKind.i64.wrap (2 * x266)) + 1)) + 1)))) (IntKind.i64.wrap ((IntKind.i64.wrap ((IntKind.i64.wrap (2 * x266)) + 1)) + 1)) (nth l263 x266)), IntKind.i64.wrap ((IntKind.i64.wrap ((IntKind.i64.wrap (2 * x266)) + 1)) + 1)), ⟨(setL (setL l263 x266 (nth l263 (IntKind.i64.wrap ((IntKind.i64.wrap ((IntKind.i64.wrap (2 * x266)) + 1)) + 1)))) (IntKind.i64.wrap ((IntKind.i64.wrap ((IntKind.i64.wrap (2 * x266)) + 1)) + 1)) (nth l263 x266)), (IntKind.i64.wrap ((IntKind.i64.wrap ((IntKind.i64.wrap (2 * x266)) + 1)) + 1)), rfl, A264, c265, ha.to ⟨rfl, rfl, trivial⟩, hS⟩, h.some⟩
    refine RC.condT rfl (RC.ret (RQ.ret (RQ.inB_ret ?_)))
    have h := h.inrS
    refine RQ.ret (RQ.inB_ret ?_)
    obtain rfl := h.some
    exact rt results203 rfl ⟨A264, c265, rfl, hS⟩
   refine RC.condF rfl (sk (RC.seq (RC.seq (RC.planS (plD [0, 3, 6, 10, 12, 15, 18, 22, 24, 28, 31, 33, 36, 39, 43, 47, 50, 53, 56, 59]) [18, 19] hS (fun w hS => hS) follows rfl (by kernel_rfl) (NoTmp.then (NoTmp.then (NoTmp.block (NoTmp.then (NoTmp.block NoTmp.body))))) fun w hS => pp 2 rfl (RP.s0 2 rfl (fun w => Vl.fa 1 underlying243 rfl sizeOf77 rfl rfl) rfl (RP.s 0 3 rfl rfl hS (fun w hS => Vl.ld 1 hS isAgg77 rfl rfl rfl) rfl (pp 2 rfl (RP.s0 6 rfl (fun w => Vl.fa 0 underlying243 rfl sizeOf39 rfl rfl) rfl (RP.s 0 7 rfl rfl hS (fun w hS => Vl.ld 1 hS isAgg39 rfl rfl rfl) rfl (pp 1 rfl (RP.s 0 9 rfl rfl hS (fun w hS => Vl.indexOwn 0 hS rfl underlying39 sizeOf48 rfl rfl hq344 hq345) rfl (RP.s 0 10 rfl rfl hS (fun w hS => Vl.loadA isAgg48 sizeOf48 rfl rfl ((hS.slW 0 rfl).2.2.cells hq344 hq345)) rfl (pp 2 rfl ?_)))))))))))))
   refine RP.s0 13 rfl (fun w => Vl.fa 0 underlying243 rfl sizeOf39 rfl rfl) rfl (RP.s 0 14 rfl rfl hS (fun w hS => Vl.ld 1 hS isAgg39 rfl rfl rfl) rfl (RP.v1 15 rfl (Vl.move rfl) rfl rfl ?_))
   obtain ⟨⟨hq367, hq368⟩, h⟩ := h.req
   refine RP.v1 16 rfl (Vl.indexOwn 0 hS rfl underlying39 sizeOf48 rfl rfl hq367 hq368) rfl rfl (RP.v1 17 rfl (Vl.loadA isAgg48 sizeOf48 rfl rfl ((hS.slW 0 rfl).2.2.cells hq367 hq368)) rfl rfl ?_)
   obtain ⟨t369, hg370, h⟩ := h.bind
   have hc := event_Before.ok hg370 hS
   refine RP.e 18 rfl (OW.call (ls := [.tmp 57, .tmp 64]) rfl rfl call62 rfl hc) rfl rfl ?_
   rintro _ w ⟨rfl, hS⟩
   refine ⟨kp ⟨(by intro hx; cases hx), trivial⟩, ?_⟩
   refine RP.v1 19 rfl (Vl.not rfl) rfl rfl (RP.nil (RQ.then_n ?_))
   refine RC.iteM 66 rfl h (fun hc371 h => ?_) fun hc371 h => ?_
   next =>
    refine RC.condF rfl (sk (RC.seq (RC.planS (plD [0, 3, 6, 10, 12, 15, 18, 21, 25, 27, 30, 33, 36, 40, 42, 46, 49, 51, 54, 57, 61, 65, 68, 71, 74, 77, 80, 83]) [24, 25, 26, 27] hS (fun w hS => hS) follows rfl (by kernel_rfl) (NoTmp.then (NoTmp.block (NoTmp.then (NoTmp.block NoTmp.body)))) fun w hS => pp 2 rfl (RP.s0 2 rfl (fun w => Vl.fa 0 underlying243 rfl sizeOf39 rfl rfl) rfl (RP.s 0 3 rfl rfl hS (fun w hS => Vl.ld 1 hS isAgg39 rfl rfl rfl) rfl (pp 3 rfl (RP.s0 7 rfl (fun w => Vl.fa 0 underlying243 rfl sizeOf39 rfl rfl) rfl (RP.s 0 8 rfl rfl hS (fun w hS => Vl.ld 1 hS isAgg39 rfl rfl rfl) rfl (pp 3 rfl (RP.s0 12 rfl (fun w => Vl.fa 0 underlying243 rfl sizeOf39 rfl rfl) rfl (RP.s 0 13 rfl rfl hS (fun w hS => Vl.ld 1 hS isAgg39 rfl rfl rfl) rfl (pp 1 rfl (RP.s 0 15 rfl rfl hS (fun w hS => Vl.indexOwn 0 hS rfl underlying39 sizeOf48 rfl rfl hq344 hq345) rfl ?_)))))))))))))
    refine RP.s 0 16 rfl rfl hS (fun w hS => Vl.loadA isAgg48 sizeOf48 rfl rfl ((hS.slW 0 rfl).2.2.cells hq344 hq345)) rfl (pp 2 rfl (RP.s0 19 rfl (fun w => Vl.fa 0 underlying243 rfl sizeOf39 rfl rfl) rfl (RP.s 0 20 rfl rfl hS (fun w hS => Vl.ld 1 hS isAgg39 rfl rfl rfl) rfl (RP.v1 21 rfl (Vl.move rfl) rfl rfl (RP.v1 22 rfl (Vl.indexOwn 0 hS rfl underlying39 sizeOf48 rfl rfl hq367 hq368) rfl rfl (RP.v1 23 rfl (Vl.loadA isAgg48 sizeOf48 rfl rfl ((hS.slW 0 rfl).2.2.cells hq367 hq368)) rfl rfl (RP.v1 24 rfl (Vl.indexOwn 0 hS rfl underlying39 sizeOf48 rfl rfl hq367 hq368) rfl rfl (RP.e0 25 rfl (OW.storeOwn (E := E_api_Message) (off := 0) (j := x266) (x' := nth l263 (IntKind.i64.wrap ((IntKind.i64.wrap (2 * x266)) + 1))) (vs := (C_api_Message (nth l263 (IntKind.i64.wrap ((IntKind.i64.wrap (2 * x266)) + 1))))) 0 hS rfl rfl rfl rfl sizeOf48 rfl (Nat.succ_pos _) hq367 hq368 (Nat.le_of_ble_eq_true rfl) rfl rfl) rfl ?_))))))))
    rintro _ w ⟨rfl, hS⟩
    have he372 := (hS.osN 0 rfl).1
    have hS : St B w (_ :: _ :: l) hf := (congrArg (fun k_ : Nat => St B w (OSf E_api_Message 48 (.slice A264 k_ c265) (setL l263 x266 (nth l263 (IntKind.i64.wrap ((IntKind.i64.wrap (2 * x266)) + 1)))) :: Cl b1 [.slice A264 k_ c265, .func (.func 62) #[] #[]] 245 :: l) hf) he372).mp hS
    refine ⟨kp ⟨(by intro hx; cases hx), trivial⟩, ?_⟩
    refine RP.re 12 rfl (congrArg (fun k_ : Nat => (.slice A264 k_ c265 : Value)) he372) (RP.re 20 rfl (congrArg (fun k_ : Nat => (.slice A264 k_ c265 : Value)) he372) (RP.re 31 rfl (congrArg (fun k_ : Nat => (.slice A264 k_ c265 : Value)) he372) (RP.re 39 rfl (congrArg (fun k_ : Nat => (.slice A264 k_ c265 : Value)) he372) (RP.re 54 rfl (congrArg (fun k_ : Nat => (.slice A264 k_ c265 : Value)) he372) (RP.re 61 rfl (congrArg (fun k_ : Nat => (.slice A264 k_ c265 : Value)) he372) (RP.re 70 rfl (congrArg (fun k_ : Nat => (.slice A264 k_ c265 : Value)) he372) (RP.re 75 rfl (congrArg (fun k_ : Nat => (.slice A264 k_ c265 : Value)) he372) (RP.re 80 rfl (congrArg (fun k_ : Nat => (.slice A264 k_ c265 : Value)) he372) (RP.re 87 rfl (congrArg (fun k_ : Nat => (.slice A264 k_ c265 : Value)) he372) ?_)))))))))
    obtain ⟨hq373, h⟩ := h.req
    refine RP.v1 26 rfl (Vl.indexOwn 0 hS rfl underlying39 sizeOf48 rfl rfl hq344 hq373) rfl rfl (RP.e0 27 rfl (OW.storeOwn (E := E_api_Message) (off := 0) (j := IntKind.i64.wrap ((IntKind.i64.wrap (2 * x266)) + 1)) (x' := nth l263 x266) (vs := (C_api_Message (nth l263 x266))) 0 hS rfl rfl rfl rfl sizeOf48 rfl (Nat.succ_pos _) hq344 hq373 (Nat.le_of_ble_eq_true rfl) rfl rfl) rfl ?_)
    rintro _ w ⟨rfl, hS⟩
    have he374 := (hS.osN 0 rfl).1
    have hS : St B w (_ :: _ :: l) hf := (congrArg (fun k_ : Nat => St B w (OSf E_api_Message 48 (.slice A264 k_ c265) (setL (setL l263 x266 (nth l263 (IntKind.i64.wrap ((IntKind.i64.wrap (2 * x266)) + 1)))) (IntKind.i64.wrap ((IntKind.i64.wrap (2 * x266)) + 1)) (nth l263 x266)) :: Cl b1 [.slice A264 k_ c265, .func (.func 62) #[] #[]] 245 :: l) hf) he374).mp hS
    refine ⟨kp ⟨(by intro hx; cases hx), trivial⟩, ?_⟩
    refine RP.re 12 rfl (congrArg (fun k_ : Nat => (.slice A264 k_ c265 : Value)) he374) (RP.re 20 rfl (congrArg (fun k_ : Nat => (.slice A264 k_ c265 : Value)) he374) (RP.re 31 rfl (congrArg (fun k_ : Nat => (.slice A264 k_ c265 : Value)) he374) (RP.re 39 rfl (congrArg (fun k_ : Nat => (.slice A264 k_ c265 : Value)) he374) (RP.re 54 rfl (congrArg (fun k_ : Nat => (.slice A264 k_ c265 : Value)) he374) (RP.re 61 rfl (congrArg (fun k_ : Nat => (.slice A264 k_ c265 : Value)) he374) (RP.re 70 rfl (congrArg (fun k_ : Nat => (.slice A264 k_ c265 : Value)) he374) (RP.re 75 rfl (congrArg (fun k_ : Nat => (.slice A264 k_ c265 : Value)) he374) (RP.re 80 rfl (congrArg (fun k_ : Nat => (.slice A264 k_ c265 : Value)) he374) (RP.re 87 rfl (congrArg (fun k_ : Nat => (.slice A264 k_ c265 : Value)) he374) (RP.nil (RQ.then_n (RC.region (pn 2 rfl (RL.nil (RQ.inB_n ?_)))))))))))))))
    exact fun a ha => ⟨((setL (setL l263 x266 (nth l263 (IntKind.i64.wrap ((IntKind.i64.wrap (2 * x266)) + 1)))) (IntKind.i64.wrap ((IntKind.i64.wrap (2 * x266)) + 1)) (nth l263 x266)), IntKind.i64.wrap ((IntKind.i64.wrap (2 * x266)) + 1)), ⟨(setL (setL l263 x266 (nth l263 (IntKind.i64.wrap ((IntKind.i64.wrap (2 * x266)) + 1)))) (IntKind.i64.wrap ((IntKind.i64.wrap (2 * x266)) + 1)) (nth l263 x266)), (IntKind.i64.wrap ((IntKind.i64.wrap (2 * x266)) + 1)), rfl, A264, c265, ha.to ⟨rfl, rfl, trivial⟩, hS⟩, h.some⟩
   refine RC.condT rfl (RC.ret (RQ.ret (RQ.inB_ret ?_)))
   have h := h.inrS
   refine RQ.ret (RQ.inB_ret ?_)
   obtain rfl := h.some
   exact rt results203 rfl ⟨A264, c265, rfl, hS⟩
  refine pp 3 rfl (RP.nn 0 12 rfl rfl rfl (pp 3 rfl (RP.nn 0 16 rfl rfl rfl (pp 2 rfl (RP.nn 0 19 rfl rfl rfl (RP.nn 0 20 rfl rfl rfl (pp 3 rfl (RP.nn 0 24 rfl rfl rfl (RP.n1 25 rfl rfl rfl (RP.n1 26 rfl rfl rfl (RP.n1 27 rfl rfl rfl (RP.n1 28 rfl rfl rfl (RP.v1 29 rfl (Vl.pickF rfl rfl) rfl rfl (RP.nil (RQ.then_n ?_)))))))))))))))
  refine RC.condF rfl (sk (RC.seq (RC.seq (RC.planS (plD [0, 3, 6, 10, 12, 15, 18, 22, 24, 28, 31, 33, 36, 39, 43, 47, 50, 53, 56, 59]) [18, 19] hS (fun w hS => hS) follows rfl (by kernel_rfl) (NoTmp.then (NoTmp.then (NoTmp.block (NoTmp.then (NoTmp.block NoTmp.body))))) fun w hS => pp 2 rfl (RP.s0 2 rfl (fun w => Vl.fa 1 underlying243 rfl sizeOf77 rfl rfl) rfl (RP.s 0 3 rfl rfl hS (fun w hS => Vl.ld 1 hS isAgg77 rfl rfl rfl) rfl (pp 2 rfl (RP.s0 6 rfl (fun w => Vl.fa 0 underlying243 rfl sizeOf39 rfl rfl) rfl (RP.s 0 7 rfl rfl hS (fun w hS => Vl.ld 1 hS isAgg39 rfl rfl rfl) rfl (pp 1 rfl ?_))))))))))
  obtain ⟨⟨hq382, hq383⟩, h⟩ := h.req
  refine RP.s 0 9 rfl rfl hS (fun w hS => Vl.indexOwn 0 hS rfl underlying39 sizeOf48 rfl rfl hq382 hq383) rfl (RP.s 0 10 rfl rfl hS (fun w hS => Vl.loadA isAgg48 sizeOf48 rfl rfl ((hS.slW 0 rfl).2.2.cells hq382 hq383)) rfl (pp 2 rfl (RP.s0 13 rfl (fun w => Vl.fa 0 underlying243 rfl sizeOf39 rfl rfl) rfl (RP.s 0 14 rfl rfl hS (fun w hS => Vl.ld 1 hS isAgg39 rfl rfl rfl) rfl (RP.v1 15 rfl (Vl.move rfl) rfl rfl ?_)))))
  obtain ⟨⟨hq384, hq385⟩, h⟩ := h.req
  refine RP.v1 16 rfl (Vl.indexOwn 0 hS rfl underlying39 sizeOf48 rfl rfl hq384 hq385) rfl rfl (RP.v1 17 rfl (Vl.loadA isAgg48 sizeOf48 rfl rfl ((hS.slW 0 rfl).2.2.cells hq384 hq385)) rfl rfl ?_)
  obtain ⟨t386, hg387, h⟩ := h.bind
  have hc := event_Before.ok hg387 hS
  refine RP.e 18 rfl (OW.call (ls := [.tmp 57, .tmp 64]) rfl rfl call62 rfl hc) rfl rfl ?_
  rintro _ w ⟨rfl, hS⟩
  refine ⟨kp ⟨(by intro hx; cases hx), trivial⟩, ?_⟩
  refine RP.v1 19 rfl (Vl.not rfl) rfl rfl (RP.nil (RQ.then_n ?_))
  refine RC.iteM 66 rfl h (fun hc388 h => ?_) fun hc388 h => ?_
  next =>
   refine RC.condF rfl (sk (RC.seq (RC.planS (plD [0, 3, 6, 10, 12, 15, 18, 21, 25, 27, 30, 33, 36, 40, 42, 46, 49, 51, 54, 57, 61, 65, 68, 71, 74, 77, 80, 83]) [24, 25, 26, 27] hS (fun w hS => hS) follows rfl (by kernel_rfl) (NoTmp.then (NoTmp.block (NoTmp.then (NoTmp.block NoTmp.body)))) fun w hS => pp 2 rfl (RP.s0 2 rfl (fun w => Vl.fa 0 underlying243 rfl sizeOf39 rfl rfl) rfl (RP.s 0 3 rfl rfl hS (fun w hS => Vl.ld 1 hS isAgg39 rfl rfl rfl) rfl (pp 3 rfl (RP.s0 7 rfl (fun w => Vl.fa 0 underlying243 rfl sizeOf39 rfl rfl) rfl (RP.s 0 8 rfl rfl hS (fun w hS => Vl.ld 1 hS isAgg39 rfl rfl rfl) rfl (pp 3 rfl (RP.s0 12 rfl (fun w => Vl.fa 0 underlying243 rfl sizeOf39 rfl rfl) rfl (RP.s 0 13 rfl rfl hS (fun w hS => Vl.ld 1 hS isAgg39 rfl rfl rfl) rfl (pp 1 rfl (RP.s 0 15 rfl rfl hS (fun w hS => Vl.indexOwn 0 hS rfl underlying39 sizeOf48 rfl rfl hq382 hq383) rfl ?_)))))))))))))
   refine RP.s 0 16 rfl rfl hS (fun w hS => Vl.loadA isAgg48 sizeOf48 rfl rfl ((hS.slW 0 rfl).2.2.cells hq382 hq383)) rfl (pp 2 rfl (RP.s0 19 rfl (fun w => Vl.fa 0 underlying243 rfl sizeOf39 rfl rfl) rfl (RP.s 0 20 rfl rfl hS (fun w hS => Vl.ld 1 hS isAgg39 rfl rfl rfl) rfl (RP.v1 21 rfl (Vl.move rfl) rfl rfl (RP.v1 22 rfl (Vl.indexOwn 0 hS rfl underlying39 sizeOf48 rfl rfl hq384 hq385) rfl rfl (RP.v1 23 rfl (Vl.loadA isAgg48 sizeOf48 rfl rfl ((hS.slW 0 rfl).2.2.cells hq384 hq385)) rfl rfl (RP.v1 24 rfl (Vl.indexOwn 0 hS rfl underlying39 sizeOf48 rfl rfl hq384 hq385) rfl rfl (RP.e0 25 rfl (OW.storeOwn (E := E_api_Message) (off := 0) (j := x266) (x' := nth l263 (IntKind.i64.wrap ((IntKind.i64.wrap (2 * x266)) + 1))) (vs := (C_api_Message (nth l263 (IntKind.i64.wrap ((IntKind.i64.wrap (2 * x266)) + 1))))) 0 hS rfl rfl rfl rfl sizeOf48 rfl (Nat.succ_pos _) hq384 hq385 (Nat.le_of_ble_eq_true rfl) rfl rfl) rfl ?_))))))))
   rintro _ w ⟨rfl, hS⟩
   have he389 := (hS.osN 0 rfl).1
   have hS : St B w (_ :: _ :: l) hf := (congrArg (fun k_ : Nat => St B w (OSf E_api_Message 48 (.slice A264 k_ c265) (setL l263 x266 (nth l263 (IntKind.i64.wrap ((IntKind.i64.wrap (2 * x266)) + 1)))) :: Cl b1 [.slice A264 k_ c265, .func (.func 62) #[] #[]] 245 :: l) hf) he389).mp hS
   refine ⟨kp ⟨(by intro hx; cases hx), trivial⟩, ?_⟩
   refine RP.re 12 rfl (congrArg (fun k_ : Nat => (.slice A264 k_ c265 : Value)) he389) (RP.re 20 rfl (congrArg (fun k_ : Nat => (.slice A264 k_ c265 : Value)) he389) (RP.re 54 rfl (congrArg (fun k_ : Nat => (.slice A264 k_ c265 : Value)) he389) (RP.re 61 rfl (congrArg (fun k_ : Nat => (.slice A264 k_ c265 : Value)) he389) (RP.re 70 rfl (congrArg (fun k_ : Nat => (.slice A264 k_ c265 : Value)) he389) (RP.re 75 rfl (congrArg (fun k_ : Nat => (.slice A264 k_ c265 : Value)) he389) (RP.re 80 rfl (congrArg (fun k_ : Nat => (.slice A264 k_ c265 : Value)) he389) (RP.re 87 rfl (congrArg (fun k_ : Nat => (.slice A264 k_ c265 : Value)) he389) ?_)))))))
   obtain ⟨hq390, h⟩ := h.req
   refine RP.v1 26 rfl (Vl.indexOwn 0 hS rfl underlying39 sizeOf48 rfl rfl hq382 hq390) rfl rfl (RP.e0 27 rfl (OW.storeOwn (E := E_api_Message) (off := 0) (j := IntKind.i64.wrap ((IntKind.i64.wrap (2 * x266)) + 1)) (x' := nth l263 x266) (vs := (C_api_Message (nth l263 x266))) 0 hS rfl rfl rfl rfl sizeOf48 rfl (Nat.succ_pos _) hq382 hq390 (Nat.le_of_ble_eq_true rfl) rfl rfl) rfl ?_)
   rintro _ w ⟨rfl, hS⟩
   have he391 := (hS.osN 0 rfl).1
   have hS : St B w (_ :: _ :: l) hf := (congrArg (fun k_ : Nat => St B w (OSf E_api_Message 48 (.slice A264 k_ c265) (setL (setL l263 x266 (nth l263 (IntKind.i64.wrap ((IntKind.i64.wrap (2 * x266)) + 1)))) (IntKind.i64.wrap ((IntKind.i64.wrap (2 * x266)) + 1)) (nth l263 x266)) :: Cl b1 [.slice A264 k_ c265, .func (.func 62) #[] #[]] 245 :: l) hf) he391).mp hS
   refine ⟨kp ⟨(by intro hx; cases hx), trivial⟩, ?_⟩
   refine RP.re 12 rfl (congrArg (fun k_ : Nat => (.slice A264 k_ c265 : Value)) he391) (RP.re 20 rfl (congrArg (fun k_ : Nat => (.slice A264 k_ c265 : Value)) he391) (RP.re 54 rfl (congrArg (fun k_ : Nat => (.slice A264 k_ c265 : Value)) he391) (RP.re 61 rfl (congrArg (fun k_ : Nat => (.slice A264 k_ c265 : Value)) he391) (RP.re 70 rfl (congrArg (fun k_ : Nat => (.slice A264 k_ c265 : Value)) he391) (RP.re 75 rfl (congrArg (fun k_ : Nat => (.slice A264 k_ c265 : Value)) he391) (RP.re 80 rfl (congrArg (fun k_ : Nat => (.slice A264 k_ c265 : Value)) he391) (RP.re 87 rfl (congrArg (fun k_ : Nat => (.slice A264 k_ c265 : Value)) he391) (RP.nil (RQ.then_n (RC.region (pn 2 rfl (RL.nil (RQ.inB_n ?_)))))))))))))
   exact fun a ha => ⟨((setL (setL l263 x266 (nth l263 (IntKind.i64.wrap ((IntKind.i64.wrap (2 * x266)) + 1)))) (IntKind.i64.wrap ((IntKind.i64.wrap (2 * x266)) + 1)) (nth l263 x266)), IntKind.i64.wrap ((IntKind.i64.wrap (2 * x266)) + 1)), ⟨(setL (setL l263 x266 (nth l263 (IntKind.i64.wrap ((IntKind.i64.wrap (2 * x266)) + 1)))) (IntKind.i64.wrap ((IntKind.i64.wrap (2 * x266)) + 1)) (nth l263 x266)), (IntKind.i64.wrap ((IntKind.i64.wrap (2 * x266)) + 1)), rfl, A264, c265, ha.to ⟨rfl, rfl, trivial⟩, hS⟩, h.some⟩
  refine RC.condT rfl (RC.ret (RQ.ret (RQ.inB_ret ?_)))
  have h := h.inrS
  refine RQ.ret (RQ.inB_ret ?_)
  obtain rfl := h.some
  exact rt results203 rfl ⟨A264, c265, rfl, hS⟩
end
end Go.Proofs.Gx
