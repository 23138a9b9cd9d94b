/-
  The walks of functions, each with what it computes: printed by wip/gx.py.
-/
import Derived.Test.YtofgeidjbfmmdaaGreatDoorW0
import Derived.Test.YtofgeidjbfmmdaaGreatDoorW4
import Derived.Test.YtofgeidjbfmmdaaGreatDoorW7
set_option linter.unusedVariables false
set_option maxRecDepth 100000
set_option maxHeartbeats 4000000
namespace Go.Proofs.Gx
open Go.Sl Tryz
variable {B : Base} {w : World} {l : List HProp} {hf : Hp}
/-! ### isochron/vm.Run: function 58 -/
noncomputable def vm_Run.j2 (a8 : api_State) (fn139 : (Nat → Int)) (x140 : Int) (l141 : List api_Out) (x144 : Int) : Option (api_State × List api_Out × Int) := some ((⟨(⟨fn139 0, fn139 1, fn139 2, fn139 3, fn139 4, fn139 5, fn139 6, fn139 7⟩ : Arr8xInti64), x140, IntKind.i64.wrap (a8.Sent + (l141.length : Int))⟩ : api_State), l141, 0)
noncomputable def vm_Run.f (a1 : api_World) (a8 : api_State) (a9 : api_Message) : Option (api_State × List api_Out × Int) := ((vm_Check.f a1).bind fun t98 => (if t98 = 0 then ((event_Check.f a9).bind fun t106 => (if t106 = 0 then (if (if a8.Sent < a8.Draws then a8.Sent else a8.Draws) < 0 then some ((⟨(⟨0, 0, 0, 0, 0, 0, 0, 0⟩ : Arr8xInti64), 0, 0⟩ : api_State), ([] : List api_Out), 1) else (if 1125899906842624 < (if a8.Draws < a8.Sent then a8.Sent else a8.Draws) then some ((⟨(⟨0, 0, 0, 0, 0, 0, 0, 0⟩ : Arr8xInti64), 0, 0⟩ : api_State), ([] : List api_Out), 1) else ((vm_cpu_run.f a1.Prog a1.Self a1.Links a1.Seed a9.Key.Time a9.Key.From a9.Key.Seq a9.To a9.Value a9.Uid a9.Anti a8.Draws ([] : List api_Out) 0 (ovl [a8.Regs.c0, a8.Regs.c1, a8.Regs.c2, a8.Regs.c3, a8.Regs.c4, a8.Regs.c5, a8.Regs.c6, a8.Regs.c7] zfn)).bind fun t146 => match t146 with | .inl (y148, y149, y150, y151) => ((errors_As_4.f (⟨0, 0⟩ : vm_fault)).bind fun t154 => (if t154 = true then some (a8, ([] : List api_Out), 0) else vm_Run.j2 a8 y148 y149 y150 y151)) | .inr ((y157, y158, y159, y160, y161)) => ((errors_As_5.f y157 (⟨0, 0⟩ : vm_fault)).bind fun (y169, y170) => (if y169 = true then some (a8, ([] : List api_Out), y170.why) else vm_Run.j2 a8 y158 y159 y160 y161))))) else some ((⟨(⟨0, 0, 0, 0, 0, 0, 0, 0⟩ : Arr8xInti64), 0, 0⟩ : api_State), ([] : List api_Out), 1))) else some ((⟨(⟨0, 0, 0, 0, 0, 0, 0, 0⟩ : Arr8xInti64), 0, 0⟩ : api_State), ([] : List api_Out), t98)))
theorem vm_Run.ok {a1 : api_World} {a8 : api_State} {a9 : api_Message} {A2 : Option Addr} {c3 : Nat} {A5 : Option Addr} {c6 : Nat} (hr4 : SlR E_api_Instr.rep hf A2 c3 a1.Prog) (hr7 : SlR E_api_Link.rep hf A5 c6 a1.Links) (hG0 : GlobAt hf 0 (.iface 148 (.agg #[.pointer (some ⟨1, 83, none⟩)]))) {r : api_State × List api_Out × Int} (h : vm_Run.f a1 a8 a9 = some r) (hS : St B w (l) hf) :
    Calls prog 58 #[.agg #[.slice A2 a1.Prog.length c3, .int .i64 a1.Self, .slice A5 a1.Links.length c6, .int .u64 a1.Seed], .agg #[.int .i64 a8.Regs.c0, .int .i64 a8.Regs.c1, .int .i64 a8.Regs.c2, .int .i64 a8.Regs.c3, .int .i64 a8.Regs.c4, .int .i64 a8.Regs.c5, .int .i64 a8.Regs.c6, .int .i64 a8.Regs.c7, .int .i64 a8.Draws, .int .i64 a8.Sent], .agg #[.int .i64 a9.Key.Time, .int .i64 a9.Key.From, .int .i64 a9.Key.Seq, .int .i64 a9.To, .int .i64 a9.Value, .int .i64 a9.Uid, .bool a9.Anti]] w (Ret fun v w => ∃ (A_1 : Option Addr) (c_2 : Nat), v = .tuple #[.agg #[.int .i64 r.1.Regs.c0, .int .i64 r.1.Regs.c1, .int .i64 r.1.Regs.c2, .int .i64 r.1.Regs.c3, .int .i64 r.1.Regs.c4, .int .i64 r.1.Regs.c5, .int .i64 r.1.Regs.c6, .int .i64 r.1.Regs.c7, .int .i64 r.1.Draws, .int .i64 r.1.Sent], .slice A_1 r.2.1.length c_2, .int .i64 r.2.2] ∧ St B w (OSf E_api_Out 176 (.slice A_1 r.2.1.length c_2) r.2.1 :: l) hf) := by
  have h := Holds.of h
  refine en func58 rfl ntmps58 rfl (sr (bx hS rfl rfl rfl rfl fun b91 w hS => bx hS rfl rfl rfl rfl fun b92 w hS => bx hS rfl rfl rfl rfl fun b93 w hS => al hS zeroValue105 rfl rfl rfl fun b94 w hS => pn 2 rfl (ln (RC.seq (sr (RL.s (Vl.lw 3 hS isAgg124 sizeOf124 rfl rfl rfl) rfl (cF (fun _ hg => vm_Check.ok hr4 hr7 hg hS) call75 h rfl rfl rfl ?_)))))))
  rintro t98 h _ w ⟨rfl, hS⟩
  refine pn 1 rfl (lnsr (pn 2 rfl (ln ?_)))
  refine RC.iteN 17 rfl h (fun hc100 h => ?_) fun hc100 h => ?_
  next =>
   refine RC.condF rfl (sk (RC.seq (sr (RL.s (Vl.lw 1 hS isAgg53 sizeOf53 rfl rfl rfl) rfl (cF (fun _ hg => event_Check.ok hg hS) call76 h rfl rfl rfl ?_)))))
   rintro t106 h _ w ⟨rfl, hS⟩
   refine pn 2 rfl ?_
   refine RL.iteN 23 rfl h (fun hc108 h => ?_) fun hc108 h => ?_
   next =>
    refine RL.sg (Vl.fa 8 underlying105 rfl sizeOf3 rfl rfl) rfl rfl (RL.sg (Vl.ld 2 hS isAgg3 rfl rfl rfl) rfl rfl (RL.sg (Vl.fa 9 underlying105 rfl sizeOf3 rfl rfl) rfl rfl (RL.sg (Vl.ld 2 hS isAgg3 rfl rfl rfl) rfl rfl (RL.sg (Vl.min2 rfl rfl) rfl rfl (pn 3 rfl ?_)))))
    refine RL.iteP 31 rfl h (fun hc109 h => ?_) fun hc109 h => ?_
    next =>
     refine pn 7 rfl (ln (RC.condT rfl (sr (RL.s (Vl.build (v := .agg #[.int .i64 0, .int .i64 0, .int .i64 0, .int .i64 0, .int .i64 0, .int .i64 0, .int .i64 0, .int .i64 0, .int .i64 0, .int .i64 0]) (parts := []) rfl (by kernel_rfl)) rfl (RL.e0 (OW.store (vs := [.int .i64 0, .int .i64 0, .int .i64 0, .int .i64 0, .int .i64 0, .int .i64 0, .int .i64 0, .int .i64 0, .int .i64 0, .int .i64 0]) 0 hS rfl rfl rfl rfl sizeOf105 rfl rfl rfl rfl) rfl ?_)))))
     rintro _ w ⟨rfl, hS⟩
     have hS : St B w (Cl _ [_, _, _, _, _, _, _, _, _, _] _ :: _ :: _ :: _ :: l) hf := hS
     refine pn 2 rfl (lr (RQ.ret ?_))
     have hS := hS.nilSl E_api_Out 176
     obtain rfl := h.some
     refine RQ.ret0 (vs := [.agg #[.int .i64 0, .int .i64 0, .int .i64 0, .int .i64 0, .int .i64 0, .int .i64 0, .int .i64 0, .int .i64 0, .int .i64 0, .int .i64 0], .slice none 0 0, .int .i64 1]) results58 ⟨⟨_, rfl, run_loadVarA (vs := [.int .i64 0, .int .i64 0, .int .i64 0, .int .i64 0, .int .i64 0, .int .i64 0, .int .i64 0, .int .i64 0, .int .i64 0, .int .i64 0]) isAgg105 sizeOf105 rfl (hS.cellsAt 1 rfl rfl)⟩, rfl, rfl, trivial⟩ ?_
     exact ⟨none, 0, rfl, hS.d1.d1.d1.d1⟩
    next =>
     refine RL.sg (Vl.fa 8 underlying105 rfl sizeOf3 rfl rfl) rfl rfl (RL.sg (Vl.ld 2 hS isAgg3 rfl rfl rfl) rfl rfl (RL.sg (Vl.fa 9 underlying105 rfl sizeOf3 rfl rfl) rfl rfl (RL.sg (Vl.ld 2 hS isAgg3 rfl rfl rfl) rfl rfl (RL.sg (Vl.max2 rfl rfl) rfl rfl (pn 2 rfl (ln ?_))))))
     refine RC.iteP 38 rfl h (fun hc110 h => ?_) fun hc110 h => ?_
     next =>
      refine RC.condT rfl (sr (RL.s (Vl.build (v := .agg #[.int .i64 0, .int .i64 0, .int .i64 0, .int .i64 0, .int .i64 0, .int .i64 0, .int .i64 0, .int .i64 0, .int .i64 0, .int .i64 0]) (parts := []) rfl (by kernel_rfl)) rfl (RL.e0 (OW.store (vs := [.int .i64 0, .int .i64 0, .int .i64 0, .int .i64 0, .int .i64 0, .int .i64 0, .int .i64 0, .int .i64 0, .int .i64 0, .int .i64 0]) 0 hS rfl rfl rfl rfl sizeOf105 rfl rfl rfl rfl) rfl ?_)))
      rintro _ w ⟨rfl, hS⟩
      have hS : St B w (Cl _ [_, _, _, _, _, _, _, _, _, _] _ :: _ :: _ :: _ :: l) hf := hS
      refine pn 2 rfl (lr (RQ.ret ?_))
      have hS := hS.nilSl E_api_Out 176
      obtain rfl := h.some
      refine RQ.ret0 (vs := [.agg #[.int .i64 0, .int .i64 0, .int .i64 0, .int .i64 0, .int .i64 0, .int .i64 0, .int .i64 0, .int .i64 0, .int .i64 0, .int .i64 0], .slice none 0 0, .int .i64 1]) results58 ⟨⟨_, rfl, run_loadVarA (vs := [.int .i64 0, .int .i64 0, .int .i64 0, .int .i64 0, .int .i64 0, .int .i64 0, .int .i64 0, .int .i64 0, .int .i64 0, .int .i64 0]) isAgg105 sizeOf105 rfl (hS.cellsAt 1 rfl rfl)⟩, rfl, rfl, trivial⟩ ?_
      exact ⟨none, 0, rfl, hS.d1.d1.d1.d1⟩
     next =>
      refine RC.condF rfl (sk (sr (RL.s (Vl.lw 3 hS isAgg124 sizeOf124 rfl rfl rfl) rfl (RL.s (Vl.lw 1 hS isAgg53 sizeOf53 rfl rfl rfl) rfl (RL.s (Vl.fa 8 underlying105 rfl sizeOf3 rfl rfl) rfl (RL.s (Vl.ld 2 hS isAgg3 rfl rfl rfl) rfl (RL.s (Vl.build (v := .agg #[.slice A2 a1.Prog.length c3, .int .i64 a1.Self, .slice A5 a1.Links.length c6, .int .u64 a1.Seed, .int .i64 a9.Key.Time, .int .i64 a9.Key.From, .int .i64 a9.Key.Seq, .int .i64 a9.To, .int .i64 a9.Value, .int .i64 a9.Uid, .bool a9.Anti, .int .i64 0, .int .i64 0, .int .i64 0, .int .i64 0, .int .i64 0, .int .i64 0, .int .i64 0, .int .i64 0, .int .i64 0, .int .i64 0, .int .i64 0, .int .i64 0, .int .i64 0, .int .i64 0, .int .i64 0, .int .i64 0, .int .i64 a8.Draws, .slice none 0 0, .int .i64 0]) (parts := [(0, .tmp 40), (1, .tmp 41), (3, .tmp 43)]) rfl (by kernel_rfl)) rfl (bx hS rfl rfl rfl rfl fun b111 w hS => pn 1 rfl (ln (RC.seq (RC.planS (plD [0, 3, 6, 10, 14, 17, 20]) [6] hS (fun w hS => hS) follows rfl (by kernel_rfl) (NoTmp.then NoTmp.body) fun w hS => ?_)))))))))))
      refine pp 2 rfl (RP.s0 2 rfl (fun w => Vl.fa 11 underlying170 rfl sizeOf168 rfl rfl) rfl (RP.s 0 3 rfl rfl hS (fun w hS => Vl.sliceArr underlying168 sizeOf2 rfl) rfl (RP.v1 4 rfl (Vl.fa 0 underlying105 rfl sizeOf103 rfl rfl) rfl rfl (RP.v1 5 rfl (Vl.sliceArr underlying103 sizeOf2 rfl) rfl rfl (RP.e 6 rfl (OW.copyB (m := 8) (vs := [.int .i64 a8.Regs.c0, .int .i64 a8.Regs.c1, .int .i64 a8.Regs.c2, .int .i64 a8.Regs.c3, .int .i64 a8.Regs.c4, .int .i64 a8.Regs.c5, .int .i64 a8.Regs.c6, .int .i64 a8.Regs.c7]) 0 3 hS rfl rfl underlying171 rfl rfl rfl rfl rfl rfl (Nat.le_of_ble_eq_true rfl) rfl rfl) rfl rfl ?_)))))
      rintro _ w ⟨rfl, hS⟩
      have hS : St B w (Cl b111 [.slice A2 a1.Prog.length c3, .int .i64 a1.Self, .slice A5 a1.Links.length c6, .int .u64 a1.Seed, .int .i64 a9.Key.Time, .int .i64 a9.Key.From, .int .i64 a9.Key.Seq, .int .i64 a9.To, .int .i64 a9.Value, .int .i64 a9.Uid, .bool a9.Anti, .int .i64 ((ovl [a8.Regs.c0, a8.Regs.c1, a8.Regs.c2, a8.Regs.c3, a8.Regs.c4, a8.Regs.c5, a8.Regs.c6, a8.Regs.c7] zfn) 0), .int .i64 ((ovl [a8.Regs.c0, a8.Regs.c1, a8.Regs.c2, a8.Regs.c3, a8.Regs.c4, a8.Regs.c5, a8.Regs.c6, a8.Regs.c7] zfn) 1), .int .i64 ((ovl [a8.Regs.c0, a8.Regs.c1, a8.Regs.c2, a8.Regs.c3, a8.Regs.c4, a8.Regs.c5, a8.Regs.c6, a8.Regs.c7] zfn) 2), .int .i64 ((ovl [a8.Regs.c0, a8.Regs.c1, a8.Regs.c2, a8.Regs.c3, a8.Regs.c4, a8.Regs.c5, a8.Regs.c6, a8.Regs.c7] zfn) 3), .int .i64 ((ovl [a8.Regs.c0, a8.Regs.c1, a8.Regs.c2, a8.Regs.c3, a8.Regs.c4, a8.Regs.c5, a8.Regs.c6, a8.Regs.c7] zfn) 4), .int .i64 ((ovl [a8.Regs.c0, a8.Regs.c1, a8.Regs.c2, a8.Regs.c3, a8.Regs.c4, a8.Regs.c5, a8.Regs.c6, a8.Regs.c7] zfn) 5), .int .i64 ((ovl [a8.Regs.c0, a8.Regs.c1, a8.Regs.c2, a8.Regs.c3, a8.Regs.c4, a8.Regs.c5, a8.Regs.c6, a8.Regs.c7] zfn) 6), .int .i64 ((ovl [a8.Regs.c0, a8.Regs.c1, a8.Regs.c2, a8.Regs.c3, a8.Regs.c4, a8.Regs.c5, a8.Regs.c6, a8.Regs.c7] zfn) 7), .int .i64 ((ovl [a8.Regs.c0, a8.Regs.c1, a8.Regs.c2, a8.Regs.c3, a8.Regs.c4, a8.Regs.c5, a8.Regs.c6, a8.Regs.c7] zfn) 8), .int .i64 ((ovl [a8.Regs.c0, a8.Regs.c1, a8.Regs.c2, a8.Regs.c3, a8.Regs.c4, a8.Regs.c5, a8.Regs.c6, a8.Regs.c7] zfn) 9), .int .i64 ((ovl [a8.Regs.c0, a8.Regs.c1, a8.Regs.c2, a8.Regs.c3, a8.Regs.c4, a8.Regs.c5, a8.Regs.c6, a8.Regs.c7] zfn) 10), .int .i64 ((ovl [a8.Regs.c0, a8.Regs.c1, a8.Regs.c2, a8.Regs.c3, a8.Regs.c4, a8.Regs.c5, a8.Regs.c6, a8.Regs.c7] zfn) 11), .int .i64 ((ovl [a8.Regs.c0, a8.Regs.c1, a8.Regs.c2, a8.Regs.c3, a8.Regs.c4, a8.Regs.c5, a8.Regs.c6, a8.Regs.c7] zfn) 12), .int .i64 ((ovl [a8.Regs.c0, a8.Regs.c1, a8.Regs.c2, a8.Regs.c3, a8.Regs.c4, a8.Regs.c5, a8.Regs.c6, a8.Regs.c7] zfn) 13), .int .i64 ((ovl [a8.Regs.c0, a8.Regs.c1, a8.Regs.c2, a8.Regs.c3, a8.Regs.c4, a8.Regs.c5, a8.Regs.c6, a8.Regs.c7] zfn) 14), .int .i64 ((ovl [a8.Regs.c0, a8.Regs.c1, a8.Regs.c2, a8.Regs.c3, a8.Regs.c4, a8.Regs.c5, a8.Regs.c6, a8.Regs.c7] zfn) 15), .int .i64 a8.Draws, .slice none 0 0, .int .i64 0] 170 :: _ :: _ :: _ :: _ :: l) hf := hS
      refine ⟨kp ⟨(by intro hx; cases hx), trivial⟩, ?_⟩
      refine RP.nil (tsr (al hS zeroValue173 rfl rfl rfl fun b112 w hS => ln ?_))
      refine RC.join (fun (s : (Nat → Int) × Int × List api_Out × Int) a w => ∃ (fn139 : (Nat → Int)) (x140 : Int) (l141 : List api_Out) (x144 : Int), s = (fn139, x140, l141, x144) ∧ ∃ (A142 : Option Addr) (c143 : Nat), Has 86 [(4, .pointer (some ⟨b92, 0, none⟩)), (6, .pointer (some ⟨b94, 0, none⟩)), (10, .pointer (some ⟨b111, 0, none⟩))] a ∧ St B w (OSf E_api_Out 176 (.slice A142 l141.length c143) l141 :: Cl b111 [.slice A2 a1.Prog.length c3, .int .i64 a1.Self, .slice A5 a1.Links.length c6, .int .u64 a1.Seed, .int .i64 a9.Key.Time, .int .i64 a9.Key.From, .int .i64 a9.Key.Seq, .int .i64 a9.To, .int .i64 a9.Value, .int .i64 a9.Uid, .bool a9.Anti, .int .i64 (fn139 0), .int .i64 (fn139 1), .int .i64 (fn139 2), .int .i64 (fn139 3), .int .i64 (fn139 4), .int .i64 (fn139 5), .int .i64 (fn139 6), .int .i64 (fn139 7), .int .i64 (fn139 8), .int .i64 (fn139 9), .int .i64 (fn139 10), .int .i64 (fn139 11), .int .i64 (fn139 12), .int .i64 (fn139 13), .int .i64 (fn139 14), .int .i64 (fn139 15), .int .i64 x140, .slice A142 l141.length c143, .int .i64 x144] 170 :: Cl b94 [.int .i64 0, .int .i64 0, .int .i64 0, .int .i64 0, .int .i64 0, .int .i64 0, .int .i64 0, .int .i64 0, .int .i64 0, .int .i64 0] 105 :: Cl b92 [.int .i64 a8.Regs.c0, .int .i64 a8.Regs.c1, .int .i64 a8.Regs.c2, .int .i64 a8.Regs.c3, .int .i64 a8.Regs.c4, .int .i64 a8.Regs.c5, .int .i64 a8.Regs.c6, .int .i64 a8.Regs.c7, .int .i64 a8.Draws, .int .i64 a8.Sent] 105 :: l) hf ∧ Holds (· = r) (vm_Run.j2 a8 fn139 x140 l141 x144)) ?_ ?_
      · rintro _ a w ⟨fn139, x140, l141, x144, rfl, A142, c143, ha, hS, h⟩
        revert a
        show RC _ _ _ _ _ _
        refine RC.seq (RC.planS (plD [0, 3, 6, 10, 12, 16, 18, 21, 24, 28, 30, 33, 36, 41, 44]) [14] hS (fun w hS => hS) follows rfl (by kernel_rfl) (NoTmp.then NoTmp.body) fun w hS => pp 2 rfl (RP.s0 2 rfl (fun w => Vl.fa 27 underlying170 rfl sizeOf3 rfl rfl) rfl (RP.s 0 3 rfl rfl hS (fun w hS => Vl.ld 1 hS isAgg3 rfl rfl rfl) rfl (RP.s0 4 rfl (fun w => Vl.fa 9 underlying105 rfl sizeOf3 rfl rfl) rfl (RP.s 0 5 rfl rfl hS (fun w hS => Vl.ld 3 hS isAgg3 rfl rfl rfl) rfl (pp 2 rfl (RP.s0 8 rfl (fun w => Vl.fa 28 underlying170 rfl sizeOf128 rfl rfl) rfl (RP.s 0 9 rfl rfl hS (fun w hS => Vl.ld 1 hS isAgg128 rfl rfl rfl) rfl (RP.s0 10 rfl (fun w => Vl.lenSl underlying128 rfl) rfl (pp 1 rfl (RP.s0 12 rfl (fun w => Vl.build (v := .agg #[.int .i64 0, .int .i64 0, .int .i64 0, .int .i64 0, .int .i64 0, .int .i64 0, .int .i64 0, .int .i64 0, .int .i64 x140, .int .i64 (IntKind.i64.wrap (a8.Sent + (l141.length : Int)))]) (parts := [(1, .tmp 64), (2, .tmp 72)]) rfl (by kernel_rfl)) rfl (RP.e 13 rfl (OW.alloc (cs := [.int .i64 0, .int .i64 0, .int .i64 0, .int .i64 0, .int .i64 0, .int .i64 0, .int .i64 0, .int .i64 0, .int .i64 0, .int .i64 0]) hS zeroValue105 rfl) rfl rfl ?_))))))))))))
        rintro _ w ⟨b145, rfl, hS⟩
        refine ⟨kp ⟨fun _ => hS.d0, trivial⟩, ?_⟩
        refine RP.e0 14 rfl (OW.store (vs := [.int .i64 0, .int .i64 0, .int .i64 0, .int .i64 0, .int .i64 0, .int .i64 0, .int .i64 0, .int .i64 0, .int .i64 x140, .int .i64 (IntKind.i64.wrap (a8.Sent + (l141.length : Int)))]) 0 hS rfl rfl rfl rfl sizeOf105 rfl rfl rfl rfl) rfl ?_
        rintro _ w ⟨rfl, hS⟩
        have hS : St B w (Cl _ [_, _, _, _, _, _, _, _, _, _] _ :: _ :: _ :: _ :: _ :: l) hf := hS
        refine ⟨kp ⟨(by intro hx; cases hx), trivial⟩, ?_⟩
        refine RP.nil (RQ.then_n (RC.seq (RC.planS (plD [0, 4, 8, 11, 14, 17, 20]) [6] hS (fun w hS => hS) follows rfl (by kernel_rfl) (NoTmp.then NoTmp.body) fun w hS => RP.s0 0 rfl (fun w => Vl.fa 0 underlying105 rfl sizeOf103 rfl rfl) rfl (RP.s 0 1 rfl rfl hS (fun w hS => Vl.sliceArr underlying103 sizeOf2 rfl) rfl (RP.v1 2 rfl (Vl.move rfl) rfl rfl (RP.v1 3 rfl (Vl.nilCheck rfl) rfl rfl (RP.v1 4 rfl (Vl.fa 11 underlying170 rfl sizeOf168 rfl rfl) rfl rfl (RP.v1 5 rfl (Vl.sliceArr underlying168 sizeOf2 rfl) rfl rfl (RP.e 6 rfl (OW.copyB (m := 8) (vs := [.int .i64 (fn139 0), .int .i64 (fn139 1), .int .i64 (fn139 2), .int .i64 (fn139 3), .int .i64 (fn139 4), .int .i64 (fn139 5), .int .i64 (fn139 6), .int .i64 (fn139 7)]) 0 2 hS rfl rfl underlying171 rfl rfl rfl rfl rfl rfl (Nat.le_of_ble_eq_true rfl) rfl rfl) rfl rfl ?_)))))))))
        rintro _ w ⟨rfl, hS⟩
        have hS : St B w (Cl _ [_, _, _, _, _, _, _, _, _, _] _ :: _ :: _ :: _ :: _ :: l) hf := hS
        refine ⟨kp ⟨(by intro hx; cases hx), trivial⟩, ?_⟩
        refine RP.nil (RQ.then_n (RC.seq (RC.planS (plD [1, 3, 6, 9, 13, 17, 20, 23]) [6, 7] hS (fun w hS => hS.d3) follows rfl (by kernel_rfl) (NoTmp.then NoTmp.body) fun w hS => RP.s 0 0 rfl rfl hS.d3 (fun w hS => Vl.lw 0 hS isAgg105 sizeOf105 rfl rfl rfl) rfl (pp 2 rfl (RP.s0 3 rfl (fun w => Vl.fa 28 underlying170 rfl sizeOf128 rfl rfl) rfl (RP.s 0 4 rfl rfl hS.d3 (fun w hS => Vl.ld 2 hS isAgg128 rfl rfl rfl) rfl (RP.e0 5 rfl (OW.store (vs := [.int .i64 (fn139 0), .int .i64 (fn139 1), .int .i64 (fn139 2), .int .i64 (fn139 3), .int .i64 (fn139 4), .int .i64 (fn139 5), .int .i64 (fn139 6), .int .i64 (fn139 7), .int .i64 x140, .int .i64 (IntKind.i64.wrap (a8.Sent + (l141.length : Int)))]) 3 hS rfl rfl rfl rfl sizeOf105 rfl rfl rfl rfl) rfl ?_)))))))
        rintro _ w ⟨rfl, hS⟩
        have hS : St B w (_ :: _ :: _ :: Cl _ [_, _, _, _, _, _, _, _, _, _] _ :: _ :: l) hf := hS
        refine ⟨kp ⟨fun _ => hS.d3, trivial⟩, ?_⟩
        refine RP.v1 6 rfl (Vl.assign rfl) rfl rfl (RP.v1 7 rfl (Vl.assign rfl) rfl rfl (RP.nil (tr ?_)))
        obtain rfl := h.some
        refine RQ.ret0 (vs := [.agg #[.int .i64 (fn139 0), .int .i64 (fn139 1), .int .i64 (fn139 2), .int .i64 (fn139 3), .int .i64 (fn139 4), .int .i64 (fn139 5), .int .i64 (fn139 6), .int .i64 (fn139 7), .int .i64 x140, .int .i64 (IntKind.i64.wrap (a8.Sent + (l141.length : Int)))], .slice A142 l141.length c143, .int .i64 0]) results58 ⟨⟨_, rfl, run_loadVarA (vs := [.int .i64 (fn139 0), .int .i64 (fn139 1), .int .i64 (fn139 2), .int .i64 (fn139 3), .int .i64 (fn139 4), .int .i64 (fn139 5), .int .i64 (fn139 6), .int .i64 (fn139 7), .int .i64 x140, .int .i64 (IntKind.i64.wrap (a8.Sent + (l141.length : Int)))]) isAgg105 sizeOf105 rfl (hS.cellsAt 3 rfl rfl)⟩, rfl, rfl, trivial⟩ ?_
        exact ⟨A142, c143, rfl, hS.d0.d1.d1.d1⟩
      · refine RC.seq ?_
        refine RC.region (pn 1 rfl ?_)
        have hS := hS.nilSl E_api_Out 176
        have hS : St B w (_ :: _ :: _ :: _ :: _ :: _ :: _ :: l) hf := hS
        obtain ⟨t146, hg147, h⟩ := h.bind
        have hc := vm_cpu_run.ok hr4 hr7 hg147 hS.p2
        rcases t146 with ⟨y148, y149, y150, y151⟩ | ⟨y157, y158, y159, y160, y161⟩
        · refine RL.e (OW.callF (ls := [.tmp 53]) rfl call77 hc) rfl rfl ?_
          rintro _ w ⟨A152, c153, rfl, hS⟩
          refine pn 1 rfl (lnsr (pn 1 rfl (RL.s (Vl.makeIface underlying174 rfl rfl) rfl (cF (fun _ hg => errors_As_4.ok hg hS.p2) call25 h rfl rfl rfl ?_))))
          rintro t154 h _ w ⟨rfl, hS⟩
          refine ln ?_
          refine RC.iteB 57 rfl h (fun hc156 h => ?_) fun hc156 h => ?_
          next =>
           refine RC.condT rfl (RC.seq (RC.planS (plD [1, 3, 7, 11, 14, 17]) [5] hS (fun w hS => hS.d3) follows rfl (by kernel_rfl) (NoTmp.then (NoTmp.then NoTmp.body)) fun w hS => RP.s 0 0 rfl rfl hS.d3 (fun w hS => Vl.lw 4 hS isAgg105 sizeOf105 rfl rfl rfl) rfl (RP.s0 1 rfl (fun w => Vl.fa 1 underlying173 rfl sizeOf32 rfl rfl) rfl (RP.s 0 2 rfl rfl hS.d3 (fun w hS => Vl.ld 0 hS isAgg32 rfl rfl rfl) rfl (RP.e0 3 rfl (OW.store (vs := [.int .i64 a8.Regs.c0, .int .i64 a8.Regs.c1, .int .i64 a8.Regs.c2, .int .i64 a8.Regs.c3, .int .i64 a8.Regs.c4, .int .i64 a8.Regs.c5, .int .i64 a8.Regs.c6, .int .i64 a8.Regs.c7, .int .i64 a8.Draws, .int .i64 a8.Sent]) 3 hS rfl rfl rfl rfl sizeOf105 rfl rfl rfl rfl) rfl ?_)))))
           rintro _ w ⟨rfl, hS⟩
           have hS : St B w (_ :: _ :: _ :: Cl _ [_, _, _, _, _, _, _, _, _, _] _ :: _ :: _ :: _ :: l) hf := hS
           refine ⟨kp ⟨fun _ => hS.d3, trivial⟩, ?_⟩
           refine RP.v1 4 rfl (Vl.assign rfl) rfl rfl (RP.v1 5 rfl (Vl.assign rfl) rfl rfl (RP.nil (tr (RQ.ret ?_))))
           have hS := hS.nilSl E_api_Out 176
           obtain rfl := h.some
           refine RQ.ret0 (vs := [.agg #[.int .i64 a8.Regs.c0, .int .i64 a8.Regs.c1, .int .i64 a8.Regs.c2, .int .i64 a8.Regs.c3, .int .i64 a8.Regs.c4, .int .i64 a8.Regs.c5, .int .i64 a8.Regs.c6, .int .i64 a8.Regs.c7, .int .i64 a8.Draws, .int .i64 a8.Sent], .slice none 0 0, .int .i64 0]) results58 ⟨⟨_, rfl, run_loadVarA (vs := [.int .i64 a8.Regs.c0, .int .i64 a8.Regs.c1, .int .i64 a8.Regs.c2, .int .i64 a8.Regs.c3, .int .i64 a8.Regs.c4, .int .i64 a8.Regs.c5, .int .i64 a8.Regs.c6, .int .i64 a8.Regs.c7, .int .i64 a8.Draws, .int .i64 a8.Sent]) isAgg105 sizeOf105 rfl (hS.cellsAt 4 rfl rfl)⟩, rfl, rfl, trivial⟩ ?_
           exact ⟨none, 0, rfl, hS.d1.d1.d1.d1.d1.d1.d1⟩
          next =>
           refine RC.condF rfl (RC.skip ?_)
           exact fun a ha => ⟨(y148, y149, y150, y151), y148, y149, y150, y151, rfl, A152, c153, ha.to ⟨rfl, rfl, rfl, trivial⟩, hS.d0.d3.d4, h⟩
        · refine RL.e (OW.callF (ls := [.tmp 53]) rfl call77 hc) rfl rfl ?_
          rintro _ w ⟨b162, A163, c164, A165, c166, rfl, hS⟩
          refine pn 1 rfl (lnsr (pn 1 rfl (RL.s (Vl.makeIface underlying174 rfl rfl) rfl (cF (fun _ hg => errors_As_5.ok hG0 hg hS.p4.p1.p2) call25 h rfl rfl rfl ?_))))
          rintro ⟨y169, y170⟩ h _ w ⟨rfl, hS⟩
          refine ln ?_
          refine RC.iteB 57 rfl h (fun hc171 h => ?_) fun hc171 h => ?_
          next =>
           refine RC.condT rfl (RC.seq (RC.planS (plD [1, 3, 7, 11, 14, 17]) [5] hS (fun w hS => hS.d5) follows rfl (by kernel_rfl) (NoTmp.then (NoTmp.then NoTmp.body)) fun w hS => RP.s 0 0 rfl rfl hS.d5 (fun w hS => Vl.lw 6 hS isAgg105 sizeOf105 rfl rfl rfl) rfl (RP.s0 1 rfl (fun w => Vl.fa 1 underlying173 rfl sizeOf32 rfl rfl) rfl (RP.s 0 2 rfl rfl hS.d5 (fun w hS => Vl.ld 2 hS isAgg32 rfl rfl rfl) rfl (RP.e0 3 rfl (OW.store (vs := [.int .i64 a8.Regs.c0, .int .i64 a8.Regs.c1, .int .i64 a8.Regs.c2, .int .i64 a8.Regs.c3, .int .i64 a8.Regs.c4, .int .i64 a8.Regs.c5, .int .i64 a8.Regs.c6, .int .i64 a8.Regs.c7, .int .i64 a8.Draws, .int .i64 a8.Sent]) 5 hS rfl rfl rfl rfl sizeOf105 rfl rfl rfl rfl) rfl ?_)))))
           rintro _ w ⟨rfl, hS⟩
           have hS : St B w (_ :: _ :: _ :: _ :: _ :: Cl _ [_, _, _, _, _, _, _, _, _, _] _ :: _ :: _ :: _ :: l) hf := hS
           refine ⟨kp ⟨fun _ => hS.d5, trivial⟩, ?_⟩
           refine RP.v1 4 rfl (Vl.assign rfl) rfl rfl (RP.v1 5 rfl (Vl.assign rfl) rfl rfl (RP.nil (tr (RQ.ret ?_))))
           have hS := hS.nilSl E_api_Out 176
           obtain rfl := h.some
           refine RQ.ret0 (vs := [.agg #[.int .i64 a8.Regs.c0, .int .i64 a8.Regs.c1, .int .i64 a8.Regs.c2, .int .i64 a8.Regs.c3, .int .i64 a8.Regs.c4, .int .i64 a8.Regs.c5, .int .i64 a8.Regs.c6, .int .i64 a8.Regs.c7, .int .i64 a8.Draws, .int .i64 a8.Sent], .slice none 0 0, .int .i64 y170.why]) results58 ⟨⟨_, rfl, run_loadVarA (vs := [.int .i64 a8.Regs.c0, .int .i64 a8.Regs.c1, .int .i64 a8.Regs.c2, .int .i64 a8.Regs.c3, .int .i64 a8.Regs.c4, .int .i64 a8.Regs.c5, .int .i64 a8.Regs.c6, .int .i64 a8.Regs.c7, .int .i64 a8.Draws, .int .i64 a8.Sent]) isAgg105 sizeOf105 rfl (hS.cellsAt 6 rfl rfl)⟩, rfl, rfl, trivial⟩ ?_
           exact ⟨none, 0, rfl, hS.d1.d1.d1.d1.d1.d1.d1.d1.d1⟩
          next =>
           refine RC.condF rfl (RC.skip ?_)
           exact fun a ha => ⟨(y158, y159, y160, y161), y158, y159, y160, y161, rfl, A165, c166, ha.to ⟨rfl, rfl, rfl, trivial⟩, hS.d0.d0.d0.d3.d4, h⟩
   next =>
    refine pn 15 rfl (ln (RC.condT rfl (sr (RL.s (Vl.build (v := .agg #[.int .i64 0, .int .i64 0, .int .i64 0, .int .i64 0, .int .i64 0, .int .i64 0, .int .i64 0, .int .i64 0, .int .i64 0, .int .i64 0]) (parts := []) rfl (by kernel_rfl)) rfl (RL.e0 (OW.store (vs := [.int .i64 0, .int .i64 0, .int .i64 0, .int .i64 0, .int .i64 0, .int .i64 0, .int .i64 0, .int .i64 0, .int .i64 0, .int .i64 0]) 0 hS rfl rfl rfl rfl sizeOf105 rfl rfl rfl rfl) rfl ?_)))))
    rintro _ w ⟨rfl, hS⟩
    have hS : St B w (Cl _ [_, _, _, _, _, _, _, _, _, _] _ :: _ :: _ :: _ :: l) hf := hS
    refine pn 2 rfl (lr (RQ.ret ?_))
    have hS := hS.nilSl E_api_Out 176
    obtain rfl := h.some
    refine RQ.ret0 (vs := [.agg #[.int .i64 0, .int .i64 0, .int .i64 0, .int .i64 0, .int .i64 0, .int .i64 0, .int .i64 0, .int .i64 0, .int .i64 0, .int .i64 0], .slice none 0 0, .int .i64 1]) results58 ⟨⟨_, rfl, run_loadVarA (vs := [.int .i64 0, .int .i64 0, .int .i64 0, .int .i64 0, .int .i64 0, .int .i64 0, .int .i64 0, .int .i64 0, .int .i64 0, .int .i64 0]) isAgg105 sizeOf105 rfl (hS.cellsAt 1 rfl rfl)⟩, rfl, rfl, trivial⟩ ?_
    exact ⟨none, 0, rfl, hS.d1.d1.d1.d1⟩
  next =>
   refine RC.condT rfl (sr (RL.s (Vl.build (v := .agg #[.int .i64 0, .int .i64 0, .int .i64 0, .int .i64 0, .int .i64 0, .int .i64 0, .int .i64 0, .int .i64 0, .int .i64 0, .int .i64 0]) (parts := []) rfl (by kernel_rfl)) rfl (pn 1 rfl (RL.e0 (OW.store (vs := [.int .i64 0, .int .i64 0, .int .i64 0, .int .i64 0, .int .i64 0, .int .i64 0, .int .i64 0, .int .i64 0, .int .i64 0, .int .i64 0]) 0 hS rfl rfl rfl rfl sizeOf105 rfl rfl rfl rfl) rfl ?_))))
   rintro _ w ⟨rfl, hS⟩
   have hS : St B w (Cl _ [_, _, _, _, _, _, _, _, _, _] _ :: _ :: _ :: _ :: l) hf := hS
   refine pn 2 rfl (lr (RQ.ret ?_))
   have hS := hS.nilSl E_api_Out 176
   obtain rfl := h.some
   refine RQ.ret0 (vs := [.agg #[.int .i64 0, .int .i64 0, .int .i64 0, .int .i64 0, .int .i64 0, .int .i64 0, .int .i64 0, .int .i64 0, .int .i64 0, .int .i64 0], .slice none 0 0, .int .i64 t98]) results58 ⟨⟨_, rfl, run_loadVarA (vs := [.int .i64 0, .int .i64 0, .int .i64 0, .int .i64 0, .int .i64 0, .int .i64 0, .int .i64 0, .int .i64 0, .int .i64 0, .int .i64 0]) isAgg105 sizeOf105 rfl (hS.cellsAt 1 rfl rfl)⟩, rfl, rfl, trivial⟩ ?_
   exact ⟨none, 0, rfl, hS.d1.d1.d1.d1⟩

/-! ### isochron/vm.Sends: function 59 -/
noncomputable def vm_Sends.l2b (a1 : api_World) (a8 : api_State) (a9 : api_Message) (a10 : List api_Out) (a14 : Int) : List api_Message × Int → Option ((List api_Message × Int) ⊕ (List api_Message))
  | (l134, x137) => (if x137 < (a10.length : Int) then (if 0 ≤ x137 then (if 0 ≤ (nth a10 x137).Link then (if (nth a10 x137).Link < (a1.Links.length : Int) then (if (nth a10 x137).Delay ≤ IntKind.i64.wrap (4611686018427387903 - a9.Key.Time) then (if (l134.length + 1) * 56 ≤ 140737488355328 then some (.inl ((l134 ++ ([(⟨(⟨IntKind.i64.wrap (a9.Key.Time + ((nth a10 x137).Delay)), a1.Self, IntKind.i64.wrap (a8.Sent + x137)⟩ : api_Key), (nth a1.Links ((nth a10 x137).Link)).To, (nth a10 x137).Value, IntKind.i64.wrap (a14 + x137), false⟩ : api_Message)])), IntKind.i64.wrap (x137 + 1))) else none) else some (.inl (l134, IntKind.i64.wrap (x137 + 1)))) else some (.inl (l134, IntKind.i64.wrap (x137 + 1)))) else some (.inl (l134, IntKind.i64.wrap (x137 + 1)))) else none) else some (.inr l134))
noncomputable def vm_Sends.l2 (a1 : api_World) (a8 : api_State) (a9 : api_Message) (a10 : List api_Out) (a14 : Int) (s : List api_Message × Int) : Option (List api_Message) := loopR (vm_Sends.l2b a1 a8 a9 a10 a14) s
noncomputable def vm_Sends.f (a1 : api_World) (a8 : api_State) (a9 : api_Message) (a10 : List api_Out) (a14 : Int) : Option (List api_Message) := vm_Sends.l2 a1 a8 a9 a10 a14 ([], 0)
theorem vm_Sends.ok {a1 : api_World} {a8 : api_State} {a9 : api_Message} {a10 : List api_Out} {a14 : Int} {A2 : Option Addr} {c3 : Nat} {A5 : Option Addr} {c6 : Nat} {A11 : Option Addr} {c12 : Nat} (hr4 : SlR E_api_Instr.rep hf A2 c3 a1.Prog) (hr7 : SlR E_api_Link.rep hf A5 c6 a1.Links) (hr13 : SlR E_api_Out.rep hf A11 c12 a10) {r : List api_Message} (h : vm_Sends.f a1 a8 a9 a10 a14 = some r) (hS : St B w (l) hf) :
    Calls prog 59 #[.agg #[.slice A2 a1.Prog.length c3, .int .i64 a1.Self, .slice A5 a1.Links.length c6, .int .u64 a1.Seed], .agg #[.int .i64 a8.Regs.c0, .int .i64 a8.Regs.c1, .int .i64 a8.Regs.c2, .int .i64 a8.Regs.c3, .int .i64 a8.Regs.c4, .int .i64 a8.Regs.c5, .int .i64 a8.Regs.c6, .int .i64 a8.Regs.c7, .int .i64 a8.Draws, .int .i64 a8.Sent], .agg #[.int .i64 a9.Key.Time, .int .i64 a9.Key.From, .int .i64 a9.Key.Seq, .int .i64 a9.To, .int .i64 a9.Value, .int .i64 a9.Uid, .bool a9.Anti], .slice A11 a10.length c12, .int .i64 a14] w (Ret fun v w => ∃ (A_1 : Option Addr) (c_2 : Nat), v = .slice A_1 r.length c_2 ∧ St B w (OSf E_api_Message 53 (.slice A_1 r.length c_2) r :: l) hf) := by
  have h := Holds.of h
  refine en func59 rfl ntmps59 rfl (sr (bx hS rfl rfl rfl rfl fun b104 w hS => bx hS rfl rfl rfl rfl fun b105 w hS => bx hS rfl rfl rfl rfl fun b106 w hS => pn 1 rfl (lnsr (pn 1 rfl (ln (RC.seq (RC.seq ?_)))))))
  refine RC.region (pn 1 rfl (RL.s (Vl.lenSl underlying128 rfl) rfl (pn 1 rfl (ln (RC.block ?_)))))
  have hS := hS.nilSl E_api_Message 53
  refine fun a ha => RC.loop (N := 72) (body := (vm_Sends.l2b a1 a8 a9 a10 a14)) (φ := (· = r)) (fun (s : List api_Message × Int) a w => ∃ (l134 : List api_Message) (x137 : Int), s = (l134, x137) ∧ ∃ (A135 : Option Addr) (c136 : Nat), Has 72 [(4, .int .i64 a14), (5, .pointer (some ⟨b104, 0, none⟩)), (6, .pointer (some ⟨b105, 0, none⟩)), (7, .pointer (some ⟨b106, 0, none⟩)), (11, .slice A135 l134.length c136), (14, .slice A11 a10.length c12), (15, .int .i64 (a10.length : Int)), (16, .int .i64 x137)] a ∧ St B w (OSf E_api_Message 53 (.slice A135 l134.length c136) l134 :: Cl b106 [.int .i64 a9.Key.Time, .int .i64 a9.Key.From, .int .i64 a9.Key.Seq, .int .i64 a9.To, .int .i64 a9.Value, .int .i64 a9.Uid, .bool a9.Anti] 53 :: Cl b105 [.int .i64 a8.Regs.c0, .int .i64 a8.Regs.c1, .int .i64 a8.Regs.c2, .int .i64 a8.Regs.c3, .int .i64 a8.Regs.c4, .int .i64 a8.Regs.c5, .int .i64 a8.Regs.c6, .int .i64 a8.Regs.c7, .int .i64 a8.Draws, .int .i64 a8.Sent] 105 :: Cl b104 [.slice A2 a1.Prog.length c3, .int .i64 a1.Self, .slice A5 a1.Links.length c6, .int .u64 a1.Seed] 124 :: l) hf) ?_ (s0 := ([], 0)) h ⟨([]), 0, rfl, none, 0, ha.to ⟨rfl, rfl, rfl, rfl, rfl, rfl, rfl, rfl, trivial⟩, hS⟩
  rintro G167 _ a w ⟨l134, x137, rfl, A135, c136, ha, hS⟩ h
  revert a
  show RC _ _ _ _ _ _
  refine sr (pn 1 rfl (ln (RC.seq ?_)))
  refine RC.iteP 17 rfl h (fun hc169 h => ?_) fun hc169 h => ?_
  next =>
   refine RC.condT rfl (sk (RC.seq (RC.block (sr (pn 1 rfl ?_)))))
   obtain ⟨hq183, h⟩ := h.req
   refine RL.s (Vl.indexAddr underlying128 sizeOf176 rfl rfl ((hr13.2.world hS.sub).adr hq183 hc169) hq183 hc169 rfl) rfl (RL.s (Vl.loadA isAgg176 sizeOf176 rfl rfl ((hr13.2.world hS.sub).cells hq183 hc169)) rfl (al hS zeroValue176 rfl rfl rfl fun b184 w hS => pn 1 rfl (RL.e0 (OW.store (vs := [.int .i64 ((nth a10 x137).Link), .int .i64 ((nth a10 x137).Delay), .int .i64 ((nth a10 x137).Value)]) 0 hS rfl rfl rfl rfl sizeOf176 rfl rfl rfl rfl) rfl ?_)))
   rintro _ w ⟨rfl, hS⟩
   have hS : St B w (Cl _ [_, _, _] _ :: _ :: _ :: _ :: _ :: l) hf := hS
   refine lnsr (RL.s (Vl.fa 0 underlying176 rfl sizeOf3 rfl rfl) rfl (RL.s (Vl.ld 0 hS isAgg3 rfl rfl rfl) rfl (pn 2 rfl ?_)))
   refine RL.iteP 24 rfl h (fun hc185 h => ?_) fun hc185 h => ?_
   next =>
    refine RL.sg (Vl.fa 0 underlying176 rfl sizeOf3 rfl rfl) rfl rfl (RL.sg (Vl.ld 0 hS isAgg3 rfl rfl rfl) rfl rfl (RL.sg (Vl.fa 2 underlying124 rfl sizeOf23 rfl rfl) rfl rfl (RL.sg (Vl.ld 4 hS isAgg23 rfl rfl rfl) rfl rfl (RL.sg (Vl.lenSl underlying23 rfl) rfl rfl (pn 3 rfl ?_)))))
    refine RL.iteP 32 rfl h (fun hc186 h => ?_) fun hc186 h => ?_
    next =>
     refine RL.sg (Vl.fa 1 underlying176 rfl sizeOf2 rfl rfl) rfl rfl (RL.sg (Vl.ld 0 hS isAgg2 rfl rfl rfl) rfl rfl (RL.sg (Vl.fa 0 underlying53 rfl sizeOf42 rfl rfl) rfl rfl (RL.sg (Vl.fa 0 underlying42 rfl sizeOf2 rfl rfl) rfl rfl (RL.sg (Vl.ld 2 hS isAgg2 rfl rfl rfl) rfl rfl (pn 3 rfl (ln ?_))))))
     refine RC.iteP 40 rfl h (fun hc187 h => ?_) fun hc187 h => ?_
     next =>
      refine RC.condT rfl (RC.planS (plD [0, 3, 6, 10, 12, 16, 18, 21, 25, 27, 31, 33, 36, 39, 42, 46, 48, 52, 55, 57, 61, 63, 67, 69, 74, 77, 80, 83, 86, 89]) [26, 27, 28, 29] hS (fun w hS => hS) follows rfl (by kernel_rfl) (NoTmp.block (NoTmp.then (NoTmp.then (NoTmp.block (NoTmp.then NoTmp.body))))) fun w hS => pp 1 rfl (RP.s0 1 rfl (fun w => Vl.fa 0 underlying53 rfl sizeOf42 rfl rfl) rfl (RP.s0 2 rfl (fun w => Vl.fa 0 underlying42 rfl sizeOf2 rfl rfl) rfl (RP.s 0 3 rfl rfl hS (fun w hS => Vl.ld 2 hS isAgg2 rfl rfl rfl) rfl (RP.s0 4 rfl (fun w => Vl.fa 1 underlying176 rfl sizeOf2 rfl rfl) rfl (RP.s 0 5 rfl rfl hS (fun w hS => Vl.ld 0 hS isAgg2 rfl rfl rfl) rfl (pp 1 rfl (RP.s0 7 rfl (fun w => Vl.fa 1 underlying124 rfl sizeOf3 rfl rfl) rfl (RP.s 0 8 rfl rfl hS (fun w hS => Vl.ld 4 hS isAgg3 rfl rfl rfl) rfl (RP.s0 9 rfl (fun w => Vl.fa 9 underlying105 rfl sizeOf3 rfl rfl) rfl (RP.s 0 10 rfl rfl hS (fun w hS => Vl.ld 3 hS isAgg3 rfl rfl rfl) rfl (pp 2 rfl (RP.s0 13 rfl (fun w => Vl.build (v := .agg #[.int .i64 (IntKind.i64.wrap (a9.Key.Time + ((nth a10 x137).Delay))), .int .i64 a1.Self, .int .i64 (IntKind.i64.wrap (a8.Sent + x137))]) (parts := [(0, .tmp 47), (1, .tmp 49), (2, .tmp 53)]) rfl (by kernel_rfl)) rfl (RP.s0 14 rfl (fun w => Vl.fa 2 underlying124 rfl sizeOf23 rfl rfl) rfl ?_))))))))))))))
      refine RP.s 0 15 rfl rfl hS (fun w hS => Vl.ld 4 hS isAgg23 rfl rfl rfl) rfl (RP.s0 16 rfl (fun w => Vl.fa 0 underlying176 rfl sizeOf3 rfl rfl) rfl (RP.s 0 17 rfl rfl hS (fun w hS => Vl.ld 0 hS isAgg3 rfl rfl rfl) rfl (RP.s 0 18 rfl rfl hS (fun w hS => Vl.indexAddr underlying23 sizeOf136 rfl rfl ((hr7.2.world hS.sub).adr hc185 hc186) hc185 hc186 rfl) rfl (RP.s0 19 rfl (fun w => Vl.fieldAddr (a'' := (ad A5).add (((nth a10 x137).Link).toNat * 4 + 1)) underlying136 rfl sizeOf3 rfl (add_add _ _ _)) rfl (RP.s 0 20 rfl rfl hS (fun w hS => Vl.load isAgg3 rfl ((hr7.2.world hS.sub).cell (j := 1) hc185 hc186 rfl)) rfl (RP.s0 21 rfl (fun w => Vl.fa 2 underlying176 rfl sizeOf2 rfl rfl) rfl (RP.s 0 22 rfl rfl hS (fun w hS => Vl.ld 0 hS isAgg2 rfl rfl rfl) rfl (pp 1 rfl (RP.v1 24 rfl (Vl.move rfl) rfl rfl (RP.v1 25 rfl (Vl.int rfl rfl rfl) rfl rfl (RP.v1 26 rfl (Vl.build (v := .agg #[.int .i64 (IntKind.i64.wrap (a9.Key.Time + ((nth a10 x137).Delay))), .int .i64 a1.Self, .int .i64 (IntKind.i64.wrap (a8.Sent + x137)), .int .i64 ((nth a1.Links ((nth a10 x137).Link)).To), .int .i64 ((nth a10 x137).Value), .int .i64 (IntKind.i64.wrap (a14 + x137)), .bool false]) (parts := [(0, .tmp 54), (1, .tmp 61), (2, .tmp 63), (3, .tmp 66)]) rfl (by kernel_rfl)) rfl rfl (RP.e 27 rfl (OW.buildSlice (E := E_api_Message) (xs := [(⟨(⟨IntKind.i64.wrap (a9.Key.Time + ((nth a10 x137).Delay)), a1.Self, IntKind.i64.wrap (a8.Sent + x137)⟩ : api_Key), (nth a1.Links ((nth a10 x137).Link)).To, (nth a10 x137).Value, IntKind.i64.wrap (a14 + x137), false⟩ : api_Message)]) (cs := [.int .i64 (IntKind.i64.wrap (a9.Key.Time + ((nth a10 x137).Delay))), .int .i64 a1.Self, .int .i64 (IntKind.i64.wrap (a8.Sent + x137)), .int .i64 ((nth a1.Links ((nth a10 x137).Link)).To), .int .i64 ((nth a10 x137).Value), .int .i64 (IntKind.i64.wrap (a14 + x137)), .bool false]) hS underlying49 zeroValue53 sizeOf53 (parts := [(0, .tmp 67)]) rfl rfl (by decide) (by decide) (by kernel_rfl) rfl) rfl rfl ?_))))))))))))
      rintro _ w ⟨b188, rfl, hS⟩
      refine ⟨kp ⟨(by intro hx; cases hx), trivial⟩, ?_⟩
      obtain ⟨hq189, h⟩ := h.req
      refine RP.e 28 rfl (OW.append (E := E_api_Message) (xs := l134) (ys := [(⟨(⟨IntKind.i64.wrap (a9.Key.Time + ((nth a10 x137).Delay)), a1.Self, IntKind.i64.wrap (a8.Sent + x137)⟩ : api_Key), (nth a1.Links ((nth a10 x137).Link)).To, (nth a10 x137).Value, IntKind.i64.wrap (a14 + x137), false⟩ : api_Message)]) 2 hS rfl underlying49 type53 rfl rfl rfl rfl (by decide) rfl rfl rfl (hS.slW 0 rfl).2.2.flat (by simp only [maxLen, List.length_cons, List.length_nil] at *; omega) hq189 rfl) rfl rfl ?_
      rintro v192 w hS
      obtain ⟨A190, c191, rfl, _⟩ := hS.osShape 0 rfl
      have hS : St B w (_ :: _ :: _ :: _ :: _ :: _ :: l) hf := hS
      refine ⟨kp ⟨(by intro hx; cases hx), trivial⟩, ?_⟩
      refine RP.v1 29 rfl (Vl.assign rfl) rfl rfl (RP.nil (RQ.inB_n (RQ.then_n (RC.region (pn 2 rfl (RL.nil ?_))))))
      exact fun a ha => ⟨((l134 ++ ([(⟨(⟨IntKind.i64.wrap (a9.Key.Time + ((nth a10 x137).Delay)), a1.Self, IntKind.i64.wrap (a8.Sent + x137)⟩ : api_Key), (nth a1.Links ((nth a10 x137).Link)).To, (nth a10 x137).Value, IntKind.i64.wrap (a14 + x137), false⟩ : api_Message)])), IntKind.i64.wrap (x137 + 1)), ⟨(l134 ++ ([(⟨(⟨IntKind.i64.wrap (a9.Key.Time + ((nth a10 x137).Delay)), a1.Self, IntKind.i64.wrap (a8.Sent + x137)⟩ : api_Key), (nth a1.Links ((nth a10 x137).Link)).To, (nth a10 x137).Value, IntKind.i64.wrap (a14 + x137), false⟩ : api_Message)])), (IntKind.i64.wrap (x137 + 1)), rfl, A190, c191, ha.to ⟨rfl, rfl, rfl, rfl, rfl, rfl, rfl, rfl, trivial⟩, hS.d1.d1⟩, h.some⟩
     next =>
      refine RC.condF rfl (RC.skip (RQ.inB_n (RQ.then_n (RC.region (pn 2 rfl (RL.nil ?_))))))
      exact fun a ha => ⟨(l134, IntKind.i64.wrap (x137 + 1)), ⟨l134, (IntKind.i64.wrap (x137 + 1)), rfl, A135, c136, ha.to ⟨rfl, rfl, rfl, rfl, rfl, rfl, rfl, rfl, trivial⟩, hS.d0⟩, h.some⟩
    next =>
     refine pn 8 rfl (ln (RC.condF rfl (RC.skip (RQ.inB_n (RQ.then_n (RC.region (pn 2 rfl (RL.nil ?_))))))))
     exact fun a ha => ⟨(l134, IntKind.i64.wrap (x137 + 1)), ⟨l134, (IntKind.i64.wrap (x137 + 1)), rfl, A135, c136, ha.to ⟨rfl, rfl, rfl, rfl, rfl, rfl, rfl, rfl, trivial⟩, hS.d0⟩, h.some⟩
   next =>
    refine pn 16 rfl (ln (RC.condF rfl (RC.skip (RQ.inB_n (RQ.then_n (RC.region (pn 2 rfl (RL.nil ?_))))))))
    exact fun a ha => ⟨(l134, IntKind.i64.wrap (x137 + 1)), ⟨l134, (IntKind.i64.wrap (x137 + 1)), rfl, A135, c136, ha.to ⟨rfl, rfl, rfl, rfl, rfl, rfl, rfl, rfl, trivial⟩, hS.d0⟩, h.some⟩
  next =>
   refine RC.condF rfl (RC.exit (RQ.exitT ?_))
   have h := h.inrS
   refine RQ.exitT (RQ.inB_hit (tsr (pn 2 rfl (lr ?_))))
   obtain rfl := h.some
   exact rt results59 rfl ⟨A135, c136, rfl, hS.d1.d1.d1⟩

end Go.Proofs.Gx
