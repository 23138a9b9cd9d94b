/-
  The walks of functions, each with what it computes: printed by wip/gx.py.
-/
import Derived.Test.YtioiognklelipaaDoorW0
import Derived.Test.YtioiognklelipaaDoorW1
import Derived.Test.YtioiognklelipaaDoorW2
import Derived.Test.YtioiognklelipaaDoorW4
set_option linter.unusedVariables false
set_option maxRecDepth 100000
set_option maxHeartbeats 4000000
namespace Go.Proofs.Gx
open Go.Sl Tryd
variable {B : Base} {w : World} {l : List HProp} {hf : Hp}
/-! ### (*errors.joinError).Unwrap: function 120 -/
noncomputable def errors_joinError_Unwrap.f (a4 : vm_fault) : Option (Unit) := some ()
theorem errors_joinError_Unwrap.ok {a4 : vm_fault} {b1 : Nat} {A2 : Option Addr} {c3 : Nat} {r : Unit} (h : errors_joinError_Unwrap.f a4 = some r) (hS : St B w (OSl 75 1 (.slice A2 1 c3) 1 [.iface 105 (.agg #[.int .i64 a4.at_, .int .i64 a4.why])] :: Cl b1 [.slice A2 1 c3] 146 :: l) hf) :
    Calls prog 120 #[.pointer (some ⟨b1, 0, none⟩)] w (Ret fun v w => v = .slice A2 1 c3 ∧ St B w (OSl 75 1 (.slice A2 1 c3) 1 [.iface 105 (.agg #[.int .i64 a4.at_, .int .i64 a4.why])] :: Cl b1 [.slice A2 1 c3] 146 :: l) hf) := by
  have h := Holds.of h
  refine en func120 rfl ntmps120 rfl (sr (pn 1 rfl (lnsr (pn 2 rfl (RL.s (Vl.fa 0 underlying146 rfl sizeOf122 rfl rfl) rfl (RL.s (Vl.ld 1 hS isAgg122 rfl rfl rfl) rfl (pn 1 rfl (lr ?_))))))))
  exact rt results120 rfl ⟨rfl, hS⟩

/-! ### errors.as: function 53 -/
noncomputable def errors_as_2.f (a1 a3 : vm_fault) : Option (Bool × vm_fault) := some (true, a1)
theorem errors_as_2.ok {a1 a3 : vm_fault} {b2 b4 : Nat} {r : Bool × vm_fault} (h : errors_as_2.f a1 a3 = some r) (hS : St B w (Cl b2 [.int .i64 a3.at_, .int .i64 a3.why] 105 :: Cl b4 [.pointer (some ⟨b2, 0, none⟩)] 108 :: l) hf) :
    Calls prog 53 #[.iface 105 (.agg #[.int .i64 a1.at_, .int .i64 a1.why]), .iface 108 (.pointer (some ⟨b2, 0, none⟩)), .agg #[.pointer (some ⟨1, 108, none⟩), .pointer (some ⟨b4, 0, none⟩), .int .u64 150], .iface 115 (.agg #[.pointer (some ⟨1, 105, none⟩)])] w (Ret fun v w => v = .bool r.1 ∧ St B w (Cl b2 [.int .i64 r.2.at_, .int .i64 r.2.why] 105 :: Cl b4 [.pointer (some ⟨b2, 0, none⟩)] 108 :: l) hf) := by
  have h := Holds.of h
  refine en func53 rfl ntmps53 rfl (sr (bx hS rfl rfl rfl rfl fun b8 w hS => pn 1 rfl (ln (RC.block (RC.unroll (RQ.round (RC.block (RC.seq (sr (pn 1 rfl (RL.s (Vl.extern (ls := [.tmp 16]) (v := .iface 115 (.agg #[.pointer (some ⟨1, 105, none⟩)])) rfl func37 (by kernel_rfl) (by kernel_rfl) (by kernel_rfl) (e := Extern.ReflectliteType.typeOf) (by kernel_rfl) (fun w => by kernel_rfl)) rfl ?_)))))))))))
  refine pn 1 rfl (RL.s (Vl.invokeX (F := 106) (ls := [.tmp 18]) (v := .bool true) (u' := .agg #[.pointer (some ⟨1, 105, none⟩)]) rfl rfl (fun w => by kernel_rfl) func106 (by kernel_rfl) (by kernel_rfl) (by kernel_rfl) (e := (Extern.ReflectliteType.relation "AssignableTo" Extern.ReflectliteType.assignableTo)) (by kernel_rfl) (fun w => by kernel_rfl)) rfl (ln (RC.condT rfl (sr (RL.s (Vl.lw 0 hS isAgg135 sizeOf135 rfl rfl rfl) rfl (RL.s (Vl.externAt (ls := [.tmp 20]) (v := .agg #[.pointer (some ⟨1, 105, none⟩), .pointer (some ⟨b2, 0, none⟩), .int .u64 409]) rfl func73 (by kernel_rfl) (by kernel_rfl) (by kernel_rfl) (e := Extern.ReflectliteValue.method (Extern.ReflectliteValue.valueError "reflectlite.Value.Elem" 0) Extern.ReflectliteValue.elem) (by kernel_rfl) (run_elemV (n := 150) (a := ⟨b4, 0, none⟩) (fun w => by kernel_rfl) underlying108 rfl (hS.cell 2 rfl rfl) (fun w => by kernel_rfl) (fun w => by kernel_rfl))) rfl (pn 1 rfl (RL.e (OW.externNew (ls := [.tmp 22]) (cs := [.int .i64 a1.at_, .int .i64 a1.why]) (T := 105) (v := fun b => .agg #[.pointer (some ⟨1, 105, none⟩), .pointer (some ⟨b, 0, none⟩), .int .u64 153]) hS rfl func50 (by kernel_rfl) (by kernel_rfl) (by kernel_rfl) (e := fun args => Extern.ReflectliteValue.unpack (args.getD 0 (.tuple #[]))) (by kernel_rfl) (fun w => by kernel_rfl)) rfl rfl ?_))))))))
  rintro _ w ⟨b10, rfl, hS⟩
  refine RL.e (OW.setV (ls := [.tmp 21, .tmp 23]) (val := .agg #[.int .i64 a1.at_, .int .i64 a1.why]) (vs := [.int .i64 a1.at_, .int .i64 a1.why]) (n := 409) (m := 153) (a2 := ⟨b10, 0, none⟩) 2 hS rfl rfl func74 (by kernel_rfl) (by kernel_rfl) (by kernel_rfl) (by kernel_rfl) (fun w => by kernel_rfl) (fun w => by kernel_rfl) rfl (fun w => by kernel_rfl) (run_loadVarA (vs := [.int .i64 a1.at_, .int .i64 a1.why]) isAgg105 sizeOf105 rfl (hS.cellsAt 0 rfl rfl)) rfl sizeOf105 rfl rfl rfl rfl) rfl rfl ?_
  rintro _ w ⟨rfl, hS⟩
  have hS : St B w (_ :: _ :: _ :: _ :: l) hf := hS
  refine lnsr (pn 1 rfl (lr (RQ.ret (RQ.inB_ret (RQ.ret (RQ.inB_ret ?_))))))
  obtain rfl := h.some
  exact rt results53 rfl ⟨rfl, hS.d0.d0⟩

/-! ### errors.as: function 53 -/
noncomputable def errors_as.f (a4 a6 : vm_fault) : Option (Bool × vm_fault) := ((errors_joinError_Unwrap.f a4).bind fun _ => ((errors_as_2.f a4 a6).bind fun (y31, y32) => (if y31 = true then some (true, y32) else some (false, y32))))
theorem errors_as.ok {a4 a6 : vm_fault} {b1 : Nat} {A2 : Option Addr} {c3 b5 b7 : Nat} {r : Bool × vm_fault} (h : errors_as.f a4 a6 = some r) (hS : St B w (OSl 75 1 (.slice A2 1 c3) 1 [.iface 105 (.agg #[.int .i64 a4.at_, .int .i64 a4.why])] :: Cl b1 [.slice A2 1 c3] 146 :: Cl b5 [.int .i64 a6.at_, .int .i64 a6.why] 105 :: Cl b7 [.pointer (some ⟨b5, 0, none⟩)] 108 :: l) hf) :
    Calls prog 53 #[.iface 144 (.pointer (some ⟨b1, 0, none⟩)), .iface 108 (.pointer (some ⟨b5, 0, none⟩)), .agg #[.pointer (some ⟨1, 108, none⟩), .pointer (some ⟨b7, 0, none⟩), .int .u64 150], .iface 115 (.agg #[.pointer (some ⟨1, 105, none⟩)])] w (Ret fun v w => v = .bool r.1 ∧ St B w (OSl 75 1 (.slice A2 1 c3) 1 [.iface 105 (.agg #[.int .i64 a4.at_, .int .i64 a4.why])] :: Cl b1 [.slice A2 1 c3] 146 :: Cl b5 [.int .i64 r.2.at_, .int .i64 r.2.why] 105 :: Cl b7 [.pointer (some ⟨b5, 0, none⟩)] 108 :: l) hf) := by
  have h := Holds.of h
  refine en func53 rfl ntmps53 rfl (sr (bx hS rfl rfl rfl rfl fun b21 w hS => pn 1 rfl (ln (RC.block (RC.unroll (RQ.round (RC.block (RC.seq (sr (pn 1 rfl (RL.s (Vl.extern (ls := [.tmp 16]) (v := .iface 115 (.agg #[.pointer (some ⟨1, 144, none⟩)])) rfl func37 (by kernel_rfl) (by kernel_rfl) (by kernel_rfl) (e := Extern.ReflectliteType.typeOf) (by kernel_rfl) (fun w => by kernel_rfl)) rfl ?_)))))))))))
  refine pn 1 rfl (RL.s (Vl.invokeX (F := 106) (ls := [.tmp 18]) (v := .bool false) (u' := .agg #[.pointer (some ⟨1, 144, none⟩)]) rfl rfl (fun w => by kernel_rfl) func106 (by kernel_rfl) (by kernel_rfl) (by kernel_rfl) (e := (Extern.ReflectliteType.relation "AssignableTo" Extern.ReflectliteType.assignableTo)) (by kernel_rfl) (fun w => by kernel_rfl)) rfl (ln (RC.condF rfl (sk (RC.seq (sr (pn 1 rfl (RL.s (Vl.tassert (r := .tuple #[.nilIface, .bool false]) rfl (fun w => run_typeAssert_lacksB underlying150 (by kernel_rfl) (by kernel_rfl) _ _ w)) rfl (pn 5 rfl (ln (RC.seq ?_)))))))))))
  refine RC.region (pn 6 rfl (ln (RC.condF rfl (sk (sr (pn 1 rfl (ln (RC.block (sr (RL.s (Vl.tassert (r := .tuple #[.nilIface, .bool false]) rfl (fun w => run_typeAssert_lacksB underlying120 (by kernel_rfl) (by kernel_rfl) _ _ w)) rfl ?_))))))))))
  refine pn 2 rfl (ln (RC.condF rfl (sr (RL.s (Vl.tassert (r := .tuple #[.iface 144 (.pointer (some ⟨b1, 0, none⟩)), .bool true]) rfl (fun w => run_typeAssert_hasB underlying121 (by kernel_rfl) _ _ w)) rfl (pn 2 rfl (ln (RC.condT rfl (sr (pn 1 rfl (ln ?_))))))))))
  refine RC.seq (sr (pn 1 rfl ?_))
  obtain ⟨t22, hg23, h⟩ := h.bind
  have hc := errors_joinError_Unwrap.ok hg23 hS.p2.p2
  refine RL.e (OW.invoke (F := 120) (u' := .pointer (some ⟨b1, 0, none⟩)) (ls := []) rfl rfl (fun w => by kernel_rfl) call120 rfl hc) rfl rfl ?_
  rintro _ w ⟨rfl, hS⟩
  refine RL.s (Vl.lenSl underlying122 rfl) rfl (pn 1 rfl (ln (RC.block (RC.unroll (RQ.round (sr (pn 1 rfl (ln (RC.seq (RC.condT rfl (sk ?_)))))))))))
  refine RC.seq (RC.block (sr (RL.s (Vl.indexAddr (a'' := (ad A2).add 0) underlying122 sizeOf75 rfl rfl (hS.litAdr 0 rfl (by decide)) (by decide) (by decide) rfl) rfl (RL.s (Vl.load isAgg75 rfl (hS.litCell 0 rfl rfl)) rfl (pn 1 rfl (ln (RC.seq (sr (pn 1 rfl (RL.s (Vl.bin (v := .bool false) rfl rfl (by kernel_rfl)) rfl (ln ?_)))))))))))
  refine RC.condF rfl (sk (sr (pn 2 rfl (RL.s (Vl.lw 2 hS isAgg135 sizeOf135 rfl rfl rfl) rfl (pn 1 rfl (cF (fun _ hg => errors_as_2.ok hg hS.p4.p4) call53 h rfl rfl rfl ?_))))))
  rintro ⟨y31, y32⟩ h _ w ⟨rfl, hS⟩
  refine ln ?_
  refine RC.iteB 60 rfl h (fun hc33 h => ?_) fun hc33 h => ?_
  next =>
   refine RC.condT rfl (sr (pn 1 rfl (lr (RQ.inB_ret (RQ.ret (RQ.ret (RQ.inB_ret (RQ.ret (RQ.inB_ret (RQ.inB_ret (RQ.ret (RQ.inB_ret ?_))))))))))))
   obtain rfl := h.some
   exact rt results53 rfl ⟨rfl, hS.d4.p3.p3⟩
  next =>
   refine RC.condF rfl (RC.skip (RQ.inB_n (RQ.then_n (RC.region (pn 2 rfl (ln (RQ.round (sr (pn 1 rfl (ln (RC.seq (RC.condF rfl ?_))))))))))))
   refine RC.exit (RQ.exitT (RQ.exitT (RQ.inB_hit (tsr (pn 1 rfl (lr (RQ.inB_ret (RQ.inB_ret (RQ.ret (RQ.inB_ret ?_))))))))))
   obtain rfl := h.some
   exact rt results53 rfl ⟨rfl, hS.d4.p3.p3⟩

/-! ### errors.As: function 41 -/
noncomputable def errors_As_2.f (a4 a6 : vm_fault) : Option (Bool × vm_fault) := ((errors_as.f a4 a6).bind fun (y17, y18) => some (y17, y18))
theorem errors_As_2.ok {a4 a6 : vm_fault} {b1 : Nat} {A2 : Option Addr} {c3 b5 : Nat} (hG0 : GlobAt hf 0 (.iface 115 (.agg #[.pointer (some ⟨1, 75, none⟩)]))) {r : Bool × vm_fault} (h : errors_As_2.f a4 a6 = some r) (hS : St B w (OSl 75 1 (.slice A2 1 c3) 1 [.iface 105 (.agg #[.int .i64 a4.at_, .int .i64 a4.why])] :: Cl b1 [.slice A2 1 c3] 146 :: Cl b5 [.int .i64 a6.at_, .int .i64 a6.why] 105 :: l) hf) :
    Calls prog 41 #[.iface 144 (.pointer (some ⟨b1, 0, none⟩)), .iface 108 (.pointer (some ⟨b5, 0, none⟩))] w (Ret fun v w => v = .bool r.1 ∧ St B w (OSl 75 1 (.slice A2 1 c3) 1 [.iface 105 (.agg #[.int .i64 a4.at_, .int .i64 a4.why])] :: Cl b1 [.slice A2 1 c3] 146 :: Cl b5 [.int .i64 r.2.at_, .int .i64 r.2.why] 105 :: l) hf) := by
  have h := Holds.of h
  refine en func41 rfl ntmps41 rfl (sr (pn 1 rfl (ln (RC.seq (sr (pn 1 rfl (RL.s (Vl.bin (v := .bool false) rfl rfl (by kernel_rfl)) rfl (ln (RC.condF rfl (sk ?_))))))))))
  refine RC.seq (sr (pn 1 rfl (RL.s (Vl.bin (v := .bool false) rfl rfl (by kernel_rfl)) rfl (ln (RC.condF rfl (sk (sr (pn 1 rfl (RL.e (OW.externNew (ls := [.tmp 13]) (cs := [.pointer (some ⟨b5, 0, none⟩)]) (T := 108) (v := fun b => .agg #[.pointer (some ⟨1, 108, none⟩), .pointer (some ⟨b, 0, none⟩), .int .u64 150]) hS rfl func50 (by kernel_rfl) (by kernel_rfl) (by kernel_rfl) (e := fun args => Extern.ReflectliteValue.unpack (args.getD 0 (.tuple #[]))) (by kernel_rfl) (fun w => by kernel_rfl)) rfl rfl ?_)))))))))
  rintro _ w ⟨b13, rfl, hS⟩
  refine al hS zeroValue135 rfl rfl rfl fun b14 w hS => RL.e0 (OW.store (vs := [.pointer (some ⟨1, 108, none⟩), .pointer (some ⟨b13, 0, none⟩), .int .u64 150]) 0 hS rfl rfl rfl rfl sizeOf135 rfl rfl rfl rfl) rfl ?_
  rintro _ w ⟨rfl, hS⟩
  have hS : St B w (Cl _ [_, _, _] _ :: _ :: _ :: _ :: _ :: l) hf := hS
  refine lnsr (RL.s (Vl.lw 0 hS isAgg135 sizeOf135 rfl rfl rfl) rfl (RL.s (Vl.extern (ls := [.tmp 15]) (v := .iface 115 (.agg #[.pointer (some ⟨1, 108, none⟩)])) rfl func51 (by kernel_rfl) (by kernel_rfl) (by kernel_rfl) (e := Extern.ReflectliteValue.methodAny (Extern.ReflectliteValue.valueError "reflectlite.Value.Type" 0) fun t _ _ _ => Extern.ReflectliteType.toType t) (by kernel_rfl) (fun w => by kernel_rfl)) rfl (pn 1 rfl (ln (RC.seq (sr (pn 1 rfl (RL.s (Vl.invokeX (F := 98) (ls := []) (v := .int .u8 22) (u' := .pointer (some ⟨1, 108, none⟩)) rfl rfl (fun w => by kernel_rfl) func98 (by kernel_rfl) (by kernel_rfl) (by kernel_rfl) (e := (Extern.ReflectliteType.abiMethod fun t => do pure (.int .u8 (← Extern.Rtype.kind t)))) (by kernel_rfl) (fun w => by kernel_rfl)) rfl (pn 2 rfl (RL.sg (Vl.lw 0 hS isAgg135 sizeOf135 rfl rfl rfl) rfl rfl ?_))))))))))
  refine RL.sg (Vl.externAt (ls := [.tmp 21]) (v := .bool false) rfl func52 (by kernel_rfl) (by kernel_rfl) (by kernel_rfl) (e := Extern.ReflectliteValue.method (Extern.ReflectliteValue.valueError "reflectlite.Value.IsNil" 0) Extern.ReflectliteValue.isNil) (by kernel_rfl) (run_isNil (n := 150) (a := ⟨b13, 0, none⟩) (fun w => by kernel_rfl) underlying108 rfl (hS.cell 1 rfl rfl))) rfl rfl (pn 1 rfl (ln (RC.condF rfl (sk (sr (pn 1 rfl (RL.s (Vl.invokeX (F := 108) (ls := []) (v := .iface 115 (.agg #[.pointer (some ⟨1, 105, none⟩)])) (u' := .agg #[.pointer (some ⟨1, 108, none⟩)]) rfl rfl (fun w => by kernel_rfl) func108 (by kernel_rfl) (by kernel_rfl) (by kernel_rfl) (e := (Extern.ReflectliteType.method Extern.ReflectliteType.elem)) (by kernel_rfl) (fun w => by kernel_rfl)) rfl (pn 1 rfl (ln (RC.seq (RC.seq ?_)))))))))))
  refine RC.region (pn 1 rfl (RL.s (Vl.invokeX (F := 98) (ls := []) (v := .int .u8 25) (u' := .pointer (some ⟨1, 105, none⟩)) rfl rfl (fun w => by kernel_rfl) func98 (by kernel_rfl) (by kernel_rfl) (by kernel_rfl) (e := (Extern.ReflectliteType.abiMethod fun t => do pure (.int .u8 (← Extern.Rtype.kind t)))) (by kernel_rfl) (fun w => by kernel_rfl)) rfl (pn 3 rfl (RL.sg (Vl.load isAgg95 rfl (cellH_world hS.sub hG0)) rfl rfl (RL.sg (Vl.invokeX (F := 109) (ls := [.tmp 32]) (v := .bool true) (u' := .agg #[.pointer (some ⟨1, 105, none⟩)]) rfl rfl (fun w => by kernel_rfl) func109 (by kernel_rfl) (by kernel_rfl) (by kernel_rfl) (e := (Extern.ReflectliteType.relation "Implements" Extern.ReflectliteType.implements_)) (by kernel_rfl) (fun w => by kernel_rfl)) rfl rfl (pn 2 rfl (ln (RC.condF rfl (sk (sr (pn 2 rfl (RL.s (Vl.lw 0 hS isAgg135 sizeOf135 rfl rfl rfl) rfl ?_))))))))))))
  refine pn 1 rfl (cF (fun _ hg => errors_as.ok hg hS.p1.p4.p4.p4) call53 h rfl rfl rfl ?_)
  rintro ⟨y17, y18⟩ h _ w ⟨rfl, hS⟩
  refine pn 1 rfl (lr ?_)
  obtain rfl := h.some
  exact rt results41 rfl ⟨rfl, hS.d3.d3⟩

/-! ### isochron/vm.Run: function 32 -/
noncomputable def vm_Run.j2 (a8 : api_State) (fn139 : (Nat → Int)) (x140 : Int) (l141 : List api_Out) (x144 : Int) : Option (api_State × List api_Out × Int) := some ((⟨(⟨fn139 0, fn139 1, fn139 2, fn139 3, fn139 4, fn139 5, fn139 6, fn139 7⟩ : Arr8xInti64), x140, IntKind.i64.wrap (a8.Sent + (l141.length : Int))⟩ : api_State), l141, 0)
noncomputable def vm_Run.f (a1 : api_World) (a8 : api_State) (a9 : api_Message) : Option (api_State × List api_Out × Int) := ((vm_Check.f a1).bind fun t98 => (if t98 = 0 then ((event_Check.f a9).bind fun t106 => (if t106 = 0 then (if (if a8.Sent < a8.Draws then a8.Sent else a8.Draws) < 0 then some ((⟨(⟨0, 0, 0, 0, 0, 0, 0, 0⟩ : Arr8xInti64), 0, 0⟩ : api_State), ([] : List api_Out), 1) else (if 1125899906842624 < (if a8.Draws < a8.Sent then a8.Sent else a8.Draws) then some ((⟨(⟨0, 0, 0, 0, 0, 0, 0, 0⟩ : Arr8xInti64), 0, 0⟩ : api_State), ([] : List api_Out), 1) else ((vm_cpu_run.f a1.Prog a1.Self a1.Links a1.Seed a9.Key.Time a9.Key.From a9.Key.Seq a9.To a9.Value a9.Uid a9.Anti a8.Draws ([] : List api_Out) 0 (ovl [a8.Regs.c0, a8.Regs.c1, a8.Regs.c2, a8.Regs.c3, a8.Regs.c4, a8.Regs.c5, a8.Regs.c6, a8.Regs.c7] zfn)).bind fun t146 => match t146 with | .inl (y148, y149, y150, y151) => ((errors_As.f (⟨0, 0⟩ : vm_fault)).bind fun t154 => (if t154 = true then some (a8, ([] : List api_Out), 0) else vm_Run.j2 a8 y148 y149 y150 y151)) | .inr ((y157, y158, y159, y160, y161)) => ((errors_As_2.f y157 (⟨0, 0⟩ : vm_fault)).bind fun (y169, y170) => (if y169 = true then some (a8, ([] : List api_Out), y170.why) else vm_Run.j2 a8 y158 y159 y160 y161))))) else some ((⟨(⟨0, 0, 0, 0, 0, 0, 0, 0⟩ : Arr8xInti64), 0, 0⟩ : api_State), ([] : List api_Out), 1))) else some ((⟨(⟨0, 0, 0, 0, 0, 0, 0, 0⟩ : Arr8xInti64), 0, 0⟩ : api_State), ([] : List api_Out), t98)))
theorem vm_Run.ok {a1 : api_World} {a8 : api_State} {a9 : api_Message} {A2 : Option Addr} {c3 : Nat} {A5 : Option Addr} {c6 : Nat} (hr4 : SlR E_api_Instr.rep hf A2 c3 a1.Prog) (hr7 : SlR E_api_Link.rep hf A5 c6 a1.Links) (hG0 : GlobAt hf 0 (.iface 115 (.agg #[.pointer (some ⟨1, 75, none⟩)]))) {r : api_State × List api_Out × Int} (h : vm_Run.f a1 a8 a9 = some r) (hS : St B w (l) hf) :
    Calls prog 32 #[.agg #[.slice A2 a1.Prog.length c3, .int .i64 a1.Self, .slice A5 a1.Links.length c6, .int .u64 a1.Seed], .agg #[.int .i64 a8.Regs.c0, .int .i64 a8.Regs.c1, .int .i64 a8.Regs.c2, .int .i64 a8.Regs.c3, .int .i64 a8.Regs.c4, .int .i64 a8.Regs.c5, .int .i64 a8.Regs.c6, .int .i64 a8.Regs.c7, .int .i64 a8.Draws, .int .i64 a8.Sent], .agg #[.int .i64 a9.Key.Time, .int .i64 a9.Key.From, .int .i64 a9.Key.Seq, .int .i64 a9.To, .int .i64 a9.Value, .int .i64 a9.Uid, .bool a9.Anti]] w (Ret fun v w => ∃ (A_1 : Option Addr) (c_2 : Nat), v = .tuple #[.agg #[.int .i64 r.1.Regs.c0, .int .i64 r.1.Regs.c1, .int .i64 r.1.Regs.c2, .int .i64 r.1.Regs.c3, .int .i64 r.1.Regs.c4, .int .i64 r.1.Regs.c5, .int .i64 r.1.Regs.c6, .int .i64 r.1.Regs.c7, .int .i64 r.1.Draws, .int .i64 r.1.Sent], .slice A_1 r.2.1.length c_2, .int .i64 r.2.2] ∧ St B w (OSf E_api_Out 110 (.slice A_1 r.2.1.length c_2) r.2.1 :: l) hf) := by
  have h := Holds.of h
  refine en func32 rfl ntmps32 rfl (sr (bx hS rfl rfl rfl rfl fun b91 w hS => bx hS rfl rfl rfl rfl fun b92 w hS => bx hS rfl rfl rfl rfl fun b93 w hS => al hS zeroValue38 rfl rfl rfl fun b94 w hS => pn 2 rfl (ln (RC.seq (sr (RL.s (Vl.lw 3 hS isAgg26 sizeOf26 rfl rfl rfl) rfl (cF (fun _ hg => vm_Check.ok hr4 hr7 hg hS) call6 h rfl rfl rfl ?_)))))))
  rintro t98 h _ w ⟨rfl, hS⟩
  refine pn 1 rfl (lnsr (pn 2 rfl (ln ?_)))
  refine RC.iteN 17 rfl h (fun hc100 h => ?_) fun hc100 h => ?_
  next =>
   refine RC.condF rfl (sk (RC.seq (sr (RL.s (Vl.lw 1 hS isAgg30 sizeOf30 rfl rfl rfl) rfl (cF (fun _ hg => event_Check.ok hg hS) call9 h rfl rfl rfl ?_)))))
   rintro t106 h _ w ⟨rfl, hS⟩
   refine pn 2 rfl ?_
   refine RL.iteN 23 rfl h (fun hc108 h => ?_) fun hc108 h => ?_
   next =>
    refine RL.sg (Vl.fa 8 underlying38 rfl sizeOf3 rfl rfl) rfl rfl (RL.sg (Vl.ld 2 hS isAgg3 rfl rfl rfl) rfl rfl (RL.sg (Vl.fa 9 underlying38 rfl sizeOf3 rfl rfl) rfl rfl (RL.sg (Vl.ld 2 hS isAgg3 rfl rfl rfl) rfl rfl (RL.sg (Vl.min2 rfl rfl) rfl rfl (pn 3 rfl ?_)))))
    refine RL.iteP 31 rfl h (fun hc109 h => ?_) fun hc109 h => ?_
    next =>
     refine pn 7 rfl (ln (RC.condT rfl (sr (RL.s (Vl.build (v := .agg #[.int .i64 0, .int .i64 0, .int .i64 0, .int .i64 0, .int .i64 0, .int .i64 0, .int .i64 0, .int .i64 0, .int .i64 0, .int .i64 0]) (parts := []) rfl (by kernel_rfl)) rfl (RL.e0 (OW.store (vs := [.int .i64 0, .int .i64 0, .int .i64 0, .int .i64 0, .int .i64 0, .int .i64 0, .int .i64 0, .int .i64 0, .int .i64 0, .int .i64 0]) 0 hS rfl rfl rfl rfl sizeOf38 rfl rfl rfl rfl) rfl ?_)))))
     rintro _ w ⟨rfl, hS⟩
     have hS : St B w (Cl _ [_, _, _, _, _, _, _, _, _, _] _ :: _ :: _ :: _ :: l) hf := hS
     refine pn 2 rfl (lr (RQ.ret ?_))
     have hS := hS.nilSl E_api_Out 110
     obtain rfl := h.some
     refine RQ.ret0 (vs := [.agg #[.int .i64 0, .int .i64 0, .int .i64 0, .int .i64 0, .int .i64 0, .int .i64 0, .int .i64 0, .int .i64 0, .int .i64 0, .int .i64 0], .slice none 0 0, .int .i64 1]) results32 ⟨⟨_, rfl, run_loadVarA (vs := [.int .i64 0, .int .i64 0, .int .i64 0, .int .i64 0, .int .i64 0, .int .i64 0, .int .i64 0, .int .i64 0, .int .i64 0, .int .i64 0]) isAgg38 sizeOf38 rfl (hS.cellsAt 1 rfl rfl)⟩, rfl, rfl, trivial⟩ ?_
     exact ⟨none, 0, rfl, hS.d1.d1.d1.d1⟩
    next =>
     refine RL.sg (Vl.fa 8 underlying38 rfl sizeOf3 rfl rfl) rfl rfl (RL.sg (Vl.ld 2 hS isAgg3 rfl rfl rfl) rfl rfl (RL.sg (Vl.fa 9 underlying38 rfl sizeOf3 rfl rfl) rfl rfl (RL.sg (Vl.ld 2 hS isAgg3 rfl rfl rfl) rfl rfl (RL.sg (Vl.max2 rfl rfl) rfl rfl (pn 2 rfl (ln ?_))))))
     refine RC.iteP 38 rfl h (fun hc110 h => ?_) fun hc110 h => ?_
     next =>
      refine RC.condT rfl (sr (RL.s (Vl.build (v := .agg #[.int .i64 0, .int .i64 0, .int .i64 0, .int .i64 0, .int .i64 0, .int .i64 0, .int .i64 0, .int .i64 0, .int .i64 0, .int .i64 0]) (parts := []) rfl (by kernel_rfl)) rfl (RL.e0 (OW.store (vs := [.int .i64 0, .int .i64 0, .int .i64 0, .int .i64 0, .int .i64 0, .int .i64 0, .int .i64 0, .int .i64 0, .int .i64 0, .int .i64 0]) 0 hS rfl rfl rfl rfl sizeOf38 rfl rfl rfl rfl) rfl ?_)))
      rintro _ w ⟨rfl, hS⟩
      have hS : St B w (Cl _ [_, _, _, _, _, _, _, _, _, _] _ :: _ :: _ :: _ :: l) hf := hS
      refine pn 2 rfl (lr (RQ.ret ?_))
      have hS := hS.nilSl E_api_Out 110
      obtain rfl := h.some
      refine RQ.ret0 (vs := [.agg #[.int .i64 0, .int .i64 0, .int .i64 0, .int .i64 0, .int .i64 0, .int .i64 0, .int .i64 0, .int .i64 0, .int .i64 0, .int .i64 0], .slice none 0 0, .int .i64 1]) results32 ⟨⟨_, rfl, run_loadVarA (vs := [.int .i64 0, .int .i64 0, .int .i64 0, .int .i64 0, .int .i64 0, .int .i64 0, .int .i64 0, .int .i64 0, .int .i64 0, .int .i64 0]) isAgg38 sizeOf38 rfl (hS.cellsAt 1 rfl rfl)⟩, rfl, rfl, trivial⟩ ?_
      exact ⟨none, 0, rfl, hS.d1.d1.d1.d1⟩
     next =>
      refine RC.condF rfl (sk (sr (RL.s (Vl.lw 3 hS isAgg26 sizeOf26 rfl rfl rfl) rfl (RL.s (Vl.lw 1 hS isAgg30 sizeOf30 rfl rfl rfl) rfl (RL.s (Vl.fa 8 underlying38 rfl sizeOf3 rfl rfl) rfl (RL.s (Vl.ld 2 hS isAgg3 rfl rfl rfl) rfl (RL.s (Vl.build (v := .agg #[.slice A2 a1.Prog.length c3, .int .i64 a1.Self, .slice A5 a1.Links.length c6, .int .u64 a1.Seed, .int .i64 a9.Key.Time, .int .i64 a9.Key.From, .int .i64 a9.Key.Seq, .int .i64 a9.To, .int .i64 a9.Value, .int .i64 a9.Uid, .bool a9.Anti, .int .i64 0, .int .i64 0, .int .i64 0, .int .i64 0, .int .i64 0, .int .i64 0, .int .i64 0, .int .i64 0, .int .i64 0, .int .i64 0, .int .i64 0, .int .i64 0, .int .i64 0, .int .i64 0, .int .i64 0, .int .i64 0, .int .i64 a8.Draws, .slice none 0 0, .int .i64 0]) (parts := [(0, .tmp 40), (1, .tmp 41), (3, .tmp 43)]) rfl (by kernel_rfl)) rfl (bx hS rfl rfl rfl rfl fun b111 w hS => pn 1 rfl (ln (RC.seq (RC.planS (plD [0, 3, 6, 10, 14, 17, 20]) [6] hS (fun w hS => hS) follows rfl (by kernel_rfl) (NoTmp.then NoTmp.body) fun w hS => ?_)))))))))))
      refine pp 2 rfl (RP.s0 2 rfl (fun w => Vl.fa 11 underlying102 rfl sizeOf100 rfl rfl) rfl (RP.s 0 3 rfl rfl hS (fun w hS => Vl.sliceArr underlying100 sizeOf2 rfl) rfl (RP.v1 4 rfl (Vl.fa 0 underlying38 rfl sizeOf36 rfl rfl) rfl rfl (RP.v1 5 rfl (Vl.sliceArr underlying36 sizeOf2 rfl) rfl rfl (RP.e 6 rfl (OW.copyB (m := 8) (vs := [.int .i64 a8.Regs.c0, .int .i64 a8.Regs.c1, .int .i64 a8.Regs.c2, .int .i64 a8.Regs.c3, .int .i64 a8.Regs.c4, .int .i64 a8.Regs.c5, .int .i64 a8.Regs.c6, .int .i64 a8.Regs.c7]) 0 3 hS rfl rfl underlying103 rfl rfl rfl rfl rfl rfl (Nat.le_of_ble_eq_true rfl) rfl rfl) rfl rfl ?_)))))
      rintro _ w ⟨rfl, hS⟩
      have hS : St B w (Cl b111 [.slice A2 a1.Prog.length c3, .int .i64 a1.Self, .slice A5 a1.Links.length c6, .int .u64 a1.Seed, .int .i64 a9.Key.Time, .int .i64 a9.Key.From, .int .i64 a9.Key.Seq, .int .i64 a9.To, .int .i64 a9.Value, .int .i64 a9.Uid, .bool a9.Anti, .int .i64 ((ovl [a8.Regs.c0, a8.Regs.c1, a8.Regs.c2, a8.Regs.c3, a8.Regs.c4, a8.Regs.c5, a8.Regs.c6, a8.Regs.c7] zfn) 0), .int .i64 ((ovl [a8.Regs.c0, a8.Regs.c1, a8.Regs.c2, a8.Regs.c3, a8.Regs.c4, a8.Regs.c5, a8.Regs.c6, a8.Regs.c7] zfn) 1), .int .i64 ((ovl [a8.Regs.c0, a8.Regs.c1, a8.Regs.c2, a8.Regs.c3, a8.Regs.c4, a8.Regs.c5, a8.Regs.c6, a8.Regs.c7] zfn) 2), .int .i64 ((ovl [a8.Regs.c0, a8.Regs.c1, a8.Regs.c2, a8.Regs.c3, a8.Regs.c4, a8.Regs.c5, a8.Regs.c6, a8.Regs.c7] zfn) 3), .int .i64 ((ovl [a8.Regs.c0, a8.Regs.c1, a8.Regs.c2, a8.Regs.c3, a8.Regs.c4, a8.Regs.c5, a8.Regs.c6, a8.Regs.c7] zfn) 4), .int .i64 ((ovl [a8.Regs.c0, a8.Regs.c1, a8.Regs.c2, a8.Regs.c3, a8.Regs.c4, a8.Regs.c5, a8.Regs.c6, a8.Regs.c7] zfn) 5), .int .i64 ((ovl [a8.Regs.c0, a8.Regs.c1, a8.Regs.c2, a8.Regs.c3, a8.Regs.c4, a8.Regs.c5, a8.Regs.c6, a8.Regs.c7] zfn) 6), .int .i64 ((ovl [a8.Regs.c0, a8.Regs.c1, a8.Regs.c2, a8.Regs.c3, a8.Regs.c4, a8.Regs.c5, a8.Regs.c6, a8.Regs.c7] zfn) 7), .int .i64 ((ovl [a8.Regs.c0, a8.Regs.c1, a8.Regs.c2, a8.Regs.c3, a8.Regs.c4, a8.Regs.c5, a8.Regs.c6, a8.Regs.c7] zfn) 8), .int .i64 ((ovl [a8.Regs.c0, a8.Regs.c1, a8.Regs.c2, a8.Regs.c3, a8.Regs.c4, a8.Regs.c5, a8.Regs.c6, a8.Regs.c7] zfn) 9), .int .i64 ((ovl [a8.Regs.c0, a8.Regs.c1, a8.Regs.c2, a8.Regs.c3, a8.Regs.c4, a8.Regs.c5, a8.Regs.c6, a8.Regs.c7] zfn) 10), .int .i64 ((ovl [a8.Regs.c0, a8.Regs.c1, a8.Regs.c2, a8.Regs.c3, a8.Regs.c4, a8.Regs.c5, a8.Regs.c6, a8.Regs.c7] zfn) 11), .int .i64 ((ovl [a8.Regs.c0, a8.Regs.c1, a8.Regs.c2, a8.Regs.c3, a8.Regs.c4, a8.Regs.c5, a8.Regs.c6, a8.Regs.c7] zfn) 12), .int .i64 ((ovl [a8.Regs.c0, a8.Regs.c1, a8.Regs.c2, a8.Regs.c3, a8.Regs.c4, a8.Regs.c5, a8.Regs.c6, a8.Regs.c7] zfn) 13), .int .i64 ((ovl [a8.Regs.c0, a8.Regs.c1, a8.Regs.c2, a8.Regs.c3, a8.Regs.c4, a8.Regs.c5, a8.Regs.c6, a8.Regs.c7] zfn) 14), .int .i64 ((ovl [a8.Regs.c0, a8.Regs.c1, a8.Regs.c2, a8.Regs.c3, a8.Regs.c4, a8.Regs.c5, a8.Regs.c6, a8.Regs.c7] zfn) 15), .int .i64 a8.Draws, .slice none 0 0, .int .i64 0] 102 :: _ :: _ :: _ :: _ :: l) hf := hS
      refine ⟨kp ⟨(by intro hx; cases hx), trivial⟩, ?_⟩
      refine RP.nil (tsr (al hS zeroValue105 rfl rfl rfl fun b112 w hS => ln ?_))
      refine RC.join (fun (s : (Nat → Int) × Int × List api_Out × Int) a w => ∃ (fn139 : (Nat → Int)) (x140 : Int) (l141 : List api_Out) (x144 : Int), s = (fn139, x140, l141, x144) ∧ ∃ (A142 : Option Addr) (c143 : Nat), Has 86 [(4, .pointer (some ⟨b92, 0, none⟩)), (6, .pointer (some ⟨b94, 0, none⟩)), (10, .pointer (some ⟨b111, 0, none⟩))] a ∧ St B w (OSf E_api_Out 110 (.slice A142 l141.length c143) l141 :: Cl b111 [.slice A2 a1.Prog.length c3, .int .i64 a1.Self, .slice A5 a1.Links.length c6, .int .u64 a1.Seed, .int .i64 a9.Key.Time, .int .i64 a9.Key.From, .int .i64 a9.Key.Seq, .int .i64 a9.To, .int .i64 a9.Value, .int .i64 a9.Uid, .bool a9.Anti, .int .i64 (fn139 0), .int .i64 (fn139 1), .int .i64 (fn139 2), .int .i64 (fn139 3), .int .i64 (fn139 4), .int .i64 (fn139 5), .int .i64 (fn139 6), .int .i64 (fn139 7), .int .i64 (fn139 8), .int .i64 (fn139 9), .int .i64 (fn139 10), .int .i64 (fn139 11), .int .i64 (fn139 12), .int .i64 (fn139 13), .int .i64 (fn139 14), .int .i64 (fn139 15), .int .i64 x140, .slice A142 l141.length c143, .int .i64 x144] 102 :: Cl b94 [.int .i64 0, .int .i64 0, .int .i64 0, .int .i64 0, .int .i64 0, .int .i64 0, .int .i64 0, .int .i64 0, .int .i64 0, .int .i64 0] 38 :: Cl b92 [.int .i64 a8.Regs.c0, .int .i64 a8.Regs.c1, .int .i64 a8.Regs.c2, .int .i64 a8.Regs.c3, .int .i64 a8.Regs.c4, .int .i64 a8.Regs.c5, .int .i64 a8.Regs.c6, .int .i64 a8.Regs.c7, .int .i64 a8.Draws, .int .i64 a8.Sent] 38 :: l) hf ∧ Holds (· = r) (vm_Run.j2 a8 fn139 x140 l141 x144)) ?_ ?_
      · rintro _ a w ⟨fn139, x140, l141, x144, rfl, A142, c143, ha, hS, h⟩
        revert a
        show RC _ _ _ _ _ _
        refine RC.seq (RC.planS (plD [0, 3, 6, 10, 12, 16, 18, 21, 24, 28, 30, 33, 36, 41, 44]) [14] hS (fun w hS => hS) follows rfl (by kernel_rfl) (NoTmp.then NoTmp.body) fun w hS => pp 2 rfl (RP.s0 2 rfl (fun w => Vl.fa 27 underlying102 rfl sizeOf3 rfl rfl) rfl (RP.s 0 3 rfl rfl hS (fun w hS => Vl.ld 1 hS isAgg3 rfl rfl rfl) rfl (RP.s0 4 rfl (fun w => Vl.fa 9 underlying38 rfl sizeOf3 rfl rfl) rfl (RP.s 0 5 rfl rfl hS (fun w hS => Vl.ld 3 hS isAgg3 rfl rfl rfl) rfl (pp 2 rfl (RP.s0 8 rfl (fun w => Vl.fa 28 underlying102 rfl sizeOf81 rfl rfl) rfl (RP.s 0 9 rfl rfl hS (fun w hS => Vl.ld 1 hS isAgg81 rfl rfl rfl) rfl (RP.s0 10 rfl (fun w => Vl.lenSl underlying81 rfl) rfl (pp 1 rfl (RP.s0 12 rfl (fun w => Vl.build (v := .agg #[.int .i64 0, .int .i64 0, .int .i64 0, .int .i64 0, .int .i64 0, .int .i64 0, .int .i64 0, .int .i64 0, .int .i64 x140, .int .i64 (IntKind.i64.wrap (a8.Sent + (l141.length : Int)))]) (parts := [(1, .tmp 64), (2, .tmp 72)]) rfl (by kernel_rfl)) rfl (RP.e 13 rfl (OW.alloc (cs := [.int .i64 0, .int .i64 0, .int .i64 0, .int .i64 0, .int .i64 0, .int .i64 0, .int .i64 0, .int .i64 0, .int .i64 0, .int .i64 0]) hS zeroValue38 rfl) rfl rfl ?_))))))))))))
        rintro _ w ⟨b145, rfl, hS⟩
        refine ⟨kp ⟨fun _ => hS.d0, trivial⟩, ?_⟩
        refine RP.e0 14 rfl (OW.store (vs := [.int .i64 0, .int .i64 0, .int .i64 0, .int .i64 0, .int .i64 0, .int .i64 0, .int .i64 0, .int .i64 0, .int .i64 x140, .int .i64 (IntKind.i64.wrap (a8.Sent + (l141.length : Int)))]) 0 hS rfl rfl rfl rfl sizeOf38 rfl rfl rfl rfl) rfl ?_
        rintro _ w ⟨rfl, hS⟩
        have hS : St B w (Cl _ [_, _, _, _, _, _, _, _, _, _] _ :: _ :: _ :: _ :: _ :: l) hf := hS
        refine ⟨kp ⟨(by intro hx; cases hx), trivial⟩, ?_⟩
        refine RP.nil (RQ.then_n (RC.seq (RC.planS (plD [0, 4, 8, 11, 14, 17, 20]) [6] hS (fun w hS => hS) follows rfl (by kernel_rfl) (NoTmp.then NoTmp.body) fun w hS => RP.s0 0 rfl (fun w => Vl.fa 0 underlying38 rfl sizeOf36 rfl rfl) rfl (RP.s 0 1 rfl rfl hS (fun w hS => Vl.sliceArr underlying36 sizeOf2 rfl) rfl (RP.v1 2 rfl (Vl.move rfl) rfl rfl (RP.v1 3 rfl (Vl.nilCheck rfl) rfl rfl (RP.v1 4 rfl (Vl.fa 11 underlying102 rfl sizeOf100 rfl rfl) rfl rfl (RP.v1 5 rfl (Vl.sliceArr underlying100 sizeOf2 rfl) rfl rfl (RP.e 6 rfl (OW.copyB (m := 8) (vs := [.int .i64 (fn139 0), .int .i64 (fn139 1), .int .i64 (fn139 2), .int .i64 (fn139 3), .int .i64 (fn139 4), .int .i64 (fn139 5), .int .i64 (fn139 6), .int .i64 (fn139 7)]) 0 2 hS rfl rfl underlying103 rfl rfl rfl rfl rfl rfl (Nat.le_of_ble_eq_true rfl) rfl rfl) rfl rfl ?_)))))))))
        rintro _ w ⟨rfl, hS⟩
        have hS : St B w (Cl _ [_, _, _, _, _, _, _, _, _, _] _ :: _ :: _ :: _ :: _ :: l) hf := hS
        refine ⟨kp ⟨(by intro hx; cases hx), trivial⟩, ?_⟩
        refine RP.nil (RQ.then_n (RC.seq (RC.planS (plD [1, 3, 6, 9, 13, 17, 20, 23]) [6, 7] hS (fun w hS => hS.d3) follows rfl (by kernel_rfl) (NoTmp.then NoTmp.body) fun w hS => RP.s 0 0 rfl rfl hS.d3 (fun w hS => Vl.lw 0 hS isAgg38 sizeOf38 rfl rfl rfl) rfl (pp 2 rfl (RP.s0 3 rfl (fun w => Vl.fa 28 underlying102 rfl sizeOf81 rfl rfl) rfl (RP.s 0 4 rfl rfl hS.d3 (fun w hS => Vl.ld 2 hS isAgg81 rfl rfl rfl) rfl (RP.e0 5 rfl (OW.store (vs := [.int .i64 (fn139 0), .int .i64 (fn139 1), .int .i64 (fn139 2), .int .i64 (fn139 3), .int .i64 (fn139 4), .int .i64 (fn139 5), .int .i64 (fn139 6), .int .i64 (fn139 7), .int .i64 x140, .int .i64 (IntKind.i64.wrap (a8.Sent + (l141.length : Int)))]) 3 hS rfl rfl rfl rfl sizeOf38 rfl rfl rfl rfl) rfl ?_)))))))
        rintro _ w ⟨rfl, hS⟩
        have hS : St B w (_ :: _ :: _ :: Cl _ [_, _, _, _, _, _, _, _, _, _] _ :: _ :: l) hf := hS
        refine ⟨kp ⟨fun _ => hS.d3, trivial⟩, ?_⟩
        refine RP.v1 6 rfl (Vl.assign rfl) rfl rfl (RP.v1 7 rfl (Vl.assign rfl) rfl rfl (RP.nil (tr ?_)))
        obtain rfl := h.some
        refine RQ.ret0 (vs := [.agg #[.int .i64 (fn139 0), .int .i64 (fn139 1), .int .i64 (fn139 2), .int .i64 (fn139 3), .int .i64 (fn139 4), .int .i64 (fn139 5), .int .i64 (fn139 6), .int .i64 (fn139 7), .int .i64 x140, .int .i64 (IntKind.i64.wrap (a8.Sent + (l141.length : Int)))], .slice A142 l141.length c143, .int .i64 0]) results32 ⟨⟨_, rfl, run_loadVarA (vs := [.int .i64 (fn139 0), .int .i64 (fn139 1), .int .i64 (fn139 2), .int .i64 (fn139 3), .int .i64 (fn139 4), .int .i64 (fn139 5), .int .i64 (fn139 6), .int .i64 (fn139 7), .int .i64 x140, .int .i64 (IntKind.i64.wrap (a8.Sent + (l141.length : Int)))]) isAgg38 sizeOf38 rfl (hS.cellsAt 3 rfl rfl)⟩, rfl, rfl, trivial⟩ ?_
        exact ⟨A142, c143, rfl, hS.d0.d1.d1.d1⟩
      · refine RC.seq ?_
        refine RC.region (pn 1 rfl ?_)
        have hS := hS.nilSl E_api_Out 110
        have hS : St B w (_ :: _ :: _ :: _ :: _ :: _ :: _ :: l) hf := hS
        obtain ⟨t146, hg147, h⟩ := h.bind
        have hc := vm_cpu_run.ok hr4 hr7 hg147 hS.p2
        rcases t146 with ⟨y148, y149, y150, y151⟩ | ⟨y157, y158, y159, y160, y161⟩
        · refine RL.e (OW.callF (ls := [.tmp 53]) rfl call40 hc) rfl rfl ?_
          rintro _ w ⟨A152, c153, rfl, hS⟩
          refine pn 1 rfl (lnsr (pn 1 rfl (RL.s (Vl.makeIface underlying108 rfl rfl) rfl (cF (fun _ hg => errors_As.ok hg hS.p2) call41 h rfl rfl rfl ?_))))
          rintro t154 h _ w ⟨rfl, hS⟩
          refine ln ?_
          refine RC.iteB 57 rfl h (fun hc156 h => ?_) fun hc156 h => ?_
          next =>
           refine RC.condT rfl (RC.seq (RC.planS (plD [1, 3, 7, 11, 14, 17]) [5] hS (fun w hS => hS.d3) follows rfl (by kernel_rfl) (NoTmp.then (NoTmp.then NoTmp.body)) fun w hS => RP.s 0 0 rfl rfl hS.d3 (fun w hS => Vl.lw 4 hS isAgg38 sizeOf38 rfl rfl rfl) rfl (RP.s0 1 rfl (fun w => Vl.fa 1 underlying105 rfl sizeOf33 rfl rfl) rfl (RP.s 0 2 rfl rfl hS.d3 (fun w hS => Vl.ld 0 hS isAgg33 rfl rfl rfl) rfl (RP.e0 3 rfl (OW.store (vs := [.int .i64 a8.Regs.c0, .int .i64 a8.Regs.c1, .int .i64 a8.Regs.c2, .int .i64 a8.Regs.c3, .int .i64 a8.Regs.c4, .int .i64 a8.Regs.c5, .int .i64 a8.Regs.c6, .int .i64 a8.Regs.c7, .int .i64 a8.Draws, .int .i64 a8.Sent]) 3 hS rfl rfl rfl rfl sizeOf38 rfl rfl rfl rfl) rfl ?_)))))
           rintro _ w ⟨rfl, hS⟩
           have hS : St B w (_ :: _ :: _ :: Cl _ [_, _, _, _, _, _, _, _, _, _] _ :: _ :: _ :: _ :: l) hf := hS
           refine ⟨kp ⟨fun _ => hS.d3, trivial⟩, ?_⟩
           refine RP.v1 4 rfl (Vl.assign rfl) rfl rfl (RP.v1 5 rfl (Vl.assign rfl) rfl rfl (RP.nil (tr (RQ.ret ?_))))
           have hS := hS.nilSl E_api_Out 110
           obtain rfl := h.some
           refine RQ.ret0 (vs := [.agg #[.int .i64 a8.Regs.c0, .int .i64 a8.Regs.c1, .int .i64 a8.Regs.c2, .int .i64 a8.Regs.c3, .int .i64 a8.Regs.c4, .int .i64 a8.Regs.c5, .int .i64 a8.Regs.c6, .int .i64 a8.Regs.c7, .int .i64 a8.Draws, .int .i64 a8.Sent], .slice none 0 0, .int .i64 0]) results32 ⟨⟨_, rfl, run_loadVarA (vs := [.int .i64 a8.Regs.c0, .int .i64 a8.Regs.c1, .int .i64 a8.Regs.c2, .int .i64 a8.Regs.c3, .int .i64 a8.Regs.c4, .int .i64 a8.Regs.c5, .int .i64 a8.Regs.c6, .int .i64 a8.Regs.c7, .int .i64 a8.Draws, .int .i64 a8.Sent]) isAgg38 sizeOf38 rfl (hS.cellsAt 4 rfl rfl)⟩, rfl, rfl, trivial⟩ ?_
           exact ⟨none, 0, rfl, hS.d1.d1.d1.d1.d1.d1.d1⟩
          next =>
           refine RC.condF rfl (RC.skip ?_)
           exact fun a ha => ⟨(y148, y149, y150, y151), y148, y149, y150, y151, rfl, A152, c153, ha.to ⟨rfl, rfl, rfl, trivial⟩, hS.d0.d3.d4, h⟩
        · refine RL.e (OW.callF (ls := [.tmp 53]) rfl call40 hc) rfl rfl ?_
          rintro _ w ⟨b162, A163, c164, A165, c166, rfl, hS⟩
          refine pn 1 rfl (lnsr (pn 1 rfl (RL.s (Vl.makeIface underlying108 rfl rfl) rfl (cF (fun _ hg => errors_As_2.ok hG0 hg hS.p4.p1.p2) call41 h rfl rfl rfl ?_))))
          rintro ⟨y169, y170⟩ h _ w ⟨rfl, hS⟩
          refine ln ?_
          refine RC.iteB 57 rfl h (fun hc171 h => ?_) fun hc171 h => ?_
          next =>
           refine RC.condT rfl (RC.seq (RC.planS (plD [1, 3, 7, 11, 14, 17]) [5] hS (fun w hS => hS.d5) follows rfl (by kernel_rfl) (NoTmp.then (NoTmp.then NoTmp.body)) fun w hS => RP.s 0 0 rfl rfl hS.d5 (fun w hS => Vl.lw 6 hS isAgg38 sizeOf38 rfl rfl rfl) rfl (RP.s0 1 rfl (fun w => Vl.fa 1 underlying105 rfl sizeOf33 rfl rfl) rfl (RP.s 0 2 rfl rfl hS.d5 (fun w hS => Vl.ld 2 hS isAgg33 rfl rfl rfl) rfl (RP.e0 3 rfl (OW.store (vs := [.int .i64 a8.Regs.c0, .int .i64 a8.Regs.c1, .int .i64 a8.Regs.c2, .int .i64 a8.Regs.c3, .int .i64 a8.Regs.c4, .int .i64 a8.Regs.c5, .int .i64 a8.Regs.c6, .int .i64 a8.Regs.c7, .int .i64 a8.Draws, .int .i64 a8.Sent]) 5 hS rfl rfl rfl rfl sizeOf38 rfl rfl rfl rfl) rfl ?_)))))
           rintro _ w ⟨rfl, hS⟩
           have hS : St B w (_ :: _ :: _ :: _ :: _ :: Cl _ [_, _, _, _, _, _, _, _, _, _] _ :: _ :: _ :: _ :: l) hf := hS
           refine ⟨kp ⟨fun _ => hS.d5, trivial⟩, ?_⟩
           refine RP.v1 4 rfl (Vl.assign rfl) rfl rfl (RP.v1 5 rfl (Vl.assign rfl) rfl rfl (RP.nil (tr (RQ.ret ?_))))
           have hS := hS.nilSl E_api_Out 110
           obtain rfl := h.some
           refine RQ.ret0 (vs := [.agg #[.int .i64 a8.Regs.c0, .int .i64 a8.Regs.c1, .int .i64 a8.Regs.c2, .int .i64 a8.Regs.c3, .int .i64 a8.Regs.c4, .int .i64 a8.Regs.c5, .int .i64 a8.Regs.c6, .int .i64 a8.Regs.c7, .int .i64 a8.Draws, .int .i64 a8.Sent], .slice none 0 0, .int .i64 y170.why]) results32 ⟨⟨_, rfl, run_loadVarA (vs := [.int .i64 a8.Regs.c0, .int .i64 a8.Regs.c1, .int .i64 a8.Regs.c2, .int .i64 a8.Regs.c3, .int .i64 a8.Regs.c4, .int .i64 a8.Regs.c5, .int .i64 a8.Regs.c6, .int .i64 a8.Regs.c7, .int .i64 a8.Draws, .int .i64 a8.Sent]) isAgg38 sizeOf38 rfl (hS.cellsAt 6 rfl rfl)⟩, rfl, rfl, trivial⟩ ?_
           exact ⟨none, 0, rfl, hS.d1.d1.d1.d1.d1.d1.d1.d1.d1⟩
          next =>
           refine RC.condF rfl (RC.skip ?_)
           exact fun a ha => ⟨(y158, y159, y160, y161), y158, y159, y160, y161, rfl, A165, c166, ha.to ⟨rfl, rfl, rfl, trivial⟩, hS.d0.d0.d0.d3.d4, h⟩
   next =>
    refine pn 15 rfl (ln (RC.condT rfl (sr (RL.s (Vl.build (v := .agg #[.int .i64 0, .int .i64 0, .int .i64 0, .int .i64 0, .int .i64 0, .int .i64 0, .int .i64 0, .int .i64 0, .int .i64 0, .int .i64 0]) (parts := []) rfl (by kernel_rfl)) rfl (RL.e0 (OW.store (vs := [.int .i64 0, .int .i64 0, .int .i64 0, .int .i64 0, .int .i64 0, .int .i64 0, .int .i64 0, .int .i64 0, .int .i64 0, .int .i64 0]) 0 hS rfl rfl rfl rfl sizeOf38 rfl rfl rfl rfl) rfl ?_)))))
    rintro _ w ⟨rfl, hS⟩
    have hS : St B w (Cl _ [_, _, _, _, _, _, _, _, _, _] _ :: _ :: _ :: _ :: l) hf := hS
    refine pn 2 rfl (lr (RQ.ret ?_))
    have hS := hS.nilSl E_api_Out 110
    obtain rfl := h.some
    refine RQ.ret0 (vs := [.agg #[.int .i64 0, .int .i64 0, .int .i64 0, .int .i64 0, .int .i64 0, .int .i64 0, .int .i64 0, .int .i64 0, .int .i64 0, .int .i64 0], .slice none 0 0, .int .i64 1]) results32 ⟨⟨_, rfl, run_loadVarA (vs := [.int .i64 0, .int .i64 0, .int .i64 0, .int .i64 0, .int .i64 0, .int .i64 0, .int .i64 0, .int .i64 0, .int .i64 0, .int .i64 0]) isAgg38 sizeOf38 rfl (hS.cellsAt 1 rfl rfl)⟩, rfl, rfl, trivial⟩ ?_
    exact ⟨none, 0, rfl, hS.d1.d1.d1.d1⟩
  next =>
   refine RC.condT rfl (sr (RL.s (Vl.build (v := .agg #[.int .i64 0, .int .i64 0, .int .i64 0, .int .i64 0, .int .i64 0, .int .i64 0, .int .i64 0, .int .i64 0, .int .i64 0, .int .i64 0]) (parts := []) rfl (by kernel_rfl)) rfl (pn 1 rfl (RL.e0 (OW.store (vs := [.int .i64 0, .int .i64 0, .int .i64 0, .int .i64 0, .int .i64 0, .int .i64 0, .int .i64 0, .int .i64 0, .int .i64 0, .int .i64 0]) 0 hS rfl rfl rfl rfl sizeOf38 rfl rfl rfl rfl) rfl ?_))))
   rintro _ w ⟨rfl, hS⟩
   have hS : St B w (Cl _ [_, _, _, _, _, _, _, _, _, _] _ :: _ :: _ :: _ :: l) hf := hS
   refine pn 2 rfl (lr (RQ.ret ?_))
   have hS := hS.nilSl E_api_Out 110
   obtain rfl := h.some
   refine RQ.ret0 (vs := [.agg #[.int .i64 0, .int .i64 0, .int .i64 0, .int .i64 0, .int .i64 0, .int .i64 0, .int .i64 0, .int .i64 0, .int .i64 0, .int .i64 0], .slice none 0 0, .int .i64 t98]) results32 ⟨⟨_, rfl, run_loadVarA (vs := [.int .i64 0, .int .i64 0, .int .i64 0, .int .i64 0, .int .i64 0, .int .i64 0, .int .i64 0, .int .i64 0, .int .i64 0, .int .i64 0]) isAgg38 sizeOf38 rfl (hS.cellsAt 1 rfl rfl)⟩, rfl, rfl, trivial⟩ ?_
   exact ⟨none, 0, rfl, hS.d1.d1.d1.d1⟩

/-! ### isochron/vm.Sends: function 33 -/
noncomputable def vm_Sends.l2b (a1 : api_World) (a8 : api_State) (a9 : api_Message) (a10 : List api_Out) (a14 : Int) : List api_Message × Int → Option ((List api_Message × Int) ⊕ (List api_Message))
  | (l134, x137) => (if x137 < (a10.length : Int) then (if 0 ≤ x137 then (if 0 ≤ (nth a10 x137).Link then (if (nth a10 x137).Link < (a1.Links.length : Int) then (if (nth a10 x137).Delay ≤ IntKind.i64.wrap (4611686018427387903 - a9.Key.Time) then (if (l134.length + 1) * 56 ≤ 140737488355328 then some (.inl ((l134 ++ ([(⟨(⟨IntKind.i64.wrap (a9.Key.Time + ((nth a10 x137).Delay)), a1.Self, IntKind.i64.wrap (a8.Sent + x137)⟩ : api_Key), (nth a1.Links ((nth a10 x137).Link)).To, (nth a10 x137).Value, IntKind.i64.wrap (a14 + x137), false⟩ : api_Message)])), IntKind.i64.wrap (x137 + 1))) else none) else some (.inl (l134, IntKind.i64.wrap (x137 + 1)))) else some (.inl (l134, IntKind.i64.wrap (x137 + 1)))) else some (.inl (l134, IntKind.i64.wrap (x137 + 1)))) else none) else some (.inr l134))
noncomputable def vm_Sends.l2 (a1 : api_World) (a8 : api_State) (a9 : api_Message) (a10 : List api_Out) (a14 : Int) (s : List api_Message × Int) : Option (List api_Message) := loopR (vm_Sends.l2b a1 a8 a9 a10 a14) s
noncomputable def vm_Sends.f (a1 : api_World) (a8 : api_State) (a9 : api_Message) (a10 : List api_Out) (a14 : Int) : Option (List api_Message) := vm_Sends.l2 a1 a8 a9 a10 a14 ([], 0)
theorem vm_Sends.ok {a1 : api_World} {a8 : api_State} {a9 : api_Message} {a10 : List api_Out} {a14 : Int} {A2 : Option Addr} {c3 : Nat} {A5 : Option Addr} {c6 : Nat} {A11 : Option Addr} {c12 : Nat} (hr4 : SlR E_api_Instr.rep hf A2 c3 a1.Prog) (hr7 : SlR E_api_Link.rep hf A5 c6 a1.Links) (hr13 : SlR E_api_Out.rep hf A11 c12 a10) {r : List api_Message} (h : vm_Sends.f a1 a8 a9 a10 a14 = some r) (hS : St B w (l) hf) :
    Calls prog 33 #[.agg #[.slice A2 a1.Prog.length c3, .int .i64 a1.Self, .slice A5 a1.Links.length c6, .int .u64 a1.Seed], .agg #[.int .i64 a8.Regs.c0, .int .i64 a8.Regs.c1, .int .i64 a8.Regs.c2, .int .i64 a8.Regs.c3, .int .i64 a8.Regs.c4, .int .i64 a8.Regs.c5, .int .i64 a8.Regs.c6, .int .i64 a8.Regs.c7, .int .i64 a8.Draws, .int .i64 a8.Sent], .agg #[.int .i64 a9.Key.Time, .int .i64 a9.Key.From, .int .i64 a9.Key.Seq, .int .i64 a9.To, .int .i64 a9.Value, .int .i64 a9.Uid, .bool a9.Anti], .slice A11 a10.length c12, .int .i64 a14] w (Ret fun v w => ∃ (A_1 : Option Addr) (c_2 : Nat), v = .slice A_1 r.length c_2 ∧ St B w (OSf E_api_Message 30 (.slice A_1 r.length c_2) r :: l) hf) := by
  have h := Holds.of h
  refine en func33 rfl ntmps33 rfl (sr (bx hS rfl rfl rfl rfl fun b104 w hS => bx hS rfl rfl rfl rfl fun b105 w hS => bx hS rfl rfl rfl rfl fun b106 w hS => pn 1 rfl (lnsr (pn 1 rfl (ln (RC.seq (RC.seq ?_)))))))
  refine RC.region (pn 1 rfl (RL.s (Vl.lenSl underlying81 rfl) rfl (pn 1 rfl (ln (RC.block ?_)))))
  have hS := hS.nilSl E_api_Message 30
  refine fun a ha => RC.loop (N := 72) (body := (vm_Sends.l2b a1 a8 a9 a10 a14)) (φ := (· = r)) (fun (s : List api_Message × Int) a w => ∃ (l134 : List api_Message) (x137 : Int), s = (l134, x137) ∧ ∃ (A135 : Option Addr) (c136 : Nat), Has 72 [(4, .int .i64 a14), (5, .pointer (some ⟨b104, 0, none⟩)), (6, .pointer (some ⟨b105, 0, none⟩)), (7, .pointer (some ⟨b106, 0, none⟩)), (11, .slice A135 l134.length c136), (14, .slice A11 a10.length c12), (15, .int .i64 (a10.length : Int)), (16, .int .i64 x137)] a ∧ St B w (OSf E_api_Message 30 (.slice A135 l134.length c136) l134 :: Cl b106 [.int .i64 a9.Key.Time, .int .i64 a9.Key.From, .int .i64 a9.Key.Seq, .int .i64 a9.To, .int .i64 a9.Value, .int .i64 a9.Uid, .bool a9.Anti] 30 :: Cl b105 [.int .i64 a8.Regs.c0, .int .i64 a8.Regs.c1, .int .i64 a8.Regs.c2, .int .i64 a8.Regs.c3, .int .i64 a8.Regs.c4, .int .i64 a8.Regs.c5, .int .i64 a8.Regs.c6, .int .i64 a8.Regs.c7, .int .i64 a8.Draws, .int .i64 a8.Sent] 38 :: Cl b104 [.slice A2 a1.Prog.length c3, .int .i64 a1.Self, .slice A5 a1.Links.length c6, .int .u64 a1.Seed] 26 :: l) hf) ?_ (s0 := ([], 0)) h ⟨([]), 0, rfl, none, 0, ha.to ⟨rfl, rfl, rfl, rfl, rfl, rfl, rfl, rfl, trivial⟩, hS⟩
  rintro G167 _ a w ⟨l134, x137, rfl, A135, c136, ha, hS⟩ h
  revert a
  show RC _ _ _ _ _ _
  refine sr (pn 1 rfl (ln (RC.seq ?_)))
  refine RC.iteP 17 rfl h (fun hc169 h => ?_) fun hc169 h => ?_
  next =>
   refine RC.condT rfl (sk (RC.seq (RC.block (sr (pn 1 rfl ?_)))))
   obtain ⟨hq183, h⟩ := h.req
   refine RL.s (Vl.indexAddr underlying81 sizeOf110 rfl rfl ((hr13.2.world hS.sub).adr hq183 hc169) hq183 hc169 rfl) rfl (RL.s (Vl.loadA isAgg110 sizeOf110 rfl rfl ((hr13.2.world hS.sub).cells hq183 hc169)) rfl (al hS zeroValue110 rfl rfl rfl fun b184 w hS => pn 1 rfl (RL.e0 (OW.store (vs := [.int .i64 ((nth a10 x137).Link), .int .i64 ((nth a10 x137).Delay), .int .i64 ((nth a10 x137).Value)]) 0 hS rfl rfl rfl rfl sizeOf110 rfl rfl rfl rfl) rfl ?_)))
   rintro _ w ⟨rfl, hS⟩
   have hS : St B w (Cl _ [_, _, _] _ :: _ :: _ :: _ :: _ :: l) hf := hS
   refine lnsr (RL.s (Vl.fa 0 underlying110 rfl sizeOf3 rfl rfl) rfl (RL.s (Vl.ld 0 hS isAgg3 rfl rfl rfl) rfl (pn 2 rfl ?_)))
   refine RL.iteP 24 rfl h (fun hc185 h => ?_) fun hc185 h => ?_
   next =>
    refine RL.sg (Vl.fa 0 underlying110 rfl sizeOf3 rfl rfl) rfl rfl (RL.sg (Vl.ld 0 hS isAgg3 rfl rfl rfl) rfl rfl (RL.sg (Vl.fa 2 underlying26 rfl sizeOf23 rfl rfl) rfl rfl (RL.sg (Vl.ld 4 hS isAgg23 rfl rfl rfl) rfl rfl (RL.sg (Vl.lenSl underlying23 rfl) rfl rfl (pn 3 rfl ?_)))))
    refine RL.iteP 32 rfl h (fun hc186 h => ?_) fun hc186 h => ?_
    next =>
     refine RL.sg (Vl.fa 1 underlying110 rfl sizeOf2 rfl rfl) rfl rfl (RL.sg (Vl.ld 0 hS isAgg2 rfl rfl rfl) rfl rfl (RL.sg (Vl.fa 0 underlying30 rfl sizeOf28 rfl rfl) rfl rfl (RL.sg (Vl.fa 0 underlying28 rfl sizeOf2 rfl rfl) rfl rfl (RL.sg (Vl.ld 2 hS isAgg2 rfl rfl rfl) rfl rfl (pn 3 rfl (ln ?_))))))
     refine RC.iteP 40 rfl h (fun hc187 h => ?_) fun hc187 h => ?_
     next =>
      refine RC.condT rfl (RC.planS (plD [0, 3, 6, 10, 12, 16, 18, 21, 25, 27, 31, 33, 36, 39, 42, 46, 48, 52, 55, 57, 61, 63, 67, 69, 74, 77, 80, 83, 86, 89]) [26, 27, 28, 29] hS (fun w hS => hS) follows rfl (by kernel_rfl) (NoTmp.block (NoTmp.then (NoTmp.then (NoTmp.block (NoTmp.then NoTmp.body))))) fun w hS => pp 1 rfl (RP.s0 1 rfl (fun w => Vl.fa 0 underlying30 rfl sizeOf28 rfl rfl) rfl (RP.s0 2 rfl (fun w => Vl.fa 0 underlying28 rfl sizeOf2 rfl rfl) rfl (RP.s 0 3 rfl rfl hS (fun w hS => Vl.ld 2 hS isAgg2 rfl rfl rfl) rfl (RP.s0 4 rfl (fun w => Vl.fa 1 underlying110 rfl sizeOf2 rfl rfl) rfl (RP.s 0 5 rfl rfl hS (fun w hS => Vl.ld 0 hS isAgg2 rfl rfl rfl) rfl (pp 1 rfl (RP.s0 7 rfl (fun w => Vl.fa 1 underlying26 rfl sizeOf3 rfl rfl) rfl (RP.s 0 8 rfl rfl hS (fun w hS => Vl.ld 4 hS isAgg3 rfl rfl rfl) rfl (RP.s0 9 rfl (fun w => Vl.fa 9 underlying38 rfl sizeOf3 rfl rfl) rfl (RP.s 0 10 rfl rfl hS (fun w hS => Vl.ld 3 hS isAgg3 rfl rfl rfl) rfl (pp 2 rfl (RP.s0 13 rfl (fun w => Vl.build (v := .agg #[.int .i64 (IntKind.i64.wrap (a9.Key.Time + ((nth a10 x137).Delay))), .int .i64 a1.Self, .int .i64 (IntKind.i64.wrap (a8.Sent + x137))]) (parts := [(0, .tmp 47), (1, .tmp 49), (2, .tmp 53)]) rfl (by kernel_rfl)) rfl (RP.s0 14 rfl (fun w => Vl.fa 2 underlying26 rfl sizeOf23 rfl rfl) rfl ?_))))))))))))))
      refine RP.s 0 15 rfl rfl hS (fun w hS => Vl.ld 4 hS isAgg23 rfl rfl rfl) rfl (RP.s0 16 rfl (fun w => Vl.fa 0 underlying110 rfl sizeOf3 rfl rfl) rfl (RP.s 0 17 rfl rfl hS (fun w hS => Vl.ld 0 hS isAgg3 rfl rfl rfl) rfl (RP.s 0 18 rfl rfl hS (fun w hS => Vl.indexAddr underlying23 sizeOf62 rfl rfl ((hr7.2.world hS.sub).adr hc185 hc186) hc185 hc186 rfl) rfl (RP.s0 19 rfl (fun w => Vl.fieldAddr (a'' := (ad A5).add (((nth a10 x137).Link).toNat * 4 + 1)) underlying62 rfl sizeOf3 rfl (add_add _ _ _)) rfl (RP.s 0 20 rfl rfl hS (fun w hS => Vl.load isAgg3 rfl ((hr7.2.world hS.sub).cell (j := 1) hc185 hc186 rfl)) rfl (RP.s0 21 rfl (fun w => Vl.fa 2 underlying110 rfl sizeOf2 rfl rfl) rfl (RP.s 0 22 rfl rfl hS (fun w hS => Vl.ld 0 hS isAgg2 rfl rfl rfl) rfl (pp 1 rfl (RP.v1 24 rfl (Vl.move rfl) rfl rfl (RP.v1 25 rfl (Vl.int rfl rfl rfl) rfl rfl (RP.v1 26 rfl (Vl.build (v := .agg #[.int .i64 (IntKind.i64.wrap (a9.Key.Time + ((nth a10 x137).Delay))), .int .i64 a1.Self, .int .i64 (IntKind.i64.wrap (a8.Sent + x137)), .int .i64 ((nth a1.Links ((nth a10 x137).Link)).To), .int .i64 ((nth a10 x137).Value), .int .i64 (IntKind.i64.wrap (a14 + x137)), .bool false]) (parts := [(0, .tmp 54), (1, .tmp 61), (2, .tmp 63), (3, .tmp 66)]) rfl (by kernel_rfl)) rfl rfl (RP.e 27 rfl (OW.buildSlice (E := E_api_Message) (xs := [(⟨(⟨IntKind.i64.wrap (a9.Key.Time + ((nth a10 x137).Delay)), a1.Self, IntKind.i64.wrap (a8.Sent + x137)⟩ : api_Key), (nth a1.Links ((nth a10 x137).Link)).To, (nth a10 x137).Value, IntKind.i64.wrap (a14 + x137), false⟩ : api_Message)]) (cs := [.int .i64 (IntKind.i64.wrap (a9.Key.Time + ((nth a10 x137).Delay))), .int .i64 a1.Self, .int .i64 (IntKind.i64.wrap (a8.Sent + x137)), .int .i64 ((nth a1.Links ((nth a10 x137).Link)).To), .int .i64 ((nth a10 x137).Value), .int .i64 (IntKind.i64.wrap (a14 + x137)), .bool false]) hS underlying41 zeroValue30 sizeOf30 (parts := [(0, .tmp 67)]) rfl rfl (by decide) (by decide) (by kernel_rfl) rfl) rfl rfl ?_))))))))))))
      rintro _ w ⟨b188, rfl, hS⟩
      refine ⟨kp ⟨(by intro hx; cases hx), trivial⟩, ?_⟩
      obtain ⟨hq189, h⟩ := h.req
      refine RP.e 28 rfl (OW.append (E := E_api_Message) (xs := l134) (ys := [(⟨(⟨IntKind.i64.wrap (a9.Key.Time + ((nth a10 x137).Delay)), a1.Self, IntKind.i64.wrap (a8.Sent + x137)⟩ : api_Key), (nth a1.Links ((nth a10 x137).Link)).To, (nth a10 x137).Value, IntKind.i64.wrap (a14 + x137), false⟩ : api_Message)]) 2 hS rfl underlying41 type30 rfl rfl rfl rfl (by decide) rfl rfl rfl (hS.slW 0 rfl).2.2.flat (by simp only [maxLen, List.length_cons, List.length_nil] at *; omega) hq189 rfl) rfl rfl ?_
      rintro v192 w hS
      obtain ⟨A190, c191, rfl, _⟩ := hS.osShape 0 rfl
      have hS : St B w (_ :: _ :: _ :: _ :: _ :: _ :: l) hf := hS
      refine ⟨kp ⟨(by intro hx; cases hx), trivial⟩, ?_⟩
      refine RP.v1 29 rfl (Vl.assign rfl) rfl rfl (RP.nil (RQ.inB_n (RQ.then_n (RC.region (pn 2 rfl (RL.nil ?_))))))
      exact fun a ha => ⟨((l134 ++ ([(⟨(⟨IntKind.i64.wrap (a9.Key.Time + ((nth a10 x137).Delay)), a1.Self, IntKind.i64.wrap (a8.Sent + x137)⟩ : api_Key), (nth a1.Links ((nth a10 x137).Link)).To, (nth a10 x137).Value, IntKind.i64.wrap (a14 + x137), false⟩ : api_Message)])), IntKind.i64.wrap (x137 + 1)), ⟨(l134 ++ ([(⟨(⟨IntKind.i64.wrap (a9.Key.Time + ((nth a10 x137).Delay)), a1.Self, IntKind.i64.wrap (a8.Sent + x137)⟩ : api_Key), (nth a1.Links ((nth a10 x137).Link)).To, (nth a10 x137).Value, IntKind.i64.wrap (a14 + x137), false⟩ : api_Message)])), (IntKind.i64.wrap (x137 + 1)), rfl, A190, c191, ha.to ⟨rfl, rfl, rfl, rfl, rfl, rfl, rfl, rfl, trivial⟩, hS.d1.d1⟩, h.some⟩
     next =>
      refine RC.condF rfl (RC.skip (RQ.inB_n (RQ.then_n (RC.region (pn 2 rfl (RL.nil ?_))))))
      exact fun a ha => ⟨(l134, IntKind.i64.wrap (x137 + 1)), ⟨l134, (IntKind.i64.wrap (x137 + 1)), rfl, A135, c136, ha.to ⟨rfl, rfl, rfl, rfl, rfl, rfl, rfl, rfl, trivial⟩, hS.d0⟩, h.some⟩
    next =>
     refine pn 8 rfl (ln (RC.condF rfl (RC.skip (RQ.inB_n (RQ.then_n (RC.region (pn 2 rfl (RL.nil ?_))))))))
     exact fun a ha => ⟨(l134, IntKind.i64.wrap (x137 + 1)), ⟨l134, (IntKind.i64.wrap (x137 + 1)), rfl, A135, c136, ha.to ⟨rfl, rfl, rfl, rfl, rfl, rfl, rfl, rfl, trivial⟩, hS.d0⟩, h.some⟩
   next =>
    refine pn 16 rfl (ln (RC.condF rfl (RC.skip (RQ.inB_n (RQ.then_n (RC.region (pn 2 rfl (RL.nil ?_))))))))
    exact fun a ha => ⟨(l134, IntKind.i64.wrap (x137 + 1)), ⟨l134, (IntKind.i64.wrap (x137 + 1)), rfl, A135, c136, ha.to ⟨rfl, rfl, rfl, rfl, rfl, rfl, rfl, rfl, trivial⟩, hS.d0⟩, h.some⟩
  next =>
   refine RC.condF rfl (RC.exit (RQ.exitT ?_))
   have h := h.inrS
   refine RQ.exitT (RQ.inB_hit (tsr (pn 2 rfl (lr ?_))))
   obtain rfl := h.some
   exact rt results33 rfl ⟨A135, c136, rfl, hS.d1.d1.d1⟩

/-! ### (*isochron/log.Log).run$1: function 34 -/
noncomputable def log_Log_run_1.l2b (a1 : api_Message) (a3 : (List api_Message)) : Int → Option ((Int) ⊕ (Int × Bool × List api_Message))
  | (x109) => (if x109 < (a3.length : Int) then (if 0 ≤ x109 then (if a1.Key = (nth a3 x109).Key then (if a1.To = (nth a3 x109).To then (if a1.Value = (nth a3 x109).Value then (if x109 ≤ (a3.length : Int) then (if 0 ≤ IntKind.i64.wrap (x109 + 1) ∧ IntKind.i64.wrap (x109 + 1) ≤ (a3.length : Int) then (if ((subL a3 0 x109).length + (subL a3 (IntKind.i64.wrap (x109 + 1)) (a3.length : Int)).length) * 56 ≤ 140737488355328 then some (.inr ((nth a3 x109).Uid, true, ((subL a3 0 x109) ++ (subL a3 (IntKind.i64.wrap (x109 + 1)) (a3.length : Int))))) else none) else none) else none) else some (.inl (IntKind.i64.wrap (x109 + 1)))) else some (.inl (IntKind.i64.wrap (x109 + 1)))) else some (.inl (IntKind.i64.wrap (x109 + 1)))) else none) else some (.inr (0, false, a3)))
noncomputable def log_Log_run_1.l2 (a1 : api_Message) (a3 : (List api_Message)) (s : Int) : Option (Int × Bool × List api_Message) := loopR (log_Log_run_1.l2b a1 a3) s
noncomputable def log_Log_run_1.f (a1 : api_Message) (a3 : (List api_Message)) : Option (Int × Bool × List api_Message) := log_Log_run_1.l2 a1 a3 (0)
theorem log_Log_run_1.ok {a1 : api_Message} {a3 : (List api_Message)} {b2 : Nat} {A4 : Option Addr} {c5 : Nat} {r : Int × Bool × List api_Message} (h : log_Log_run_1.f a1 a3 = some r) (hS : St B w (Cl b2 [.slice A4 a3.length c5] 41 :: OSf E_api_Message 30 (.slice A4 a3.length c5) a3 :: l) hf) :
    Calls prog 34 #[.agg #[.int .i64 a1.Key.Time, .int .i64 a1.Key.From, .int .i64 a1.Key.Seq, .int .i64 a1.To, .int .i64 a1.Value, .int .i64 a1.Uid, .bool a1.Anti], .pointer (some ⟨b2, 0, none⟩)] w (Ret fun v w => ∃ (A_1 : Option Addr) (c_2 : Nat), v = .tuple #[.int .i64 r.1, .bool r.2.1] ∧ St B w (OSf E_api_Message 30 (.slice A_1 r.2.2.length c_2) r.2.2 :: Cl b2 [.slice A_1 r.2.2.length c_2] 41 :: l) hf) := by
  have h := Holds.of h
  refine en func34 rfl ntmps34 rfl (sr (bx hS rfl rfl rfl rfl fun b85 w hS => pn 2 rfl (ln (RC.seq (sr (RL.s (Vl.ld 1 hS isAgg41 rfl rfl rfl) rfl (RL.s (Vl.lenSl underlying41 rfl) rfl (pn 1 rfl (ln (RC.block ?_))))))))))
  refine fun a ha => RC.loop (N := 45) (body := (log_Log_run_1.l2b a1 a3)) (φ := (· = r)) (fun (s : Int) a w => ∃ (x109 : Int), s = (x109) ∧ Has 45 [(1, .pointer (some ⟨b2, 0, none⟩)), (2, .pointer (some ⟨b85, 0, none⟩)), (7, .slice A4 a3.length c5), (8, .int .i64 (a3.length : Int)), (9, .int .i64 x109)] a ∧ St B w (OSf E_api_Message 30 (.slice A4 a3.length c5) a3 :: Cl b85 [.int .i64 a1.Key.Time, .int .i64 a1.Key.From, .int .i64 a1.Key.Seq, .int .i64 a1.To, .int .i64 a1.Value, .int .i64 a1.Uid, .bool a1.Anti] 30 :: Cl b2 [.slice A4 a3.length c5] 41 :: l) hf) ?_ (s0 := (0)) h ⟨0, rfl, ha.to ⟨rfl, rfl, rfl, rfl, rfl, trivial⟩, hS.p2⟩
  rintro G137 x109 a w ⟨_, rfl, ha, hS⟩ h
  revert a
  show RC _ _ _ _ _ _
  refine sr (pn 1 rfl (ln (RC.seq ?_)))
  refine RC.iteP 10 rfl h (fun hc139 h => ?_) fun hc139 h => ?_
  next =>
   refine RC.condT rfl (sk (RC.seq (RC.block (sr (pn 1 rfl ?_)))))
   obtain ⟨hq152, h⟩ := h.req
   refine RL.s (Vl.indexOwn 0 hS rfl underlying41 sizeOf30 rfl rfl hq152 hc139) rfl (RL.s (Vl.loadA isAgg30 sizeOf30 rfl rfl ((hS.slW 0 rfl).2.2.cells hq152 hc139)) rfl (al hS zeroValue30 rfl rfl rfl fun b153 w hS => pn 1 rfl (RL.e0 (OW.store (vs := [.int .i64 (((nth a3 x109).Key).Time), .int .i64 (((nth a3 x109).Key).From), .int .i64 (((nth a3 x109).Key).Seq), .int .i64 ((nth a3 x109).To), .int .i64 ((nth a3 x109).Value), .int .i64 ((nth a3 x109).Uid), .bool ((nth a3 x109).Anti)]) 0 hS rfl rfl rfl rfl sizeOf30 rfl rfl rfl rfl) rfl ?_)))
   rintro _ w ⟨rfl, hS⟩
   have hS : St B w (Cl _ [_, _, _, _, _, _, _] _ :: _ :: _ :: _ :: l) hf := hS
   refine lnsr (RL.s (Vl.fa 0 underlying30 rfl sizeOf28 rfl rfl) rfl (RL.s (Vl.loadA (vs := [.int .i64 a1.Key.Time, .int .i64 a1.Key.From, .int .i64 a1.Key.Seq]) isAgg28 sizeOf28 rfl rfl (hS.cellsAt 2 rfl rfl)) rfl (RL.s (Vl.fa 0 underlying30 rfl sizeOf28 rfl rfl) rfl (RL.s (Vl.loadA (vs := [.int .i64 (((nth a3 x109).Key).Time), .int .i64 (((nth a3 x109).Key).From), .int .i64 (((nth a3 x109).Key).Seq)]) isAgg28 sizeOf28 rfl rfl (hS.cellsAt 0 rfl rfl)) rfl (RL.s (Vl.eqlS (run_eql_api_Key _ _ a1.Key ((nth a3 x109).Key)) rfl rfl) rfl (pn 1 rfl ?_))))))
   refine RL.iteP 19 rfl h (fun hc154 h => ?_) fun hc154 h => ?_
   next =>
    refine RL.sg (Vl.fa 3 underlying30 rfl sizeOf3 rfl rfl) rfl rfl (RL.sg (Vl.ld 2 hS isAgg3 rfl rfl rfl) rfl rfl (RL.sg (Vl.fa 3 underlying30 rfl sizeOf3 rfl rfl) rfl rfl (RL.sg (Vl.ld 0 hS isAgg3 rfl rfl rfl) rfl rfl (pn 3 rfl ?_))))
    refine RL.iteP 26 rfl h (fun hc155 h => ?_) fun hc155 h => ?_
    next =>
     refine RL.sg (Vl.fa 4 underlying30 rfl sizeOf2 rfl rfl) rfl rfl (RL.sg (Vl.ld 2 hS isAgg2 rfl rfl rfl) rfl rfl (RL.sg (Vl.fa 4 underlying30 rfl sizeOf2 rfl rfl) rfl rfl (RL.sg (Vl.ld 0 hS isAgg2 rfl rfl rfl) rfl rfl (pn 2 rfl (ln ?_)))))
     refine RC.iteP 32 rfl h (fun hc156 h => ?_) fun hc156 h => ?_
     next =>
      refine RC.condT rfl (RC.seq (RC.planS (plD [1, 3, 6, 10, 13, 17, 20, 23, 26, 29]) [8, 9] hS (fun w hS => hS) follows rfl (by kernel_rfl) (NoTmp.then (NoTmp.block (NoTmp.then (NoTmp.then (NoTmp.block (NoTmp.then NoTmp.body)))))) fun w hS => RP.s 0 0 rfl rfl hS (fun w hS => Vl.ld 3 hS isAgg41 rfl rfl rfl) rfl (pp 2 rfl ?_)))
      obtain ⟨hq157, h⟩ := h.req
      refine RP.s 0 3 rfl rfl hS (fun w hS => Vl.slice3 (xs := a3) 1 hS rfl underlying41 sizeOf30 rfl rfl rfl hq152 hq157) rfl (RP.s 0 4 rfl rfl hS (fun w hS => Vl.ld 3 hS isAgg41 rfl rfl rfl) rfl (RP.v1 5 rfl (Vl.move rfl) rfl rfl (RP.v1 6 rfl (Vl.int rfl rfl rfl) rfl rfl ?_)))
      obtain ⟨⟨hq158, hq159⟩, h⟩ := h.req
      refine RP.v1 7 rfl (Vl.sliceLO (xs := a3) 1 hS rfl underlying41 sizeOf30 rfl rfl  hq158 hq159) rfl rfl ?_
      obtain ⟨hq160, h⟩ := h.req
      refine RP.e 8 rfl (OW.appendCut (E := E_api_Message) (xs := a3) (k := x109) (m := IntKind.i64.wrap (x109 + 1)) 1 hS rfl underlying41 type30 rfl rfl rfl rfl (by decide) (by decide) rfl rfl hq152 hq157 hq158 hq159 hq160 rfl) rfl rfl ?_
      rintro v163 w hS
      obtain ⟨A161, c162, rfl, _⟩ := hS.osShape 0 rfl
      have hS : St B w (_ :: _ :: _ :: _ :: l) hf := hS
      refine ⟨kp ⟨(by intro hx; cases hx), trivial⟩, ?_⟩
      refine RP.e0 9 rfl (OW.store (vs := [.slice A161 ((subL a3 0 x109) ++ (subL a3 (IntKind.i64.wrap (x109 + 1)) (a3.length : Int))).length c162]) 3 hS rfl rfl rfl rfl sizeOf41 rfl rfl rfl rfl) rfl ?_
      rintro _ w ⟨rfl, hS⟩
      have hS : St B w (_ :: _ :: _ :: Cl _ [_] _ :: l) hf := hS
      refine ⟨kp ⟨(by intro hx; cases hx), trivial⟩, ?_⟩
      refine RP.nil (tsr (RL.s (Vl.fa 5 underlying30 rfl sizeOf3 rfl rfl) rfl (RL.s (Vl.ld 1 hS isAgg3 rfl rfl rfl) rfl (pn 2 rfl (lr (RQ.inB_ret (RQ.ret ?_)))))))
      have h := h.inrS
      refine RQ.ret (RQ.inB_ret (RQ.ret ?_))
      obtain rfl := h.some
      exact rt results34 rfl ⟨A161, c162, rfl, hS.d1.d1⟩
     next =>
      refine RC.condF rfl (RC.skip (RQ.inB_n (RQ.then_n (RC.region (pn 2 rfl (RL.nil ?_))))))
      exact fun a ha => ⟨(IntKind.i64.wrap (x109 + 1)), ⟨(IntKind.i64.wrap (x109 + 1)), rfl, ha.to ⟨rfl, rfl, rfl, rfl, rfl, trivial⟩, hS.d0⟩, h.some⟩
    next =>
     refine pn 6 rfl (ln (RC.condF rfl (RC.skip (RQ.inB_n (RQ.then_n (RC.region (pn 2 rfl (RL.nil ?_))))))))
     exact fun a ha => ⟨(IntKind.i64.wrap (x109 + 1)), ⟨(IntKind.i64.wrap (x109 + 1)), rfl, ha.to ⟨rfl, rfl, rfl, rfl, rfl, trivial⟩, hS.d0⟩, h.some⟩
   next =>
    refine pn 13 rfl (ln (RC.condF rfl (RC.skip (RQ.inB_n (RQ.then_n (RC.region (pn 2 rfl (RL.nil ?_))))))))
    exact fun a ha => ⟨(IntKind.i64.wrap (x109 + 1)), ⟨(IntKind.i64.wrap (x109 + 1)), rfl, ha.to ⟨rfl, rfl, rfl, rfl, rfl, trivial⟩, hS.d0⟩, h.some⟩
  next =>
   refine RC.condF rfl (RC.exit (RQ.exitT ?_))
   have h := h.inrS
   refine RQ.exitT (RQ.inB_hit (tsr (pn 2 rfl (lr ?_))))
   obtain rfl := h.some
   exact rt results34 rfl ⟨A4, c5, rfl, hS.d1⟩

end Go.Proofs.Gx
