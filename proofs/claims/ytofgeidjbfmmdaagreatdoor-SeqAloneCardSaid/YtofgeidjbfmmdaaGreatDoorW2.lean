/-
  The walks of functions, each with what it computes: printed by wip/gx.py.
-/
import Derived.Test.YtofgeidjbfmmdaaGreatDoorW0
import Derived.Test.YtofgeidjbfmmdaaGreatDoorW1
set_option linter.unusedVariables false
set_option maxRecDepth 100000
set_option maxHeartbeats 4000000
namespace Go.Proofs.Gx
open Go.Sl Tryz
variable {B : Base} {w : World} {l : List HProp} {hf : Hp}
/-! ### errors.As: function 25 -/
noncomputable def errors_As_2.f (a4 : model_flaw) (a5 : Int) (a7 : model_flaw) : Option (Bool × model_flaw) := ((errors_as_2.f a4 a5 a7).bind fun (y18, y19) => some (y18, y19))
theorem errors_As_2.ok {a4 : model_flaw} {a5 : Int} {a7 : model_flaw} {b1 : Nat} {A2 : Option Addr} {c3 b6 : Nat} (hG0 : GlobAt hf 0 (.iface 148 (.agg #[.pointer (some ⟨1, 83, none⟩)]))) {r : Bool × model_flaw} (h : errors_As_2.f a4 a5 a7 = some r) (hS : St B w (OSl 83 1 (.slice A2 2 c3) 2 [.iface 81 (.agg #[.int .i64 a4.at_, .int .i64 a4.why]), .iface 32 (.int .i64 a5)] :: Cl b1 [.slice A2 2 c3] 188 :: Cl b6 [.int .i64 a7.at_, .int .i64 a7.why] 81 :: l) hf) :
    Calls prog 25 #[.iface 186 (.pointer (some ⟨b1, 0, none⟩)), .iface 85 (.pointer (some ⟨b6, 0, none⟩))] w (Ret fun v w => v = .bool r.1 ∧ St B w (OSl 83 1 (.slice A2 2 c3) 2 [.iface 81 (.agg #[.int .i64 a4.at_, .int .i64 a4.why]), .iface 32 (.int .i64 a5)] :: Cl b1 [.slice A2 2 c3] 188 :: Cl b6 [.int .i64 r.2.at_, .int .i64 r.2.why] 81 :: l) hf) := by
  have h := Holds.of h
  refine en func25 rfl ntmps25 rfl (sr (pn 1 rfl (ln (RC.seq (sr (pn 1 rfl (RL.s (Vl.bin (v := .bool false) rfl rfl (by kernel_rfl)) rfl (ln (RC.condF rfl (sk ?_))))))))))
  refine RC.seq (sr (pn 1 rfl (RL.s (Vl.bin (v := .bool false) rfl rfl (by kernel_rfl)) rfl (ln (RC.condF rfl (sk (sr (pn 1 rfl (RL.e (OW.externNew (ls := [.tmp 13]) (cs := [.pointer (some ⟨b6, 0, none⟩)]) (T := 85) (v := fun b => .agg #[.pointer (some ⟨1, 85, none⟩), .pointer (some ⟨b, 0, none⟩), .int .u64 150]) hS rfl func45 (by kernel_rfl) (by kernel_rfl) (by kernel_rfl) (e := fun args => Extern.ReflectliteValue.unpack (args.getD 0 (.tuple #[]))) (by kernel_rfl) (fun w => by kernel_rfl)) rfl rfl ?_)))))))))
  rintro _ w ⟨b14, rfl, hS⟩
  refine al hS zeroValue109 rfl rfl rfl fun b15 w hS => RL.e0 (OW.store (vs := [.pointer (some ⟨1, 85, none⟩), .pointer (some ⟨b14, 0, none⟩), .int .u64 150]) 0 hS rfl rfl rfl rfl sizeOf109 rfl rfl rfl rfl) rfl ?_
  rintro _ w ⟨rfl, hS⟩
  have hS : St B w (Cl _ [_, _, _] _ :: _ :: _ :: _ :: _ :: l) hf := hS
  refine lnsr (RL.s (Vl.lw 0 hS isAgg109 sizeOf109 rfl rfl rfl) rfl (RL.s (Vl.extern (ls := [.tmp 15]) (v := .iface 148 (.agg #[.pointer (some ⟨1, 85, none⟩)])) rfl func46 (by kernel_rfl) (by kernel_rfl) (by kernel_rfl) (e := Extern.ReflectliteValue.methodAny (Extern.ReflectliteValue.valueError "reflectlite.Value.Type" 0) fun t _ _ _ => Extern.ReflectliteType.toType t) (by kernel_rfl) (fun w => by kernel_rfl)) rfl (pn 1 rfl (ln (RC.seq (sr (pn 1 rfl (RL.s (Vl.invokeX (F := 146) (ls := []) (v := .int .u8 22) (u' := .pointer (some ⟨1, 85, none⟩)) rfl rfl (fun w => by kernel_rfl) func146 (by kernel_rfl) (by kernel_rfl) (by kernel_rfl) (e := (Extern.ReflectliteType.abiMethod fun t => do pure (.int .u8 (← Extern.Rtype.kind t)))) (by kernel_rfl) (fun w => by kernel_rfl)) rfl (pn 2 rfl (RL.sg (Vl.lw 0 hS isAgg109 sizeOf109 rfl rfl rfl) rfl rfl ?_))))))))))
  refine RL.sg (Vl.externAt (ls := [.tmp 21]) (v := .bool false) rfl func47 (by kernel_rfl) (by kernel_rfl) (by kernel_rfl) (e := Extern.ReflectliteValue.method (Extern.ReflectliteValue.valueError "reflectlite.Value.IsNil" 0) Extern.ReflectliteValue.isNil) (by kernel_rfl) (run_isNil (n := 150) (a := ⟨b14, 0, none⟩) (fun w => by kernel_rfl) underlying85 rfl (hS.cell 1 rfl rfl))) rfl rfl (pn 1 rfl (ln (RC.condF rfl (sk (sr (pn 1 rfl (RL.s (Vl.invokeX (F := 160) (ls := []) (v := .iface 148 (.agg #[.pointer (some ⟨1, 81, none⟩)])) (u' := .agg #[.pointer (some ⟨1, 85, none⟩)]) rfl rfl (fun w => by kernel_rfl) func160 (by kernel_rfl) (by kernel_rfl) (by kernel_rfl) (e := (Extern.ReflectliteType.method Extern.ReflectliteType.elem)) (by kernel_rfl) (fun w => by kernel_rfl)) rfl (pn 1 rfl (ln (RC.seq (RC.seq ?_)))))))))))
  refine RC.region (pn 1 rfl (RL.s (Vl.invokeX (F := 146) (ls := []) (v := .int .u8 25) (u' := .pointer (some ⟨1, 81, none⟩)) rfl rfl (fun w => by kernel_rfl) func146 (by kernel_rfl) (by kernel_rfl) (by kernel_rfl) (e := (Extern.ReflectliteType.abiMethod fun t => do pure (.int .u8 (← Extern.Rtype.kind t)))) (by kernel_rfl) (fun w => by kernel_rfl)) rfl (pn 3 rfl (RL.sg (Vl.load isAgg112 rfl (cellH_world hS.sub hG0)) rfl rfl (RL.sg (Vl.invokeX (F := 161) (ls := [.tmp 32]) (v := .bool true) (u' := .agg #[.pointer (some ⟨1, 81, none⟩)]) rfl rfl (fun w => by kernel_rfl) func161 (by kernel_rfl) (by kernel_rfl) (by kernel_rfl) (e := (Extern.ReflectliteType.relation "Implements" Extern.ReflectliteType.implements_)) (by kernel_rfl) (fun w => by kernel_rfl)) rfl rfl (pn 2 rfl (ln (RC.condF rfl (sk (sr (pn 2 rfl (RL.s (Vl.lw 0 hS isAgg109 sizeOf109 rfl rfl rfl) rfl ?_))))))))))))
  refine pn 1 rfl (cF (fun _ hg => errors_as_2.ok hg hS.p1.p4.p4.p4) call48 h rfl rfl rfl ?_)
  rintro ⟨y18, y19⟩ h _ w ⟨rfl, hS⟩
  refine pn 1 rfl (lr ?_)
  obtain rfl := h.some
  exact rt results25 rfl ⟨rfl, hS.d3.d3⟩

/-! ### (isochron/model.flaw).Unwrap: function 151 -/
noncomputable def model_flaw_Unwrap.f (a1 : model_flaw) : Option (Int) := some a1.why
theorem model_flaw_Unwrap.ok {a1 : model_flaw} {r : Int} (h : model_flaw_Unwrap.f a1 = some r) (hS : St B w (l) hf) :
    Calls prog 151 #[.agg #[.int .i64 a1.at_, .int .i64 a1.why]] w (Ret fun v w => v = .iface 32 (.int .i64 r) ∧ St B w (l) hf) := by
  have h := Holds.of h
  refine en func151 rfl ntmps151 rfl (sr (bx hS rfl rfl rfl rfl fun b3 w hS => pn 1 rfl (lnsr (RL.s (Vl.fa 1 underlying81 rfl sizeOf32 rfl rfl) rfl (RL.s (Vl.ld 0 hS isAgg32 rfl rfl rfl) rfl (RL.s (Vl.makeIface underlying32 rfl rfl) rfl (pn 1 rfl (lr ?_))))))))
  obtain rfl := h.some
  exact rt results151 rfl ⟨rfl, hS.d0⟩

/-! ### errors.is: function 50 -/
noncomputable def errors_is_4.f (a1 : model_flaw) (a2 : Int) (a3 : Bool) : Option (Bool) := (if a3 = true then ((model_flaw_Unwrap.f a1).bind fun t14 => (if t14 = a2 then some true else some false)) else ((model_flaw_Unwrap.f a1).bind fun t18 => some false))
theorem errors_is_4.ok {a1 : model_flaw} {a2 : Int} {a3 : Bool} {r : Bool} (h : errors_is_4.f a1 a2 a3 = some r) (hS : St B w (l) hf) :
    Calls prog 50 #[.iface 81 (.agg #[.int .i64 a1.at_, .int .i64 a1.why]), .iface 32 (.int .i64 a2), .bool a3] w (Ret fun v w => v = .bool r ∧ St B w (l) hf) := by
  have h := Holds.of h
  refine en func50 rfl ntmps50 rfl (sr (pn 1 rfl (ln (RC.block (RC.unroll (RQ.round (RC.block (RC.seq (sr (pn 2 rfl ?_))))))))))
  refine RL.iteB 15 rfl h (fun hc13 h => ?_) fun hc13 h => ?_
  next =>
   refine pn 2 rfl (RL.sg (Vl.ifaceNeq rfl rfl underlying83 rfl) rfl rfl (pn 1 rfl (ln (RC.condF rfl (sk (RC.seq (sr (pn 1 rfl (RL.s (Vl.tassert (r := .tuple #[.nilIface, .bool false]) rfl (fun w => run_typeAssert_lacksB underlying159 (by kernel_rfl) (by kernel_rfl) _ _ w)) rfl (pn 5 rfl (ln ?_)))))))))))
   refine sr (pn 6 rfl (ln (RC.condF rfl (sk (sr (pn 1 rfl (ln (RC.block (sr ?_)))))))))
   refine RL.s (Vl.tassert (r := .tuple #[.iface 81 (.agg #[.int .i64 a1.at_, .int .i64 a1.why]), .bool true]) rfl (fun w => run_typeAssert_hasB underlying155 (by kernel_rfl) _ _ w)) rfl (pn 2 rfl (ln (RC.condT rfl (sr (pn 1 rfl (lnsr (pn 1 rfl ?_)))))))
   obtain ⟨t14, hg15, h⟩ := h.bind
   have hc := model_flaw_Unwrap.ok hg15 hS
   refine RL.e (OW.invoke (F := 151) (u' := .agg #[.int .i64 a1.at_, .int .i64 a1.why]) (ls := []) rfl rfl (fun w => by kernel_rfl) call151 rfl hc) rfl rfl ?_
   rintro _ w ⟨rfl, hS⟩
   refine pn 1 rfl (lnsr (pn 1 rfl (RL.s (Vl.bin (v := .bool false) rfl rfl (by kernel_rfl)) rfl (ln (RC.condF rfl (RC.skip (RQ.inB_n (RQ.inB_n (RQ.then_n (RQ.round (RC.block ?_)))))))))))
   refine RC.seq (sr (pn 2 rfl (RL.re 15 rfl (congrArg Value.bool (id hc13)) (pn 2 rfl (RL.sg (Vl.ifaceInt rfl rfl underlying83 underlying32 type32 rfl) rfl rfl (pn 1 rfl (ln ?_)))))))
   refine RC.iteP 19 rfl h (fun hc17 h => ?_) fun hc17 h => ?_
   next =>
    refine RC.condT rfl (sr (pn 1 rfl (lr (RQ.ret (RQ.inB_ret (RQ.ret (RQ.inB_ret ?_)))))))
    obtain rfl := h.some
    exact rt results50 rfl ⟨rfl, hS⟩
   next =>
    refine RC.condF rfl (sk (RC.seq (sr (pn 1 rfl (RL.s (Vl.tassert (r := .tuple #[.nilIface, .bool false]) rfl (fun w => run_typeAssert_lacksB underlying159 (by kernel_rfl) (by kernel_rfl) _ _ w)) rfl (pn 5 rfl (lnsr (pn 6 rfl (ln ?_)))))))))
    refine RC.condF rfl (sk (sr (pn 1 rfl (ln (RC.block (sr (RL.s (Vl.tassert (r := .tuple #[.nilIface, .bool false]) rfl (fun w => run_typeAssert_lacksB underlying155 (by kernel_rfl) (by kernel_rfl) _ _ w)) rfl (pn 2 rfl (ln (RC.condF rfl ?_))))))))))
    refine sr (RL.s (Vl.tassert (r := .tuple #[.nilIface, .bool false]) rfl (fun w => run_typeAssert_lacksB underlying156 (by kernel_rfl) (by kernel_rfl) _ _ w)) rfl (pn 2 rfl (ln (RC.condF rfl (sr (pn 1 rfl (lnsr (pn 1 rfl (RL.nil ?_)))))))))
    refine tr (RQ.inB_ret (RQ.inB_ret (RQ.ret (RQ.inB_ret ?_))))
    obtain rfl := h.some
    exact rt results50 rfl ⟨rfl, hS⟩
  next =>
   refine pn 4 rfl (ln (RC.condF rfl (sk (RC.seq (sr (pn 1 rfl (RL.s (Vl.tassert (r := .tuple #[.nilIface, .bool false]) rfl (fun w => run_typeAssert_lacksB underlying159 (by kernel_rfl) (by kernel_rfl) _ _ w)) rfl (pn 5 rfl (lnsr ?_)))))))))
   refine pn 6 rfl (ln (RC.condF rfl (sk (sr (pn 1 rfl (ln (RC.block (sr (RL.s (Vl.tassert (r := .tuple #[.iface 81 (.agg #[.int .i64 a1.at_, .int .i64 a1.why]), .bool true]) rfl (fun w => run_typeAssert_hasB underlying155 (by kernel_rfl) _ _ w)) rfl (pn 2 rfl ?_))))))))))
   refine ln (RC.condT rfl (sr (pn 1 rfl (lnsr (pn 1 rfl ?_)))))
   obtain ⟨t18, hg19, h⟩ := h.bind
   have hc := model_flaw_Unwrap.ok hg19 hS
   refine RL.e (OW.invoke (F := 151) (u' := .agg #[.int .i64 a1.at_, .int .i64 a1.why]) (ls := []) rfl rfl (fun w => by kernel_rfl) call151 rfl hc) rfl rfl ?_
   rintro _ w ⟨rfl, hS⟩
   refine pn 1 rfl (lnsr (pn 1 rfl (RL.s (Vl.bin (v := .bool false) rfl rfl (by kernel_rfl)) rfl (ln (RC.condF rfl (RC.skip (RQ.inB_n (RQ.inB_n (RQ.then_n (RQ.round (RC.block ?_)))))))))))
   refine RC.seq (sr (pn 2 rfl (RL.re 15 rfl (congrArg Value.bool (eq_false_of hc13)) (pn 4 rfl (ln (RC.condF rfl (sk (RC.seq (sr (pn 1 rfl (RL.s (Vl.tassert (r := .tuple #[.nilIface, .bool false]) rfl (fun w => run_typeAssert_lacksB underlying159 (by kernel_rfl) (by kernel_rfl) _ _ w)) rfl ?_)))))))))))
   refine pn 5 rfl (lnsr (pn 6 rfl (ln (RC.condF rfl (sk (sr (pn 1 rfl (ln ?_))))))))
   refine RC.block (sr (RL.s (Vl.tassert (r := .tuple #[.nilIface, .bool false]) rfl (fun w => run_typeAssert_lacksB underlying155 (by kernel_rfl) (by kernel_rfl) _ _ w)) rfl (pn 2 rfl (ln (RC.condF rfl (sr (RL.s (Vl.tassert (r := .tuple #[.nilIface, .bool false]) rfl (fun w => run_typeAssert_lacksB underlying156 (by kernel_rfl) (by kernel_rfl) _ _ w)) rfl (pn 2 rfl (ln (RC.condF rfl (RC.seq ?_)))))))))))
   refine RC.region (pn 1 rfl (lnsr (pn 1 rfl (lr (RQ.inB_ret (RQ.inB_ret (RQ.ret (RQ.inB_ret ?_))))))))
   obtain rfl := h.some
   exact rt results50 rfl ⟨rfl, hS⟩

/-! ### errors.is: function 50 -/
noncomputable def errors_is_3.f (a4 : model_flaw) (a5 a6 : Int) (a7 : Bool) : Option (Bool) := (if a7 = true then ((errors_joinError_Unwrap.f a4 a5).bind fun _ => ((errors_is_4.f a4 a6 a7).bind fun t45 => (if t45 = true then some true else ((errors_is.f a5 a6 a7).bind fun t51 => (if t51 = true then some true else some false))))) else ((errors_joinError_Unwrap.f a4 a5).bind fun _ => ((errors_is_4.f a4 a6 a7).bind fun t59 => (if t59 = true then some true else ((errors_is.f a5 a6 a7).bind fun t65 => (if t65 = true then some true else some false))))))
theorem errors_is_3.ok {a4 : model_flaw} {a5 a6 : Int} {a7 : Bool} {b1 : Nat} {A2 : Option Addr} {c3 : Nat} {r : Bool} (h : errors_is_3.f a4 a5 a6 a7 = some r) (hS : St B w (OSl 83 1 (.slice A2 2 c3) 2 [.iface 81 (.agg #[.int .i64 a4.at_, .int .i64 a4.why]), .iface 32 (.int .i64 a5)] :: Cl b1 [.slice A2 2 c3] 188 :: l) hf) :
    Calls prog 50 #[.iface 186 (.pointer (some ⟨b1, 0, none⟩)), .iface 32 (.int .i64 a6), .bool a7] w (Ret fun v w => v = .bool r ∧ St B w (OSl 83 1 (.slice A2 2 c3) 2 [.iface 81 (.agg #[.int .i64 a4.at_, .int .i64 a4.why]), .iface 32 (.int .i64 a5)] :: Cl b1 [.slice A2 2 c3] 188 :: l) hf) := by
  have h := Holds.of h
  refine en func50 rfl ntmps50 rfl (sr (pn 1 rfl (ln (RC.block (RC.unroll (RQ.round (RC.block (RC.seq (sr (pn 2 rfl ?_))))))))))
  refine RL.iteB 15 rfl h (fun hc39 h => ?_) fun hc39 h => ?_
  next =>
   refine pn 2 rfl (RL.sg (Vl.ifaceNeq rfl rfl underlying83 rfl) rfl rfl (pn 1 rfl (ln (RC.condF rfl (sk (RC.seq (sr (pn 1 rfl (RL.s (Vl.tassert (r := .tuple #[.nilIface, .bool false]) rfl (fun w => run_typeAssert_lacksB underlying159 (by kernel_rfl) (by kernel_rfl) _ _ w)) rfl (pn 5 rfl (ln ?_)))))))))))
   refine sr (pn 6 rfl (ln (RC.condF rfl (sk (sr (pn 1 rfl (ln (RC.block (sr ?_)))))))))
   refine RL.s (Vl.tassert (r := .tuple #[.nilIface, .bool false]) rfl (fun w => run_typeAssert_lacksB underlying155 (by kernel_rfl) (by kernel_rfl) _ _ w)) rfl (pn 2 rfl (ln (RC.condF rfl (sr (RL.s (Vl.tassert (r := .tuple #[.iface 186 (.pointer (some ⟨b1, 0, none⟩)), .bool true]) rfl (fun w => run_typeAssert_hasB underlying156 (by kernel_rfl) _ _ w)) rfl (pn 2 rfl (ln (RC.condT rfl (sr (pn 1 rfl (RL.nil ?_)))))))))))
   refine RQ.then_n (RC.seq (sr (pn 1 rfl ?_)))
   obtain ⟨t40, hg41, h⟩ := h.bind
   have hc := errors_joinError_Unwrap.ok hg41 hS
   refine RL.e (OW.invoke (F := 170) (u' := .pointer (some ⟨b1, 0, none⟩)) (ls := []) rfl rfl (fun w => by kernel_rfl) call170 rfl hc) rfl rfl ?_
   rintro _ w ⟨rfl, hS⟩
   refine RL.s (Vl.lenSl underlying157 rfl) rfl (pn 1 rfl (ln (RC.block (RC.unroll (RQ.round (sr (pn 1 rfl (ln (RC.seq (RC.condT rfl (sk ?_)))))))))))
   refine RC.seq (RC.block (sr (RL.s (Vl.indexAddr (a'' := (ad A2).add 0) underlying157 sizeOf83 rfl rfl (hS.litAdr 0 rfl (by decide)) (by decide) (by decide) rfl) rfl (RL.s (Vl.load isAgg83 rfl (hS.litCell 0 rfl rfl)) rfl (pn 1 rfl (lnsr (pn 3 rfl (cF (fun _ hg => errors_is_4.ok hg hS) call50 h rfl rfl rfl ?_))))))))
   rintro t45 h _ w ⟨rfl, hS⟩
   refine ln ?_
   refine RC.iteB 52 rfl h (fun hc47 h => ?_) fun hc47 h => ?_
   next =>
    refine RC.condT rfl (sr (pn 1 rfl (lr (RQ.inB_ret (RQ.ret (RQ.ret (RQ.inB_ret (RQ.ret (RQ.inB_ret (RQ.inB_ret (RQ.ret (RQ.inB_ret ?_))))))))))))
    obtain rfl := h.some
    exact rt results50 rfl ⟨rfl, hS⟩
   next =>
    refine RC.condF rfl (RC.skip (RQ.inB_n (RQ.then_n (RC.region (pn 2 rfl (ln (RQ.round (sr (pn 1 rfl (ln (RC.seq (RC.condT rfl ?_))))))))))))
    refine sk (RC.seq (RC.block (sr (RL.s (Vl.indexAddr (a'' := (ad A2).add 1) underlying157 sizeOf83 rfl rfl (hS.litAdr 0 rfl (by decide)) (by decide) (by decide) rfl) rfl (RL.s (Vl.load isAgg83 rfl (hS.litCell 0 rfl rfl)) rfl (pn 1 rfl (lnsr (pn 3 rfl (cF (fun _ hg => errors_is.ok hg hS) call50 h rfl rfl rfl ?_)))))))))
    rintro t51 h _ w ⟨rfl, hS⟩
    refine ln ?_
    refine RC.iteB 52 rfl h (fun hc53 h => ?_) fun hc53 h => ?_
    next =>
     refine RC.condT rfl (sr (pn 1 rfl (lr (RQ.inB_ret (RQ.ret (RQ.ret (RQ.inB_ret (RQ.ret (RQ.inB_ret (RQ.inB_ret (RQ.ret (RQ.inB_ret ?_))))))))))))
     obtain rfl := h.some
     exact rt results50 rfl ⟨rfl, hS⟩
    next =>
     refine RC.condF rfl (RC.skip (RQ.inB_n (RQ.then_n (RC.region (pn 2 rfl (ln (RQ.round (sr (pn 1 rfl (ln (RC.seq (RC.condF rfl ?_))))))))))))
     refine RC.exit (RQ.exitT (RQ.exitT (RQ.inB_hit (tsr (pn 1 rfl (lr (RQ.inB_ret (RQ.inB_ret (RQ.ret (RQ.inB_ret ?_))))))))))
     obtain rfl := h.some
     exact rt results50 rfl ⟨rfl, hS⟩
  next =>
   refine pn 4 rfl (ln (RC.condF rfl (sk (RC.seq (sr (pn 1 rfl (RL.s (Vl.tassert (r := .tuple #[.nilIface, .bool false]) rfl (fun w => run_typeAssert_lacksB underlying159 (by kernel_rfl) (by kernel_rfl) _ _ w)) rfl (pn 5 rfl (lnsr ?_)))))))))
   refine pn 6 rfl (ln (RC.condF rfl (sk (sr (pn 1 rfl (ln (RC.block (sr (RL.s (Vl.tassert (r := .tuple #[.nilIface, .bool false]) rfl (fun w => run_typeAssert_lacksB underlying155 (by kernel_rfl) (by kernel_rfl) _ _ w)) rfl (pn 2 rfl ?_))))))))))
   refine ln (RC.condF rfl (sr (RL.s (Vl.tassert (r := .tuple #[.iface 186 (.pointer (some ⟨b1, 0, none⟩)), .bool true]) rfl (fun w => run_typeAssert_hasB underlying156 (by kernel_rfl) _ _ w)) rfl (pn 2 rfl (ln (RC.condT rfl (sr (pn 1 rfl (ln (RC.seq ?_))))))))))
   refine sr (pn 1 rfl ?_)
   obtain ⟨t54, hg55, h⟩ := h.bind
   have hc := errors_joinError_Unwrap.ok hg55 hS
   refine RL.e (OW.invoke (F := 170) (u' := .pointer (some ⟨b1, 0, none⟩)) (ls := []) rfl rfl (fun w => by kernel_rfl) call170 rfl hc) rfl rfl ?_
   rintro _ w ⟨rfl, hS⟩
   refine RL.s (Vl.lenSl underlying157 rfl) rfl (pn 1 rfl (ln (RC.block (RC.unroll (RQ.round (sr (pn 1 rfl (ln (RC.seq (RC.condT rfl (sk ?_)))))))))))
   refine RC.seq (RC.block (sr (RL.s (Vl.indexAddr (a'' := (ad A2).add 0) underlying157 sizeOf83 rfl rfl (hS.litAdr 0 rfl (by decide)) (by decide) (by decide) rfl) rfl (RL.s (Vl.load isAgg83 rfl (hS.litCell 0 rfl rfl)) rfl (pn 1 rfl (lnsr (pn 3 rfl (cF (fun _ hg => errors_is_4.ok hg hS) call50 h rfl rfl rfl ?_))))))))
   rintro t59 h _ w ⟨rfl, hS⟩
   refine ln ?_
   refine RC.iteB 52 rfl h (fun hc61 h => ?_) fun hc61 h => ?_
   next =>
    refine RC.condT rfl (sr (pn 1 rfl (lr (RQ.inB_ret (RQ.ret (RQ.ret (RQ.inB_ret (RQ.ret (RQ.inB_ret (RQ.inB_ret (RQ.ret (RQ.inB_ret ?_))))))))))))
    obtain rfl := h.some
    exact rt results50 rfl ⟨rfl, hS⟩
   next =>
    refine RC.condF rfl (RC.skip (RQ.inB_n (RQ.then_n (RC.region (pn 2 rfl (ln (RQ.round (sr (pn 1 rfl (ln (RC.seq (RC.condT rfl ?_))))))))))))
    refine sk (RC.seq (RC.block (sr (RL.s (Vl.indexAddr (a'' := (ad A2).add 1) underlying157 sizeOf83 rfl rfl (hS.litAdr 0 rfl (by decide)) (by decide) (by decide) rfl) rfl (RL.s (Vl.load isAgg83 rfl (hS.litCell 0 rfl rfl)) rfl (pn 1 rfl (lnsr (pn 3 rfl (cF (fun _ hg => errors_is.ok hg hS) call50 h rfl rfl rfl ?_)))))))))
    rintro t65 h _ w ⟨rfl, hS⟩
    refine ln ?_
    refine RC.iteB 52 rfl h (fun hc67 h => ?_) fun hc67 h => ?_
    next =>
     refine RC.condT rfl (sr (pn 1 rfl (lr (RQ.inB_ret (RQ.ret (RQ.ret (RQ.inB_ret (RQ.ret (RQ.inB_ret (RQ.inB_ret (RQ.ret (RQ.inB_ret ?_))))))))))))
     obtain rfl := h.some
     exact rt results50 rfl ⟨rfl, hS⟩
    next =>
     refine RC.condF rfl (RC.skip (RQ.inB_n (RQ.then_n (RC.region (pn 2 rfl (ln (RQ.round (sr (pn 1 rfl (ln (RC.seq (RC.condF rfl ?_))))))))))))
     refine RC.exit (RQ.exitT (RQ.exitT (RQ.inB_hit (tsr (pn 1 rfl (lr (RQ.inB_ret (RQ.inB_ret (RQ.ret (RQ.inB_ret ?_))))))))))
     obtain rfl := h.some
     exact rt results50 rfl ⟨rfl, hS⟩

/-! ### errors.Is: function 26 -/
noncomputable def errors_Is_4.f (a4 : model_flaw) (a5 a6 : Int) : Option (Bool) := ((errors_is_3.f a4 a5 a6 true).bind fun t9 => some t9)
theorem errors_Is_4.ok {a4 : model_flaw} {a5 a6 : Int} {b1 : Nat} {A2 : Option Addr} {c3 : Nat} {r : Bool} (h : errors_Is_4.f a4 a5 a6 = some r) (hS : St B w (OSl 83 1 (.slice A2 2 c3) 2 [.iface 81 (.agg #[.int .i64 a4.at_, .int .i64 a4.why]), .iface 32 (.int .i64 a5)] :: Cl b1 [.slice A2 2 c3] 188 :: l) hf) :
    Calls prog 26 #[.iface 186 (.pointer (some ⟨b1, 0, none⟩)), .iface 32 (.int .i64 a6)] w (Ret fun v w => v = .bool r ∧ St B w (OSl 83 1 (.slice A2 2 c3) 2 [.iface 81 (.agg #[.int .i64 a4.at_, .int .i64 a4.why]), .iface 32 (.int .i64 a5)] :: Cl b1 [.slice A2 2 c3] 188 :: l) hf) := by
  have h := Holds.of h
  refine en func26 rfl ntmps26 rfl (sr (pn 1 rfl (ln (RC.seq (sr (pn 1 rfl (RL.s (Vl.bin (v := .bool false) rfl rfl (by kernel_rfl)) rfl (pn 2 rfl (RL.sg (Vl.bin (v := .bool false) rfl rfl (by kernel_rfl)) rfl rfl (pn 1 rfl (ln ?_)))))))))))
  refine RC.condF rfl (sk (sr (pn 1 rfl (RL.s (Vl.extern (ls := [.tmp 15]) (v := .iface 148 (.agg #[.pointer (some ⟨1, 32, none⟩)])) rfl func49 (by kernel_rfl) (by kernel_rfl) (by kernel_rfl) (e := Extern.ReflectliteType.typeOf) (by kernel_rfl) (fun w => by kernel_rfl)) rfl (RL.s (Vl.invokeX (F := 159) (ls := []) (v := .bool true) (u' := .agg #[.pointer (some ⟨1, 32, none⟩)]) rfl rfl (fun w => by kernel_rfl) func159 (by kernel_rfl) (by kernel_rfl) (by kernel_rfl) (e := (Extern.ReflectliteType.method fun t => do Extern.Rtype.noPackHeld "Comparable" t; pure (.bool (← typeInfo t).comparable))) (by kernel_rfl) (fun w => by kernel_rfl)) rfl (pn 1 rfl (lnsr (pn 3 rfl (cF (fun _ hg => errors_is_3.ok hg hS) call50 h rfl rfl rfl ?_)))))))))
  rintro t9 h _ w ⟨rfl, hS⟩
  refine pn 1 rfl (lr ?_)
  obtain rfl := h.some
  exact rt results26 rfl ⟨rfl, hS⟩

/-! ### isochron/model.lane: function 70 -/
noncomputable def model_lane.f (a1 : api_Model) (a11 : Int) : Option (Bool) := (if 0 ≤ a11 then some (decide (a11 < (a1.Progs.length : Int))) else some false)
theorem model_lane.ok {a1 : api_Model} {a11 : Int} {A2 : Option Addr} {c3 : Nat} {A5 : Option Addr} {c6 : Nat} {A8 : Option Addr} {c9 : Nat} (hr4 : SlR (Rep.sl E_api_Instr.rep) hf A2 c3 a1.Progs) (hr7 : SlR E_api_Link.rep hf A5 c6 a1.Links) (hr10 : SlR E_api_Start.rep hf A8 c9 a1.Starts) {r : Bool} (h : model_lane.f a1 a11 = some r) (hS : St B w (l) hf) :
    Calls prog 70 #[.agg #[.slice A2 a1.Progs.length c3, .slice A5 a1.Links.length c6, .slice A8 a1.Starts.length c9, .int .u64 a1.Seed, .int .i64 a1.End, .int .i64 a1.Budget], .int .i64 a11] w (Ret fun v w => v = .bool r ∧ St B w (l) hf) := by
  have h := Holds.of h
  refine en func70 rfl ntmps70 rfl (sr (bx hS rfl rfl rfl rfl fun b14 w hS => pn 1 rfl (lnsr (pn 3 rfl ?_))))
  refine RL.iteP 7 rfl h (fun hc15 h => ?_) fun hc15 h => ?_
  next =>
   refine pn 1 rfl (RL.sg (Vl.fa 0 underlying27 rfl sizeOf22 rfl rfl) rfl rfl (RL.sg (Vl.ld 0 hS isAgg22 rfl rfl rfl) rfl rfl (RL.sg (Vl.lenSl underlying22 rfl) rfl rfl (pn 3 rfl (lr ?_)))))
   obtain rfl := h.some
   exact rt results70 rfl ⟨rfl, hS.d0⟩
  next =>
   refine pn 7 rfl (lr ?_)
   obtain rfl := h.some
   exact rt results70 rfl ⟨rfl, hS.d0⟩

/-! ### isochron/model.links: function 43 -/
noncomputable def model_links.l2b (a1 : api_Model) : (Nat → Bool) × Int → Option (((Nat → Bool) × Int) ⊕ ((Int) ⊕ (model_flaw) ⊕ (Unit)))
  | (fn256, x257) => (if x257 < (a1.Links.length : Int) then (if 0 ≤ x257 then ((model_lane.f a1 ((nth a1.Links x257).From)).bind fun t364 => (if t364 = true then ((model_lane.f a1 ((nth a1.Links x257).To)).bind fun t367 => (if t367 = true then (if (nth a1.Links x257).Look < 1 then some (.inr (.inr (.inl (⟨x257, 131⟩ : model_flaw)))) else (if 4611686018427387903 < (nth a1.Links x257).Look then some (.inr (.inr (.inl (⟨x257, 131⟩ : model_flaw)))) else (if 0 ≤ (nth a1.Links x257).From ∧ (nth a1.Links x257).From < 16 then (if 0 ≤ (nth a1.Links x257).To ∧ (nth a1.Links x257).To < 16 then (if fn256 (((nth a1.Links x257).From).toNat * 16 + ((nth a1.Links x257).To).toNat * 1) = true then some (.inr (.inr (.inl (⟨x257, 131⟩ : model_flaw)))) else some (.inl (upd fn256 (((nth a1.Links x257).From).toNat * 16 + ((nth a1.Links x257).To).toNat * 1) true, IntKind.i64.wrap (x257 + 1)))) else none) else none))) else some (.inr (.inr (.inl (⟨x257, 131⟩ : model_flaw)))))) else some (.inr (.inr (.inl (⟨x257, 131⟩ : model_flaw)))))) else none) else some (.inr (.inr (.inr (())))))
noncomputable def model_links.l2 (a1 : api_Model) (s : (Nat → Bool) × Int) : Option ((Int) ⊕ (model_flaw) ⊕ (Unit)) := loopR (model_links.l2b a1) s
noncomputable def model_links.f (a1 : api_Model) : Option ((Int) ⊕ (model_flaw) ⊕ (Unit)) := (if 1024 < (a1.Links.length : Int) then some (.inl 131) else model_links.l2 a1 (fun _ => false, 0))
theorem model_links.ok {a1 : api_Model} {A2 : Option Addr} {c3 : Nat} {A5 : Option Addr} {c6 : Nat} {A8 : Option Addr} {c9 : Nat} (hr4 : SlR (Rep.sl E_api_Instr.rep) hf A2 c3 a1.Progs) (hr7 : SlR E_api_Link.rep hf A5 c6 a1.Links) (hr10 : SlR E_api_Start.rep hf A8 c9 a1.Starts) {r : (Int) ⊕ (model_flaw) ⊕ (Unit)} (h : model_links.f a1 = some r) (hS : St B w (l) hf) :
    Calls prog 43 #[.agg #[.slice A2 a1.Progs.length c3, .slice A5 a1.Links.length c6, .slice A8 a1.Starts.length c9, .int .u64 a1.Seed, .int .i64 a1.End, .int .i64 a1.Budget]] w (Ret fun v w => match (generalizing := false) r with | .inl r_ => v = .iface 32 (.int .i64 r_) ∧ St B w (l) hf | .inr (.inl r_) => v = .iface 81 (.agg #[.int .i64 r_.at_, .int .i64 r_.why]) ∧ St B w (l) hf | .inr (.inr (r_)) => v = .nilIface ∧ St B w (l) hf) := by
  have h := Holds.of h
  refine en func43 rfl ntmps43 rfl (sr (bx hS rfl rfl rfl rfl fun b194 w hS => pn 1 rfl (ln (RC.seq (sr (RL.s (Vl.fa 1 underlying27 rfl sizeOf23 rfl rfl) rfl (RL.s (Vl.ld 0 hS isAgg23 rfl rfl rfl) rfl (RL.s (Vl.lenSl underlying23 rfl) rfl (pn 1 rfl (ln ?_))))))))))
  refine RC.iteP 9 rfl h (fun hc196 h => ?_) fun hc196 h => ?_
  next =>
   refine RC.condT rfl (sr (RL.s (Vl.makeIface underlying32 rfl rfl) rfl (pn 1 rfl (lr (RQ.ret ?_)))))
   obtain rfl := h.some
   exact rt results43 rfl ⟨rfl, hS.d0⟩
  next =>
   refine RC.condF rfl (sk (sr (RL.s (Vl.build (v := .agg (fc Value.bool 256 (fun _ => false)).toArray) (parts := []) rfl (by kernel_rfl)) rfl (RL.e (OW.alloc (cs := fc Value.bool 256 (fun _ => false)) hS zeroValue145 (by kernel_rfl)) rfl rfl ?_))))
   rintro _ w ⟨b197, rfl, hS⟩
   refine RL.e0 (OW.storeAll (f := fun _ => false) (g' := fun _ => false) 0 hS rfl rfl rfl sizeOf145 (fun _ => rfl) rfl) rfl ?_
   rintro _ w ⟨rfl, hS⟩
   have hS : St B w (_ :: _ :: l) hf := hS
   refine ln (RC.seq (sr (RL.s (Vl.fa 1 underlying27 rfl sizeOf23 rfl rfl) rfl (RL.s (Vl.ld 1 hS isAgg23 rfl rfl rfl) rfl (RL.s (Vl.lenSl underlying23 rfl) rfl (pn 1 rfl (ln (RC.block ?_))))))))
   refine fun a ha => RC.loop (N := 61) (body := (model_links.l2b a1)) (φ := (· = r)) (fun (s : (Nat → Bool) × Int) a w => ∃ (fn256 : (Nat → Bool)) (x257 : Int), s = (fn256, x257) ∧ Has 61 [(1, .pointer (some ⟨b194, 0, none⟩)), (3, .pointer (some ⟨b197, 0, none⟩)), (13, .slice A5 a1.Links.length c6), (14, .int .i64 (a1.Links.length : Int)), (15, .int .i64 x257)] a ∧ St B w (Cl b197 (fc Value.bool 256 fn256) 145 :: Cl b194 [.slice A2 a1.Progs.length c3, .slice A5 a1.Links.length c6, .slice A8 a1.Starts.length c9, .int .u64 a1.Seed, .int .i64 a1.End, .int .i64 a1.Budget] 27 :: l) hf) ?_ (s0 := (fun _ => false, 0)) h ⟨(fun _ => false), 0, rfl, ha.to ⟨rfl, rfl, rfl, rfl, rfl, trivial⟩, hS⟩
   rintro G318 _ a w ⟨fn256, x257, rfl, ha, hS⟩ h
   revert a
   show RC _ _ _ _ _ _
   refine sr (pn 1 rfl (ln (RC.seq ?_)))
   refine RC.iteP 16 rfl h (fun hc320 h => ?_) fun hc320 h => ?_
   next =>
    refine RC.condT rfl (sk (RC.seq (RC.block (sr (pn 1 rfl ?_)))))
    obtain ⟨hq349, h⟩ := h.req
    refine RL.s (Vl.indexAddr underlying23 sizeOf136 rfl rfl ((hr7.2.world hS.sub).adr hq349 hc320) hq349 hc320 rfl) rfl (RL.s (Vl.loadA isAgg136 sizeOf136 rfl rfl ((hr7.2.world hS.sub).cells hq349 hc320)) rfl (al hS zeroValue136 rfl rfl rfl fun b350 w hS => pn 1 rfl (RL.e0 (OW.store (vs := [.int .i64 ((nth a1.Links x257).From), .int .i64 ((nth a1.Links x257).To), .int .i64 ((nth a1.Links x257).Look), .bool ((nth a1.Links x257).Loose)]) 0 hS rfl rfl rfl rfl sizeOf136 rfl rfl rfl rfl) rfl ?_)))
    rintro _ w ⟨rfl, hS⟩
    have hS : St B w (Cl _ [_, _, _, _] _ :: _ :: _ :: l) hf := hS
    refine ln (RC.seq (RC.seq (RC.planS (plD [1, 3, 7, 11, 12, 15, 19, 21, 25, 29, 30, 33, 36, 39, 43, 45, 48, 51, 54, 58, 60, 63, 66, 69, 73, 75, 79, 83, 86, 89, 92]) [28, 29, 30] hS (fun w hS => hS) follows rfl (by kernel_rfl) (NoTmp.then (NoTmp.then (NoTmp.block (NoTmp.then (NoTmp.then (NoTmp.block (NoTmp.then NoTmp.body))))))) fun w hS => RP.s 0 0 rfl rfl hS (fun w hS => Vl.lw 2 hS isAgg27 sizeOf27 rfl rfl rfl) rfl (RP.s0 1 rfl (fun w => Vl.fa 0 underlying136 rfl sizeOf3 rfl rfl) rfl (RP.s 0 2 rfl rfl hS (fun w hS => Vl.ld 0 hS isAgg3 rfl rfl rfl) rfl ?_)))))
    obtain ⟨t364, hg365, h⟩ := h.bind
    have hc := model_lane.ok hr4 hr7 hr10 hg365 hS
    refine RP.e 3 rfl (OW.callF (ls := [.tmp 20, .tmp 22]) rfl call70 hc) rfl rfl ?_
    rintro _ w ⟨rfl, hS⟩
    refine ⟨kp ⟨fun _ => hS, trivial⟩, ?_⟩
    refine pp 2 rfl ?_
    refine RP.iteM 25 rfl h (fun hc366 h => ?_) fun hc366 h => ?_
    next =>
     refine RP.sg 0 6 rfl rfl hS (fun w hS => Vl.lw 2 hS isAgg27 sizeOf27 rfl rfl rfl) rfl rfl (RP.sg0 7 rfl (fun w => Vl.fa 1 underlying136 rfl sizeOf3 rfl rfl) rfl rfl (RP.sg 0 8 rfl rfl hS (fun w hS => Vl.ld 0 hS isAgg3 rfl rfl rfl) rfl rfl ?_))
     obtain ⟨t367, hg368, h⟩ := h.bind
     have hc := model_lane.ok hr4 hr7 hr10 hg368 hS
     refine RP.e 9 rfl (OW.callF (ls := [.tmp 26, .tmp 28]) rfl call70 hc) rfl rfl ?_
     rintro _ w ⟨rfl, hS⟩
     refine ⟨kp ⟨fun _ => hS, trivial⟩, ?_⟩
     refine pp 3 rfl ?_
     refine RP.iteM 32 rfl h (fun hc369 h => ?_) fun hc369 h => ?_
     next =>
      refine RP.sg0 13 rfl (fun w => Vl.fa 2 underlying136 rfl sizeOf2 rfl rfl) rfl rfl (RP.sg 0 14 rfl rfl hS (fun w hS => Vl.ld 0 hS isAgg2 rfl rfl rfl) rfl rfl (pp 3 rfl ?_))
      refine RP.iteP 37 rfl h (fun hc370 h => ?_) fun hc370 h => ?_
      next =>
       refine pp 1 rfl (RP.nn 0 19 rfl rfl rfl (pp 4 rfl (RP.nn 0 24 rfl rfl rfl (pp 1 rfl (RP.nn 0 26 rfl rfl rfl (RP.n1 27 rfl rfl rfl (RP.n1 28 rfl rfl rfl (RP.n1 29 rfl rfl rfl (RP.v1 30 rfl (Vl.pickT rfl rfl) rfl rfl (RP.nil (RQ.then_n (RC.condT rfl (sr (pn 1 rfl ?_))))))))))))))
       refine RL.s (Vl.build (v := .agg #[.int .i64 x257, .int .i64 131]) (parts := [(0, .tmp 51), (1, .const (.int .i64 131))]) rfl (by kernel_rfl)) rfl (RL.s (Vl.makeIface underlying81 rfl rfl) rfl (pn 1 rfl (lr (RQ.ret (RQ.inB_ret (RQ.ret ?_))))))
       have h := h.inrS
       refine RQ.ret (RQ.inB_ret (RQ.ret ?_))
       obtain rfl := h.some
       exact rt results43 rfl ⟨rfl, hS.d0.d0.d0⟩
      next =>
       refine RP.sg0 18 rfl (fun w => Vl.fa 2 underlying136 rfl sizeOf2 rfl rfl) rfl rfl (RP.sg 0 19 rfl rfl hS (fun w hS => Vl.ld 0 hS isAgg2 rfl rfl rfl) rfl rfl (pp 3 rfl ?_))
       refine RP.iteP 42 rfl h (fun hc371 h => ?_) fun hc371 h => ?_
       next =>
        refine pp 1 rfl (RP.nn 0 24 rfl rfl rfl (pp 1 rfl (RP.nn 0 26 rfl rfl rfl (RP.n1 27 rfl rfl rfl (RP.n1 28 rfl rfl rfl (RP.n1 29 rfl rfl rfl (RP.v1 30 rfl (Vl.pickT rfl rfl) rfl rfl (RP.nil (RQ.then_n (RC.condT rfl (sr (pn 1 rfl (RL.s (Vl.build (v := .agg #[.int .i64 x257, .int .i64 131]) (parts := [(0, .tmp 51), (1, .const (.int .i64 131))]) rfl (by kernel_rfl)) rfl (RL.s (Vl.makeIface underlying81 rfl rfl) rfl ?_))))))))))))))
        refine pn 1 rfl (lr (RQ.ret (RQ.inB_ret (RQ.ret ?_))))
        have h := h.inrS
        refine RQ.ret (RQ.inB_ret (RQ.ret ?_))
        obtain rfl := h.some
        exact rt results43 rfl ⟨rfl, hS.d0.d0.d0⟩
       next =>
        refine RP.sg0 23 rfl (fun w => Vl.fa 0 underlying136 rfl sizeOf3 rfl rfl) rfl rfl (RP.sg 0 24 rfl rfl hS (fun w hS => Vl.ld 0 hS isAgg3 rfl rfl rfl) rfl rfl (RP.sg0 25 rfl (fun w => Vl.fa 1 underlying136 rfl sizeOf3 rfl rfl) rfl rfl (RP.sg 0 26 rfl rfl hS (fun w hS => Vl.ld 0 hS isAgg3 rfl rfl rfl) rfl rfl ?_)))
        obtain ⟨⟨hq372, hq373⟩, h⟩ := h.req
        refine RP.v1 27 rfl (Vl.indexAddrA (a'' := ⟨b197, ((nth a1.Links x257).From).toNat * 16, none⟩) underlying145 sizeOf144 rfl rfl hq372 hq373 (add_zero_mk _ _)) rfl rfl ?_
        obtain ⟨⟨hq374, hq375⟩, h⟩ := h.req
        refine RP.v1 28 rfl (Vl.indexAddrA (a'' := ⟨b197, ((nth a1.Links x257).From).toNat * 16 + ((nth a1.Links x257).To).toNat * 1, none⟩) underlying144 sizeOf4 rfl rfl hq374 hq375 (add_mk _ _ _)) rfl rfl (RP.v1 29 rfl (Vl.load isAgg4 rfl (hS.cell 1 rfl (fc_get (by omega)))) rfl rfl (RP.v1 30 rfl (Vl.pickF rfl rfl) rfl rfl (RP.nil (RQ.then_n ?_))))
        refine RC.iteB 50 rfl h (fun hc376 h => ?_) fun hc376 h => ?_
        next =>
         refine RC.condT rfl (sr (pn 1 rfl (RL.s (Vl.build (v := .agg #[.int .i64 x257, .int .i64 131]) (parts := [(0, .tmp 51), (1, .const (.int .i64 131))]) rfl (by kernel_rfl)) rfl (RL.s (Vl.makeIface underlying81 rfl rfl) rfl (pn 1 rfl (lr (RQ.ret (RQ.inB_ret (RQ.ret ?_)))))))))
         have h := h.inrS
         refine RQ.ret (RQ.inB_ret (RQ.ret ?_))
         obtain rfl := h.some
         exact rt results43 rfl ⟨rfl, hS.d0.d0.d0⟩
        next =>
         refine RC.condF rfl (sk (RC.planS (plD [0, 4, 6, 10, 14, 17, 20]) [5, 6] hS (fun w hS => hS) follows rfl (by kernel_rfl) (NoTmp.block (NoTmp.then (NoTmp.then (NoTmp.block (NoTmp.then NoTmp.body))))) fun w hS => RP.s0 0 rfl (fun w => Vl.fa 0 underlying136 rfl sizeOf3 rfl rfl) rfl (RP.s 0 1 rfl rfl hS (fun w hS => Vl.ld 0 hS isAgg3 rfl rfl rfl) rfl (RP.s0 2 rfl (fun w => Vl.fa 1 underlying136 rfl sizeOf3 rfl rfl) rfl (RP.s 0 3 rfl rfl hS (fun w hS => Vl.ld 0 hS isAgg3 rfl rfl rfl) rfl (RP.v1 4 rfl (Vl.indexAddrA (a'' := ⟨b197, ((nth a1.Links x257).From).toNat * 16, none⟩) underlying145 sizeOf144 rfl rfl hq372 hq373 (add_zero_mk _ _)) rfl rfl (RP.v1 5 rfl (Vl.indexAddrA (a'' := ⟨b197, ((nth a1.Links x257).From).toNat * 16 + ((nth a1.Links x257).To).toNat * 1, none⟩) underlying144 sizeOf4 rfl rfl hq374 hq375 (add_mk _ _ _)) rfl rfl (RP.e0 6 rfl (OW.storeF (mk := Value.bool) 1 hS rfl rfl rfl sizeOf4 (by omega) (fun _ => rfl) (fun _ => rfl) rfl) rfl ?_))))))))
         rintro _ w ⟨rfl, hS⟩
         have hS : St B w (_ :: _ :: _ :: l) hf := hS
         refine ⟨kp ⟨(by intro hx; cases hx), trivial⟩, ?_⟩
         refine RP.nil (RQ.inB_n (RQ.then_n (RC.region (pn 2 rfl (RL.nil ?_)))))
         exact fun a ha => ⟨(upd fn256 (((nth a1.Links x257).From).toNat * 16 + ((nth a1.Links x257).To).toNat * 1) true, IntKind.i64.wrap (x257 + 1)), ⟨(upd fn256 (((nth a1.Links x257).From).toNat * 16 + ((nth a1.Links x257).To).toNat * 1) true), (IntKind.i64.wrap (x257 + 1)), rfl, ha.to ⟨rfl, rfl, rfl, rfl, rfl, trivial⟩, hS.d0⟩, h.some⟩
     next =>
      refine pp 1 rfl (RP.nn 0 14 rfl rfl rfl (pp 4 rfl (RP.nn 0 19 rfl rfl rfl (pp 4 rfl (RP.nn 0 24 rfl rfl rfl (pp 1 rfl (RP.nn 0 26 rfl rfl rfl (RP.n1 27 rfl rfl rfl (RP.n1 28 rfl rfl rfl (RP.n1 29 rfl rfl rfl (RP.v1 30 rfl (Vl.pickT rfl rfl) rfl rfl (RP.nil (RQ.then_n (RC.condT rfl (RC.seq ?_)))))))))))))))
      refine RC.region (pn 1 rfl (RL.s (Vl.build (v := .agg #[.int .i64 x257, .int .i64 131]) (parts := [(0, .tmp 51), (1, .const (.int .i64 131))]) rfl (by kernel_rfl)) rfl (RL.s (Vl.makeIface underlying81 rfl rfl) rfl (pn 1 rfl (lr (RQ.ret (RQ.inB_ret (RQ.ret ?_))))))))
      have h := h.inrS
      refine RQ.ret (RQ.inB_ret (RQ.ret ?_))
      obtain rfl := h.some
      exact rt results43 rfl ⟨rfl, hS.d0.d0.d0⟩
    next =>
     refine RP.nn 0 6 rfl rfl rfl (pp 1 rfl (RP.nn 0 8 rfl rfl rfl (RP.n1 9 rfl rfl rfl (pp 4 rfl (RP.nn 0 14 rfl rfl rfl (pp 4 rfl (RP.nn 0 19 rfl rfl rfl (pp 4 rfl (RP.nn 0 24 rfl rfl rfl (pp 1 rfl (RP.nn 0 26 rfl rfl rfl (RP.n1 27 rfl rfl rfl (RP.n1 28 rfl rfl rfl (RP.n1 29 rfl rfl rfl (RP.v1 30 rfl (Vl.pickT rfl rfl) rfl rfl ?_)))))))))))))))
     refine RP.nil (RQ.then_n (RC.condT rfl (sr (pn 1 rfl (RL.s (Vl.build (v := .agg #[.int .i64 x257, .int .i64 131]) (parts := [(0, .tmp 51), (1, .const (.int .i64 131))]) rfl (by kernel_rfl)) rfl (RL.s (Vl.makeIface underlying81 rfl rfl) rfl (pn 1 rfl (lr (RQ.ret (RQ.inB_ret (RQ.ret ?_)))))))))))
     have h := h.inrS
     refine RQ.ret (RQ.inB_ret (RQ.ret ?_))
     obtain rfl := h.some
     exact rt results43 rfl ⟨rfl, hS.d0.d0.d0⟩
   next =>
    refine RC.condF rfl (RC.exit (RQ.exitT ?_))
    have h := h.inrS
    refine RQ.exitT (RQ.inB_hit (tsr (pn 1 rfl (lr ?_))))
    obtain rfl := h.some
    exact rt results43 rfl ⟨rfl, hS.d0.d0⟩

/-! ### errors.As: function 25 -/
noncomputable def errors_As_3.f (a1 a3 : model_flaw) : Option (Bool × model_flaw) := ((errors_as_3.f a1 a3).bind fun (y14, y15) => some (y14, y15))
theorem errors_As_3.ok {a1 a3 : model_flaw} {b2 : Nat} (hG0 : GlobAt hf 0 (.iface 148 (.agg #[.pointer (some ⟨1, 83, none⟩)]))) {r : Bool × model_flaw} (h : errors_As_3.f a1 a3 = some r) (hS : St B w (Cl b2 [.int .i64 a3.at_, .int .i64 a3.why] 81 :: l) hf) :
    Calls prog 25 #[.iface 81 (.agg #[.int .i64 a1.at_, .int .i64 a1.why]), .iface 85 (.pointer (some ⟨b2, 0, none⟩))] w (Ret fun v w => v = .bool r.1 ∧ St B w (Cl b2 [.int .i64 r.2.at_, .int .i64 r.2.why] 81 :: l) hf) := by
  have h := Holds.of h
  refine en func25 rfl ntmps25 rfl (sr (pn 1 rfl (ln (RC.seq (sr (pn 1 rfl (RL.s (Vl.bin (v := .bool false) rfl rfl (by kernel_rfl)) rfl (ln (RC.condF rfl (sk ?_))))))))))
  refine RC.seq (sr (pn 1 rfl (RL.s (Vl.bin (v := .bool false) rfl rfl (by kernel_rfl)) rfl (ln (RC.condF rfl (sk (sr (pn 1 rfl (RL.e (OW.externNew (ls := [.tmp 13]) (cs := [.pointer (some ⟨b2, 0, none⟩)]) (T := 85) (v := fun b => .agg #[.pointer (some ⟨1, 85, none⟩), .pointer (some ⟨b, 0, none⟩), .int .u64 150]) hS rfl func45 (by kernel_rfl) (by kernel_rfl) (by kernel_rfl) (e := fun args => Extern.ReflectliteValue.unpack (args.getD 0 (.tuple #[]))) (by kernel_rfl) (fun w => by kernel_rfl)) rfl rfl ?_)))))))))
  rintro _ w ⟨b10, rfl, hS⟩
  refine al hS zeroValue109 rfl rfl rfl fun b11 w hS => RL.e0 (OW.store (vs := [.pointer (some ⟨1, 85, none⟩), .pointer (some ⟨b10, 0, none⟩), .int .u64 150]) 0 hS rfl rfl rfl rfl sizeOf109 rfl rfl rfl rfl) rfl ?_
  rintro _ w ⟨rfl, hS⟩
  have hS : St B w (Cl _ [_, _, _] _ :: _ :: _ :: l) hf := hS
  refine lnsr (RL.s (Vl.lw 0 hS isAgg109 sizeOf109 rfl rfl rfl) rfl (RL.s (Vl.extern (ls := [.tmp 15]) (v := .iface 148 (.agg #[.pointer (some ⟨1, 85, none⟩)])) rfl func46 (by kernel_rfl) (by kernel_rfl) (by kernel_rfl) (e := Extern.ReflectliteValue.methodAny (Extern.ReflectliteValue.valueError "reflectlite.Value.Type" 0) fun t _ _ _ => Extern.ReflectliteType.toType t) (by kernel_rfl) (fun w => by kernel_rfl)) rfl (pn 1 rfl (ln (RC.seq (sr (pn 1 rfl (RL.s (Vl.invokeX (F := 146) (ls := []) (v := .int .u8 22) (u' := .pointer (some ⟨1, 85, none⟩)) rfl rfl (fun w => by kernel_rfl) func146 (by kernel_rfl) (by kernel_rfl) (by kernel_rfl) (e := (Extern.ReflectliteType.abiMethod fun t => do pure (.int .u8 (← Extern.Rtype.kind t)))) (by kernel_rfl) (fun w => by kernel_rfl)) rfl (pn 2 rfl (RL.sg (Vl.lw 0 hS isAgg109 sizeOf109 rfl rfl rfl) rfl rfl ?_))))))))))
  refine RL.sg (Vl.externAt (ls := [.tmp 21]) (v := .bool false) rfl func47 (by kernel_rfl) (by kernel_rfl) (by kernel_rfl) (e := Extern.ReflectliteValue.method (Extern.ReflectliteValue.valueError "reflectlite.Value.IsNil" 0) Extern.ReflectliteValue.isNil) (by kernel_rfl) (run_isNil (n := 150) (a := ⟨b10, 0, none⟩) (fun w => by kernel_rfl) underlying85 rfl (hS.cell 1 rfl rfl))) rfl rfl (pn 1 rfl (ln (RC.condF rfl (sk (sr (pn 1 rfl (RL.s (Vl.invokeX (F := 160) (ls := []) (v := .iface 148 (.agg #[.pointer (some ⟨1, 81, none⟩)])) (u' := .agg #[.pointer (some ⟨1, 85, none⟩)]) rfl rfl (fun w => by kernel_rfl) func160 (by kernel_rfl) (by kernel_rfl) (by kernel_rfl) (e := (Extern.ReflectliteType.method Extern.ReflectliteType.elem)) (by kernel_rfl) (fun w => by kernel_rfl)) rfl (pn 1 rfl (ln (RC.seq (RC.seq ?_)))))))))))
  refine RC.region (pn 1 rfl (RL.s (Vl.invokeX (F := 146) (ls := []) (v := .int .u8 25) (u' := .pointer (some ⟨1, 81, none⟩)) rfl rfl (fun w => by kernel_rfl) func146 (by kernel_rfl) (by kernel_rfl) (by kernel_rfl) (e := (Extern.ReflectliteType.abiMethod fun t => do pure (.int .u8 (← Extern.Rtype.kind t)))) (by kernel_rfl) (fun w => by kernel_rfl)) rfl (pn 3 rfl (RL.sg (Vl.load isAgg112 rfl (cellH_world hS.sub hG0)) rfl rfl (RL.sg (Vl.invokeX (F := 161) (ls := [.tmp 32]) (v := .bool true) (u' := .agg #[.pointer (some ⟨1, 81, none⟩)]) rfl rfl (fun w => by kernel_rfl) func161 (by kernel_rfl) (by kernel_rfl) (by kernel_rfl) (e := (Extern.ReflectliteType.relation "Implements" Extern.ReflectliteType.implements_)) (by kernel_rfl) (fun w => by kernel_rfl)) rfl rfl (pn 2 rfl (ln (RC.condF rfl (sk (sr (pn 2 rfl (RL.s (Vl.lw 0 hS isAgg109 sizeOf109 rfl rfl rfl) rfl ?_))))))))))))
  refine pn 1 rfl (cF (fun _ hg => errors_as_3.ok hg hS.p1.p2) call48 h rfl rfl rfl ?_)
  rintro ⟨y14, y15⟩ h _ w ⟨rfl, hS⟩
  refine pn 1 rfl (lr ?_)
  obtain rfl := h.some
  exact rt results25 rfl ⟨rfl, hS.d1.d1⟩

/-! ### errors.Is: function 26 -/
noncomputable def errors_Is_5.f (a1 : model_flaw) (a2 : Int) : Option (Bool) := ((errors_is_4.f a1 a2 true).bind fun t5 => some t5)
theorem errors_Is_5.ok {a1 : model_flaw} {a2 : Int} {r : Bool} (h : errors_Is_5.f a1 a2 = some r) (hS : St B w (l) hf) :
    Calls prog 26 #[.iface 81 (.agg #[.int .i64 a1.at_, .int .i64 a1.why]), .iface 32 (.int .i64 a2)] w (Ret fun v w => v = .bool r ∧ St B w (l) hf) := by
  have h := Holds.of h
  refine en func26 rfl ntmps26 rfl (sr (pn 1 rfl (ln (RC.seq (sr (pn 1 rfl (RL.s (Vl.bin (v := .bool false) rfl rfl (by kernel_rfl)) rfl (pn 2 rfl (RL.sg (Vl.bin (v := .bool false) rfl rfl (by kernel_rfl)) rfl rfl (pn 1 rfl (ln ?_)))))))))))
  refine RC.condF rfl (sk (sr (pn 1 rfl (RL.s (Vl.extern (ls := [.tmp 15]) (v := .iface 148 (.agg #[.pointer (some ⟨1, 32, none⟩)])) rfl func49 (by kernel_rfl) (by kernel_rfl) (by kernel_rfl) (e := Extern.ReflectliteType.typeOf) (by kernel_rfl) (fun w => by kernel_rfl)) rfl (RL.s (Vl.invokeX (F := 159) (ls := []) (v := .bool true) (u' := .agg #[.pointer (some ⟨1, 32, none⟩)]) rfl rfl (fun w => by kernel_rfl) func159 (by kernel_rfl) (by kernel_rfl) (by kernel_rfl) (e := (Extern.ReflectliteType.method fun t => do Extern.Rtype.noPackHeld "Comparable" t; pure (.bool (← typeInfo t).comparable))) (by kernel_rfl) (fun w => by kernel_rfl)) rfl (pn 1 rfl (lnsr (pn 3 rfl (cF (fun _ hg => errors_is_4.ok hg hS) call50 h rfl rfl rfl ?_)))))))))
  rintro t5 h _ w ⟨rfl, hS⟩
  refine pn 1 rfl (lr ?_)
  obtain rfl := h.some
  exact rt results26 rfl ⟨rfl, hS⟩

/-! ### isochron/model.starts: function 44 -/
noncomputable def model_starts.l2b (a1 : api_Model) : Int → Option ((Int) ⊕ ((Int) ⊕ (model_flaw) ⊕ (Unit)))
  | (x90) => (if x90 < (a1.Starts.length : Int) then (if 0 ≤ x90 then ((model_lane.f a1 ((nth a1.Starts x90).To)).bind fun t123 => (if t123 = true then ((vtime_Valid.f ((nth a1.Starts x90).Time)).bind fun t126 => (if t126 = true then some (.inl (IntKind.i64.wrap (x90 + 1))) else some (.inr (.inr (.inl (⟨x90, 132⟩ : model_flaw)))))) else some (.inr (.inr (.inl (⟨x90, 132⟩ : model_flaw)))))) else none) else some (.inr (.inr (.inr (())))))
noncomputable def model_starts.l2 (a1 : api_Model) (s : Int) : Option ((Int) ⊕ (model_flaw) ⊕ (Unit)) := loopR (model_starts.l2b a1) s
noncomputable def model_starts.f (a1 : api_Model) : Option ((Int) ⊕ (model_flaw) ⊕ (Unit)) := (if 4096 < (a1.Starts.length : Int) then some (.inl 132) else model_starts.l2 a1 (0))
theorem model_starts.ok {a1 : api_Model} {A2 : Option Addr} {c3 : Nat} {A5 : Option Addr} {c6 : Nat} {A8 : Option Addr} {c9 : Nat} (hr4 : SlR (Rep.sl E_api_Instr.rep) hf A2 c3 a1.Progs) (hr7 : SlR E_api_Link.rep hf A5 c6 a1.Links) (hr10 : SlR E_api_Start.rep hf A8 c9 a1.Starts) {r : (Int) ⊕ (model_flaw) ⊕ (Unit)} (h : model_starts.f a1 = some r) (hS : St B w (l) hf) :
    Calls prog 44 #[.agg #[.slice A2 a1.Progs.length c3, .slice A5 a1.Links.length c6, .slice A8 a1.Starts.length c9, .int .u64 a1.Seed, .int .i64 a1.End, .int .i64 a1.Budget]] w (Ret fun v w => match (generalizing := false) r with | .inl r_ => v = .iface 32 (.int .i64 r_) ∧ St B w (l) hf | .inr (.inl r_) => v = .iface 81 (.agg #[.int .i64 r_.at_, .int .i64 r_.why]) ∧ St B w (l) hf | .inr (.inr (r_)) => v = .nilIface ∧ St B w (l) hf) := by
  have h := Holds.of h
  refine en func44 rfl ntmps44 rfl (sr (bx hS rfl rfl rfl rfl fun b70 w hS => pn 1 rfl (ln (RC.seq (sr (RL.s (Vl.fa 2 underlying27 rfl sizeOf24 rfl rfl) rfl (RL.s (Vl.ld 0 hS isAgg24 rfl rfl rfl) rfl (RL.s (Vl.lenSl underlying24 rfl) rfl (pn 1 rfl (ln ?_))))))))))
  refine RC.iteP 8 rfl h (fun hc72 h => ?_) fun hc72 h => ?_
  next =>
   refine RC.condT rfl (sr (RL.s (Vl.makeIface underlying32 rfl rfl) rfl (pn 1 rfl (lr (RQ.ret ?_)))))
   obtain rfl := h.some
   exact rt results44 rfl ⟨rfl, hS.d0⟩
  next =>
   refine RC.condF rfl (sk (RC.seq (sr (RL.s (Vl.fa 2 underlying27 rfl sizeOf24 rfl rfl) rfl (RL.s (Vl.ld 0 hS isAgg24 rfl rfl rfl) rfl (RL.s (Vl.lenSl underlying24 rfl) rfl (pn 1 rfl (ln (RC.block ?_)))))))))
   refine fun a ha => RC.loop (N := 33) (body := (model_starts.l2b a1)) (φ := (· = r)) (fun (s : Int) a w => ∃ (x90 : Int), s = (x90) ∧ Has 33 [(1, .pointer (some ⟨b70, 0, none⟩)), (11, .slice A8 a1.Starts.length c9), (12, .int .i64 (a1.Starts.length : Int)), (13, .int .i64 x90)] a ∧ St B w (Cl b70 [.slice A2 a1.Progs.length c3, .slice A5 a1.Links.length c6, .slice A8 a1.Starts.length c9, .int .u64 a1.Seed, .int .i64 a1.End, .int .i64 a1.Budget] 27 :: l) hf) ?_ (s0 := (0)) h ⟨0, rfl, ha.to ⟨rfl, rfl, rfl, rfl, trivial⟩, hS⟩
   rintro G110 x90 a w ⟨_, rfl, ha, hS⟩ h
   revert a
   show RC _ _ _ _ _ _
   refine sr (pn 1 rfl (ln (RC.seq ?_)))
   refine RC.iteP 14 rfl h (fun hc112 h => ?_) fun hc112 h => ?_
   next =>
    refine RC.condT rfl (sk (RC.seq (RC.block (sr (pn 1 rfl ?_)))))
    obtain ⟨hq121, h⟩ := h.req
    refine RL.s (Vl.indexAddr underlying24 sizeOf74 rfl rfl ((hr10.2.world hS.sub).adr hq121 hc112) hq121 hc112 rfl) rfl (RL.s (Vl.loadA isAgg74 sizeOf74 rfl rfl ((hr10.2.world hS.sub).cells hq121 hc112)) rfl (al hS zeroValue74 rfl rfl rfl fun b122 w hS => pn 1 rfl (RL.e0 (OW.store (vs := [.int .i64 ((nth a1.Starts x90).To), .int .i64 ((nth a1.Starts x90).Time), .int .i64 ((nth a1.Starts x90).Value)]) 0 hS rfl rfl rfl rfl sizeOf74 rfl rfl rfl rfl) rfl ?_)))
    rintro _ w ⟨rfl, hS⟩
    have hS : St B w (Cl _ [_, _, _] _ :: _ :: l) hf := hS
    refine lnsr (RL.s (Vl.lw 1 hS isAgg27 sizeOf27 rfl rfl rfl) rfl (RL.s (Vl.fa 0 underlying74 rfl sizeOf3 rfl rfl) rfl (RL.s (Vl.ld 0 hS isAgg3 rfl rfl rfl) rfl (cF (fun _ hg => model_lane.ok hr4 hr7 hr10 hg hS) call70 h rfl rfl rfl ?_))))
    rintro t123 h _ w ⟨rfl, hS⟩
    refine pn 2 rfl ?_
    refine RL.iteM 23 rfl h (fun hc125 h => ?_) fun hc125 h => ?_
    next =>
     refine RL.sg (Vl.fa 1 underlying74 rfl sizeOf2 rfl rfl) rfl rfl (RL.sg (Vl.ld 0 hS isAgg2 rfl rfl rfl) rfl rfl (cF (fun _ hg => vtime_Valid.ok hg hS) call67 h rfl rfl rfl ?_))
     rintro t126 h _ w ⟨rfl, hS⟩
     refine pn 2 rfl (ln ?_)
     refine RC.iteM 28 rfl h (fun hc128 h => ?_) fun hc128 h => ?_
     next =>
      refine RC.condF rfl (RC.skip (RQ.inB_n (RQ.then_n (RC.region (pn 2 rfl (RL.nil ?_))))))
      exact fun a ha => ⟨(IntKind.i64.wrap (x90 + 1)), ⟨(IntKind.i64.wrap (x90 + 1)), rfl, ha.to ⟨rfl, rfl, rfl, rfl, trivial⟩, hS.d0⟩, h.some⟩
     next =>
      refine RC.condT rfl (sr (pn 1 rfl (RL.s (Vl.build (v := .agg #[.int .i64 x90, .int .i64 132]) (parts := [(0, .tmp 29), (1, .const (.int .i64 132))]) rfl (by kernel_rfl)) rfl (RL.s (Vl.makeIface underlying81 rfl rfl) rfl (pn 1 rfl (lr (RQ.inB_ret (RQ.ret ?_))))))))
      have h := h.inrS
      refine RQ.ret (RQ.inB_ret (RQ.ret ?_))
      obtain rfl := h.some
      exact rt results44 rfl ⟨rfl, hS.d0.d0⟩
    next =>
     refine pn 5 rfl (ln (RC.condT rfl (sr (pn 1 rfl (RL.s (Vl.build (v := .agg #[.int .i64 x90, .int .i64 132]) (parts := [(0, .tmp 29), (1, .const (.int .i64 132))]) rfl (by kernel_rfl)) rfl (RL.s (Vl.makeIface underlying81 rfl rfl) rfl (pn 1 rfl (lr (RQ.inB_ret (RQ.ret ?_))))))))))
     have h := h.inrS
     refine RQ.ret (RQ.inB_ret (RQ.ret ?_))
     obtain rfl := h.some
     exact rt results44 rfl ⟨rfl, hS.d0.d0⟩
   next =>
    refine RC.condF rfl (RC.exit (RQ.exitT ?_))
    have h := h.inrS
    refine RQ.exitT (RQ.inB_hit (tsr (pn 1 rfl (lr ?_))))
    obtain rfl := h.some
    exact rt results44 rfl ⟨rfl, hS.d0⟩

end Go.Proofs.Gx
