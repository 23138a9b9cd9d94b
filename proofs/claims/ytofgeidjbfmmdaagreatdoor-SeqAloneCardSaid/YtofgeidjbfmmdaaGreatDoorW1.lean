/-
  The walks of functions, each with what it computes: printed by wip/gx.py.
-/
import Derived.Test.YtofgeidjbfmmdaaGreatDoorW0
set_option linter.unusedVariables false
set_option maxRecDepth 100000
set_option maxHeartbeats 4000000
namespace Go.Proofs.Gx
open Go.Sl Tryz
variable {B : Base} {w : World} {l : List HProp} {hf : Hp}
/-! ### isochron/model.rules: function 24 -/
noncomputable def model_rules.f  : Option (Unit) := some ()
theorem model_rules.ok {r : Unit} (h : model_rules.f = some r) (hS : St B w (l) hf) :
    Calls prog 24 #[] w (Ret fun v w => v = .agg #[.func (.func 41) #[] #[], .func (.func 42) #[] #[], .func (.func 43) #[] #[], .func (.func 44) #[] #[]] ∧ St B w (l) hf) := by
  have h := Holds.of h
  refine en func24 rfl ntmps24 rfl (sr (al hS zeroValue78 rfl rfl rfl fun b2 w hS => lnsr (RL.s (Vl.build (v := .agg #[.func (.func 41) #[] #[]]) (parts := [(0, .func 41)]) rfl (by kernel_rfl)) rfl (RL.s (Vl.build (v := .agg #[.func (.func 42) #[] #[]]) (parts := [(0, .func 42)]) rfl (by kernel_rfl)) rfl (RL.s (Vl.build (v := .agg #[.func (.func 43) #[] #[]]) (parts := [(0, .func 43)]) rfl (by kernel_rfl)) rfl (RL.s (Vl.build (v := .agg #[.func (.func 44) #[] #[]]) (parts := [(0, .func 44)]) rfl (by kernel_rfl)) rfl (RL.s (Vl.build (v := .agg #[.func (.func 41) #[] #[], .func (.func 42) #[] #[], .func (.func 43) #[] #[], .func (.func 44) #[] #[]]) (parts := [(0, .tmp 1), (1, .tmp 2), (2, .tmp 3), (3, .tmp 4)]) rfl (by kernel_rfl)) rfl (RL.e0 (OW.store (vs := [.func (.func 41) #[] #[], .func (.func 42) #[] #[], .func (.func 43) #[] #[], .func (.func 44) #[] #[]]) 0 hS rfl rfl rfl rfl sizeOf78 rfl rfl rfl rfl) rfl ?_))))))))
  rintro _ w ⟨rfl, hS⟩
  have hS : St B w (Cl _ [_, _, _, _] _ :: l) hf := hS
  refine lr ?_
  have e := h.some
  refine RQ.ret0 (vs := [.agg #[.func (.func 41) #[] #[], .func (.func 42) #[] #[], .func (.func 43) #[] #[], .func (.func 44) #[] #[]]]) results24 ⟨⟨_, rfl, run_loadVarA (vs := [.func (.func 41) #[] #[], .func (.func 42) #[] #[], .func (.func 43) #[] #[], .func (.func 44) #[] #[]]) isAgg78 sizeOf78 rfl (hS.cellsAt 0 rfl rfl)⟩, trivial⟩ ?_
  exact ⟨rfl, hS.d0⟩

/-! ### isochron/vtime.Valid: function 67 -/
noncomputable def vtime_Valid.f (a1 : Int) : Option (Bool) := (if 0 ≤ a1 then some (decide (a1 ≤ 4611686018427387903)) else some false)
theorem vtime_Valid.ok {a1 : Int} {r : Bool} (h : vtime_Valid.f a1 = some r) (hS : St B w (l) hf) :
    Calls prog 67 #[.int .i64 a1] w (Ret fun v w => v = .bool r ∧ St B w (l) hf) := by
  have h := Holds.of h
  refine en func67 rfl ntmps67 rfl (sr (pn 1 rfl (lnsr (pn 3 rfl ?_))))
  refine RL.iteP 5 rfl h (fun hc3 h => ?_) fun hc3 h => ?_
  next =>
   refine pn 4 rfl (lr ?_)
   obtain rfl := h.some
   exact rt results67 rfl ⟨rfl, hS⟩
  next =>
   refine pn 4 rfl (lr ?_)
   obtain rfl := h.some
   exact rt results67 rfl ⟨rfl, hS⟩

/-! ### isochron/model.sizes: function 41 -/
noncomputable def model_sizes.f (a1 : api_Model) : Option ((Int) ⊕ (Unit)) := (if (a1.Progs.length : Int) < 1 then some (.inl 1) else (if 16 < (a1.Progs.length : Int) then some (.inl 1) else ((vtime_Valid.f a1.End).bind fun t22 => (if t22 = true then (if a1.Budget < 0 then some (.inl 1) else (if 4096 < a1.Budget then some (.inl 1) else some (.inr (())))) else some (.inl 1)))))
theorem model_sizes.ok {a1 : api_Model} {A2 : Option Addr} {c3 : Nat} {A5 : Option Addr} {c6 : Nat} {A8 : Option Addr} {c9 : Nat} (hr4 : SlR (Rep.sl E_api_Instr.rep) hf A2 c3 a1.Progs) (hr7 : SlR E_api_Link.rep hf A5 c6 a1.Links) (hr10 : SlR E_api_Start.rep hf A8 c9 a1.Starts) {r : (Int) ⊕ (Unit)} (h : model_sizes.f a1 = some r) (hS : St B w (l) hf) :
    Calls prog 41 #[.agg #[.slice A2 a1.Progs.length c3, .slice A5 a1.Links.length c6, .slice A8 a1.Starts.length c9, .int .u64 a1.Seed, .int .i64 a1.End, .int .i64 a1.Budget]] w (Ret fun v w => match (generalizing := false) r with | .inl r_ => v = .iface 32 (.int .i64 r_) ∧ St B w (l) hf | .inr (r_) => v = .nilIface ∧ St B w (l) hf) := by
  have h := Holds.of h
  refine en func41 rfl ntmps41 rfl (sr (bx hS rfl rfl rfl rfl fun b19 w hS => pn 1 rfl (ln (RC.seq (sr (RL.s (Vl.fa 0 underlying27 rfl sizeOf22 rfl rfl) rfl (RL.s (Vl.ld 0 hS isAgg22 rfl rfl rfl) rfl (RL.s (Vl.lenSl underlying22 rfl) rfl (pn 2 rfl ?_)))))))))
  refine RL.iteP 7 rfl h (fun hc20 h => ?_) fun hc20 h => ?_
  next =>
   refine pn 21 rfl (ln (RC.condT rfl (sr (RL.s (Vl.makeIface underlying32 rfl rfl) rfl (pn 1 rfl (lr (RQ.ret ?_)))))))
   obtain rfl := h.some
   exact rt results41 rfl ⟨rfl, hS.d0⟩
  next =>
   refine RL.sg (Vl.fa 0 underlying27 rfl sizeOf22 rfl rfl) rfl rfl (RL.sg (Vl.ld 0 hS isAgg22 rfl rfl rfl) rfl rfl (RL.sg (Vl.lenSl underlying22 rfl) rfl rfl (pn 3 rfl ?_)))
   refine RL.iteP 13 rfl h (fun hc21 h => ?_) fun hc21 h => ?_
   next =>
    refine pn 15 rfl (ln (RC.condT rfl (sr (RL.s (Vl.makeIface underlying32 rfl rfl) rfl (pn 1 rfl (lr (RQ.ret ?_)))))))
    obtain rfl := h.some
    exact rt results41 rfl ⟨rfl, hS.d0⟩
   next =>
    refine RL.sg (Vl.fa 4 underlying27 rfl sizeOf2 rfl rfl) rfl rfl (RL.sg (Vl.ld 0 hS isAgg2 rfl rfl rfl) rfl rfl (cF (fun _ hg => vtime_Valid.ok hg hS) call67 h rfl rfl rfl ?_))
    rintro t22 h _ w ⟨rfl, hS⟩
    refine pn 3 rfl ?_
    refine RL.iteM 19 rfl h (fun hc24 h => ?_) fun hc24 h => ?_
    next =>
     refine RL.sg (Vl.fa 5 underlying27 rfl sizeOf3 rfl rfl) rfl rfl (RL.sg (Vl.ld 0 hS isAgg3 rfl rfl rfl) rfl rfl (pn 3 rfl ?_))
     refine RL.iteP 24 rfl h (fun hc25 h => ?_) fun hc25 h => ?_
     next =>
      refine pn 4 rfl (ln (RC.condT rfl (sr (RL.s (Vl.makeIface underlying32 rfl rfl) rfl (pn 1 rfl (lr (RQ.ret ?_)))))))
      obtain rfl := h.some
      exact rt results41 rfl ⟨rfl, hS.d0⟩
     next =>
      refine RL.sg (Vl.fa 5 underlying27 rfl sizeOf3 rfl rfl) rfl rfl (RL.sg (Vl.ld 0 hS isAgg3 rfl rfl rfl) rfl rfl (pn 2 rfl (ln ?_)))
      refine RC.iteP 28 rfl h (fun hc26 h => ?_) fun hc26 h => ?_
      next =>
       refine RC.condT rfl (sr (RL.s (Vl.makeIface underlying32 rfl rfl) rfl (pn 1 rfl (lr (RQ.ret ?_)))))
       obtain rfl := h.some
       exact rt results41 rfl ⟨rfl, hS.d0⟩
      next =>
       refine RC.condF rfl (sk (sr (pn 1 rfl (lr ?_))))
       obtain rfl := h.some
       exact rt results41 rfl ⟨rfl, hS.d0⟩
    next =>
     refine pn 9 rfl (ln (RC.condT rfl (sr (RL.s (Vl.makeIface underlying32 rfl rfl) rfl (pn 1 rfl (lr (RQ.ret ?_)))))))
     obtain rfl := h.some
     exact rt results41 rfl ⟨rfl, hS.d0⟩

/-! ### errors.as: function 48 -/
noncomputable def errors_as.f (a1 : Int) (a3 : model_flaw) : Option (Bool) := some false
theorem errors_as.ok {a1 : Int} {a3 : model_flaw} {b2 b4 : Nat} {r : Bool} (h : errors_as.f a1 a3 = some r) (hS : St B w (Cl b2 [.int .i64 a3.at_, .int .i64 a3.why] 81 :: Cl b4 [.pointer (some ⟨b2, 0, none⟩)] 85 :: l) hf) :
    Calls prog 48 #[.iface 32 (.int .i64 a1), .iface 85 (.pointer (some ⟨b2, 0, none⟩)), .agg #[.pointer (some ⟨1, 85, none⟩), .pointer (some ⟨b4, 0, none⟩), .int .u64 150], .iface 148 (.agg #[.pointer (some ⟨1, 81, none⟩)])] w (Ret fun v w => v = .bool r ∧ St B w (Cl b2 [.int .i64 a3.at_, .int .i64 a3.why] 81 :: Cl b4 [.pointer (some ⟨b2, 0, none⟩)] 85 :: l) hf) := by
  have h := Holds.of h
  refine en func48 rfl ntmps48 rfl (sr (bx hS rfl rfl rfl rfl fun b6 w hS => pn 1 rfl (ln (RC.block (RC.unroll (RQ.round (RC.block (RC.seq (sr (pn 1 rfl (RL.s (Vl.extern (ls := [.tmp 16]) (v := .iface 148 (.agg #[.pointer (some ⟨1, 32, none⟩)])) rfl func49 (by kernel_rfl) (by kernel_rfl) (by kernel_rfl) (e := Extern.ReflectliteType.typeOf) (by kernel_rfl) (fun w => by kernel_rfl)) rfl ?_)))))))))))
  refine pn 1 rfl (RL.s (Vl.invokeX (F := 158) (ls := [.tmp 18]) (v := .bool false) (u' := .agg #[.pointer (some ⟨1, 32, none⟩)]) rfl rfl (fun w => by kernel_rfl) func158 (by kernel_rfl) (by kernel_rfl) (by kernel_rfl) (e := (Extern.ReflectliteType.relation "AssignableTo" Extern.ReflectliteType.assignableTo)) (by kernel_rfl) (fun w => by kernel_rfl)) rfl (ln (RC.condF rfl (sk (RC.seq (sr (pn 1 rfl (RL.s (Vl.tassert (r := .tuple #[.nilIface, .bool false]) rfl (fun w => run_typeAssert_lacksB underlying152 (by kernel_rfl) (by kernel_rfl) _ _ w)) rfl (pn 5 rfl (ln (RC.seq ?_)))))))))))
  refine RC.region (pn 6 rfl (ln (RC.condF rfl (sk (sr (pn 1 rfl (ln (RC.block (sr (RL.s (Vl.tassert (r := .tuple #[.nilIface, .bool false]) rfl (fun w => run_typeAssert_lacksB underlying155 (by kernel_rfl) (by kernel_rfl) _ _ w)) rfl ?_))))))))))
  refine pn 2 rfl (ln (RC.condF rfl (sr (RL.s (Vl.tassert (r := .tuple #[.nilIface, .bool false]) rfl (fun w => run_typeAssert_lacksB underlying156 (by kernel_rfl) (by kernel_rfl) _ _ w)) rfl (pn 2 rfl (ln (RC.condF rfl (sr (pn 1 rfl (ln ?_))))))))))
  refine sr (pn 1 rfl (lr (RQ.inB_ret (RQ.inB_ret (RQ.ret (RQ.inB_ret ?_))))))
  obtain rfl := h.some
  exact rt results48 rfl ⟨rfl, hS.d0⟩

/-! ### errors.As: function 25 -/
noncomputable def errors_As.f (a1 : Int) (a3 : model_flaw) : Option (Bool) := ((errors_as.f a1 a3).bind fun t10 => some t10)
theorem errors_As.ok {a1 : Int} {a3 : model_flaw} {b2 : Nat} (hG0 : GlobAt hf 0 (.iface 148 (.agg #[.pointer (some ⟨1, 83, none⟩)]))) {r : Bool} (h : errors_As.f a1 a3 = some r) (hS : St B w (Cl b2 [.int .i64 a3.at_, .int .i64 a3.why] 81 :: l) hf) :
    Calls prog 25 #[.iface 32 (.int .i64 a1), .iface 85 (.pointer (some ⟨b2, 0, none⟩))] w (Ret fun v w => v = .bool r ∧ St B w (Cl b2 [.int .i64 a3.at_, .int .i64 a3.why] 81 :: l) hf) := by
  have h := Holds.of h
  refine en func25 rfl ntmps25 rfl (sr (pn 1 rfl (ln (RC.seq (sr (pn 1 rfl (RL.s (Vl.bin (v := .bool false) rfl rfl (by kernel_rfl)) rfl (ln (RC.condF rfl (sk ?_))))))))))
  refine RC.seq (sr (pn 1 rfl (RL.s (Vl.bin (v := .bool false) rfl rfl (by kernel_rfl)) rfl (ln (RC.condF rfl (sk (sr (pn 1 rfl (RL.e (OW.externNew (ls := [.tmp 13]) (cs := [.pointer (some ⟨b2, 0, none⟩)]) (T := 85) (v := fun b => .agg #[.pointer (some ⟨1, 85, none⟩), .pointer (some ⟨b, 0, none⟩), .int .u64 150]) hS rfl func45 (by kernel_rfl) (by kernel_rfl) (by kernel_rfl) (e := fun args => Extern.ReflectliteValue.unpack (args.getD 0 (.tuple #[]))) (by kernel_rfl) (fun w => by kernel_rfl)) rfl rfl ?_)))))))))
  rintro _ w ⟨b8, rfl, hS⟩
  refine al hS zeroValue109 rfl rfl rfl fun b9 w hS => RL.e0 (OW.store (vs := [.pointer (some ⟨1, 85, none⟩), .pointer (some ⟨b8, 0, none⟩), .int .u64 150]) 0 hS rfl rfl rfl rfl sizeOf109 rfl rfl rfl rfl) rfl ?_
  rintro _ w ⟨rfl, hS⟩
  have hS : St B w (Cl _ [_, _, _] _ :: _ :: _ :: l) hf := hS
  refine lnsr (RL.s (Vl.lw 0 hS isAgg109 sizeOf109 rfl rfl rfl) rfl (RL.s (Vl.extern (ls := [.tmp 15]) (v := .iface 148 (.agg #[.pointer (some ⟨1, 85, none⟩)])) rfl func46 (by kernel_rfl) (by kernel_rfl) (by kernel_rfl) (e := Extern.ReflectliteValue.methodAny (Extern.ReflectliteValue.valueError "reflectlite.Value.Type" 0) fun t _ _ _ => Extern.ReflectliteType.toType t) (by kernel_rfl) (fun w => by kernel_rfl)) rfl (pn 1 rfl (ln (RC.seq (sr (pn 1 rfl (RL.s (Vl.invokeX (F := 146) (ls := []) (v := .int .u8 22) (u' := .pointer (some ⟨1, 85, none⟩)) rfl rfl (fun w => by kernel_rfl) func146 (by kernel_rfl) (by kernel_rfl) (by kernel_rfl) (e := (Extern.ReflectliteType.abiMethod fun t => do pure (.int .u8 (← Extern.Rtype.kind t)))) (by kernel_rfl) (fun w => by kernel_rfl)) rfl (pn 2 rfl (RL.sg (Vl.lw 0 hS isAgg109 sizeOf109 rfl rfl rfl) rfl rfl ?_))))))))))
  refine RL.sg (Vl.externAt (ls := [.tmp 21]) (v := .bool false) rfl func47 (by kernel_rfl) (by kernel_rfl) (by kernel_rfl) (e := Extern.ReflectliteValue.method (Extern.ReflectliteValue.valueError "reflectlite.Value.IsNil" 0) Extern.ReflectliteValue.isNil) (by kernel_rfl) (run_isNil (n := 150) (a := ⟨b8, 0, none⟩) (fun w => by kernel_rfl) underlying85 rfl (hS.cell 1 rfl rfl))) rfl rfl (pn 1 rfl (ln (RC.condF rfl (sk (sr (pn 1 rfl (RL.s (Vl.invokeX (F := 160) (ls := []) (v := .iface 148 (.agg #[.pointer (some ⟨1, 81, none⟩)])) (u' := .agg #[.pointer (some ⟨1, 85, none⟩)]) rfl rfl (fun w => by kernel_rfl) func160 (by kernel_rfl) (by kernel_rfl) (by kernel_rfl) (e := (Extern.ReflectliteType.method Extern.ReflectliteType.elem)) (by kernel_rfl) (fun w => by kernel_rfl)) rfl (pn 1 rfl (ln (RC.seq (RC.seq ?_)))))))))))
  refine RC.region (pn 1 rfl (RL.s (Vl.invokeX (F := 146) (ls := []) (v := .int .u8 25) (u' := .pointer (some ⟨1, 81, none⟩)) rfl rfl (fun w => by kernel_rfl) func146 (by kernel_rfl) (by kernel_rfl) (by kernel_rfl) (e := (Extern.ReflectliteType.abiMethod fun t => do pure (.int .u8 (← Extern.Rtype.kind t)))) (by kernel_rfl) (fun w => by kernel_rfl)) rfl (pn 3 rfl (RL.sg (Vl.load isAgg112 rfl (cellH_world hS.sub hG0)) rfl rfl (RL.sg (Vl.invokeX (F := 161) (ls := [.tmp 32]) (v := .bool true) (u' := .agg #[.pointer (some ⟨1, 81, none⟩)]) rfl rfl (fun w => by kernel_rfl) func161 (by kernel_rfl) (by kernel_rfl) (by kernel_rfl) (e := (Extern.ReflectliteType.relation "Implements" Extern.ReflectliteType.implements_)) (by kernel_rfl) (fun w => by kernel_rfl)) rfl rfl (pn 2 rfl (ln (RC.condF rfl (sk (sr (pn 2 rfl (RL.s (Vl.lw 0 hS isAgg109 sizeOf109 rfl rfl rfl) rfl ?_))))))))))))
  refine pn 1 rfl (cF (fun _ hg => errors_as.ok hg hS.p1.p2) call48 h rfl rfl rfl ?_)
  rintro t10 h _ w ⟨rfl, hS⟩
  refine pn 1 rfl (lr ?_)
  obtain rfl := h.some
  exact rt results25 rfl ⟨rfl, hS.d1.d1⟩

/-! ### errors.is: function 50 -/
noncomputable def errors_is.f (a1 a2 : Int) (a3 : Bool) : Option (Bool) := (if a3 = true then (if a1 = a2 then some true else some false) else some false)
theorem errors_is.ok {a1 a2 : Int} {a3 : Bool} {r : Bool} (h : errors_is.f a1 a2 a3 = some r) (hS : St B w (l) hf) :
    Calls prog 50 #[.iface 32 (.int .i64 a1), .iface 32 (.int .i64 a2), .bool a3] w (Ret fun v w => v = .bool r ∧ St B w (l) hf) := by
  have h := Holds.of h
  refine en func50 rfl ntmps50 rfl (sr (pn 1 rfl (ln (RC.block (RC.unroll (RQ.round (RC.block (RC.seq (sr (pn 2 rfl ?_))))))))))
  refine RL.iteB 15 rfl h (fun hc10 h => ?_) fun hc10 h => ?_
  next =>
   refine pn 2 rfl (RL.sg (Vl.ifaceInt rfl rfl underlying83 underlying32 type32 rfl) rfl rfl (pn 1 rfl (ln ?_)))
   refine RC.iteP 19 rfl h (fun hc11 h => ?_) fun hc11 h => ?_
   next =>
    refine RC.condT rfl (sr (pn 1 rfl (lr (RQ.ret (RQ.inB_ret (RQ.ret (RQ.inB_ret ?_)))))))
    obtain rfl := h.some
    exact rt results50 rfl ⟨rfl, hS⟩
   next =>
    refine RC.condF rfl (sk (RC.seq (sr (pn 1 rfl (RL.s (Vl.tassert (r := .tuple #[.nilIface, .bool false]) rfl (fun w => run_typeAssert_lacksB underlying159 (by kernel_rfl) (by kernel_rfl) _ _ w)) rfl (pn 5 rfl (lnsr (pn 6 rfl (ln ?_)))))))))
    refine RC.condF rfl (sk (sr (pn 1 rfl (ln (RC.block (sr (RL.s (Vl.tassert (r := .tuple #[.nilIface, .bool false]) rfl (fun w => run_typeAssert_lacksB underlying155 (by kernel_rfl) (by kernel_rfl) _ _ w)) rfl (pn 2 rfl (ln (RC.condF rfl ?_))))))))))
    refine sr (RL.s (Vl.tassert (r := .tuple #[.nilIface, .bool false]) rfl (fun w => run_typeAssert_lacksB underlying156 (by kernel_rfl) (by kernel_rfl) _ _ w)) rfl (pn 2 rfl (ln (RC.condF rfl (sr (pn 1 rfl (lnsr (pn 1 rfl (RL.nil ?_)))))))))
    refine tr (RQ.inB_ret (RQ.inB_ret (RQ.ret (RQ.inB_ret ?_))))
    obtain rfl := h.some
    exact rt results50 rfl ⟨rfl, hS⟩
  next =>
   refine pn 4 rfl (ln (RC.condF rfl (sk (RC.seq (sr (pn 1 rfl (RL.s (Vl.tassert (r := .tuple #[.nilIface, .bool false]) rfl (fun w => run_typeAssert_lacksB underlying159 (by kernel_rfl) (by kernel_rfl) _ _ w)) rfl (pn 5 rfl (lnsr ?_)))))))))
   refine pn 6 rfl (ln (RC.condF rfl (sk (sr (pn 1 rfl (ln (RC.block (sr (RL.s (Vl.tassert (r := .tuple #[.nilIface, .bool false]) rfl (fun w => run_typeAssert_lacksB underlying155 (by kernel_rfl) (by kernel_rfl) _ _ w)) rfl (pn 2 rfl ?_))))))))))
   refine ln (RC.condF rfl (sr (RL.s (Vl.tassert (r := .tuple #[.nilIface, .bool false]) rfl (fun w => run_typeAssert_lacksB underlying156 (by kernel_rfl) (by kernel_rfl) _ _ w)) rfl (pn 2 rfl (ln (RC.condF rfl (sr (pn 1 rfl (ln (RC.seq ?_))))))))))
   refine RC.region (pn 1 rfl (lr (RQ.inB_ret (RQ.inB_ret (RQ.ret (RQ.inB_ret ?_))))))
   obtain rfl := h.some
   exact rt results50 rfl ⟨rfl, hS⟩

/-! ### errors.Is: function 26 -/
noncomputable def errors_Is.f (a1 a2 : Int) : Option (Bool) := ((errors_is.f a1 a2 true).bind fun t5 => some t5)
theorem errors_Is.ok {a1 a2 : Int} {r : Bool} (h : errors_Is.f a1 a2 = some r) (hS : St B w (l) hf) :
    Calls prog 26 #[.iface 32 (.int .i64 a1), .iface 32 (.int .i64 a2)] w (Ret fun v w => v = .bool r ∧ St B w (l) hf) := by
  have h := Holds.of h
  refine en func26 rfl ntmps26 rfl (sr (pn 1 rfl (ln (RC.seq (sr (pn 1 rfl (RL.s (Vl.bin (v := .bool false) rfl rfl (by kernel_rfl)) rfl (pn 2 rfl (RL.sg (Vl.bin (v := .bool false) rfl rfl (by kernel_rfl)) rfl rfl (pn 1 rfl (ln ?_)))))))))))
  refine RC.condF rfl (sk (sr (pn 1 rfl (RL.s (Vl.extern (ls := [.tmp 15]) (v := .iface 148 (.agg #[.pointer (some ⟨1, 32, none⟩)])) rfl func49 (by kernel_rfl) (by kernel_rfl) (by kernel_rfl) (e := Extern.ReflectliteType.typeOf) (by kernel_rfl) (fun w => by kernel_rfl)) rfl (RL.s (Vl.invokeX (F := 159) (ls := []) (v := .bool true) (u' := .agg #[.pointer (some ⟨1, 32, none⟩)]) rfl rfl (fun w => by kernel_rfl) func159 (by kernel_rfl) (by kernel_rfl) (by kernel_rfl) (e := (Extern.ReflectliteType.method fun t => do Extern.Rtype.noPackHeld "Comparable" t; pure (.bool (← typeInfo t).comparable))) (by kernel_rfl) (fun w => by kernel_rfl)) rfl (pn 1 rfl (lnsr (pn 3 rfl (cF (fun _ hg => errors_is.ok hg hS) call50 h rfl rfl rfl ?_)))))))))
  rintro t5 h _ w ⟨rfl, hS⟩
  refine pn 1 rfl (lr ?_)
  obtain rfl := h.some
  exact rt results26 rfl ⟨rfl, hS⟩

/-! ### isochron/code.shapes: function 120 -/
noncomputable def code_shapes.f  : Option (Unit) := some ()
theorem code_shapes.ok {r : Unit} (h : code_shapes.f = some r) (hS : St B w (l) hf) :
    Calls prog 120 #[] w (Ret fun v w => v = .agg #[.string lit_2d2d2d, .string lit_726e2d, .string lit_72722d, .string lit_rrr, .string lit_rrr, .string lit_rrr, .string lit_rrr, .string lit_rrr, .string lit_rrr, .string lit_rrr, .string lit_702d2d, .string lit_72702d, .string lit_rrr, .string lit_72722d, .string lit_722d2d, .string lit_722d2d, .string lit_722d2d] ∧ St B w (l) hf) := by
  have h := Holds.of h
  refine en func120 rfl ntmps120 rfl (sr (al hS zeroValue206 rfl rfl rfl fun b2 w hS => lnsr (RL.s (Vl.build (v := .agg #[.string lit_2d2d2d, .string lit_726e2d, .string lit_72722d, .string lit_rrr, .string lit_rrr, .string lit_rrr, .string lit_rrr, .string lit_rrr, .string lit_rrr, .string lit_rrr, .string lit_702d2d, .string lit_72702d, .string lit_rrr, .string lit_72722d, .string lit_722d2d, .string lit_722d2d, .string lit_722d2d]) (parts := [(0, .const (.string lit_2d2d2d)), (1, .const (.string lit_726e2d)), (2, .const (.string lit_72722d)), (3, .const (.string lit_rrr)), (4, .const (.string lit_rrr)), (5, .const (.string lit_rrr)), (6, .const (.string lit_rrr)), (7, .const (.string lit_rrr)), (8, .const (.string lit_rrr)), (9, .const (.string lit_rrr)), (10, .const (.string lit_702d2d)), (11, .const (.string lit_72702d)), (12, .const (.string lit_rrr)), (13, .const (.string lit_72722d)), (14, .const (.string lit_722d2d)), (15, .const (.string lit_722d2d)), (16, .const (.string lit_722d2d))]) rfl (by kernel_rfl)) rfl (RL.e0 (OW.store (vs := [.string lit_2d2d2d, .string lit_726e2d, .string lit_72722d, .string lit_rrr, .string lit_rrr, .string lit_rrr, .string lit_rrr, .string lit_rrr, .string lit_rrr, .string lit_rrr, .string lit_702d2d, .string lit_72702d, .string lit_rrr, .string lit_72722d, .string lit_722d2d, .string lit_722d2d, .string lit_722d2d]) 0 hS rfl rfl rfl rfl sizeOf206 rfl rfl rfl rfl) rfl ?_))))
  rintro _ w ⟨rfl, hS⟩
  have hS : St B w (Cl _ [_, _, _, _, _, _, _, _, _, _, _, _, _, _, _, _, _] _ :: l) hf := hS
  refine lr ?_
  have e := h.some
  refine RQ.ret0 (vs := [.agg #[.string lit_2d2d2d, .string lit_726e2d, .string lit_72722d, .string lit_rrr, .string lit_rrr, .string lit_rrr, .string lit_rrr, .string lit_rrr, .string lit_rrr, .string lit_rrr, .string lit_702d2d, .string lit_72702d, .string lit_rrr, .string lit_72722d, .string lit_722d2d, .string lit_722d2d, .string lit_722d2d]]) results120 ⟨⟨_, rfl, run_loadVarA (vs := [.string lit_2d2d2d, .string lit_726e2d, .string lit_72722d, .string lit_rrr, .string lit_rrr, .string lit_rrr, .string lit_rrr, .string lit_rrr, .string lit_rrr, .string lit_rrr, .string lit_702d2d, .string lit_72702d, .string lit_rrr, .string lit_72722d, .string lit_722d2d, .string lit_722d2d, .string lit_722d2d]) isAgg206 sizeOf206 rfl (hS.cellsAt 0 rfl rfl)⟩, trivial⟩ ?_
  exact ⟨rfl, hS.d0⟩

/-! ### isochron/code.right: function 121 -/
noncomputable def code_right.j2 (a1 x22 x23 : Int) : Option (Bool) := (if x22 ≤ a1 then some (decide (a1 ≤ x23)) else some false)
noncomputable def code_right.f (a1 a2 a3 : Int) : Option (Bool) := (if a2 = 110 then code_right.j2 a1 (-2147483648) 2147483647 else (if a2 = 112 then code_right.j2 a1 0 a3 else (if a2 = 114 then code_right.j2 a1 0 15 else code_right.j2 a1 0 0)))
theorem code_right.ok {a1 a2 a3 : Int} {r : Bool} (h : code_right.f a1 a2 a3 = some r) (hS : St B w (l) hf) :
    Calls prog 121 #[.int .i64 a1, .int .u8 a2, .int .i64 a3] w (Ret fun v w => v = .bool r ∧ St B w (l) hf) := by
  have h := Holds.of h
  refine en func121 rfl ntmps121 rfl (sr (pn 1 rfl (lnsr (pn 2 rfl (ln ?_)))))
  refine RC.join (fun (s : Int × Int) a w => ∃ (x22 : Int) (x23 : Int), s = (x22, x23) ∧ Has 25 [(0, .int .i64 a1), (7, .int .i64 x22), (8, .int .i64 x23)] a ∧ St B w (l) hf ∧ Holds (· = r) (code_right.j2 a1 x22 x23)) ?_ ?_
  · rintro _ a w ⟨x22, x23, rfl, ha, hS, h⟩
    revert a
    show RC _ _ _ _ _ _
    refine sr (pn 4 rfl ?_)
    refine RL.iteP 20 rfl h (fun hc24 h => ?_) fun hc24 h => ?_
    next =>
     refine pn 5 rfl (lr ?_)
     obtain rfl := h.some
     exact rt results121 rfl ⟨rfl, hS⟩
    next =>
     refine pn 5 rfl (lr ?_)
     obtain rfl := h.some
     exact rt results121 rfl ⟨rfl, hS⟩
  · refine RC.seq ?_
    refine RC.region (pn 1 rfl (ln (RC.block (RC.seq (RC.block (RC.seq (RC.block (RC.seq (RC.block (RC.seq (RC.block (RC.seq (RC.seq (RC.seq ?_))))))))))))))
    refine RC.region (pn 2 rfl (ln ?_))
    refine RC.iteP 10 rfl h (fun hc26 h => ?_) fun hc26 h => ?_
    next =>
     refine RC.condT rfl (RC.exit (RQ.exitT (RQ.exitT (RQ.inB_hit (tsr (pn 2 rfl (ln (RC.exit (RQ.inB_miss rfl (RQ.exitT (RQ.inB_miss rfl (RQ.exitT ?_))))))))))))
     refine RQ.inB_miss rfl (RQ.exitT (RQ.inB_hit ?_))
     exact fun a ha => ⟨((-2147483648), 2147483647), (-2147483648), 2147483647, rfl, ha.to ⟨rfl, rfl, rfl, trivial⟩, hS, h⟩
    next =>
     refine RC.condF rfl (sk (RC.seq (sr (pn 2 rfl (ln ?_)))))
     refine RC.iteP 12 rfl h (fun hc28 h => ?_) fun hc28 h => ?_
     next =>
      refine RC.condT rfl (RC.exit (RQ.exitT (RQ.exitT (RQ.inB_miss rfl (RQ.exitT (RQ.inB_hit (tsr (pn 2 rfl (ln (RC.exit (RQ.inB_miss rfl (RQ.exitT ?_))))))))))))
      refine RQ.inB_miss rfl (RQ.exitT (RQ.inB_hit ?_))
      exact fun a ha => ⟨(0, a3), 0, a3, rfl, ha.to ⟨rfl, rfl, rfl, trivial⟩, hS, h⟩
     next =>
      refine RC.condF rfl (sk (sr (pn 2 rfl (ln ?_))))
      refine RC.iteP 14 rfl h (fun hc29 h => ?_) fun hc29 h => ?_
      next =>
       refine RC.condT rfl (RC.exit (RQ.exitT (RQ.inB_miss rfl (RQ.exitT (RQ.inB_miss rfl (RQ.exitT (RQ.inB_hit (RQ.then_n (RC.region (pn 1 rfl (RL.nil (RQ.inB_n (tsr ?_)))))))))))))
       refine pn 1 rfl (ln (RC.exit (RQ.inB_hit ?_)))
       exact fun a ha => ⟨(0, 15), 0, 15, rfl, ha.to ⟨rfl, rfl, rfl, trivial⟩, hS, h⟩
      next =>
       refine RC.condF rfl (sk (RC.exit (RQ.inB_miss rfl (RQ.exitT (RQ.inB_miss rfl (RQ.exitT (RQ.inB_miss rfl (RQ.exitT (RQ.inB_hit (tsr (pn 1 rfl (RL.nil ?_))))))))))))
       refine RQ.then_n (RC.exit (RQ.inB_hit ?_))
       exact fun a ha => ⟨(0, 0), 0, 0, rfl, ha.to ⟨rfl, rfl, rfl, trivial⟩, hS, h⟩

/-! ### isochron/code.may: function 98 -/
noncomputable def code_may.f (a1 : api_Instr) (a2 : Int) : Option (Bool) := (if a1.Op < 0 then some false else (if 17 ≤ a1.Op then some false else ((code_shapes.f).bind fun _ => (if 0 ≤ a1.Op ∧ a1.Op < 17 then (if 0 < ((nth ([lit_2d2d2d, lit_726e2d, lit_72722d, lit_rrr, lit_rrr, lit_rrr, lit_rrr, lit_rrr, lit_rrr, lit_rrr, lit_702d2d, lit_72702d, lit_rrr, lit_72722d, lit_722d2d, lit_722d2d, lit_722d2d] : List ByteArray) a1.Op).size : Int) then ((code_right.f a1.A (bt (nth ([lit_2d2d2d, lit_726e2d, lit_72722d, lit_rrr, lit_rrr, lit_rrr, lit_rrr, lit_rrr, lit_rrr, lit_rrr, lit_702d2d, lit_72702d, lit_rrr, lit_72722d, lit_722d2d, lit_722d2d, lit_722d2d] : List ByteArray) a1.Op) 0) a2).bind fun t33 => (if t33 = true then (if 1 < ((nth ([lit_2d2d2d, lit_726e2d, lit_72722d, lit_rrr, lit_rrr, lit_rrr, lit_rrr, lit_rrr, lit_rrr, lit_rrr, lit_702d2d, lit_72702d, lit_rrr, lit_72722d, lit_722d2d, lit_722d2d, lit_722d2d] : List ByteArray) a1.Op).size : Int) then ((code_right.f a1.B (bt (nth ([lit_2d2d2d, lit_726e2d, lit_72722d, lit_rrr, lit_rrr, lit_rrr, lit_rrr, lit_rrr, lit_rrr, lit_rrr, lit_702d2d, lit_72702d, lit_rrr, lit_72722d, lit_722d2d, lit_722d2d, lit_722d2d] : List ByteArray) a1.Op) 1) a2).bind fun t37 => (if t37 = true then (if 2 < ((nth ([lit_2d2d2d, lit_726e2d, lit_72722d, lit_rrr, lit_rrr, lit_rrr, lit_rrr, lit_rrr, lit_rrr, lit_rrr, lit_702d2d, lit_72702d, lit_rrr, lit_72722d, lit_722d2d, lit_722d2d, lit_722d2d] : List ByteArray) a1.Op).size : Int) then ((code_right.f a1.C (bt (nth ([lit_2d2d2d, lit_726e2d, lit_72722d, lit_rrr, lit_rrr, lit_rrr, lit_rrr, lit_rrr, lit_rrr, lit_rrr, lit_702d2d, lit_72702d, lit_rrr, lit_72722d, lit_722d2d, lit_722d2d, lit_722d2d] : List ByteArray) a1.Op) 2) a2).bind fun t41 => some t41) else none) else some false)) else none) else some false)) else none) else none))))
theorem code_may.ok {a1 : api_Instr} {a2 : Int} {r : Bool} (h : code_may.f a1 a2 = some r) (hS : St B w (l) hf) :
    Calls prog 98 #[.agg #[.int .i64 a1.Op, .int .i64 a1.A, .int .i64 a1.B, .int .i64 a1.C], .int .i64 a2] w (Ret fun v w => v = .bool r ∧ St B w (l) hf) := by
  have h := Holds.of h
  refine en func98 rfl ntmps98 rfl (sr (bx hS rfl rfl rfl rfl fun b23 w hS => pn 1 rfl (ln (RC.seq (sr (RL.s (Vl.fa 0 underlying134 rfl sizeOf3 rfl rfl) rfl (RL.s (Vl.ld 0 hS isAgg3 rfl rfl rfl) rfl (pn 2 rfl ?_))))))))
  refine RL.iteP 9 rfl h (fun hc26 h => ?_) fun hc26 h => ?_
  next =>
   refine pn 4 rfl (ln (RC.condT rfl (sr (pn 1 rfl (lr (RQ.ret ?_))))))
   obtain rfl := h.some
   exact rt results98 rfl ⟨rfl, hS.d0⟩
  next =>
   refine RL.sg (Vl.fa 0 underlying134 rfl sizeOf3 rfl rfl) rfl rfl (RL.sg (Vl.ld 0 hS isAgg3 rfl rfl rfl) rfl rfl (pn 2 rfl (ln ?_)))
   refine RC.iteP 13 rfl h (fun hc27 h => ?_) fun hc27 h => ?_
   next =>
    refine RC.condT rfl (sr (pn 1 rfl (lr (RQ.ret ?_))))
    obtain rfl := h.some
    exact rt results98 rfl ⟨rfl, hS.d0⟩
   next =>
    refine RC.condF rfl (sk (RC.seq (RC.planS (plD [3, 7, 2, 11, 14]) [3, 4] hS (fun w hS => hS) follows rfl (by kernel_rfl) (NoTmp.then NoTmp.body) fun w hS => RP.s0 1 rfl (fun w => Vl.fa 0 underlying134 rfl sizeOf3 rfl rfl) rfl (RP.s 0 2 rfl rfl hS (fun w hS => Vl.ld 0 hS isAgg3 rfl rfl rfl) rfl ?_))))
    obtain ⟨t28, hg29, h⟩ := h.bind
    have hc := code_shapes.ok hg29 hS
    refine RP.e 0 rfl (OW.callF (ls := []) rfl call120 hc) rfl rfl ?_
    rintro _ w ⟨rfl, hS⟩
    refine ⟨kp ⟨fun _ => hS, trivial⟩, ?_⟩
    obtain ⟨⟨hq30, hq31⟩, h⟩ := h.req
    refine RP.v1 3 rfl (Vl.indexMap (f := Value.string) (l := ([lit_2d2d2d, lit_726e2d, lit_72722d, lit_rrr, lit_rrr, lit_rrr, lit_rrr, lit_rrr, lit_rrr, lit_rrr, lit_702d2d, lit_72702d, lit_rrr, lit_72722d, lit_722d2d, lit_722d2d, lit_722d2d] : List ByteArray)) underlying206 sizeOf9 isAgg9 rfl rfl rfl hq30 hq31) rfl rfl (RP.v1 4 rfl (Vl.assign rfl) rfl rfl (RP.nil (RQ.then_n (RC.seq (RC.planS (plD [0, 4, 6, 10, 12, 17, 18, 21, 25, 27, 31, 33, 38, 39, 42, 45, 49, 51, 55, 59, 62, 65, 68]) [20, 21, 22] hS (fun w hS => hS) follows rfl (by kernel_rfl) (NoTmp.then NoTmp.body) fun w hS => RP.s0 0 rfl (fun w => Vl.fa 1 underlying134 rfl sizeOf3 rfl rfl) rfl (RP.s 0 1 rfl rfl hS (fun w hS => Vl.ld 0 hS isAgg3 rfl rfl rfl) rfl (pp 1 rfl ?_)))))))
    obtain ⟨hq32, h⟩ := h.req
    refine RP.s 0 3 rfl rfl hS (fun w hS => Vl.indexS underlying9 rfl rfl (by decide) hq32) rfl (pp 1 rfl ?_)
    obtain ⟨t33, hg34, h⟩ := h.bind
    have hc := code_right.ok hg34 hS
    refine RP.e 5 rfl (OW.callF (ls := [.tmp 19, .tmp 21, .tmp 22]) rfl call121 hc) rfl rfl ?_
    rintro _ w ⟨rfl, hS⟩
    refine ⟨kp ⟨fun _ => hS, trivial⟩, ?_⟩
    refine pp 1 rfl ?_
    refine RP.iteB 24 rfl h (fun hc35 h => ?_) fun hc35 h => ?_
    next =>
     refine RP.sg0 7 rfl (fun w => Vl.fa 2 underlying134 rfl sizeOf3 rfl rfl) rfl rfl (RP.sg 0 8 rfl rfl hS (fun w hS => Vl.ld 0 hS isAgg3 rfl rfl rfl) rfl rfl (pp 1 rfl ?_))
     obtain ⟨hq36, h⟩ := h.req
     refine RP.sg 0 10 rfl rfl hS (fun w hS => Vl.indexS underlying9 rfl rfl (by decide) hq36) rfl rfl (pp 1 rfl ?_)
     obtain ⟨t37, hg38, h⟩ := h.bind
     have hc := code_right.ok hg38 hS
     refine RP.e 12 rfl (OW.callF (ls := [.tmp 26, .tmp 28, .tmp 29]) rfl call121 hc) rfl rfl ?_
     rintro _ w ⟨rfl, hS⟩
     refine ⟨kp ⟨fun _ => hS, trivial⟩, ?_⟩
     refine pp 2 rfl ?_
     refine RP.iteB 32 rfl h (fun hc39 h => ?_) fun hc39 h => ?_
     next =>
      refine RP.sg0 15 rfl (fun w => Vl.fa 3 underlying134 rfl sizeOf3 rfl rfl) rfl rfl (RP.sg 0 16 rfl rfl hS (fun w hS => Vl.ld 0 hS isAgg3 rfl rfl rfl) rfl rfl (pp 1 rfl ?_))
      obtain ⟨hq40, h⟩ := h.req
      refine RP.sg 0 18 rfl rfl hS (fun w hS => Vl.indexS underlying9 rfl rfl (by decide) hq40) rfl rfl (RP.v1 19 rfl (Vl.move rfl) rfl rfl ?_)
      obtain ⟨t41, hg42, h⟩ := h.bind
      have hc := code_right.ok hg42 hS
      refine RP.e 20 rfl (OW.callF (ls := [.tmp 34, .tmp 36, .tmp 37]) rfl call121 hc) rfl rfl ?_
      rintro _ w ⟨rfl, hS⟩
      refine ⟨kp ⟨(by intro hx; cases hx), trivial⟩, ?_⟩
      refine RP.v1 21 rfl (Vl.pickT rfl rfl) rfl rfl (RP.v1 22 rfl (Vl.assign rfl) rfl rfl (RP.nil (tr ?_)))
      obtain rfl := h.some
      exact rt results98 rfl ⟨rfl, hS.d0⟩
     next =>
      refine pp 1 rfl (RP.nn 0 16 rfl rfl rfl (pp 1 rfl (RP.nn 0 18 rfl rfl rfl (RP.n1 19 rfl rfl rfl (RP.n1 20 rfl rfl rfl (RP.v1 21 rfl (Vl.pickF rfl rfl) rfl rfl (RP.v1 22 rfl (Vl.assign rfl) rfl rfl (RP.nil (tr ?_)))))))))
      obtain rfl := h.some
      exact rt results98 rfl ⟨rfl, hS.d0⟩
    next =>
     refine pp 1 rfl (RP.nn 0 8 rfl rfl rfl (pp 1 rfl (RP.nn 0 10 rfl rfl rfl (pp 1 rfl (RP.n1 12 rfl rfl rfl (pp 3 rfl (RP.nn 0 16 rfl rfl rfl (pp 1 rfl (RP.nn 0 18 rfl rfl rfl (RP.n1 19 rfl rfl rfl (RP.n1 20 rfl rfl rfl (RP.v1 21 rfl (Vl.pickF rfl rfl) rfl rfl (RP.v1 22 rfl (Vl.assign rfl) rfl rfl (RP.nil (RQ.then_n ?_)))))))))))))))
     refine RC.ret ?_
     obtain rfl := h.some
     exact rt results98 rfl ⟨rfl, hS.d0⟩

/-! ### isochron/code.check: function 85 -/
noncomputable def code_check.l2b (a1 : List api_Instr) : Int → Option ((Int) ⊕ ((Int) ⊕ (Int × Int) ⊕ (Unit)))
  | (x66) => (if x66 < (a1.length : Int) then (if 0 ≤ x66 then ((code_may.f (nth a1 x66) (a1.length : Int)).bind fun t93 => (if t93 = true then some (.inl (IntKind.i64.wrap (x66 + 1))) else some (.inr (.inr (.inl (x66, 130)))))) else none) else some (.inr (.inr (.inr (())))))
noncomputable def code_check.l2 (a1 : List api_Instr) (s : Int) : Option ((Int) ⊕ (Int × Int) ⊕ (Unit)) := loopR (code_check.l2b a1) s
noncomputable def code_check.f (a1 : List api_Instr) : Option ((Int) ⊕ (Int × Int) ⊕ (Unit)) := (if 256 < (a1.length : Int) then some (.inl 2) else code_check.l2 a1 (0))
theorem code_check.ok {a1 : List api_Instr} {A2 : Option Addr} {c3 : Nat} (hr4 : SlR E_api_Instr.rep hf A2 c3 a1) {r : (Int) ⊕ (Int × Int) ⊕ (Unit)} (h : code_check.f a1 = some r) (hS : St B w (l) hf) :
    Calls prog 85 #[.slice A2 a1.length c3] w (Ret fun v w => match (generalizing := false) r with | .inl r_ => v = .iface 32 (.int .i64 r_) ∧ St B w (l) hf | .inr (.inl r_) => ∃ (b_1 : Nat), v = .iface 200 (.pointer (some ⟨b_1, 0, none⟩)) ∧ St B w (Cl b_1 [.int .i64 r_.1, .iface 32 (.int .i64 r_.2)] 202 :: l) hf | .inr (.inr (r_)) => v = .nilIface ∧ St B w (l) hf) := by
  have h := Holds.of h
  refine en func85 rfl ntmps85 rfl (sr (pn 1 rfl (ln (RC.seq (sr (pn 1 rfl (RL.s (Vl.lenSl underlying100 rfl) rfl (pn 1 rfl (ln ?_)))))))))
  refine RC.iteP 7 rfl h (fun hc52 h => ?_) fun hc52 h => ?_
  next =>
   refine RC.condT rfl (sr (RL.s (Vl.makeIface underlying32 rfl rfl) rfl (pn 1 rfl (lr (RQ.ret ?_)))))
   obtain rfl := h.some
   exact rt results85 rfl ⟨rfl, hS⟩
  next =>
   refine RC.condF rfl (sk (RC.seq (sr (pn 1 rfl (RL.s (Vl.lenSl underlying100 rfl) rfl (pn 1 rfl (ln (RC.block ?_))))))))
   refine fun a ha => RC.loop (N := 27) (body := (code_check.l2b a1)) (φ := (· = r)) (fun (s : Int) a w => ∃ (x66 : Int), s = (x66) ∧ Has 27 [(0, .slice A2 a1.length c3), (9, .slice A2 a1.length c3), (10, .int .i64 (a1.length : Int)), (11, .int .i64 x66)] a ∧ St B w (l) hf) ?_ (s0 := (0)) h ⟨0, rfl, ha.to ⟨rfl, rfl, rfl, rfl, trivial⟩, hS⟩
   rintro G82 x66 a w ⟨_, rfl, ha, hS⟩ h
   revert a
   show RC _ _ _ _ _ _
   refine sr (pn 1 rfl (ln (RC.seq ?_)))
   refine RC.iteP 12 rfl h (fun hc84 h => ?_) fun hc84 h => ?_
   next =>
    refine RC.condT rfl (sk (RC.seq (RC.block (sr (pn 1 rfl ?_)))))
    obtain ⟨hq91, h⟩ := h.req
    refine RL.s (Vl.indexAddr underlying100 sizeOf134 rfl rfl ((hr4.2.world hS.sub).adr hq91 hc84) hq91 hc84 rfl) rfl (RL.s (Vl.loadA isAgg134 sizeOf134 rfl rfl ((hr4.2.world hS.sub).cells hq91 hc84)) rfl (al hS zeroValue134 rfl rfl rfl fun b92 w hS => pn 1 rfl (RL.e0 (OW.store (vs := [.int .i64 ((nth a1 x66).Op), .int .i64 ((nth a1 x66).A), .int .i64 ((nth a1 x66).B), .int .i64 ((nth a1 x66).C)]) 0 hS rfl rfl rfl rfl sizeOf134 rfl rfl rfl rfl) rfl ?_)))
    rintro _ w ⟨rfl, hS⟩
    have hS : St B w (Cl _ [_, _, _, _] _ :: l) hf := hS
    refine lnsr (RL.s (Vl.lw 0 hS isAgg134 sizeOf134 rfl rfl rfl) rfl (pn 1 rfl (RL.s (Vl.lenSl underlying100 rfl) rfl (cF (fun _ hg => code_may.ok hg hS) call98 h rfl rfl rfl ?_))))
    rintro t93 h _ w ⟨rfl, hS⟩
    refine pn 1 rfl (ln ?_)
    refine RC.iteM 20 rfl h (fun hc95 h => ?_) fun hc95 h => ?_
    next =>
     refine RC.condF rfl (RC.skip (RQ.inB_n (RQ.then_n (RC.region (pn 2 rfl (RL.nil ?_))))))
     exact fun a ha => ⟨(IntKind.i64.wrap (x66 + 1)), ⟨(IntKind.i64.wrap (x66 + 1)), rfl, ha.to ⟨rfl, rfl, rfl, rfl, trivial⟩, hS.d0⟩, h.some⟩
    next =>
     refine RC.condT rfl (sr (pn 1 rfl (RL.s (Vl.makeIface underlying32 rfl rfl) rfl (RL.s (Vl.build (v := .agg #[.int .i64 x66, .iface 32 (.int .i64 130)]) (parts := [(0, .tmp 21), (1, .tmp 22)]) rfl (by kernel_rfl)) rfl (bx hS rfl rfl rfl rfl fun b96 w hS => RL.s (Vl.makeIface underlying200 rfl rfl) rfl (pn 1 rfl (lr (RQ.inB_ret (RQ.ret ?_)))))))))
     have h := h.inrS
     refine RQ.ret (RQ.inB_ret (RQ.ret ?_))
     obtain rfl := h.some
     exact rt results85 rfl ⟨b96, rfl, hS.d1⟩
   next =>
    refine RC.condF rfl (RC.exit (RQ.exitT ?_))
    have h := h.inrS
    refine RQ.exitT (RQ.inB_hit (tsr (pn 1 rfl (lr ?_))))
    obtain rfl := h.some
    exact rt results85 rfl ⟨rfl, hS⟩

/-! ### (*isochron/code.wrong).Unwrap: function 172 -/
noncomputable def code_wrong_Unwrap.f (a2 a3 : Int) : Option (Int) := some a3
theorem code_wrong_Unwrap.ok {a2 a3 : Int} {b1 : Nat} {r : Int} (h : code_wrong_Unwrap.f a2 a3 = some r) (hS : St B w (Cl b1 [.int .i64 a2, .iface 32 (.int .i64 a3)] 202 :: l) hf) :
    Calls prog 172 #[.pointer (some ⟨b1, 0, none⟩)] w (Ret fun v w => v = .iface 32 (.int .i64 r) ∧ St B w (Cl b1 [.int .i64 a2, .iface 32 (.int .i64 a3)] 202 :: l) hf) := by
  have h := Holds.of h
  refine en func172 rfl ntmps172 rfl (sr (pn 1 rfl (lnsr (pn 2 rfl (RL.s (Vl.fa 1 underlying202 rfl sizeOf83 rfl rfl) rfl (RL.s (Vl.ld 0 hS isAgg83 rfl rfl rfl) rfl (pn 1 rfl (lr ?_))))))))
  obtain rfl := h.some
  exact rt results172 rfl ⟨rfl, hS⟩

/-! ### errors.is: function 50 -/
noncomputable def errors_is_2.f (a2 a3 a4 : Int) (a5 : Bool) : Option (Bool) := (if a5 = true then ((code_wrong_Unwrap.f a2 a3).bind fun t16 => (if t16 = a4 then some true else some false)) else ((code_wrong_Unwrap.f a2 a3).bind fun t20 => some false))
theorem errors_is_2.ok {a2 a3 a4 : Int} {a5 : Bool} {b1 : Nat} {r : Bool} (h : errors_is_2.f a2 a3 a4 a5 = some r) (hS : St B w (Cl b1 [.int .i64 a2, .iface 32 (.int .i64 a3)] 202 :: l) hf) :
    Calls prog 50 #[.iface 200 (.pointer (some ⟨b1, 0, none⟩)), .iface 32 (.int .i64 a4), .bool a5] w (Ret fun v w => v = .bool r ∧ St B w (Cl b1 [.int .i64 a2, .iface 32 (.int .i64 a3)] 202 :: l) hf) := by
  have h := Holds.of h
  refine en func50 rfl ntmps50 rfl (sr (pn 1 rfl (ln (RC.block (RC.unroll (RQ.round (RC.block (RC.seq (sr (pn 2 rfl ?_))))))))))
  refine RL.iteB 15 rfl h (fun hc15 h => ?_) fun hc15 h => ?_
  next =>
   refine pn 2 rfl (RL.sg (Vl.ifaceNeq rfl rfl underlying83 rfl) rfl rfl (pn 1 rfl (ln (RC.condF rfl (sk (RC.seq (sr (pn 1 rfl (RL.s (Vl.tassert (r := .tuple #[.nilIface, .bool false]) rfl (fun w => run_typeAssert_lacksB underlying159 (by kernel_rfl) (by kernel_rfl) _ _ w)) rfl (pn 5 rfl (ln ?_)))))))))))
   refine sr (pn 6 rfl (ln (RC.condF rfl (sk (sr (pn 1 rfl (ln (RC.block (sr ?_)))))))))
   refine RL.s (Vl.tassert (r := .tuple #[.iface 200 (.pointer (some ⟨b1, 0, none⟩)), .bool true]) rfl (fun w => run_typeAssert_hasB underlying155 (by kernel_rfl) _ _ w)) rfl (pn 2 rfl (ln (RC.condT rfl (sr (pn 1 rfl (lnsr (pn 1 rfl ?_)))))))
   obtain ⟨t16, hg17, h⟩ := h.bind
   have hc := code_wrong_Unwrap.ok hg17 hS
   refine RL.e (OW.invoke (F := 172) (u' := .pointer (some ⟨b1, 0, none⟩)) (ls := []) rfl rfl (fun w => by kernel_rfl) call172 rfl hc) rfl rfl ?_
   rintro _ w ⟨rfl, hS⟩
   refine pn 1 rfl (lnsr (pn 1 rfl (RL.s (Vl.bin (v := .bool false) rfl rfl (by kernel_rfl)) rfl (ln (RC.condF rfl (RC.skip (RQ.inB_n (RQ.inB_n (RQ.then_n (RQ.round (RC.block ?_)))))))))))
   refine RC.seq (sr (pn 2 rfl (RL.re 15 rfl (congrArg Value.bool (id hc15)) (pn 2 rfl (RL.sg (Vl.ifaceInt rfl rfl underlying83 underlying32 type32 rfl) rfl rfl (pn 1 rfl (ln ?_)))))))
   refine RC.iteP 19 rfl h (fun hc19 h => ?_) fun hc19 h => ?_
   next =>
    refine RC.condT rfl (sr (pn 1 rfl (lr (RQ.ret (RQ.inB_ret (RQ.ret (RQ.inB_ret ?_)))))))
    obtain rfl := h.some
    exact rt results50 rfl ⟨rfl, hS⟩
   next =>
    refine RC.condF rfl (sk (RC.seq (sr (pn 1 rfl (RL.s (Vl.tassert (r := .tuple #[.nilIface, .bool false]) rfl (fun w => run_typeAssert_lacksB underlying159 (by kernel_rfl) (by kernel_rfl) _ _ w)) rfl (pn 5 rfl (lnsr (pn 6 rfl (ln ?_)))))))))
    refine RC.condF rfl (sk (sr (pn 1 rfl (ln (RC.block (sr (RL.s (Vl.tassert (r := .tuple #[.nilIface, .bool false]) rfl (fun w => run_typeAssert_lacksB underlying155 (by kernel_rfl) (by kernel_rfl) _ _ w)) rfl (pn 2 rfl (ln (RC.condF rfl ?_))))))))))
    refine sr (RL.s (Vl.tassert (r := .tuple #[.nilIface, .bool false]) rfl (fun w => run_typeAssert_lacksB underlying156 (by kernel_rfl) (by kernel_rfl) _ _ w)) rfl (pn 2 rfl (ln (RC.condF rfl (sr (pn 1 rfl (lnsr (pn 1 rfl (RL.nil ?_)))))))))
    refine tr (RQ.inB_ret (RQ.inB_ret (RQ.ret (RQ.inB_ret ?_))))
    obtain rfl := h.some
    exact rt results50 rfl ⟨rfl, hS⟩
  next =>
   refine pn 4 rfl (ln (RC.condF rfl (sk (RC.seq (sr (pn 1 rfl (RL.s (Vl.tassert (r := .tuple #[.nilIface, .bool false]) rfl (fun w => run_typeAssert_lacksB underlying159 (by kernel_rfl) (by kernel_rfl) _ _ w)) rfl (pn 5 rfl (lnsr ?_)))))))))
   refine pn 6 rfl (ln (RC.condF rfl (sk (sr (pn 1 rfl (ln (RC.block (sr (RL.s (Vl.tassert (r := .tuple #[.iface 200 (.pointer (some ⟨b1, 0, none⟩)), .bool true]) rfl (fun w => run_typeAssert_hasB underlying155 (by kernel_rfl) _ _ w)) rfl (pn 2 rfl ?_))))))))))
   refine ln (RC.condT rfl (sr (pn 1 rfl (lnsr (pn 1 rfl ?_)))))
   obtain ⟨t20, hg21, h⟩ := h.bind
   have hc := code_wrong_Unwrap.ok hg21 hS
   refine RL.e (OW.invoke (F := 172) (u' := .pointer (some ⟨b1, 0, none⟩)) (ls := []) rfl rfl (fun w => by kernel_rfl) call172 rfl hc) rfl rfl ?_
   rintro _ w ⟨rfl, hS⟩
   refine pn 1 rfl (lnsr (pn 1 rfl (RL.s (Vl.bin (v := .bool false) rfl rfl (by kernel_rfl)) rfl (ln (RC.condF rfl (RC.skip (RQ.inB_n (RQ.inB_n (RQ.then_n (RQ.round (RC.block ?_)))))))))))
   refine RC.seq (sr (pn 2 rfl (RL.re 15 rfl (congrArg Value.bool (eq_false_of hc15)) (pn 4 rfl (ln (RC.condF rfl (sk (RC.seq (sr (pn 1 rfl (RL.s (Vl.tassert (r := .tuple #[.nilIface, .bool false]) rfl (fun w => run_typeAssert_lacksB underlying159 (by kernel_rfl) (by kernel_rfl) _ _ w)) rfl ?_)))))))))))
   refine pn 5 rfl (lnsr (pn 6 rfl (ln (RC.condF rfl (sk (sr (pn 1 rfl (ln ?_))))))))
   refine RC.block (sr (RL.s (Vl.tassert (r := .tuple #[.nilIface, .bool false]) rfl (fun w => run_typeAssert_lacksB underlying155 (by kernel_rfl) (by kernel_rfl) _ _ w)) rfl (pn 2 rfl (ln (RC.condF rfl (sr (RL.s (Vl.tassert (r := .tuple #[.nilIface, .bool false]) rfl (fun w => run_typeAssert_lacksB underlying156 (by kernel_rfl) (by kernel_rfl) _ _ w)) rfl (pn 2 rfl (ln (RC.condF rfl (RC.seq ?_)))))))))))
   refine RC.region (pn 1 rfl (lnsr (pn 1 rfl (lr (RQ.inB_ret (RQ.inB_ret (RQ.ret (RQ.inB_ret ?_))))))))
   obtain rfl := h.some
   exact rt results50 rfl ⟨rfl, hS⟩

/-! ### errors.Is: function 26 -/
noncomputable def errors_Is_2.f (a2 a3 a4 : Int) : Option (Bool) := ((errors_is_2.f a2 a3 a4 true).bind fun t7 => some t7)
theorem errors_Is_2.ok {a2 a3 a4 : Int} {b1 : Nat} {r : Bool} (h : errors_Is_2.f a2 a3 a4 = some r) (hS : St B w (Cl b1 [.int .i64 a2, .iface 32 (.int .i64 a3)] 202 :: l) hf) :
    Calls prog 26 #[.iface 200 (.pointer (some ⟨b1, 0, none⟩)), .iface 32 (.int .i64 a4)] w (Ret fun v w => v = .bool r ∧ St B w (Cl b1 [.int .i64 a2, .iface 32 (.int .i64 a3)] 202 :: l) hf) := by
  have h := Holds.of h
  refine en func26 rfl ntmps26 rfl (sr (pn 1 rfl (ln (RC.seq (sr (pn 1 rfl (RL.s (Vl.bin (v := .bool false) rfl rfl (by kernel_rfl)) rfl (pn 2 rfl (RL.sg (Vl.bin (v := .bool false) rfl rfl (by kernel_rfl)) rfl rfl (pn 1 rfl (ln ?_)))))))))))
  refine RC.condF rfl (sk (sr (pn 1 rfl (RL.s (Vl.extern (ls := [.tmp 15]) (v := .iface 148 (.agg #[.pointer (some ⟨1, 32, none⟩)])) rfl func49 (by kernel_rfl) (by kernel_rfl) (by kernel_rfl) (e := Extern.ReflectliteType.typeOf) (by kernel_rfl) (fun w => by kernel_rfl)) rfl (RL.s (Vl.invokeX (F := 159) (ls := []) (v := .bool true) (u' := .agg #[.pointer (some ⟨1, 32, none⟩)]) rfl rfl (fun w => by kernel_rfl) func159 (by kernel_rfl) (by kernel_rfl) (by kernel_rfl) (e := (Extern.ReflectliteType.method fun t => do Extern.Rtype.noPackHeld "Comparable" t; pure (.bool (← typeInfo t).comparable))) (by kernel_rfl) (fun w => by kernel_rfl)) rfl (pn 1 rfl (lnsr (pn 3 rfl (cF (fun _ hg => errors_is_2.ok hg hS) call50 h rfl rfl rfl ?_)))))))))
  rintro t7 h _ w ⟨rfl, hS⟩
  refine pn 1 rfl (lr ?_)
  obtain rfl := h.some
  exact rt results26 rfl ⟨rfl, hS⟩

/-! ### errors.Is: function 26 -/
noncomputable def errors_Is_3.f (a1 : Int) : Option (Bool) := some false
theorem errors_Is_3.ok {a1 : Int} {r : Bool} (h : errors_Is_3.f a1 = some r) (hS : St B w (l) hf) :
    Calls prog 26 #[.nilIface, .iface 32 (.int .i64 a1)] w (Ret fun v w => v = .bool r ∧ St B w (l) hf) := by
  have h := Holds.of h
  refine en func26 rfl ntmps26 rfl (sr (pn 1 rfl (ln (RC.seq (sr (pn 1 rfl (RL.s (Vl.bin (v := .bool true) rfl rfl (by kernel_rfl)) rfl (pn 4 rfl (ln (RC.condT rfl (RC.seq ?_)))))))))))
  refine RC.region (pn 2 rfl (RL.s (Vl.bin (v := .bool false) rfl rfl (by kernel_rfl)) rfl (pn 1 rfl (lr (RQ.ret ?_)))))
  obtain rfl := h.some
  exact rt results26 rfl ⟨rfl, hS⟩

/-! ### isochron/code.Check: function 68 -/
noncomputable def code_Check.f (a1 : List api_Instr) : Option (Int) := ((code_check.f a1).bind fun t20 => match t20 with | .inl y22 => ((errors_Is.f y22 2).bind fun t23 => (if t23 = true then some 2 else some 130)) | .inr (.inl (y26, y27)) => ((errors_Is_2.f y26 y27 2).bind fun t29 => (if t29 = true then some 2 else some 130)) | .inr (.inr (_)) => ((errors_Is_3.f 2).bind fun t32 => (if t32 = true then some 2 else some 0)))
theorem code_Check.ok {a1 : List api_Instr} {A2 : Option Addr} {c3 : Nat} (hr4 : SlR E_api_Instr.rep hf A2 c3 a1) {r : Int} (h : code_Check.f a1 = some r) (hS : St B w (l) hf) :
    Calls prog 68 #[.slice A2 a1.length c3] w (Ret fun v w => v = .int .i64 r ∧ St B w (l) hf) := by
  have h := Holds.of h
  refine en func68 rfl ntmps68 rfl (sr (pn 1 rfl (ln (RC.seq (sr (pn 1 rfl ?_))))))
  obtain ⟨t20, hg21, h⟩ := h.bind
  have hc := code_check.ok hr4 hg21 hS
  rcases t20 with y22 | ⟨y26, y27⟩ | _
  · refine RL.e (OW.callF (ls := [.tmp 4]) rfl call85 hc) rfl rfl ?_
    rintro _ w ⟨rfl, hS⟩
    refine pn 1 rfl (ln (RC.block (sr (pn 1 rfl (RL.s (Vl.makeIface underlying32 rfl rfl) rfl (cF (fun _ hg => errors_Is.ok hg hS) call26 h rfl rfl rfl ?_))))))
    rintro t23 h _ w ⟨rfl, hS⟩
    refine pn 1 rfl (ln ?_)
    refine RC.iteB 6 rfl h (fun hc25 h => ?_) fun hc25 h => ?_
    next =>
     refine RC.condT rfl (sr (pn 1 rfl (lr (RQ.inB_ret (RQ.ret ?_)))))
     obtain rfl := h.some
     exact rt results68 rfl ⟨rfl, hS⟩
    next =>
     refine RC.condF rfl (sr (pn 1 rfl (RL.s (Vl.bin (v := .bool true) rfl rfl (by kernel_rfl)) rfl (pn 1 rfl (ln (RC.condT rfl (sr (pn 1 rfl (lr (RQ.inB_ret ?_))))))))))
     refine RQ.ret ?_
     obtain rfl := h.some
     exact rt results68 rfl ⟨rfl, hS⟩
  · refine RL.e (OW.callF (ls := [.tmp 4]) rfl call85 hc) rfl rfl ?_
    rintro _ w ⟨b28, rfl, hS⟩
    refine pn 1 rfl (ln (RC.block (sr (pn 1 rfl (RL.s (Vl.makeIface underlying32 rfl rfl) rfl (cF (fun _ hg => errors_Is_2.ok hg hS) call26 h rfl rfl rfl ?_))))))
    rintro t29 h _ w ⟨rfl, hS⟩
    refine pn 1 rfl (ln ?_)
    refine RC.iteB 6 rfl h (fun hc31 h => ?_) fun hc31 h => ?_
    next =>
     refine RC.condT rfl (sr (pn 1 rfl (lr (RQ.inB_ret (RQ.ret ?_)))))
     obtain rfl := h.some
     exact rt results68 rfl ⟨rfl, hS.d0⟩
    next =>
     refine RC.condF rfl (sr (pn 1 rfl (RL.s (Vl.bin (v := .bool true) rfl rfl (by kernel_rfl)) rfl (pn 1 rfl (ln (RC.condT rfl (sr (pn 1 rfl (lr (RQ.inB_ret ?_))))))))))
     refine RQ.ret ?_
     obtain rfl := h.some
     exact rt results68 rfl ⟨rfl, hS.d0⟩
  · refine RL.e (OW.callF (ls := [.tmp 4]) rfl call85 hc) rfl rfl ?_
    rintro _ w ⟨rfl, hS⟩
    refine pn 1 rfl (ln (RC.block (sr (pn 1 rfl (RL.s (Vl.makeIface underlying32 rfl rfl) rfl (cF (fun _ hg => errors_Is_3.ok hg hS) call26 h rfl rfl rfl ?_))))))
    rintro t32 h _ w ⟨rfl, hS⟩
    refine pn 1 rfl (ln ?_)
    refine RC.iteB 6 rfl h (fun hc34 h => ?_) fun hc34 h => ?_
    next =>
     refine RC.condT rfl (sr (pn 1 rfl (lr (RQ.inB_ret (RQ.ret ?_)))))
     obtain rfl := h.some
     exact rt results68 rfl ⟨rfl, hS⟩
    next =>
     refine RC.condF rfl (sr (pn 1 rfl (RL.s (Vl.bin (v := .bool false) rfl rfl (by kernel_rfl)) rfl (pn 1 rfl (ln (RC.condF rfl (RC.skip (RQ.inB_n (tsr (pn 1 rfl (RL.nil ?_)))))))))))
     refine tr ?_
     obtain rfl := h.some
     exact rt results68 rfl ⟨rfl, hS⟩

/-! ### errors.Join: function 69 -/
noncomputable def errors_Join.f (a3 : model_flaw) (a4 : Int) : Option (model_flaw × Int) := some (a3, a4)
theorem errors_Join.ok {a3 : model_flaw} {a4 : Int} {A1 : Option Addr} {c2 : Nat} {r : model_flaw × Int} (h : errors_Join.f a3 a4 = some r) (hS : St B w (OSl 83 1 (.slice A1 2 c2) 2 [.iface 81 (.agg #[.int .i64 a3.at_, .int .i64 a3.why]), .iface 32 (.int .i64 a4)] :: l) hf) :
    Calls prog 69 #[.slice A1 2 c2] w (Ret fun v w => ∃ (b_1 : Nat) (A_2 : Option Addr) (c_3 : Nat), v = .iface 186 (.pointer (some ⟨b_1, 0, none⟩)) ∧ St B w (Cl b_1 [.slice A_2 2 c_3] 188 :: OSl 83 1 (.slice A_2 2 c_3) 2 [.iface 81 (.agg #[.int .i64 r.1.at_, .int .i64 r.1.why]), .iface 32 (.int .i64 r.2)] :: OSl 83 1 (.slice A1 2 c2) 2 [.iface 81 (.agg #[.int .i64 a3.at_, .int .i64 a3.why]), .iface 32 (.int .i64 a4)] :: l) hf) := by
  have h := Holds.of h
  refine en func69 rfl ntmps69 rfl (sr (pn 1 rfl (lnsr (pn 1 rfl (ln (RC.seq (sr (pn 1 rfl (RL.s (Vl.lenSl underlying157 rfl) rfl ?_)))))))))
  refine pn 1 rfl (ln (RC.block (RC.unroll (RQ.round (sr (pn 1 rfl (ln (RC.seq (RC.condT rfl (sk (RC.seq ?_)))))))))))
  refine RC.block (sr (RL.s (Vl.indexAddr (a'' := (ad A1).add 0) underlying157 sizeOf83 rfl rfl (hS.litAdr 0 rfl (by decide)) (by decide) (by decide) rfl) rfl (RL.s (Vl.load isAgg83 rfl (hS.litCell 0 rfl rfl)) rfl (pn 1 rfl (lnsr (pn 1 rfl (RL.s (Vl.bin (v := .bool true) rfl rfl (by kernel_rfl)) rfl (ln (RC.condT rfl (RC.region ?_))))))))))
  refine pn 3 rfl (RL.nil (RQ.inB_n (RQ.then_n (RC.region (pn 2 rfl (ln (RQ.round (sr (pn 1 rfl (ln (RC.seq (RC.condT rfl ?_))))))))))))
  refine sk (RC.seq (RC.block (sr (RL.s (Vl.indexAddr (a'' := (ad A1).add 1) underlying157 sizeOf83 rfl rfl (hS.litAdr 0 rfl (by decide)) (by decide) (by decide) rfl) rfl (RL.s (Vl.load isAgg83 rfl (hS.litCell 0 rfl rfl)) rfl (pn 1 rfl (lnsr (pn 1 rfl (RL.s (Vl.bin (v := .bool true) rfl rfl (by kernel_rfl)) rfl (RL.nil ?_))))))))))
  refine RQ.then_n (RC.condT rfl (RC.region (pn 3 rfl (RL.nil (RQ.inB_n (RQ.then_n (RC.region (pn 2 rfl (ln (RQ.round (sr (pn 1 rfl (RL.nil ?_)))))))))))))
  refine RQ.then_n (RC.seq (RC.condF rfl (RC.exit (RQ.exitT (RQ.exitT (RQ.inB_hit (RQ.then_n (RC.seq (sr (pn 2 rfl (ln (RC.condF rfl (RC.skip ?_)))))))))))))
  refine tsr (pn 1 rfl (RL.e (OW.make0L (c := 2) (sz := 1) hS underlying157 type83 rfl rfl rfl rfl (by decide) (by decide)) rfl rfl ?_))
  rintro _ w ⟨b31, rfl, hS⟩
  refine RL.s (Vl.build (v := .agg #[.slice (some ⟨b31, 0, none⟩) 0 2]) (parts := [(0, .tmp 23)]) rfl (by kernel_rfl)) rfl (bx hS rfl rfl rfl rfl fun b32 w hS => pn 1 rfl (ln (RC.seq (sr (pn 1 rfl (RL.s (Vl.lenSl underlying157 rfl) rfl (pn 1 rfl (ln (RC.block (RC.unroll (RQ.round ?_)))))))))))
  refine sr (pn 1 rfl (ln (RC.seq (RC.condT rfl (sk (RC.seq (RC.block (sr (RL.s (Vl.indexAddr (a'' := (ad A1).add 0) underlying157 sizeOf83 rfl rfl (hS.litAdr 2 rfl (by decide)) (by decide) (by decide) rfl) rfl (RL.s (Vl.load isAgg83 rfl (hS.litCell 2 rfl rfl)) rfl (pn 1 rfl ?_)))))))))))
  refine lnsr (pn 1 rfl (RL.s (Vl.bin (v := .bool true) rfl rfl (by kernel_rfl)) rfl (ln (RC.condT rfl (RC.region (pn 3 rfl (RL.s (Vl.fa 0 underlying188 rfl sizeOf157 rfl rfl) rfl (RL.s (Vl.ld 0 hS isAgg157 rfl rfl rfl) rfl (pn 1 rfl (RL.e (OW.buildSliceR (sz := 1) (cs := [.iface 81 (.agg #[.int .i64 a3.at_, .int .i64 a3.why])]) hS underlying157 zeroValue83 sizeOf83 (parts := [(0, .tmp 39)]) rfl rfl (by decide) (by decide) (by kernel_rfl)) rfl rfl ?_))))))))))
  rintro _ w ⟨b48, rfl, hS⟩
  refine RL.e (OW.appendL (k := 1) (es := [.iface 81 (.agg #[.int .i64 a3.at_, .int .i64 a3.why])]) 2 0 hS rfl rfl underlying157 type83 rfl rfl rfl rfl (by decide) (by decide) rfl rfl rfl (by decide) rfl rfl rfl) rfl rfl ?_
  rintro _ w ⟨A49, c50, rfl, hS⟩
  have hS : St B w (_ :: _ :: _ :: _ :: l) hf := hS
  refine pn 1 rfl (RL.s (Vl.fa 0 underlying188 rfl sizeOf157 rfl rfl) rfl (RL.e0 (OW.store (vs := [.slice A49 1 c50]) 2 hS rfl rfl rfl rfl sizeOf157 rfl rfl rfl rfl) rfl ?_))
  rintro _ w ⟨rfl, hS⟩
  have hS : St B w (_ :: _ :: Cl _ [_] _ :: _ :: l) hf := hS
  refine RL.nil (RQ.inB_n (RQ.then_n (RC.region (pn 2 rfl (ln (RQ.round (sr (pn 1 rfl (ln (RC.seq (RC.condT rfl (RC.skip ?_))))))))))))
  refine RQ.then_n (RC.seq (RC.block (sr (RL.s (Vl.indexAddr (a'' := (ad A1).add 1) underlying157 sizeOf83 rfl rfl (hS.litAdr 3 rfl (by decide)) (by decide) (by decide) rfl) rfl (RL.s (Vl.load isAgg83 rfl (hS.litCell 3 rfl rfl)) rfl (pn 1 rfl (lnsr (pn 1 rfl (RL.s (Vl.bin (v := .bool true) rfl rfl (by kernel_rfl)) rfl (ln ?_))))))))))
  refine RC.condT rfl (RC.region (pn 3 rfl (RL.s (Vl.fa 0 underlying188 rfl sizeOf157 rfl rfl) rfl (RL.s (Vl.ld 2 hS isAgg157 rfl rfl rfl) rfl (pn 1 rfl (RL.e (OW.buildSliceR (sz := 1) (cs := [.iface 32 (.int .i64 a4)]) hS underlying157 zeroValue83 sizeOf83 (parts := [(0, .tmp 39)]) rfl rfl (by decide) (by decide) (by kernel_rfl)) rfl rfl ?_))))))
  rintro _ w ⟨b54, rfl, hS⟩
  refine RL.e (OW.appendL (k := 2) (es := [.iface 81 (.agg #[.int .i64 a3.at_, .int .i64 a3.why]), .iface 32 (.int .i64 a4)]) 1 0 hS rfl rfl underlying157 type83 rfl rfl rfl rfl (by decide) (by decide) rfl rfl rfl (by decide) rfl rfl rfl) rfl rfl ?_
  rintro _ w ⟨A55, c56, rfl, hS⟩
  have hS : St B w (_ :: _ :: _ :: _ :: _ :: l) hf := hS
  refine pn 1 rfl (RL.s (Vl.fa 0 underlying188 rfl sizeOf157 rfl rfl) rfl (RL.e0 (OW.store (vs := [.slice A55 2 c56]) 3 hS rfl rfl rfl rfl sizeOf157 rfl rfl rfl rfl) rfl ?_))
  rintro _ w ⟨rfl, hS⟩
  have hS : St B w (_ :: _ :: _ :: Cl _ [_] _ :: _ :: l) hf := hS
  refine RL.nil (RQ.inB_n (RQ.then_n (RC.region (pn 2 rfl (ln (RQ.round (sr (pn 1 rfl (ln (RC.seq (RC.condF rfl (RC.exit ?_))))))))))))
  refine RQ.exitT (RQ.exitT (RQ.inB_hit (tsr (pn 1 rfl (RL.s (Vl.makeIface underlying186 rfl rfl) rfl (pn 1 rfl (lr ?_)))))))
  obtain rfl := h.some
  exact rt results69 rfl ⟨b32, A55, c56, rfl, hS.d1.d1.p1⟩

/-! ### isochron/model.programs: function 42 -/
noncomputable def model_programs.l2b (a1 : api_Model) : Int → Option ((Int) ⊕ ((model_flaw × Int) ⊕ (Unit)))
  | (x150) => (if x150 < (a1.Progs.length : Int) then (if 0 ≤ x150 then ((code_Check.f (nth a1.Progs x150)).bind fun t210 => (if t210 = 0 then some (.inl (IntKind.i64.wrap (x150 + 1))) else ((errors_Join.f (⟨x150, 130⟩ : model_flaw) t210).bind fun (y216, y217) => some (.inr (.inl (y216, y217)))))) else none) else some (.inr (.inr (()))))
noncomputable def model_programs.l2 (a1 : api_Model) (s : Int) : Option ((model_flaw × Int) ⊕ (Unit)) := loopR (model_programs.l2b a1) s
noncomputable def model_programs.f (a1 : api_Model) : Option ((model_flaw × Int) ⊕ (Unit)) := model_programs.l2 a1 (0)
theorem model_programs.ok {a1 : api_Model} {A2 : Option Addr} {c3 : Nat} {A5 : Option Addr} {c6 : Nat} {A8 : Option Addr} {c9 : Nat} (hr4 : SlR (Rep.sl E_api_Instr.rep) hf A2 c3 a1.Progs) (hr7 : SlR E_api_Link.rep hf A5 c6 a1.Links) (hr10 : SlR E_api_Start.rep hf A8 c9 a1.Starts) {r : (model_flaw × Int) ⊕ (Unit)} (h : model_programs.f a1 = some r) (hS : St B w (l) hf) :
    Calls prog 42 #[.agg #[.slice A2 a1.Progs.length c3, .slice A5 a1.Links.length c6, .slice A8 a1.Starts.length c9, .int .u64 a1.Seed, .int .i64 a1.End, .int .i64 a1.Budget]] w (Ret fun v w => match (generalizing := false) r with | .inl r_ => ∃ (b_1 : Nat) (A_2 : Option Addr) (c_3 : Nat), v = .iface 186 (.pointer (some ⟨b_1, 0, none⟩)) ∧ St B w (Cl b_1 [.slice A_2 2 c_3] 188 :: OSl 83 1 (.slice A_2 2 c_3) 2 [.iface 81 (.agg #[.int .i64 r_.1.at_, .int .i64 r_.1.why]), .iface 32 (.int .i64 r_.2)] :: l) hf | .inr (r_) => v = .nilIface ∧ St B w (l) hf) := by
  have h := Holds.of h
  refine en func42 rfl ntmps42 rfl (sr (bx hS rfl rfl rfl rfl fun b116 w hS => pn 1 rfl (ln (RC.seq (sr (RL.s (Vl.fa 0 underlying27 rfl sizeOf22 rfl rfl) rfl (RL.s (Vl.ld 0 hS isAgg22 rfl rfl rfl) rfl (RL.s (Vl.lenSl underlying22 rfl) rfl (pn 1 rfl (ln ?_))))))))))
  refine RC.block ?_
  refine fun a ha => RC.loop (N := 26) (body := (model_programs.l2b a1)) (φ := (· = r)) (fun (s : Int) a w => ∃ (x150 : Int), s = (x150) ∧ Has 26 [(7, .slice A2 a1.Progs.length c3), (8, .int .i64 (a1.Progs.length : Int)), (9, .int .i64 x150)] a ∧ St B w (l) hf) ?_ (s0 := (0)) h ⟨0, rfl, ha.to ⟨rfl, rfl, rfl, trivial⟩, hS.d0⟩
  rintro G186 x150 a w ⟨_, rfl, ha, hS⟩ h
  revert a
  show RC _ _ _ _ _ _
  refine sr (pn 1 rfl (ln (RC.seq ?_)))
  refine RC.iteP 10 rfl h (fun hc188 h => ?_) fun hc188 h => ?_
  next =>
   refine RC.condT rfl (sk (RC.seq (RC.block (sr (pn 1 rfl ?_)))))
   obtain ⟨hq205, h⟩ := h.req
   refine RL.s (Vl.indexAddr underlying22 sizeOf100 rfl rfl (hr4.2.adr hq205 hc188) hq205 hc188 rfl) rfl ?_
   obtain ⟨_, _, ⟨A206, c207, rfl, hr208⟩, hl209⟩ := hr4.2.elem hq205 hc188
   refine RL.s (Vl.load isAgg100 rfl (cellH_world hS.sub (hl209 0 _ rfl))) rfl (pn 2 rfl (lnsr (pn 1 rfl (cF (fun _ hg => code_Check.ok hr208 hg hS) call68 h rfl rfl rfl ?_))))
   rintro t210 h _ w ⟨rfl, hS⟩
   refine pn 1 rfl (lnsr (pn 2 rfl (ln ?_)))
   refine RC.iteN 17 rfl h (fun hc212 h => ?_) fun hc212 h => ?_
   next =>
    refine RC.condF rfl (RC.skip (RQ.inB_n (RQ.then_n (RC.region (pn 2 rfl (RL.nil ?_))))))
    exact fun a ha => ⟨(IntKind.i64.wrap (x150 + 1)), ⟨(IntKind.i64.wrap (x150 + 1)), rfl, ha.to ⟨rfl, rfl, rfl, trivial⟩, hS⟩, h.some⟩
   next =>
    refine RC.condT rfl (sr (pn 1 rfl (RL.s (Vl.build (v := .agg #[.int .i64 x150, .int .i64 130]) (parts := [(0, .tmp 18), (1, .const (.int .i64 130))]) rfl (by kernel_rfl)) rfl (RL.s (Vl.makeIface underlying81 rfl rfl) rfl (pn 1 rfl (RL.s (Vl.makeIface underlying32 rfl rfl) rfl (RL.e (OW.buildSliceR (sz := 1) (cs := [.iface 81 (.agg #[.int .i64 x150, .int .i64 130]), .iface 32 (.int .i64 t210)]) hS underlying157 zeroValue83 sizeOf83 (parts := [(0, .tmp 20), (1, .tmp 22)]) rfl rfl (by decide) (by decide) (by kernel_rfl)) rfl rfl ?_)))))))
    rintro _ w ⟨b213, rfl, hS⟩
    refine cF (fun _ hg => errors_Join.ok hg hS) call69 h rfl rfl rfl ?_
    rintro ⟨y216, y217⟩ h _ w ⟨b218, A219, c220, rfl, hS⟩
    refine pn 1 rfl (lr (RQ.inB_ret (RQ.ret ?_)))
    have h := h.inrS
    refine RQ.ret (RQ.inB_ret (RQ.ret ?_))
    obtain rfl := h.some
    exact rt results42 rfl ⟨b218, A219, c220, rfl, hS.d2⟩
  next =>
   refine RC.condF rfl (RC.exit (RQ.exitT ?_))
   have h := h.inrS
   refine RQ.exitT (RQ.inB_hit (tsr (pn 1 rfl (lr ?_))))
   obtain rfl := h.some
   exact rt results42 rfl ⟨rfl, hS⟩

/-! ### (*errors.joinError).Unwrap: function 170 -/
noncomputable def errors_joinError_Unwrap.f (a4 : model_flaw) (a5 : Int) : Option (Unit) := some ()
theorem errors_joinError_Unwrap.ok {a4 : model_flaw} {a5 : Int} {b1 : Nat} {A2 : Option Addr} {c3 : Nat} {r : Unit} (h : errors_joinError_Unwrap.f a4 a5 = some r) (hS : St B w (OSl 83 1 (.slice A2 2 c3) 2 [.iface 81 (.agg #[.int .i64 a4.at_, .int .i64 a4.why]), .iface 32 (.int .i64 a5)] :: Cl b1 [.slice A2 2 c3] 188 :: l) hf) :
    Calls prog 170 #[.pointer (some ⟨b1, 0, none⟩)] w (Ret fun v w => v = .slice A2 2 c3 ∧ St B w (OSl 83 1 (.slice A2 2 c3) 2 [.iface 81 (.agg #[.int .i64 a4.at_, .int .i64 a4.why]), .iface 32 (.int .i64 a5)] :: Cl b1 [.slice A2 2 c3] 188 :: l) hf) := by
  have h := Holds.of h
  refine en func170 rfl ntmps170 rfl (sr (pn 1 rfl (lnsr (pn 2 rfl (RL.s (Vl.fa 0 underlying188 rfl sizeOf157 rfl rfl) rfl (RL.s (Vl.ld 1 hS isAgg157 rfl rfl rfl) rfl (pn 1 rfl (lr ?_))))))))
  exact rt results170 rfl ⟨rfl, hS⟩

/-! ### errors.as: function 48 -/
noncomputable def errors_as_3.f (a1 a3 : model_flaw) : Option (Bool × model_flaw) := some (true, a1)
theorem errors_as_3.ok {a1 a3 : model_flaw} {b2 b4 : Nat} {r : Bool × model_flaw} (h : errors_as_3.f a1 a3 = some r) (hS : St B w (Cl b2 [.int .i64 a3.at_, .int .i64 a3.why] 81 :: Cl b4 [.pointer (some ⟨b2, 0, none⟩)] 85 :: l) hf) :
    Calls prog 48 #[.iface 81 (.agg #[.int .i64 a1.at_, .int .i64 a1.why]), .iface 85 (.pointer (some ⟨b2, 0, none⟩)), .agg #[.pointer (some ⟨1, 85, none⟩), .pointer (some ⟨b4, 0, none⟩), .int .u64 150], .iface 148 (.agg #[.pointer (some ⟨1, 81, none⟩)])] w (Ret fun v w => v = .bool r.1 ∧ St B w (Cl b2 [.int .i64 r.2.at_, .int .i64 r.2.why] 81 :: Cl b4 [.pointer (some ⟨b2, 0, none⟩)] 85 :: l) hf) := by
  have h := Holds.of h
  refine en func48 rfl ntmps48 rfl (sr (bx hS rfl rfl rfl rfl fun b8 w hS => pn 1 rfl (ln (RC.block (RC.unroll (RQ.round (RC.block (RC.seq (sr (pn 1 rfl (RL.s (Vl.extern (ls := [.tmp 16]) (v := .iface 148 (.agg #[.pointer (some ⟨1, 81, none⟩)])) rfl func49 (by kernel_rfl) (by kernel_rfl) (by kernel_rfl) (e := Extern.ReflectliteType.typeOf) (by kernel_rfl) (fun w => by kernel_rfl)) rfl ?_)))))))))))
  refine pn 1 rfl (RL.s (Vl.invokeX (F := 158) (ls := [.tmp 18]) (v := .bool true) (u' := .agg #[.pointer (some ⟨1, 81, none⟩)]) rfl rfl (fun w => by kernel_rfl) func158 (by kernel_rfl) (by kernel_rfl) (by kernel_rfl) (e := (Extern.ReflectliteType.relation "AssignableTo" Extern.ReflectliteType.assignableTo)) (by kernel_rfl) (fun w => by kernel_rfl)) rfl (ln (RC.condT rfl (sr (RL.s (Vl.lw 0 hS isAgg109 sizeOf109 rfl rfl rfl) rfl (RL.s (Vl.externAt (ls := [.tmp 20]) (v := .agg #[.pointer (some ⟨1, 81, none⟩), .pointer (some ⟨b2, 0, none⟩), .int .u64 409]) rfl func71 (by kernel_rfl) (by kernel_rfl) (by kernel_rfl) (e := Extern.ReflectliteValue.method (Extern.ReflectliteValue.valueError "reflectlite.Value.Elem" 0) Extern.ReflectliteValue.elem) (by kernel_rfl) (run_elemV (n := 150) (a := ⟨b4, 0, none⟩) (fun w => by kernel_rfl) underlying85 rfl (hS.cell 2 rfl rfl) (fun w => by kernel_rfl) (fun w => by kernel_rfl))) rfl (pn 1 rfl (RL.e (OW.externNew (ls := [.tmp 22]) (cs := [.int .i64 a1.at_, .int .i64 a1.why]) (T := 81) (v := fun b => .agg #[.pointer (some ⟨1, 81, none⟩), .pointer (some ⟨b, 0, none⟩), .int .u64 153]) hS rfl func45 (by kernel_rfl) (by kernel_rfl) (by kernel_rfl) (e := fun args => Extern.ReflectliteValue.unpack (args.getD 0 (.tuple #[]))) (by kernel_rfl) (fun w => by kernel_rfl)) rfl rfl ?_))))))))
  rintro _ w ⟨b10, rfl, hS⟩
  refine RL.e (OW.setV (ls := [.tmp 21, .tmp 23]) (val := .agg #[.int .i64 a1.at_, .int .i64 a1.why]) (vs := [.int .i64 a1.at_, .int .i64 a1.why]) (n := 409) (m := 153) (a2 := ⟨b10, 0, none⟩) 2 hS rfl rfl func72 (by kernel_rfl) (by kernel_rfl) (by kernel_rfl) (by kernel_rfl) (fun w => by kernel_rfl) (fun w => by kernel_rfl) rfl (fun w => by kernel_rfl) (run_loadVarA (vs := [.int .i64 a1.at_, .int .i64 a1.why]) isAgg81 sizeOf81 rfl (hS.cellsAt 0 rfl rfl)) rfl sizeOf81 rfl rfl rfl rfl) rfl rfl ?_
  rintro _ w ⟨rfl, hS⟩
  have hS : St B w (_ :: _ :: _ :: _ :: l) hf := hS
  refine lnsr (pn 1 rfl (lr (RQ.ret (RQ.inB_ret (RQ.ret (RQ.inB_ret ?_))))))
  obtain rfl := h.some
  exact rt results48 rfl ⟨rfl, hS.d0.d0⟩

/-! ### errors.as: function 48 -/
noncomputable def errors_as_2.f (a4 : model_flaw) (a5 : Int) (a7 : model_flaw) : Option (Bool × model_flaw) := ((errors_joinError_Unwrap.f a4 a5).bind fun _ => ((errors_as_3.f a4 a7).bind fun (y38, y39) => (if y38 = true then some (true, y39) else ((errors_as.f a5 y39).bind fun t44 => (if t44 = true then some (true, y39) else some (false, y39))))))
theorem errors_as_2.ok {a4 : model_flaw} {a5 : Int} {a7 : model_flaw} {b1 : Nat} {A2 : Option Addr} {c3 b6 b8 : Nat} {r : Bool × model_flaw} (h : errors_as_2.f a4 a5 a7 = some r) (hS : St B w (OSl 83 1 (.slice A2 2 c3) 2 [.iface 81 (.agg #[.int .i64 a4.at_, .int .i64 a4.why]), .iface 32 (.int .i64 a5)] :: Cl b1 [.slice A2 2 c3] 188 :: Cl b6 [.int .i64 a7.at_, .int .i64 a7.why] 81 :: Cl b8 [.pointer (some ⟨b6, 0, none⟩)] 85 :: l) hf) :
    Calls prog 48 #[.iface 186 (.pointer (some ⟨b1, 0, none⟩)), .iface 85 (.pointer (some ⟨b6, 0, none⟩)), .agg #[.pointer (some ⟨1, 85, none⟩), .pointer (some ⟨b8, 0, none⟩), .int .u64 150], .iface 148 (.agg #[.pointer (some ⟨1, 81, none⟩)])] w (Ret fun v w => v = .bool r.1 ∧ St B w (OSl 83 1 (.slice A2 2 c3) 2 [.iface 81 (.agg #[.int .i64 a4.at_, .int .i64 a4.why]), .iface 32 (.int .i64 a5)] :: Cl b1 [.slice A2 2 c3] 188 :: Cl b6 [.int .i64 r.2.at_, .int .i64 r.2.why] 81 :: Cl b8 [.pointer (some ⟨b6, 0, none⟩)] 85 :: l) hf) := by
  have h := Holds.of h
  refine en func48 rfl ntmps48 rfl (sr (bx hS rfl rfl rfl rfl fun b28 w hS => pn 1 rfl (ln (RC.block (RC.unroll (RQ.round (RC.block (RC.seq (sr (pn 1 rfl (RL.s (Vl.extern (ls := [.tmp 16]) (v := .iface 148 (.agg #[.pointer (some ⟨1, 186, none⟩)])) rfl func49 (by kernel_rfl) (by kernel_rfl) (by kernel_rfl) (e := Extern.ReflectliteType.typeOf) (by kernel_rfl) (fun w => by kernel_rfl)) rfl ?_)))))))))))
  refine pn 1 rfl (RL.s (Vl.invokeX (F := 158) (ls := [.tmp 18]) (v := .bool false) (u' := .agg #[.pointer (some ⟨1, 186, none⟩)]) rfl rfl (fun w => by kernel_rfl) func158 (by kernel_rfl) (by kernel_rfl) (by kernel_rfl) (e := (Extern.ReflectliteType.relation "AssignableTo" Extern.ReflectliteType.assignableTo)) (by kernel_rfl) (fun w => by kernel_rfl)) rfl (ln (RC.condF rfl (sk (RC.seq (sr (pn 1 rfl (RL.s (Vl.tassert (r := .tuple #[.nilIface, .bool false]) rfl (fun w => run_typeAssert_lacksB underlying152 (by kernel_rfl) (by kernel_rfl) _ _ w)) rfl (pn 5 rfl (ln (RC.seq ?_)))))))))))
  refine RC.region (pn 6 rfl (ln (RC.condF rfl (sk (sr (pn 1 rfl (ln (RC.block (sr (RL.s (Vl.tassert (r := .tuple #[.nilIface, .bool false]) rfl (fun w => run_typeAssert_lacksB underlying155 (by kernel_rfl) (by kernel_rfl) _ _ w)) rfl ?_))))))))))
  refine pn 2 rfl (ln (RC.condF rfl (sr (RL.s (Vl.tassert (r := .tuple #[.iface 186 (.pointer (some ⟨b1, 0, none⟩)), .bool true]) rfl (fun w => run_typeAssert_hasB underlying156 (by kernel_rfl) _ _ w)) rfl (pn 2 rfl (ln (RC.condT rfl (sr (pn 1 rfl (ln ?_))))))))))
  refine RC.seq (sr (pn 1 rfl ?_))
  obtain ⟨t29, hg30, h⟩ := h.bind
  have hc := errors_joinError_Unwrap.ok hg30 hS.p2.p2
  refine RL.e (OW.invoke (F := 170) (u' := .pointer (some ⟨b1, 0, none⟩)) (ls := []) rfl rfl (fun w => by kernel_rfl) call170 rfl hc) rfl rfl ?_
  rintro _ w ⟨rfl, hS⟩
  refine RL.s (Vl.lenSl underlying157 rfl) rfl (pn 1 rfl (ln (RC.block (RC.unroll (RQ.round (sr (pn 1 rfl (ln (RC.seq (RC.condT rfl (sk ?_)))))))))))
  refine RC.seq (RC.block (sr (RL.s (Vl.indexAddr (a'' := (ad A2).add 0) underlying157 sizeOf83 rfl rfl (hS.litAdr 0 rfl (by decide)) (by decide) (by decide) rfl) rfl (RL.s (Vl.load isAgg83 rfl (hS.litCell 0 rfl rfl)) rfl (pn 1 rfl (ln (RC.seq (sr (pn 1 rfl (RL.s (Vl.bin (v := .bool false) rfl rfl (by kernel_rfl)) rfl (ln ?_)))))))))))
  refine RC.condF rfl (sk (sr (pn 2 rfl (RL.s (Vl.lw 2 hS isAgg109 sizeOf109 rfl rfl rfl) rfl (pn 1 rfl (cF (fun _ hg => errors_as_3.ok hg hS.p4.p4) call48 h rfl rfl rfl ?_))))))
  rintro ⟨y38, y39⟩ h _ w ⟨rfl, hS⟩
  refine ln ?_
  refine RC.iteB 60 rfl h (fun hc40 h => ?_) fun hc40 h => ?_
  next =>
   refine RC.condT rfl (sr (pn 1 rfl (lr (RQ.inB_ret (RQ.ret (RQ.ret (RQ.inB_ret (RQ.ret (RQ.inB_ret (RQ.inB_ret (RQ.ret (RQ.inB_ret ?_))))))))))))
   obtain rfl := h.some
   exact rt results48 rfl ⟨rfl, hS.d4.p3.p3⟩
  next =>
   refine RC.condF rfl (RC.skip (RQ.inB_n (RQ.then_n (RC.region (pn 2 rfl (ln (RQ.round (sr (pn 1 rfl (ln (RC.seq (RC.condT rfl ?_))))))))))))
   refine sk (RC.seq (RC.block (sr (RL.s (Vl.indexAddr (a'' := (ad A2).add 1) underlying157 sizeOf83 rfl rfl (hS.litAdr 2 rfl (by decide)) (by decide) (by decide) rfl) rfl (RL.s (Vl.load isAgg83 rfl (hS.litCell 2 rfl rfl)) rfl (pn 1 rfl (ln (RC.seq (sr (pn 1 rfl (RL.s (Vl.bin (v := .bool false) rfl rfl (by kernel_rfl)) rfl ?_)))))))))))
   refine ln (RC.condF rfl (sk (sr (pn 2 rfl (RL.s (Vl.lw 4 hS isAgg109 sizeOf109 rfl rfl rfl) rfl (pn 1 rfl (cF (fun _ hg => errors_as.ok hg hS) call48 h rfl rfl rfl ?_)))))))
   rintro t44 h _ w ⟨rfl, hS⟩
   refine ln ?_
   refine RC.iteB 60 rfl h (fun hc46 h => ?_) fun hc46 h => ?_
   next =>
    refine RC.condT rfl (sr (pn 1 rfl (lr (RQ.inB_ret (RQ.ret (RQ.ret (RQ.inB_ret (RQ.ret (RQ.inB_ret (RQ.inB_ret (RQ.ret (RQ.inB_ret ?_))))))))))))
    obtain rfl := h.some
    exact rt results48 rfl ⟨rfl, hS.d4.p3.p3⟩
   next =>
    refine RC.condF rfl (RC.skip (RQ.inB_n (RQ.then_n (RC.region (pn 2 rfl (ln (RQ.round (sr (pn 1 rfl (ln (RC.seq (RC.condF rfl ?_))))))))))))
    refine RC.exit (RQ.exitT (RQ.exitT (RQ.inB_hit (tsr (pn 1 rfl (lr (RQ.inB_ret (RQ.inB_ret (RQ.ret (RQ.inB_ret ?_))))))))))
    obtain rfl := h.some
    exact rt results48 rfl ⟨rfl, hS.d4.p3.p3⟩

end Go.Proofs.Gx
