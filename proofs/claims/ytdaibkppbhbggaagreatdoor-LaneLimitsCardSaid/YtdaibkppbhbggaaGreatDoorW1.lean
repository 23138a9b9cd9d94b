/-
  The walks of functions, each with what it computes: printed by wip/gx.py.
-/
import Derived.Test.YtdaibkppbhbggaaGreatDoorW0
set_option linter.unusedVariables false
set_option linter.unusedSimpArgs false
set_option maxRecDepth 100000
set_option maxHeartbeats 4000000
namespace Go.Proofs.Gx
open Go.Sl Tryz
variable {B : Base} {w : World} {l : List HProp} {hf : Hp}
noncomputable section
def isochronlaw17vwide.f  : Option (api_Caps) := some (⟨1000, 4096, 4096⟩ : api_Caps)
theorem isochronlaw17vwide.ok {r : api_Caps} (h : isochronlaw17vwide.f = some r) (hS : St B w (l) hf) :
    Calls prog 9 #[] w (Ret fun v w => v = .agg (C_api_Caps r).toArray ∧ St B w (l) hf) := by
  have h := Holds.of h
  refine en func9 rfl ntmps9 rfl (sr (al hS zeroValue33 rfl rfl rfl fun b2 w hS => lnsr (RL.s (Vl.build (v := .agg #[.int .i64 1000, .int .i64 4096, .int .i64 4096]) (parts := [(0, .const (.int .i64 1000)), (1, .const (.int .i64 4096)), (2, .const (.int .i64 4096))]) rfl (by kernel_rfl)) rfl (RL.e0 (OW.store (vs := [.int .i64 1000, .int .i64 4096, .int .i64 4096]) 0 hS rfl rfl rfl rfl sizeOf33 rfl rfl rfl rfl) rfl ?_))))
  rintro _ w ⟨rfl, hS⟩
  have hS : St B w (Cl _ [_, _, _] _ :: l) hf := hS
  refine lr ?_
  obtain rfl := h.some
  refine RQ.ret0 (vs := [.agg #[.int .i64 1000, .int .i64 4096, .int .i64 4096]]) results9 ⟨⟨_, rfl, run_loadVarA (vs := [.int .i64 1000, .int .i64 4096, .int .i64 4096]) isAgg33 sizeOf33 rfl (hS.cellsAt 0 rfl rfl)⟩, trivial⟩ ?_
  exact ⟨rfl, hS.d0⟩
def model_rules.f  : Option (Unit) := some ()
theorem model_rules.ok {r : Unit} (h : model_rules.f = some r) (hS : St B w (l) hf) :
    Calls prog 42 #[] w (Ret fun v w => v = .agg #[.func (.func 83) #[] #[], .func (.func 84) #[] #[], .func (.func 85) #[] #[], .func (.func 86) #[] #[]] ∧ St B w (l) hf) := by
  have h := Holds.of h
  refine en func42 rfl ntmps42 rfl (sr (al hS zeroValue103 rfl rfl rfl fun b2 w hS => lnsr (RL.s (Vl.build (v := .agg #[.func (.func 83) #[] #[]]) (parts := [(0, .func 83)]) rfl (by kernel_rfl)) rfl (RL.s (Vl.build (v := .agg #[.func (.func 84) #[] #[]]) (parts := [(0, .func 84)]) rfl (by kernel_rfl)) rfl (RL.s (Vl.build (v := .agg #[.func (.func 85) #[] #[]]) (parts := [(0, .func 85)]) rfl (by kernel_rfl)) rfl (RL.s (Vl.build (v := .agg #[.func (.func 86) #[] #[]]) (parts := [(0, .func 86)]) rfl (by kernel_rfl)) rfl (RL.s (Vl.build (v := .agg #[.func (.func 83) #[] #[], .func (.func 84) #[] #[], .func (.func 85) #[] #[], .func (.func 86) #[] #[]]) (parts := [(0, .tmp 1), (1, .tmp 2), (2, .tmp 3), (3, .tmp 4)]) rfl (by kernel_rfl)) rfl (RL.e0 (OW.store (vs := [.func (.func 83) #[] #[], .func (.func 84) #[] #[], .func (.func 85) #[] #[], .func (.func 86) #[] #[]]) 0 hS rfl rfl rfl rfl sizeOf103 rfl rfl rfl rfl) rfl ?_))))))))
  rintro _ w ⟨rfl, hS⟩
  have hS : St B w (Cl _ [_, _, _, _] _ :: l) hf := hS
  refine lr ?_
  have e := h.some
  refine RQ.ret0 (vs := [.agg #[.func (.func 83) #[] #[], .func (.func 84) #[] #[], .func (.func 85) #[] #[], .func (.func 86) #[] #[]]]) results42 ⟨⟨_, rfl, run_loadVarA (vs := [.func (.func 83) #[] #[], .func (.func 84) #[] #[], .func (.func 85) #[] #[], .func (.func 86) #[] #[]]) isAgg103 sizeOf103 rfl (hS.cellsAt 0 rfl rfl)⟩, trivial⟩ ?_
  exact ⟨rfl, hS.d0⟩
def vtime_Valid.f (a1 : Int) : Option (Bool) := (if 0 ≤ a1 then some (decide (a1 ≤ 4611686018427387903)) else some false)
theorem vtime_Valid.ok {a1 : Int} {r : Bool} (h : vtime_Valid.f a1 = some r) (hS : St B w (l) hf) :
    Calls prog 73 #[.int .i64 a1] w (Ret fun v w => v = .bool r ∧ St B w (l) hf) := by
  have h := Holds.of h
  refine en func73 rfl ntmps73 rfl (sr (pn 1 rfl (lnsr (pn 3 rfl ?_))))
  refine RL.iteP 5 rfl h (fun hc3 h => ?_) fun hc3 h => ?_
  next =>
   refine pn 4 rfl (lr ?_)
   obtain rfl := h.some
   exact rt results73 rfl ⟨rfl, hS⟩
  refine pn 4 rfl (lr ?_)
  obtain rfl := h.some
  exact rt results73 rfl ⟨rfl, hS⟩
def model_sizes.f (a1 : api_Model) : Option ((Int) ⊕ (Unit)) := (if (a1.Progs.length : Int) < 1 then some (.inl 1) else (if 16 < (a1.Progs.length : Int) then some (.inl 1) else ((vtime_Valid.f a1.End).bind fun t22 => (if t22 = true then (if a1.Budget < 0 then some (.inl 1) else (if 4096 < a1.Budget then some (.inl 1) else some (.inr (())))) else some (.inl 1)))))
theorem model_sizes.ok {a1 : api_Model} {A2 : Option Addr} {c3 : Nat} {A5 : Option Addr} {c6 : Nat} {A8 : Option Addr} {c9 : Nat} (hr4 : SlR (Rep.sl E_api_Instr.rep) hf A2 c3 a1.Progs) (hr7 : SlR E_api_Link.rep hf A5 c6 a1.Links) (hr10 : SlR E_api_Start.rep hf A8 c9 a1.Starts) {r : (Int) ⊕ (Unit)} (h : model_sizes.f a1 = some r) (hS : St B w (l) hf) :
    Calls prog 83 #[.agg (C_api_Model a1 A2 c3 A5 c6 A8 c9).toArray] w (Ret fun v w => match (generalizing := false) r with | .inl r_ => v = .iface 29 (.int .i64 r_) ∧ St B w (l) hf | .inr (r_) => v = .nilIface ∧ St B w (l) hf) := by
  have h := Holds.of h
  refine en func83 rfl ntmps83 rfl (sr (bx hS rfl rfl rfl rfl fun b19 w hS => pn 1 rfl (ln (RC.seq (sr (RL.s (Vl.fa 0 underlying27 rfl sizeOf22 rfl rfl) rfl (RL.s (Vl.ld 0 hS isAgg22 rfl rfl rfl) rfl (RL.s (Vl.lenSl underlying22 rfl) rfl (pn 2 rfl ?_)))))))))
  refine RL.iteP 7 rfl h (fun hc20 h => ?_) fun hc20 h => ?_
  next =>
   refine pn 21 rfl (ln (RC.condT rfl (sr (RL.s (Vl.makeIface underlying29 rfl rfl) rfl (pn 1 rfl (lr (RQ.ret ?_)))))))
   obtain rfl := h.some
   exact rt results83 rfl ⟨rfl, hS.d0⟩
  refine RL.sg (Vl.fa 0 underlying27 rfl sizeOf22 rfl rfl) rfl rfl (RL.sg (Vl.ld 0 hS isAgg22 rfl rfl rfl) rfl rfl (RL.sg (Vl.lenSl underlying22 rfl) rfl rfl (pn 3 rfl ?_)))
  refine RL.iteP 13 rfl h (fun hc21 h => ?_) fun hc21 h => ?_
  next =>
   refine pn 15 rfl (ln (RC.condT rfl (sr (RL.s (Vl.makeIface underlying29 rfl rfl) rfl (pn 1 rfl (lr (RQ.ret ?_)))))))
   obtain rfl := h.some
   exact rt results83 rfl ⟨rfl, hS.d0⟩
  refine RL.sg (Vl.fa 4 underlying27 rfl sizeOf2 rfl rfl) rfl rfl (RL.sg (Vl.ld 0 hS isAgg2 rfl rfl rfl) rfl rfl (cF (fun _ hg => vtime_Valid.ok hg hS) call73 h rfl rfl rfl ?_))
  rintro t22 h _ w ⟨rfl, hS⟩
  refine pn 3 rfl ?_
  refine RL.iteM 19 rfl h (fun hc24 h => ?_) fun hc24 h => ?_
  next =>
   refine RL.sg (Vl.fa 5 underlying27 rfl sizeOf3 rfl rfl) rfl rfl (RL.sg (Vl.ld 0 hS isAgg3 rfl rfl rfl) rfl rfl (pn 3 rfl ?_))
   refine RL.iteP 24 rfl h (fun hc25 h => ?_) fun hc25 h => ?_
   next =>
    refine pn 4 rfl (ln (RC.condT rfl (sr (RL.s (Vl.makeIface underlying29 rfl rfl) rfl (pn 1 rfl (lr (RQ.ret ?_)))))))
    obtain rfl := h.some
    exact rt results83 rfl ⟨rfl, hS.d0⟩
   refine RL.sg (Vl.fa 5 underlying27 rfl sizeOf3 rfl rfl) rfl rfl (RL.sg (Vl.ld 0 hS isAgg3 rfl rfl rfl) rfl rfl (pn 2 rfl (ln ?_)))
   refine RC.iteP 28 rfl h (fun hc26 h => ?_) fun hc26 h => ?_
   next =>
    refine RC.condT rfl (sr (RL.s (Vl.makeIface underlying29 rfl rfl) rfl (pn 1 rfl (lr (RQ.ret ?_)))))
    obtain rfl := h.some
    exact rt results83 rfl ⟨rfl, hS.d0⟩
   refine RC.condF rfl (sk (sr (pn 1 rfl (lr ?_))))
   obtain rfl := h.some
   exact rt results83 rfl ⟨rfl, hS.d0⟩
  refine pn 9 rfl (ln (RC.condT rfl (sr (RL.s (Vl.makeIface underlying29 rfl rfl) rfl (pn 1 rfl (lr (RQ.ret ?_)))))))
  obtain rfl := h.some
  exact rt results83 rfl ⟨rfl, hS.d0⟩
def errors_as.f (a1 : Int) (a3 : model_flaw) : Option (Bool) := some false
theorem errors_as.ok {a1 : Int} {a3 : model_flaw} {b2 b4 : Nat} {r : Bool} (h : errors_as.f a1 a3 = some r) (hS : St B w (Cl b2 [.int .i64 a3.at_, .int .i64 a3.why] 106 :: Cl b4 [.pointer (some ⟨b2, 0, none⟩)] 110 :: l) hf) :
    Calls prog 90 #[.iface 29 (.int .i64 a1), .iface 110 (.pointer (some ⟨b2, 0, none⟩)), .agg #[.pointer (some ⟨1, 110, none⟩), .pointer (some ⟨b4, 0, none⟩), .int .u64 150], .iface 215 (.agg #[.pointer (some ⟨1, 106, none⟩)])] w (Ret fun v w => v = .bool r ∧ St B w (Cl b2 [.int .i64 a3.at_, .int .i64 a3.why] 106 :: Cl b4 [.pointer (some ⟨b2, 0, none⟩)] 110 :: l) hf) := by
  have h := Holds.of h
  refine en func90 rfl ntmps90 rfl (sr (bx hS rfl rfl rfl rfl fun b6 w hS => pn 1 rfl (ln (RC.block (RC.unroll (RQ.round (RC.block (RC.seq (sr (pn 1 rfl (RL.s (Vl.extern (ls := [.tmp 16]) (v := .iface 215 (.agg #[.pointer (some ⟨1, 29, none⟩)])) rfl func91 (by kernel_rfl) (by kernel_rfl) (by kernel_rfl) (e := Extern.ReflectliteType.typeOf) (by kernel_rfl) (fun w => by kernel_rfl)) rfl ?_)))))))))))
  refine pn 1 rfl (RL.s (Vl.invokeX (F := 236) (ls := [.tmp 18]) (v := .bool false) (u' := .agg #[.pointer (some ⟨1, 29, none⟩)]) rfl rfl (fun w => by kernel_rfl) func236 (by kernel_rfl) (by kernel_rfl) (by kernel_rfl) (e := (Extern.ReflectliteType.relation "AssignableTo" Extern.ReflectliteType.assignableTo)) (by kernel_rfl) (fun w => by kernel_rfl)) rfl (ln (RC.condF rfl (sk (RC.seq (sr (pn 1 rfl (RL.s (Vl.tassert (r := .tuple #[.nilIface, .bool false]) rfl (fun w => run_typeAssert_lacksB underlying219 (by kernel_rfl) (by kernel_rfl) _ _ w)) rfl (pn 5 rfl (ln (RC.seq ?_)))))))))))
  refine RC.region (pn 6 rfl (ln (RC.condF rfl (sk (sr (pn 1 rfl (ln (RC.block (sr (RL.s (Vl.tassert (r := .tuple #[.nilIface, .bool false]) rfl (fun w => run_typeAssert_lacksB underlying222 (by kernel_rfl) (by kernel_rfl) _ _ w)) rfl ?_))))))))))
  refine pn 2 rfl (ln (RC.condF rfl (sr (RL.s (Vl.tassert (r := .tuple #[.nilIface, .bool false]) rfl (fun w => run_typeAssert_lacksB underlying224 (by kernel_rfl) (by kernel_rfl) _ _ w)) rfl (pn 2 rfl (ln (RC.condF rfl (sr (pn 1 rfl (ln ?_))))))))))
  refine sr (pn 1 rfl (lr (RQ.inB_ret (RQ.inB_ret (RQ.ret (RQ.inB_ret ?_))))))
  obtain rfl := h.some
  exact rt results90 rfl ⟨rfl, hS.d0⟩
def errors_As.f (a1 : Int) (a3 : model_flaw) : Option (Bool) := ((errors_as.f a1 a3).bind fun t10 => some t10)
theorem errors_As.ok {a1 : Int} {a3 : model_flaw} {b2 : Nat} (hG0 : GlobAt hf 0 (.iface 215 (.agg #[.pointer (some ⟨1, 108, none⟩)]))) {r : Bool} (h : errors_As.f a1 a3 = some r) (hS : St B w (Cl b2 [.int .i64 a3.at_, .int .i64 a3.why] 106 :: l) hf) :
    Calls prog 43 #[.iface 29 (.int .i64 a1), .iface 110 (.pointer (some ⟨b2, 0, none⟩))] w (Ret fun v w => v = .bool r ∧ St B w (Cl b2 [.int .i64 a3.at_, .int .i64 a3.why] 106 :: l) hf) := by
  have h := Holds.of h
  refine en func43 rfl ntmps43 rfl (sr (pn 1 rfl (ln (RC.seq (sr (pn 1 rfl (RL.s (Vl.bin (v := .bool false) rfl rfl (by kernel_rfl)) rfl (ln (RC.condF rfl (sk ?_))))))))))
  refine RC.seq (sr (pn 1 rfl (RL.s (Vl.bin (v := .bool false) rfl rfl (by kernel_rfl)) rfl (ln (RC.condF rfl (sk (sr (pn 1 rfl (RL.e (OW.externNew (ls := [.tmp 13]) (cs := [.pointer (some ⟨b2, 0, none⟩)]) (T := 110) (v := fun b => .agg #[.pointer (some ⟨1, 110, none⟩), .pointer (some ⟨b, 0, none⟩), .int .u64 150]) hS rfl func87 (by kernel_rfl) (by kernel_rfl) (by kernel_rfl) (e := fun args => Extern.ReflectliteValue.unpack (args.getD 0 (.tuple #[]))) (by kernel_rfl) (fun w => by kernel_rfl)) rfl rfl ?_)))))))))
  rintro _ w ⟨b8, rfl, hS⟩
  refine al hS zeroValue161 rfl rfl rfl fun b9 w hS => RL.e0 (OW.store (vs := [.pointer (some ⟨1, 110, none⟩), .pointer (some ⟨b8, 0, none⟩), .int .u64 150]) 0 hS rfl rfl rfl rfl sizeOf161 rfl rfl rfl rfl) rfl ?_
  rintro _ w ⟨rfl, hS⟩
  have hS : St B w (Cl _ [_, _, _] _ :: _ :: _ :: l) hf := hS
  refine lnsr (RL.s (Vl.lw 0 hS isAgg161 sizeOf161 rfl rfl rfl) rfl (RL.s (Vl.extern (ls := [.tmp 15]) (v := .iface 215 (.agg #[.pointer (some ⟨1, 110, none⟩)])) rfl func88 (by kernel_rfl) (by kernel_rfl) (by kernel_rfl) (e := Extern.ReflectliteValue.methodAny (Extern.ReflectliteValue.valueError "reflectlite.Value.Type" 0) fun t _ _ _ => Extern.ReflectliteType.toType t) (by kernel_rfl) (fun w => by kernel_rfl)) rfl (pn 1 rfl (ln (RC.seq (sr (pn 1 rfl (RL.s (Vl.invokeX (F := 179) (ls := []) (v := .int .u8 22) (u' := .pointer (some ⟨1, 110, none⟩)) rfl rfl (fun w => by kernel_rfl) func179 (by kernel_rfl) (by kernel_rfl) (by kernel_rfl) (e := (Extern.ReflectliteType.abiMethod fun t => do pure (.int .u8 (← Extern.Rtype.kind t)))) (by kernel_rfl) (fun w => by kernel_rfl)) rfl (pn 2 rfl (RL.sg (Vl.lw 0 hS isAgg161 sizeOf161 rfl rfl rfl) rfl rfl ?_))))))))))
  refine RL.sg (Vl.externAt (ls := [.tmp 21]) (v := .bool false) rfl func89 (by kernel_rfl) (by kernel_rfl) (by kernel_rfl) (e := Extern.ReflectliteValue.method (Extern.ReflectliteValue.valueError "reflectlite.Value.IsNil" 0) Extern.ReflectliteValue.isNil) (by kernel_rfl) (run_isNil (n := 150) (a := ⟨b8, 0, none⟩) (fun w => by kernel_rfl) underlying110 rfl (hS.cell 1 rfl rfl))) rfl rfl (pn 1 rfl (ln (RC.condF rfl (sk (sr (pn 1 rfl (RL.s (Vl.invokeX (F := 238) (ls := []) (v := .iface 215 (.agg #[.pointer (some ⟨1, 106, none⟩)])) (u' := .agg #[.pointer (some ⟨1, 110, none⟩)]) rfl rfl (fun w => by kernel_rfl) func238 (by kernel_rfl) (by kernel_rfl) (by kernel_rfl) (e := (Extern.ReflectliteType.method Extern.ReflectliteType.elem)) (by kernel_rfl) (fun w => by kernel_rfl)) rfl (pn 1 rfl (ln (RC.seq (RC.seq ?_)))))))))))
  refine RC.region (pn 1 rfl (RL.s (Vl.invokeX (F := 179) (ls := []) (v := .int .u8 25) (u' := .pointer (some ⟨1, 106, none⟩)) rfl rfl (fun w => by kernel_rfl) func179 (by kernel_rfl) (by kernel_rfl) (by kernel_rfl) (e := (Extern.ReflectliteType.abiMethod fun t => do pure (.int .u8 (← Extern.Rtype.kind t)))) (by kernel_rfl) (fun w => by kernel_rfl)) rfl (pn 3 rfl (RL.sg (Vl.load isAgg164 rfl (cellH_world hS.sub hG0)) rfl rfl (RL.sg (Vl.invokeX (F := 239) (ls := [.tmp 32]) (v := .bool true) (u' := .agg #[.pointer (some ⟨1, 106, none⟩)]) rfl rfl (fun w => by kernel_rfl) func239 (by kernel_rfl) (by kernel_rfl) (by kernel_rfl) (e := (Extern.ReflectliteType.relation "Implements" Extern.ReflectliteType.implements_)) (by kernel_rfl) (fun w => by kernel_rfl)) rfl rfl (pn 2 rfl (ln (RC.condF rfl (sk (sr (pn 2 rfl (RL.s (Vl.lw 0 hS isAgg161 sizeOf161 rfl rfl rfl) rfl ?_))))))))))))
  refine pn 1 rfl (cF (fun _ hg => errors_as.ok hg hS.p1.p2) call90 h rfl rfl rfl ?_)
  rintro t10 h _ w ⟨rfl, hS⟩
  refine pn 1 rfl (lr ?_)
  obtain rfl := h.some
  exact rt results43 rfl ⟨rfl, hS.d1.d1⟩
def errors_is.f (a1 a2 : Int) (a3 : Bool) : Option (Bool) := (if a3 = true then (if a1 = a2 then some true else some false) else some false)
theorem errors_is.ok {a1 a2 : Int} {a3 : Bool} {r : Bool} (h : errors_is.f a1 a2 a3 = some r) (hS : St B w (l) hf) :
    Calls prog 92 #[.iface 29 (.int .i64 a1), .iface 29 (.int .i64 a2), .bool a3] w (Ret fun v w => v = .bool r ∧ St B w (l) hf) := by
  have h := Holds.of h
  refine en func92 rfl ntmps92 rfl (sr (pn 1 rfl (ln (RC.block (RC.unroll (RQ.round (RC.block (RC.seq (sr (pn 2 rfl ?_))))))))))
  refine RL.iteB 15 rfl h (fun hc10 h => ?_) fun hc10 h => ?_
  next =>
   refine pn 2 rfl (RL.sg (Vl.ifaceInt rfl rfl underlying108 underlying29 type29 rfl) rfl rfl (pn 1 rfl (ln ?_)))
   refine RC.iteP 19 rfl h (fun hc11 h => ?_) fun hc11 h => ?_
   next =>
    refine RC.condT rfl (sr (pn 1 rfl (lr (RQ.ret (RQ.inB_ret (RQ.ret (RQ.inB_ret ?_)))))))
    obtain rfl := h.some
    exact rt results92 rfl ⟨rfl, hS⟩
   refine RC.condF rfl (sk (RC.seq (sr (pn 1 rfl (RL.s (Vl.tassert (r := .tuple #[.nilIface, .bool false]) rfl (fun w => run_typeAssert_lacksB underlying227 (by kernel_rfl) (by kernel_rfl) _ _ w)) rfl (pn 5 rfl (lnsr (pn 6 rfl (ln ?_)))))))))
   refine RC.condF rfl (sk (sr (pn 1 rfl (ln (RC.block (sr (RL.s (Vl.tassert (r := .tuple #[.nilIface, .bool false]) rfl (fun w => run_typeAssert_lacksB underlying222 (by kernel_rfl) (by kernel_rfl) _ _ w)) rfl (pn 2 rfl (ln (RC.condF rfl ?_))))))))))
   refine sr (RL.s (Vl.tassert (r := .tuple #[.nilIface, .bool false]) rfl (fun w => run_typeAssert_lacksB underlying224 (by kernel_rfl) (by kernel_rfl) _ _ w)) rfl (pn 2 rfl (ln (RC.condF rfl (sr (pn 1 rfl (lnsr (pn 1 rfl (RL.nil ?_)))))))))
   refine tr (RQ.inB_ret (RQ.inB_ret (RQ.ret (RQ.inB_ret ?_))))
   obtain rfl := h.some
   exact rt results92 rfl ⟨rfl, hS⟩
  refine pn 4 rfl (ln (RC.condF rfl (sk (RC.seq (sr (pn 1 rfl (RL.s (Vl.tassert (r := .tuple #[.nilIface, .bool false]) rfl (fun w => run_typeAssert_lacksB underlying227 (by kernel_rfl) (by kernel_rfl) _ _ w)) rfl (pn 5 rfl (lnsr ?_)))))))))
  refine pn 6 rfl (ln (RC.condF rfl (sk (sr (pn 1 rfl (ln (RC.block (sr (RL.s (Vl.tassert (r := .tuple #[.nilIface, .bool false]) rfl (fun w => run_typeAssert_lacksB underlying222 (by kernel_rfl) (by kernel_rfl) _ _ w)) rfl (pn 2 rfl ?_))))))))))
  refine ln (RC.condF rfl (sr (RL.s (Vl.tassert (r := .tuple #[.nilIface, .bool false]) rfl (fun w => run_typeAssert_lacksB underlying224 (by kernel_rfl) (by kernel_rfl) _ _ w)) rfl (pn 2 rfl (ln (RC.condF rfl (sr (pn 1 rfl (ln (RC.seq ?_))))))))))
  refine RC.region (pn 1 rfl (lr (RQ.inB_ret (RQ.inB_ret (RQ.ret (RQ.inB_ret ?_))))))
  obtain rfl := h.some
  exact rt results92 rfl ⟨rfl, hS⟩
def errors_Is.f (a1 a2 : Int) : Option (Bool) := ((errors_is.f a1 a2 true).bind fun t5 => some t5)
theorem errors_Is.ok {a1 a2 : Int} {r : Bool} (h : errors_Is.f a1 a2 = some r) (hS : St B w (l) hf) :
    Calls prog 44 #[.iface 29 (.int .i64 a1), .iface 29 (.int .i64 a2)] w (Ret fun v w => v = .bool r ∧ St B w (l) hf) := by
  have h := Holds.of h
  refine en func44 rfl ntmps44 rfl (sr (pn 1 rfl (ln (RC.seq (sr (pn 1 rfl (RL.s (Vl.bin (v := .bool false) rfl rfl (by kernel_rfl)) rfl (pn 2 rfl (RL.sg (Vl.bin (v := .bool false) rfl rfl (by kernel_rfl)) rfl rfl (pn 1 rfl (ln ?_)))))))))))
  refine RC.condF rfl (sk (sr (pn 1 rfl (RL.s (Vl.extern (ls := [.tmp 15]) (v := .iface 215 (.agg #[.pointer (some ⟨1, 29, none⟩)])) rfl func91 (by kernel_rfl) (by kernel_rfl) (by kernel_rfl) (e := Extern.ReflectliteType.typeOf) (by kernel_rfl) (fun w => by kernel_rfl)) rfl (RL.s (Vl.invokeX (F := 237) (ls := []) (v := .bool true) (u' := .agg #[.pointer (some ⟨1, 29, none⟩)]) rfl rfl (fun w => by kernel_rfl) func237 (by kernel_rfl) (by kernel_rfl) (by kernel_rfl) (e := (Extern.ReflectliteType.method fun t => do Extern.Rtype.noPackHeld "Comparable" t; pure (.bool (← typeInfo t).comparable))) (by kernel_rfl) (fun w => by kernel_rfl)) rfl (pn 1 rfl (lnsr (pn 3 rfl (cF (fun _ hg => errors_is.ok hg hS) call92 h rfl rfl rfl ?_)))))))))
  rintro t5 h _ w ⟨rfl, hS⟩
  refine pn 1 rfl (lr ?_)
  obtain rfl := h.some
  exact rt results44 rfl ⟨rfl, hS⟩
def code_shapes.f  : Option (Unit) := some ()
theorem code_shapes.ok {r : Unit} (h : code_shapes.f = some r) (hS : St B w (l) hf) :
    Calls prog 137 #[] w (Ret fun v w => v = .agg #[.string lit_2d2d2d, .string lit_726e2d, .string lit_72722d, .string lit_rrr, .string lit_rrr, .string lit_rrr, .string lit_rrr, .string lit_rrr, .string lit_rrr, .string lit_rrr, .string lit_702d2d, .string lit_72702d, .string lit_rrr, .string lit_72722d, .string lit_722d2d, .string lit_722d2d, .string lit_722d2d] ∧ St B w (l) hf) := by
  have h := Holds.of h
  refine en func137 rfl ntmps137 rfl (sr (al hS zeroValue279 rfl rfl rfl fun b2 w hS => lnsr (RL.s (Vl.build (v := .agg #[.string lit_2d2d2d, .string lit_726e2d, .string lit_72722d, .string lit_rrr, .string lit_rrr, .string lit_rrr, .string lit_rrr, .string lit_rrr, .string lit_rrr, .string lit_rrr, .string lit_702d2d, .string lit_72702d, .string lit_rrr, .string lit_72722d, .string lit_722d2d, .string lit_722d2d, .string lit_722d2d]) (parts := [(0, .const (.string lit_2d2d2d)), (1, .const (.string lit_726e2d)), (2, .const (.string lit_72722d)), (3, .const (.string lit_rrr)), (4, .const (.string lit_rrr)), (5, .const (.string lit_rrr)), (6, .const (.string lit_rrr)), (7, .const (.string lit_rrr)), (8, .const (.string lit_rrr)), (9, .const (.string lit_rrr)), (10, .const (.string lit_702d2d)), (11, .const (.string lit_72702d)), (12, .const (.string lit_rrr)), (13, .const (.string lit_72722d)), (14, .const (.string lit_722d2d)), (15, .const (.string lit_722d2d)), (16, .const (.string lit_722d2d))]) rfl (by kernel_rfl)) rfl (RL.e0 (OW.store (vs := [.string lit_2d2d2d, .string lit_726e2d, .string lit_72722d, .string lit_rrr, .string lit_rrr, .string lit_rrr, .string lit_rrr, .string lit_rrr, .string lit_rrr, .string lit_rrr, .string lit_702d2d, .string lit_72702d, .string lit_rrr, .string lit_72722d, .string lit_722d2d, .string lit_722d2d, .string lit_722d2d]) 0 hS rfl rfl rfl rfl sizeOf279 rfl rfl rfl rfl) rfl ?_))))
  rintro _ w ⟨rfl, hS⟩
  have hS : St B w (Cl _ [_, _, _, _, _, _, _, _, _, _, _, _, _, _, _, _, _] _ :: l) hf := hS
  refine lr ?_
  have e := h.some
  refine RQ.ret0 (vs := [.agg #[.string lit_2d2d2d, .string lit_726e2d, .string lit_72722d, .string lit_rrr, .string lit_rrr, .string lit_rrr, .string lit_rrr, .string lit_rrr, .string lit_rrr, .string lit_rrr, .string lit_702d2d, .string lit_72702d, .string lit_rrr, .string lit_72722d, .string lit_722d2d, .string lit_722d2d, .string lit_722d2d]]) results137 ⟨⟨_, rfl, run_loadVarA (vs := [.string lit_2d2d2d, .string lit_726e2d, .string lit_72722d, .string lit_rrr, .string lit_rrr, .string lit_rrr, .string lit_rrr, .string lit_rrr, .string lit_rrr, .string lit_rrr, .string lit_702d2d, .string lit_72702d, .string lit_rrr, .string lit_72722d, .string lit_722d2d, .string lit_722d2d, .string lit_722d2d]) isAgg279 sizeOf279 rfl (hS.cellsAt 0 rfl rfl)⟩, trivial⟩ ?_
  exact ⟨rfl, hS.d0⟩
def code_right.j2 (a1 x22 x23 : Int) : Option (Bool) := (if x22 ≤ a1 then some (decide (a1 ≤ x23)) else some false)
def code_right.f (a1 a2 a3 : Int) : Option (Bool) := (if a2 = 110 then code_right.j2 a1 (-2147483648) 2147483647 else (if a2 = 112 then code_right.j2 a1 0 a3 else (if a2 = 114 then code_right.j2 a1 0 15 else code_right.j2 a1 0 0)))
theorem code_right.ok {a1 a2 a3 : Int} {r : Bool} (h : code_right.f a1 a2 a3 = some r) (hS : St B w (l) hf) :
    Calls prog 138 #[.int .i64 a1, .int .u8 a2, .int .i64 a3] w (Ret fun v w => v = .bool r ∧ St B w (l) hf) := by
  have h := Holds.of h
  refine en func138 rfl ntmps138 rfl (sr (pn 1 rfl (lnsr (pn 2 rfl (ln ?_)))))
  refine RC.join (fun (s : Int × Int) a w => ∃ (x22 : Int) (x23 : Int), s = (x22, x23) ∧ Has 25 [(0, .int .i64 a1), (7, .int .i64 x22), (8, .int .i64 x23)] a ∧ St B w (l) hf ∧ Holds (· = r) (code_right.j2 a1 x22 x23)) ?_ ?_
  · rintro _ a w ⟨x22, x23, rfl, ha, hS, h⟩
    revert a
    show RC _ _ _ _ _ _
    refine sr (pn 4 rfl ?_)
    refine RL.iteP 20 rfl h (fun hc24 h => ?_) fun hc24 h => ?_
    next =>
     refine pn 5 rfl (lr ?_)
     obtain rfl := h.some
     exact rt results138 rfl ⟨rfl, hS⟩
    refine pn 5 rfl (lr ?_)
    obtain rfl := h.some
    exact rt results138 rfl ⟨rfl, hS⟩
  refine sr (pn 1 rfl (ln (RC.block (RC.seq (RC.block (RC.seq (RC.block (RC.seq (RC.block (RC.seq (RC.block (RC.seq (RC.seq ?_)))))))))))))
  refine sr (pn 2 rfl (ln ?_))
  refine RC.iteP 10 rfl h (fun hc26 h => ?_) fun hc26 h => ?_
  next =>
   refine RC.condT rfl (RC.exit (RQ.exitT (RQ.exitT (RQ.inB_hit (tsr (pn 2 rfl (ln (RC.exit (RQ.inB_miss rfl (RQ.exitT (RQ.inB_miss rfl (RQ.exitT ?_))))))))))))
   refine RQ.inB_miss rfl (RQ.exitT (RQ.inB_hit ?_))
   exact fun a ha => ⟨((-2147483648), 2147483647), (-2147483648), 2147483647, rfl, ha.to ⟨rfl, rfl, rfl, trivial⟩, hS, h⟩
  refine RC.condF rfl (sk (RC.seq (sr (pn 2 rfl (ln ?_)))))
  refine RC.iteP 12 rfl h (fun hc28 h => ?_) fun hc28 h => ?_
  next =>
   refine RC.condT rfl (RC.exit (RQ.exitT (RQ.exitT (RQ.inB_miss rfl (RQ.exitT (RQ.inB_hit (tsr (pn 2 rfl (ln (RC.exit (RQ.inB_miss rfl (RQ.exitT ?_))))))))))))
   refine RQ.inB_miss rfl (RQ.exitT (RQ.inB_hit ?_))
   exact fun a ha => ⟨(0, a3), 0, a3, rfl, ha.to ⟨rfl, rfl, rfl, trivial⟩, hS, h⟩
  refine RC.condF rfl (sk (sr (pn 2 rfl (ln ?_))))
  refine RC.iteP 14 rfl h (fun hc29 h => ?_) fun hc29 h => ?_
  next =>
   refine RC.condT rfl (RC.exit (RQ.exitT (RQ.inB_miss rfl (RQ.exitT (RQ.inB_miss rfl (RQ.exitT (RQ.inB_hit (RQ.then_n (RC.region (pn 1 rfl (RL.nil (RQ.inB_n (tsr ?_)))))))))))))
   refine pn 1 rfl (ln (RC.exit (RQ.inB_hit ?_)))
   exact fun a ha => ⟨(0, 15), 0, 15, rfl, ha.to ⟨rfl, rfl, rfl, trivial⟩, hS, h⟩
  refine RC.condF rfl (sk (RC.exit (RQ.inB_miss rfl (RQ.exitT (RQ.inB_miss rfl (RQ.exitT (RQ.inB_miss rfl (RQ.exitT (RQ.inB_hit (tsr (pn 1 rfl (RL.nil ?_))))))))))))
  refine RQ.then_n (RC.exit (RQ.inB_hit ?_))
  exact fun a ha => ⟨(0, 0), 0, 0, rfl, ha.to ⟨rfl, rfl, rfl, trivial⟩, hS, h⟩
def code_may.f (a1 : api_Instr) (a2 : Int) : Option (Bool) := (if a1.Op < 0 then some false else (if 17 ≤ a1.Op then some false else ((code_shapes.f).bind fun _ => (if 0 ≤ a1.Op ∧ a1.Op < 17 then (if 0 < ((nth ([lit_2d2d2d, lit_726e2d, lit_72722d, lit_rrr, lit_rrr, lit_rrr, lit_rrr, lit_rrr, lit_rrr, lit_rrr, lit_702d2d, lit_72702d, lit_rrr, lit_72722d, lit_722d2d, lit_722d2d, lit_722d2d] : List ByteArray) a1.Op).size : Int) then ((code_right.f a1.A (bt (nth ([lit_2d2d2d, lit_726e2d, lit_72722d, lit_rrr, lit_rrr, lit_rrr, lit_rrr, lit_rrr, lit_rrr, lit_rrr, lit_702d2d, lit_72702d, lit_rrr, lit_72722d, lit_722d2d, lit_722d2d, lit_722d2d] : List ByteArray) a1.Op) 0) a2).bind fun t33 => (if t33 = true then (if 1 < ((nth ([lit_2d2d2d, lit_726e2d, lit_72722d, lit_rrr, lit_rrr, lit_rrr, lit_rrr, lit_rrr, lit_rrr, lit_rrr, lit_702d2d, lit_72702d, lit_rrr, lit_72722d, lit_722d2d, lit_722d2d, lit_722d2d] : List ByteArray) a1.Op).size : Int) then ((code_right.f a1.B (bt (nth ([lit_2d2d2d, lit_726e2d, lit_72722d, lit_rrr, lit_rrr, lit_rrr, lit_rrr, lit_rrr, lit_rrr, lit_rrr, lit_702d2d, lit_72702d, lit_rrr, lit_72722d, lit_722d2d, lit_722d2d, lit_722d2d] : List ByteArray) a1.Op) 1) a2).bind fun t37 => (if t37 = true then (if 2 < ((nth ([lit_2d2d2d, lit_726e2d, lit_72722d, lit_rrr, lit_rrr, lit_rrr, lit_rrr, lit_rrr, lit_rrr, lit_rrr, lit_702d2d, lit_72702d, lit_rrr, lit_72722d, lit_722d2d, lit_722d2d, lit_722d2d] : List ByteArray) a1.Op).size : Int) then ((code_right.f a1.C (bt (nth ([lit_2d2d2d, lit_726e2d, lit_72722d, lit_rrr, lit_rrr, lit_rrr, lit_rrr, lit_rrr, lit_rrr, lit_rrr, lit_702d2d, lit_72702d, lit_rrr, lit_72722d, lit_722d2d, lit_722d2d, lit_722d2d] : List ByteArray) a1.Op) 2) a2).bind fun t41 => some t41) else none) else some false)) else none) else some false)) else none) else none))))
theorem code_may.ok {a1 : api_Instr} {a2 : Int} {r : Bool} (h : code_may.f a1 a2 = some r) (hS : St B w (l) hf) :
    Calls prog 133 #[.agg (C_api_Instr a1).toArray, .int .i64 a2] w (Ret fun v w => v = .bool r ∧ St B w (l) hf) := by
  have h := Holds.of h
  refine en func133 rfl ntmps133 rfl (sr (bx hS rfl rfl rfl rfl fun b23 w hS => pn 1 rfl (ln (RC.seq (sr (RL.s (Vl.fa 0 underlying269 rfl sizeOf3 rfl rfl) rfl (RL.s (Vl.ld 0 hS isAgg3 rfl rfl rfl) rfl (pn 2 rfl ?_))))))))
  refine RL.iteP 9 rfl h (fun hc26 h => ?_) fun hc26 h => ?_
  next =>
   refine pn 4 rfl (ln (RC.condT rfl (sr (pn 1 rfl (lr (RQ.ret ?_))))))
   obtain rfl := h.some
   exact rt results133 rfl ⟨rfl, hS.d0⟩
  refine RL.sg (Vl.fa 0 underlying269 rfl sizeOf3 rfl rfl) rfl rfl (RL.sg (Vl.ld 0 hS isAgg3 rfl rfl rfl) rfl rfl (pn 2 rfl (ln ?_)))
  refine RC.iteP 13 rfl h (fun hc27 h => ?_) fun hc27 h => ?_
  next =>
   refine RC.condT rfl (sr (pn 1 rfl (lr (RQ.ret ?_))))
   obtain rfl := h.some
   exact rt results133 rfl ⟨rfl, hS.d0⟩
  refine RC.condF rfl (sk (RC.seq (RC.planS (plD [3, 7, 2, 11, 14]) [3, 4] hS (fun w hS => hS) follows rfl (by kernel_rfl) (NoTmp.then NoTmp.body) fun w hS => RP.s0 1 rfl (fun w => Vl.fa 0 underlying269 rfl sizeOf3 rfl rfl) rfl (RP.s 0 2 rfl rfl hS (fun w hS => Vl.ld 0 hS isAgg3 rfl rfl rfl) rfl ?_))))
  obtain ⟨t28, hg29, h⟩ := h.bind
  have hc := code_shapes.ok hg29 hS
  refine RP.e 0 rfl (OW.callF (ls := []) rfl call137 hc) rfl rfl ?_
  rintro _ w ⟨rfl, hS⟩
  refine ⟨kp ⟨fun _ => hS, trivial⟩, ?_⟩
  obtain ⟨⟨hq30, hq31⟩, h⟩ := h.req
  refine RP.v1 3 rfl (Vl.indexMap (f := Value.string) (l := ([lit_2d2d2d, lit_726e2d, lit_72722d, lit_rrr, lit_rrr, lit_rrr, lit_rrr, lit_rrr, lit_rrr, lit_rrr, lit_702d2d, lit_72702d, lit_rrr, lit_72722d, lit_722d2d, lit_722d2d, lit_722d2d] : List ByteArray)) underlying279 sizeOf9 isAgg9 rfl rfl rfl hq30 hq31) rfl rfl (RP.v1 4 rfl (Vl.assign rfl) rfl rfl (RP.nil (RQ.then_n (RC.seq (RC.planS (plD [0, 4, 6, 10, 12, 17, 18, 21, 25, 27, 31, 33, 38, 39, 42, 45, 49, 51, 55, 59, 62, 65, 68]) [20, 21, 22] hS (fun w hS => hS) follows rfl (by kernel_rfl) (NoTmp.then NoTmp.body) fun w hS => RP.s0 0 rfl (fun w => Vl.fa 1 underlying269 rfl sizeOf3 rfl rfl) rfl (RP.s 0 1 rfl rfl hS (fun w hS => Vl.ld 0 hS isAgg3 rfl rfl rfl) rfl (pp 1 rfl ?_)))))))
  obtain ⟨hq32, h⟩ := h.req
  refine RP.s 0 3 rfl rfl hS (fun w hS => Vl.indexS underlying9 rfl rfl (by decide) hq32) rfl (pp 1 rfl ?_)
  obtain ⟨t33, hg34, h⟩ := h.bind
  have hc := code_right.ok hg34 hS
  refine RP.e 5 rfl (OW.callF (ls := [.tmp 19, .tmp 21, .tmp 22]) rfl call138 hc) rfl rfl ?_
  rintro _ w ⟨rfl, hS⟩
  refine ⟨kp ⟨fun _ => hS, trivial⟩, ?_⟩
  refine pp 1 rfl ?_
  refine RP.iteB 24 rfl h (fun hc35 h => ?_) fun hc35 h => ?_
  next =>
   refine RP.sg0 7 rfl (fun w => Vl.fa 2 underlying269 rfl sizeOf3 rfl rfl) rfl rfl (RP.sg 0 8 rfl rfl hS (fun w hS => Vl.ld 0 hS isAgg3 rfl rfl rfl) rfl rfl (pp 1 rfl ?_))
   obtain ⟨hq36, h⟩ := h.req
   refine RP.sg 0 10 rfl rfl hS (fun w hS => Vl.indexS underlying9 rfl rfl (by decide) hq36) rfl rfl (pp 1 rfl ?_)
   obtain ⟨t37, hg38, h⟩ := h.bind
   have hc := code_right.ok hg38 hS
   refine RP.e 12 rfl (OW.callF (ls := [.tmp 26, .tmp 28, .tmp 29]) rfl call138 hc) rfl rfl ?_
   rintro _ w ⟨rfl, hS⟩
   refine ⟨kp ⟨fun _ => hS, trivial⟩, ?_⟩
   refine pp 2 rfl ?_
   refine RP.iteB 32 rfl h (fun hc39 h => ?_) fun hc39 h => ?_
   next =>
    refine RP.sg0 15 rfl (fun w => Vl.fa 3 underlying269 rfl sizeOf3 rfl rfl) rfl rfl (RP.sg 0 16 rfl rfl hS (fun w hS => Vl.ld 0 hS isAgg3 rfl rfl rfl) rfl rfl (pp 1 rfl ?_))
    obtain ⟨hq40, h⟩ := h.req
    refine RP.sg 0 18 rfl rfl hS (fun w hS => Vl.indexS underlying9 rfl rfl (by decide) hq40) rfl rfl (RP.v1 19 rfl (Vl.move rfl) rfl rfl ?_)
    obtain ⟨t41, hg42, h⟩ := h.bind
    have hc := code_right.ok hg42 hS
    refine RP.e 20 rfl (OW.callF (ls := [.tmp 34, .tmp 36, .tmp 37]) rfl call138 hc) rfl rfl ?_
    rintro _ w ⟨rfl, hS⟩
    refine ⟨kp ⟨(by intro hx; cases hx), trivial⟩, ?_⟩
    refine RP.v1 21 rfl (Vl.pickT rfl rfl) rfl rfl (RP.v1 22 rfl (Vl.assign rfl) rfl rfl (RP.nil (tr ?_)))
    obtain rfl := h.some
    exact rt results133 rfl ⟨rfl, hS.d0⟩
   refine pp 1 rfl (RP.nn 0 16 rfl rfl rfl (pp 1 rfl (RP.nn 0 18 rfl rfl rfl (RP.n1 19 rfl rfl rfl (RP.n1 20 rfl rfl rfl (RP.v1 21 rfl (Vl.pickF rfl rfl) rfl rfl (RP.v1 22 rfl (Vl.assign rfl) rfl rfl (RP.nil (tr ?_)))))))))
   obtain rfl := h.some
   exact rt results133 rfl ⟨rfl, hS.d0⟩
  refine pp 1 rfl (RP.nn 0 8 rfl rfl rfl (pp 1 rfl (RP.nn 0 10 rfl rfl rfl (pp 1 rfl (RP.n1 12 rfl rfl rfl (pp 3 rfl (RP.nn 0 16 rfl rfl rfl (pp 1 rfl (RP.nn 0 18 rfl rfl rfl (RP.n1 19 rfl rfl rfl (RP.n1 20 rfl rfl rfl (RP.v1 21 rfl (Vl.pickF rfl rfl) rfl rfl (RP.v1 22 rfl (Vl.assign rfl) rfl rfl (RP.nil (RQ.then_n ?_)))))))))))))))
  refine RC.ret ?_
  obtain rfl := h.some
  exact rt results133 rfl ⟨rfl, hS.d0⟩
def code_check.l2b (a1 : List api_Instr) : Int → Option ((Int) ⊕ ((Int) ⊕ (Int × Int) ⊕ (Unit)))
  | (x66) => (if x66 < (a1.length : Int) then (if 0 ≤ x66 then ((code_may.f (nth a1 x66) (a1.length : Int)).bind fun t93 => (if t93 = true then some (.inl (IntKind.i64.wrap (x66 + 1))) else some (.inr (.inr (.inl (x66, 130)))))) else none) else some (.inr (.inr (.inr (())))))
def code_check.l2 (a1 : List api_Instr) (s : Int) : Option ((Int) ⊕ (Int × Int) ⊕ (Unit)) := loopR (code_check.l2b a1) s
def code_check.f (a1 : List api_Instr) : Option ((Int) ⊕ (Int × Int) ⊕ (Unit)) := (if 256 < (a1.length : Int) then some (.inl 2) else code_check.l2 a1 (0))
theorem code_check.ok {a1 : List api_Instr} {A2 : Option Addr} {c3 : Nat} (hr4 : SlR E_api_Instr.rep hf A2 c3 a1) {r : (Int) ⊕ (Int × Int) ⊕ (Unit)} (h : code_check.f a1 = some r) (hS : St B w (l) hf) :
    Calls prog 128 #[.slice A2 a1.length c3] w (Ret fun v w => match (generalizing := false) r with | .inl r_ => v = .iface 29 (.int .i64 r_) ∧ St B w (l) hf | .inr (.inl r_) => ∃ (b_1 : Nat), v = .iface 271 (.pointer (some ⟨b_1, 0, none⟩)) ∧ St B w (Cl b_1 [.int .i64 r_.1, .iface 29 (.int .i64 r_.2)] 273 :: l) hf | .inr (.inr (r_)) => v = .nilIface ∧ St B w (l) hf) := by
  have h := Holds.of h
  refine en func128 rfl ntmps128 rfl (sr (pn 1 rfl (ln (RC.seq (sr (pn 1 rfl (RL.s (Vl.lenSl underlying89 rfl) rfl (pn 1 rfl (ln ?_)))))))))
  refine RC.iteP 7 rfl h (fun hc52 h => ?_) fun hc52 h => ?_
  next =>
   refine RC.condT rfl (sr (RL.s (Vl.makeIface underlying29 rfl rfl) rfl (pn 1 rfl (lr (RQ.ret ?_)))))
   obtain rfl := h.some
   exact rt results128 rfl ⟨rfl, hS⟩
  refine RC.condF rfl (sk (RC.seq (sr (pn 1 rfl (RL.s (Vl.lenSl underlying89 rfl) rfl (pn 1 rfl (ln (RC.block ?_))))))))
  refine fun a ha => RC.loop (N := 27) (body := (code_check.l2b a1)) (φ := (· = r)) (fun (s : Int) a w => ∃ (x66 : Int), s = (x66) ∧ Has 27 [(0, .slice A2 a1.length c3), (9, .slice A2 a1.length c3), (10, .int .i64 (a1.length : Int)), (11, .int .i64 x66)] a ∧ St B w (l) hf) ?_ (s0 := (0)) h ⟨0, rfl, ha.to ⟨rfl, rfl, rfl, rfl, trivial⟩, hS⟩
  rintro G82 x66 a w ⟨_, rfl, ha, hS⟩ h
  revert a
  show RC _ _ _ _ _ _
  refine sr (pn 1 rfl (ln (RC.seq ?_)))
  refine RC.iteP 12 rfl h (fun hc84 h => ?_) fun hc84 h => ?_
  next =>
   refine RC.condT rfl (sk (RC.seq (RC.block (sr (pn 1 rfl ?_)))))
   obtain ⟨hq91, h⟩ := h.req
   refine RL.s (Vl.indexAddr underlying89 sizeOf269 rfl rfl ((hr4.2.world hS.sub).adr hq91 hc84) hq91 hc84 rfl) rfl (RL.s (Vl.loadA isAgg269 sizeOf269 rfl rfl ((hr4.2.world hS.sub).cells hq91 hc84)) rfl (al hS zeroValue269 rfl rfl rfl fun b92 w hS => pn 1 rfl (RL.e0 (OW.store (vs := (C_api_Instr (nth a1 x66))) 0 hS rfl rfl rfl rfl sizeOf269 rfl rfl rfl rfl) rfl ?_)))
   rintro _ w ⟨rfl, hS⟩
   have hS : St B w (Cl _ [_, _, _, _] _ :: l) hf := hS
   refine lnsr (RL.s (Vl.lw 0 hS isAgg269 sizeOf269 rfl rfl rfl) rfl (pn 1 rfl (RL.s (Vl.lenSl underlying89 rfl) rfl (cF (fun _ hg => code_may.ok hg hS) call133 h rfl rfl rfl ?_))))
   rintro t93 h _ w ⟨rfl, hS⟩
   refine pn 1 rfl (ln ?_)
   refine RC.iteM 20 rfl h (fun hc95 h => ?_) fun hc95 h => ?_
   next =>
    refine RC.condF rfl (RC.skip (RQ.inB_n (RQ.then_n (RC.region (pn 2 rfl (RL.nil ?_))))))
    exact fun a ha => ⟨(IntKind.i64.wrap (x66 + 1)), ⟨(IntKind.i64.wrap (x66 + 1)), rfl, ha.to ⟨rfl, rfl, rfl, rfl, trivial⟩, hS.d0⟩, h.some⟩
   refine RC.condT rfl (sr (pn 1 rfl (RL.s (Vl.makeIface underlying29 rfl rfl) rfl (RL.s (Vl.build (v := .agg #[.int .i64 x66, .iface 29 (.int .i64 130)]) (parts := [(0, .tmp 21), (1, .tmp 22)]) rfl (by kernel_rfl)) rfl (bx hS rfl rfl rfl rfl fun b96 w hS => RL.s (Vl.makeIface underlying271 rfl rfl) rfl (pn 1 rfl (lr (RQ.inB_ret (RQ.ret ?_)))))))))
   have h := h.inrS
   refine RQ.ret (RQ.inB_ret (RQ.ret ?_))
   obtain rfl := h.some
   exact rt results128 rfl ⟨b96, rfl, hS.d1⟩
  refine RC.condF rfl (RC.exit (RQ.exitT ?_))
  have h := h.inrS
  refine RQ.exitT (RQ.inB_hit (tsr (pn 1 rfl (lr ?_))))
  obtain rfl := h.some
  exact rt results128 rfl ⟨rfl, hS⟩
def code_wrong_Unwrap.f (a2 a3 : Int) : Option (Int) := some a3
theorem code_wrong_Unwrap.ok {a2 a3 : Int} {b1 : Nat} {r : Int} (h : code_wrong_Unwrap.f a2 a3 = some r) (hS : St B w (Cl b1 [.int .i64 a2, .iface 29 (.int .i64 a3)] 273 :: l) hf) :
    Calls prog 253 #[.pointer (some ⟨b1, 0, none⟩)] w (Ret fun v w => v = .iface 29 (.int .i64 r) ∧ St B w (Cl b1 [.int .i64 a2, .iface 29 (.int .i64 a3)] 273 :: l) hf) := by
  have h := Holds.of h
  refine en func253 rfl ntmps253 rfl (sr (pn 1 rfl (lnsr (pn 2 rfl (RL.s (Vl.fa 1 underlying273 rfl sizeOf108 rfl rfl) rfl (RL.s (Vl.ld 0 hS isAgg108 rfl rfl rfl) rfl (pn 1 rfl (lr ?_))))))))
  obtain rfl := h.some
  exact rt results253 rfl ⟨rfl, hS⟩
def errors_is_2.f (a2 a3 a4 : Int) (a5 : Bool) : Option (Bool) := (if a5 = true then ((code_wrong_Unwrap.f a2 a3).bind fun t16 => (if t16 = a4 then some true else some false)) else ((code_wrong_Unwrap.f a2 a3).bind fun t20 => some false))
theorem errors_is_2.ok {a2 a3 a4 : Int} {a5 : Bool} {b1 : Nat} {r : Bool} (h : errors_is_2.f a2 a3 a4 a5 = some r) (hS : St B w (Cl b1 [.int .i64 a2, .iface 29 (.int .i64 a3)] 273 :: l) hf) :
    Calls prog 92 #[.iface 271 (.pointer (some ⟨b1, 0, none⟩)), .iface 29 (.int .i64 a4), .bool a5] w (Ret fun v w => v = .bool r ∧ St B w (Cl b1 [.int .i64 a2, .iface 29 (.int .i64 a3)] 273 :: l) hf) := by
  have h := Holds.of h
  refine en func92 rfl ntmps92 rfl (sr (pn 1 rfl (ln (RC.block (RC.unroll (RQ.round (RC.block (RC.seq (sr (pn 2 rfl ?_))))))))))
  refine RL.iteB 15 rfl h (fun hc15 h => ?_) fun hc15 h => ?_
  next =>
   refine pn 2 rfl (RL.sg (Vl.ifaceNeq rfl rfl underlying108 rfl) rfl rfl (pn 1 rfl (ln (RC.condF rfl (sk (RC.seq (sr (pn 1 rfl (RL.s (Vl.tassert (r := .tuple #[.nilIface, .bool false]) rfl (fun w => run_typeAssert_lacksB underlying227 (by kernel_rfl) (by kernel_rfl) _ _ w)) rfl (pn 5 rfl (ln ?_)))))))))))
   refine sr (pn 6 rfl (ln (RC.condF rfl (sk (sr (pn 1 rfl (ln (RC.block (sr ?_)))))))))
   refine RL.s (Vl.tassert (r := .tuple #[.iface 271 (.pointer (some ⟨b1, 0, none⟩)), .bool true]) rfl (fun w => run_typeAssert_hasB underlying222 (by kernel_rfl) _ _ w)) rfl (pn 2 rfl (ln (RC.condT rfl (sr (pn 1 rfl (lnsr (pn 1 rfl ?_)))))))
   obtain ⟨t16, hg17, h⟩ := h.bind
   have hc := code_wrong_Unwrap.ok hg17 hS
   refine RL.e (OW.invoke (F := 253) (u' := .pointer (some ⟨b1, 0, none⟩)) (ls := []) rfl rfl (fun w => by kernel_rfl) call253 rfl hc) rfl rfl ?_
   rintro _ w ⟨rfl, hS⟩
   refine pn 1 rfl (lnsr (pn 1 rfl (RL.s (Vl.bin (v := .bool false) rfl rfl (by kernel_rfl)) rfl (ln (RC.condF rfl (RC.skip (RQ.inB_n (RQ.inB_n (RQ.then_n (RQ.round (RC.block ?_)))))))))))
   refine RC.seq (sr (pn 2 rfl (RL.re 15 rfl (congrArg Value.bool (id hc15)) (pn 2 rfl (RL.sg (Vl.ifaceInt rfl rfl underlying108 underlying29 type29 rfl) rfl rfl (pn 1 rfl (ln ?_)))))))
   refine RC.iteP 19 rfl h (fun hc19 h => ?_) fun hc19 h => ?_
   next =>
    refine RC.condT rfl (sr (pn 1 rfl (lr (RQ.ret (RQ.inB_ret (RQ.ret (RQ.inB_ret ?_)))))))
    obtain rfl := h.some
    exact rt results92 rfl ⟨rfl, hS⟩
   refine RC.condF rfl (sk (RC.seq (sr (pn 1 rfl (RL.s (Vl.tassert (r := .tuple #[.nilIface, .bool false]) rfl (fun w => run_typeAssert_lacksB underlying227 (by kernel_rfl) (by kernel_rfl) _ _ w)) rfl (pn 5 rfl (lnsr (pn 6 rfl (ln ?_)))))))))
   refine RC.condF rfl (sk (sr (pn 1 rfl (ln (RC.block (sr (RL.s (Vl.tassert (r := .tuple #[.nilIface, .bool false]) rfl (fun w => run_typeAssert_lacksB underlying222 (by kernel_rfl) (by kernel_rfl) _ _ w)) rfl (pn 2 rfl (ln (RC.condF rfl ?_))))))))))
   refine sr (RL.s (Vl.tassert (r := .tuple #[.nilIface, .bool false]) rfl (fun w => run_typeAssert_lacksB underlying224 (by kernel_rfl) (by kernel_rfl) _ _ w)) rfl (pn 2 rfl (ln (RC.condF rfl (sr (pn 1 rfl (lnsr (pn 1 rfl (RL.nil ?_)))))))))
   refine tr (RQ.inB_ret (RQ.inB_ret (RQ.ret (RQ.inB_ret ?_))))
   obtain rfl := h.some
   exact rt results92 rfl ⟨rfl, hS⟩
  refine pn 4 rfl (ln (RC.condF rfl (sk (RC.seq (sr (pn 1 rfl (RL.s (Vl.tassert (r := .tuple #[.nilIface, .bool false]) rfl (fun w => run_typeAssert_lacksB underlying227 (by kernel_rfl) (by kernel_rfl) _ _ w)) rfl (pn 5 rfl (lnsr ?_)))))))))
  refine pn 6 rfl (ln (RC.condF rfl (sk (sr (pn 1 rfl (ln (RC.block (sr (RL.s (Vl.tassert (r := .tuple #[.iface 271 (.pointer (some ⟨b1, 0, none⟩)), .bool true]) rfl (fun w => run_typeAssert_hasB underlying222 (by kernel_rfl) _ _ w)) rfl (pn 2 rfl ?_))))))))))
  refine ln (RC.condT rfl (sr (pn 1 rfl (lnsr (pn 1 rfl ?_)))))
  obtain ⟨t20, hg21, h⟩ := h.bind
  have hc := code_wrong_Unwrap.ok hg21 hS
  refine RL.e (OW.invoke (F := 253) (u' := .pointer (some ⟨b1, 0, none⟩)) (ls := []) rfl rfl (fun w => by kernel_rfl) call253 rfl hc) rfl rfl ?_
  rintro _ w ⟨rfl, hS⟩
  refine pn 1 rfl (lnsr (pn 1 rfl (RL.s (Vl.bin (v := .bool false) rfl rfl (by kernel_rfl)) rfl (ln (RC.condF rfl (RC.skip (RQ.inB_n (RQ.inB_n (RQ.then_n (RQ.round (RC.block ?_)))))))))))
  refine RC.seq (sr (pn 2 rfl (RL.re 15 rfl (congrArg Value.bool (eq_false_of hc15)) (pn 4 rfl (ln (RC.condF rfl (sk (RC.seq (sr (pn 1 rfl (RL.s (Vl.tassert (r := .tuple #[.nilIface, .bool false]) rfl (fun w => run_typeAssert_lacksB underlying227 (by kernel_rfl) (by kernel_rfl) _ _ w)) rfl ?_)))))))))))
  refine pn 5 rfl (lnsr (pn 6 rfl (ln (RC.condF rfl (sk (sr (pn 1 rfl (ln ?_))))))))
  refine RC.block (sr (RL.s (Vl.tassert (r := .tuple #[.nilIface, .bool false]) rfl (fun w => run_typeAssert_lacksB underlying222 (by kernel_rfl) (by kernel_rfl) _ _ w)) rfl (pn 2 rfl (ln (RC.condF rfl (sr (RL.s (Vl.tassert (r := .tuple #[.nilIface, .bool false]) rfl (fun w => run_typeAssert_lacksB underlying224 (by kernel_rfl) (by kernel_rfl) _ _ w)) rfl (pn 2 rfl (ln (RC.condF rfl (RC.seq ?_)))))))))))
  refine RC.region (pn 1 rfl (lnsr (pn 1 rfl (lr (RQ.inB_ret (RQ.inB_ret (RQ.ret (RQ.inB_ret ?_))))))))
  obtain rfl := h.some
  exact rt results92 rfl ⟨rfl, hS⟩
def errors_Is_2.f (a2 a3 a4 : Int) : Option (Bool) := ((errors_is_2.f a2 a3 a4 true).bind fun t7 => some t7)
theorem errors_Is_2.ok {a2 a3 a4 : Int} {b1 : Nat} {r : Bool} (h : errors_Is_2.f a2 a3 a4 = some r) (hS : St B w (Cl b1 [.int .i64 a2, .iface 29 (.int .i64 a3)] 273 :: l) hf) :
    Calls prog 44 #[.iface 271 (.pointer (some ⟨b1, 0, none⟩)), .iface 29 (.int .i64 a4)] w (Ret fun v w => v = .bool r ∧ St B w (Cl b1 [.int .i64 a2, .iface 29 (.int .i64 a3)] 273 :: l) hf) := by
  have h := Holds.of h
  refine en func44 rfl ntmps44 rfl (sr (pn 1 rfl (ln (RC.seq (sr (pn 1 rfl (RL.s (Vl.bin (v := .bool false) rfl rfl (by kernel_rfl)) rfl (pn 2 rfl (RL.sg (Vl.bin (v := .bool false) rfl rfl (by kernel_rfl)) rfl rfl (pn 1 rfl (ln ?_)))))))))))
  refine RC.condF rfl (sk (sr (pn 1 rfl (RL.s (Vl.extern (ls := [.tmp 15]) (v := .iface 215 (.agg #[.pointer (some ⟨1, 29, none⟩)])) rfl func91 (by kernel_rfl) (by kernel_rfl) (by kernel_rfl) (e := Extern.ReflectliteType.typeOf) (by kernel_rfl) (fun w => by kernel_rfl)) rfl (RL.s (Vl.invokeX (F := 237) (ls := []) (v := .bool true) (u' := .agg #[.pointer (some ⟨1, 29, none⟩)]) rfl rfl (fun w => by kernel_rfl) func237 (by kernel_rfl) (by kernel_rfl) (by kernel_rfl) (e := (Extern.ReflectliteType.method fun t => do Extern.Rtype.noPackHeld "Comparable" t; pure (.bool (← typeInfo t).comparable))) (by kernel_rfl) (fun w => by kernel_rfl)) rfl (pn 1 rfl (lnsr (pn 3 rfl (cF (fun _ hg => errors_is_2.ok hg hS) call92 h rfl rfl rfl ?_)))))))))
  rintro t7 h _ w ⟨rfl, hS⟩
  refine pn 1 rfl (lr ?_)
  obtain rfl := h.some
  exact rt results44 rfl ⟨rfl, hS⟩
def errors_Is_3.f (a1 : Int) : Option (Bool) := some false
theorem errors_Is_3.ok {a1 : Int} {r : Bool} (h : errors_Is_3.f a1 = some r) (hS : St B w (l) hf) :
    Calls prog 44 #[.nilIface, .iface 29 (.int .i64 a1)] w (Ret fun v w => v = .bool r ∧ St B w (l) hf) := by
  have h := Holds.of h
  refine en func44 rfl ntmps44 rfl (sr (pn 1 rfl (ln (RC.seq (sr (pn 1 rfl (RL.s (Vl.bin (v := .bool true) rfl rfl (by kernel_rfl)) rfl (pn 4 rfl (ln (RC.condT rfl (RC.seq ?_)))))))))))
  refine RC.region (pn 2 rfl (RL.s (Vl.bin (v := .bool false) rfl rfl (by kernel_rfl)) rfl (pn 1 rfl (lr (RQ.ret ?_)))))
  obtain rfl := h.some
  exact rt results44 rfl ⟨rfl, hS⟩
def code_Check.f (a1 : List api_Instr) : Option (Int) := ((code_check.f a1).bind fun t20 => match t20 with | .inl y22 => ((errors_Is.f y22 2).bind fun t23 => (if t23 = true then some 2 else some 130)) | .inr (.inl (y26, y27)) => ((errors_Is_2.f y26 y27 2).bind fun t29 => (if t29 = true then some 2 else some 130)) | .inr (.inr (_)) => ((errors_Is_3.f 2).bind fun t32 => (if t32 = true then some 2 else some 0)))
theorem code_Check.ok {a1 : List api_Instr} {A2 : Option Addr} {c3 : Nat} (hr4 : SlR E_api_Instr.rep hf A2 c3 a1) {r : Int} (h : code_Check.f a1 = some r) (hS : St B w (l) hf) :
    Calls prog 113 #[.slice A2 a1.length c3] w (Ret fun v w => v = .int .i64 r ∧ St B w (l) hf) := by
  have h := Holds.of h
  refine en func113 rfl ntmps113 rfl (sr (pn 1 rfl (ln (RC.seq (sr (pn 1 rfl ?_))))))
  obtain ⟨t20, hg21, h⟩ := h.bind
  have hc := code_check.ok hr4 hg21 hS
  rcases t20 with y22 | ⟨y26, y27⟩ | _
  · refine RL.e (OW.callF (ls := [.tmp 4]) rfl call128 hc) rfl rfl ?_
    rintro _ w ⟨rfl, hS⟩
    refine pn 1 rfl (ln (RC.block (sr (pn 1 rfl (RL.s (Vl.makeIface underlying29 rfl rfl) rfl (cF (fun _ hg => errors_Is.ok hg hS) call44 h rfl rfl rfl ?_))))))
    rintro t23 h _ w ⟨rfl, hS⟩
    refine pn 1 rfl (ln ?_)
    refine RC.iteB 6 rfl h (fun hc25 h => ?_) fun hc25 h => ?_
    next =>
     refine RC.condT rfl (sr (pn 1 rfl (lr (RQ.inB_ret (RQ.ret ?_)))))
     obtain rfl := h.some
     exact rt results113 rfl ⟨rfl, hS⟩
    refine RC.condF rfl (sr (pn 1 rfl (RL.s (Vl.bin (v := .bool true) rfl rfl (by kernel_rfl)) rfl (pn 1 rfl (ln (RC.condT rfl (sr (pn 1 rfl (lr (RQ.inB_ret ?_))))))))))
    refine RQ.ret ?_
    obtain rfl := h.some
    exact rt results113 rfl ⟨rfl, hS⟩
  · refine RL.e (OW.callF (ls := [.tmp 4]) rfl call128 hc) rfl rfl ?_
    rintro _ w ⟨b28, rfl, hS⟩
    refine pn 1 rfl (ln (RC.block (sr (pn 1 rfl (RL.s (Vl.makeIface underlying29 rfl rfl) rfl (cF (fun _ hg => errors_Is_2.ok hg hS) call44 h rfl rfl rfl ?_))))))
    rintro t29 h _ w ⟨rfl, hS⟩
    refine pn 1 rfl (ln ?_)
    refine RC.iteB 6 rfl h (fun hc31 h => ?_) fun hc31 h => ?_
    next =>
     refine RC.condT rfl (sr (pn 1 rfl (lr (RQ.inB_ret (RQ.ret ?_)))))
     obtain rfl := h.some
     exact rt results113 rfl ⟨rfl, hS.d0⟩
    refine RC.condF rfl (sr (pn 1 rfl (RL.s (Vl.bin (v := .bool true) rfl rfl (by kernel_rfl)) rfl (pn 1 rfl (ln (RC.condT rfl (sr (pn 1 rfl (lr (RQ.inB_ret ?_))))))))))
    refine RQ.ret ?_
    obtain rfl := h.some
    exact rt results113 rfl ⟨rfl, hS.d0⟩
  refine RL.e (OW.callF (ls := [.tmp 4]) rfl call128 hc) rfl rfl ?_
  rintro _ w ⟨rfl, hS⟩
  refine pn 1 rfl (ln (RC.block (sr (pn 1 rfl (RL.s (Vl.makeIface underlying29 rfl rfl) rfl (cF (fun _ hg => errors_Is_3.ok hg hS) call44 h rfl rfl rfl ?_))))))
  rintro t32 h _ w ⟨rfl, hS⟩
  refine pn 1 rfl (ln ?_)
  refine RC.iteB 6 rfl h (fun hc34 h => ?_) fun hc34 h => ?_
  next =>
   refine RC.condT rfl (sr (pn 1 rfl (lr (RQ.inB_ret (RQ.ret ?_)))))
   obtain rfl := h.some
   exact rt results113 rfl ⟨rfl, hS⟩
  refine RC.condF rfl (sr (pn 1 rfl (RL.s (Vl.bin (v := .bool false) rfl rfl (by kernel_rfl)) rfl (pn 1 rfl (ln (RC.condF rfl (RC.skip (RQ.inB_n (tsr (pn 1 rfl (RL.nil ?_)))))))))))
  refine tr ?_
  obtain rfl := h.some
  exact rt results113 rfl ⟨rfl, hS⟩
def errors_Join.f (a3 : model_flaw) (a4 : Int) : Option (model_flaw × Int) := some (a3, a4)
theorem errors_Join.ok {a3 : model_flaw} {a4 : Int} {A1 : Option Addr} {c2 : Nat} {r : model_flaw × Int} (h : errors_Join.f a3 a4 = some r) (hS : St B w (OSl 108 1 (.slice A1 2 c2) 2 [.iface 106 (.agg #[.int .i64 a3.at_, .int .i64 a3.why]), .iface 29 (.int .i64 a4)] :: l) hf) :
    Calls prog 118 #[.slice A1 2 c2] w (Ret fun v w => ∃ (b_1 : Nat) (A_2 : Option Addr) (c_3 : Nat), v = .iface 254 (.pointer (some ⟨b_1, 0, none⟩)) ∧ St B w (Cl b_1 [.slice A_2 2 c_3] 256 :: OSl 108 1 (.slice A_2 2 c_3) 2 [.iface 106 (.agg #[.int .i64 r.1.at_, .int .i64 r.1.why]), .iface 29 (.int .i64 r.2)] :: OSl 108 1 (.slice A1 2 c2) 2 [.iface 106 (.agg #[.int .i64 a3.at_, .int .i64 a3.why]), .iface 29 (.int .i64 a4)] :: l) hf) := by
  have h := Holds.of h
  refine en func118 rfl ntmps118 rfl (sr (pn 1 rfl (lnsr (pn 1 rfl (ln (RC.seq (sr (pn 1 rfl (RL.s (Vl.lenSl underlying225 rfl) rfl ?_)))))))))
  refine pn 1 rfl (ln (RC.block (RC.unroll (RQ.round (sr (pn 1 rfl (ln (RC.seq (RC.condT rfl (sk (RC.seq ?_)))))))))))
  refine RC.block (sr (RL.s (Vl.indexAddr (a'' := (ad A1).add 0) underlying225 sizeOf108 rfl rfl (hS.litAdr 0 rfl (by decide)) (by decide) (by decide) rfl) rfl (RL.s (Vl.load isAgg108 rfl (hS.litCell 0 rfl rfl)) rfl (pn 1 rfl (lnsr (pn 1 rfl (RL.s (Vl.bin (v := .bool true) rfl rfl (by kernel_rfl)) rfl (ln (RC.condT rfl (RC.region ?_))))))))))
  refine pn 3 rfl (RL.nil (RQ.inB_n (RQ.then_n (RC.region (pn 2 rfl (ln (RQ.round (sr (pn 1 rfl (ln (RC.seq (RC.condT rfl ?_))))))))))))
  refine sk (RC.seq (RC.block (sr (RL.s (Vl.indexAddr (a'' := (ad A1).add 1) underlying225 sizeOf108 rfl rfl (hS.litAdr 0 rfl (by decide)) (by decide) (by decide) rfl) rfl (RL.s (Vl.load isAgg108 rfl (hS.litCell 0 rfl rfl)) rfl (pn 1 rfl (lnsr (pn 1 rfl (RL.s (Vl.bin (v := .bool true) rfl rfl (by kernel_rfl)) rfl (RL.nil ?_))))))))))
  refine RQ.then_n (RC.condT rfl (RC.region (pn 3 rfl (RL.nil (RQ.inB_n (RQ.then_n (RC.region (pn 2 rfl (ln (RQ.round (sr (pn 1 rfl (RL.nil ?_)))))))))))))
  refine RQ.then_n (RC.seq (RC.condF rfl (RC.exit (RQ.exitT (RQ.exitT (RQ.inB_hit (RQ.then_n (RC.seq (sr (pn 2 rfl (ln (RC.condF rfl (RC.skip ?_)))))))))))))
  refine tsr (pn 1 rfl (RL.e (OW.make0L (c := 2) (sz := 1) hS underlying225 type108 rfl rfl rfl rfl (by decide) (by decide)) rfl rfl ?_))
  rintro _ w ⟨b31, rfl, hS⟩
  refine RL.s (Vl.build (v := .agg #[.slice (some ⟨b31, 0, none⟩) 0 2]) (parts := [(0, .tmp 23)]) rfl (by kernel_rfl)) rfl (bx hS rfl rfl rfl rfl fun b32 w hS => pn 1 rfl (ln (RC.seq (sr (pn 1 rfl (RL.s (Vl.lenSl underlying225 rfl) rfl (pn 1 rfl (ln (RC.block (RC.unroll (RQ.round ?_)))))))))))
  refine sr (pn 1 rfl (ln (RC.seq (RC.condT rfl (sk (RC.seq (RC.block (sr (RL.s (Vl.indexAddr (a'' := (ad A1).add 0) underlying225 sizeOf108 rfl rfl (hS.litAdr 2 rfl (by decide)) (by decide) (by decide) rfl) rfl (RL.s (Vl.load isAgg108 rfl (hS.litCell 2 rfl rfl)) rfl (pn 1 rfl ?_)))))))))))
  refine lnsr (pn 1 rfl (RL.s (Vl.bin (v := .bool true) rfl rfl (by kernel_rfl)) rfl (ln (RC.condT rfl (RC.region (pn 3 rfl (RL.s (Vl.fa 0 underlying256 rfl sizeOf225 rfl rfl) rfl (RL.s (Vl.ld 0 hS isAgg225 rfl rfl rfl) rfl (pn 1 rfl (RL.e (OW.buildSliceR (sz := 1) (cs := [.iface 106 (.agg #[.int .i64 a3.at_, .int .i64 a3.why])]) hS underlying225 zeroValue108 sizeOf108 (parts := [(0, .tmp 39)]) rfl rfl (by decide) (by decide) (by kernel_rfl)) rfl rfl ?_))))))))))
  rintro _ w ⟨b48, rfl, hS⟩
  refine RL.e (OW.appendL (k := 1) (es := [.iface 106 (.agg #[.int .i64 a3.at_, .int .i64 a3.why])]) 2 0 hS rfl rfl underlying225 type108 rfl rfl rfl rfl (by decide) (by decide) rfl rfl rfl (by decide) rfl rfl rfl) rfl rfl ?_
  rintro _ w ⟨A49, c50, rfl, hS⟩
  have hS : St B w (_ :: _ :: _ :: _ :: l) hf := hS
  refine pn 1 rfl (RL.s (Vl.fa 0 underlying256 rfl sizeOf225 rfl rfl) rfl (RL.e0 (OW.store (vs := [.slice A49 1 c50]) 2 hS rfl rfl rfl rfl sizeOf225 rfl rfl rfl rfl) rfl ?_))
  rintro _ w ⟨rfl, hS⟩
  have hS : St B w (_ :: _ :: Cl _ [_] _ :: _ :: l) hf := hS
  refine RL.nil (RQ.inB_n (RQ.then_n (RC.region (pn 2 rfl (ln (RQ.round (sr (pn 1 rfl (ln (RC.seq (RC.condT rfl (RC.skip ?_))))))))))))
  refine RQ.then_n (RC.seq (RC.block (sr (RL.s (Vl.indexAddr (a'' := (ad A1).add 1) underlying225 sizeOf108 rfl rfl (hS.litAdr 3 rfl (by decide)) (by decide) (by decide) rfl) rfl (RL.s (Vl.load isAgg108 rfl (hS.litCell 3 rfl rfl)) rfl (pn 1 rfl (lnsr (pn 1 rfl (RL.s (Vl.bin (v := .bool true) rfl rfl (by kernel_rfl)) rfl (ln ?_))))))))))
  refine RC.condT rfl (RC.region (pn 3 rfl (RL.s (Vl.fa 0 underlying256 rfl sizeOf225 rfl rfl) rfl (RL.s (Vl.ld 2 hS isAgg225 rfl rfl rfl) rfl (pn 1 rfl (RL.e (OW.buildSliceR (sz := 1) (cs := [.iface 29 (.int .i64 a4)]) hS underlying225 zeroValue108 sizeOf108 (parts := [(0, .tmp 39)]) rfl rfl (by decide) (by decide) (by kernel_rfl)) rfl rfl ?_))))))
  rintro _ w ⟨b54, rfl, hS⟩
  refine RL.e (OW.appendL (k := 2) (es := [.iface 106 (.agg #[.int .i64 a3.at_, .int .i64 a3.why]), .iface 29 (.int .i64 a4)]) 1 0 hS rfl rfl underlying225 type108 rfl rfl rfl rfl (by decide) (by decide) rfl rfl rfl (by decide) rfl rfl rfl) rfl rfl ?_
  rintro _ w ⟨A55, c56, rfl, hS⟩
  have hS : St B w (_ :: _ :: _ :: _ :: _ :: l) hf := hS
  refine pn 1 rfl (RL.s (Vl.fa 0 underlying256 rfl sizeOf225 rfl rfl) rfl (RL.e0 (OW.store (vs := [.slice A55 2 c56]) 3 hS rfl rfl rfl rfl sizeOf225 rfl rfl rfl rfl) rfl ?_))
  rintro _ w ⟨rfl, hS⟩
  have hS : St B w (_ :: _ :: _ :: Cl _ [_] _ :: _ :: l) hf := hS
  refine RL.nil (RQ.inB_n (RQ.then_n (RC.region (pn 2 rfl (ln (RQ.round (sr (pn 1 rfl (ln (RC.seq (RC.condF rfl (RC.exit ?_))))))))))))
  refine RQ.exitT (RQ.exitT (RQ.inB_hit (tsr (pn 1 rfl (RL.s (Vl.makeIface underlying254 rfl rfl) rfl (pn 1 rfl (lr ?_)))))))
  obtain rfl := h.some
  exact rt results118 rfl ⟨b32, A55, c56, rfl, hS.d1.d1.p1⟩
def model_programs.l2b (a1 : api_Model) : Int → Option ((Int) ⊕ ((model_flaw × Int) ⊕ (Unit)))
  | (x150) => (if x150 < (a1.Progs.length : Int) then (if 0 ≤ x150 then ((code_Check.f (nth a1.Progs x150)).bind fun t210 => (if t210 = 0 then some (.inl (IntKind.i64.wrap (x150 + 1))) else ((errors_Join.f (⟨x150, 130⟩ : model_flaw) t210).bind fun (y216, y217) => some (.inr (.inl (y216, y217)))))) else none) else some (.inr (.inr (()))))
def model_programs.l2 (a1 : api_Model) (s : Int) : Option ((model_flaw × Int) ⊕ (Unit)) := loopR (model_programs.l2b a1) s
def model_programs.f (a1 : api_Model) : Option ((model_flaw × Int) ⊕ (Unit)) := model_programs.l2 a1 (0)
theorem model_programs.ok {a1 : api_Model} {A2 : Option Addr} {c3 : Nat} {A5 : Option Addr} {c6 : Nat} {A8 : Option Addr} {c9 : Nat} (hr4 : SlR (Rep.sl E_api_Instr.rep) hf A2 c3 a1.Progs) (hr7 : SlR E_api_Link.rep hf A5 c6 a1.Links) (hr10 : SlR E_api_Start.rep hf A8 c9 a1.Starts) {r : (model_flaw × Int) ⊕ (Unit)} (h : model_programs.f a1 = some r) (hS : St B w (l) hf) :
    Calls prog 84 #[.agg (C_api_Model a1 A2 c3 A5 c6 A8 c9).toArray] w (Ret fun v w => match (generalizing := false) r with | .inl r_ => ∃ (b_1 : Nat) (A_2 : Option Addr) (c_3 : Nat), v = .iface 254 (.pointer (some ⟨b_1, 0, none⟩)) ∧ St B w (Cl b_1 [.slice A_2 2 c_3] 256 :: OSl 108 1 (.slice A_2 2 c_3) 2 [.iface 106 (.agg #[.int .i64 r_.1.at_, .int .i64 r_.1.why]), .iface 29 (.int .i64 r_.2)] :: l) hf | .inr (r_) => v = .nilIface ∧ St B w (l) hf) := by
  have h := Holds.of h
  refine en func84 rfl ntmps84 rfl (sr (bx hS rfl rfl rfl rfl fun b116 w hS => pn 1 rfl (ln (RC.seq (sr (RL.s (Vl.fa 0 underlying27 rfl sizeOf22 rfl rfl) rfl (RL.s (Vl.ld 0 hS isAgg22 rfl rfl rfl) rfl (RL.s (Vl.lenSl underlying22 rfl) rfl (pn 1 rfl (ln ?_))))))))))
  refine RC.block ?_
  refine fun a ha => RC.loop (N := 26) (body := (model_programs.l2b a1)) (φ := (· = r)) (fun (s : Int) a w => ∃ (x150 : Int), s = (x150) ∧ Has 26 [(7, .slice A2 a1.Progs.length c3), (8, .int .i64 (a1.Progs.length : Int)), (9, .int .i64 x150)] a ∧ St B w (l) hf) ?_ (s0 := (0)) h ⟨0, rfl, ha.to ⟨rfl, rfl, rfl, trivial⟩, hS.d0⟩
  rintro G186 x150 a w ⟨_, rfl, ha, hS⟩ h
  revert a
  show RC _ _ _ _ _ _
  refine sr (pn 1 rfl (ln (RC.seq ?_)))
  refine RC.iteP 10 rfl h (fun hc188 h => ?_) fun hc188 h => ?_
  next =>
   refine RC.condT rfl (sk (RC.seq (RC.block (sr (pn 1 rfl ?_)))))
   obtain ⟨hq205, h⟩ := h.req
   refine RL.s (Vl.indexAddr underlying22 sizeOf89 rfl rfl (hr4.2.adr hq205 hc188) hq205 hc188 rfl) rfl ?_
   obtain ⟨_, _, ⟨A206, c207, rfl, hr208⟩, hl209⟩ := hr4.2.elem hq205 hc188
   refine RL.s (Vl.load isAgg89 rfl (cellH_world hS.sub (hl209 0 _ rfl))) rfl (pn 2 rfl (lnsr (pn 1 rfl (cF (fun _ hg => code_Check.ok hr208 hg hS) call113 h rfl rfl rfl ?_))))
   rintro t210 h _ w ⟨rfl, hS⟩
   refine pn 1 rfl (lnsr (pn 2 rfl (ln ?_)))
   refine RC.iteN 17 rfl h (fun hc212 h => ?_) fun hc212 h => ?_
   next =>
    refine RC.condF rfl (RC.skip (RQ.inB_n (RQ.then_n (RC.region (pn 2 rfl (RL.nil ?_))))))
    exact fun a ha => ⟨(IntKind.i64.wrap (x150 + 1)), ⟨(IntKind.i64.wrap (x150 + 1)), rfl, ha.to ⟨rfl, rfl, rfl, trivial⟩, hS⟩, h.some⟩
   refine RC.condT rfl (sr (pn 1 rfl (RL.s (Vl.build (v := .agg #[.int .i64 x150, .int .i64 130]) (parts := [(0, .tmp 18), (1, .const (.int .i64 130))]) rfl (by kernel_rfl)) rfl (RL.s (Vl.makeIface underlying106 rfl rfl) rfl (pn 1 rfl (RL.s (Vl.makeIface underlying29 rfl rfl) rfl (RL.e (OW.buildSliceR (sz := 1) (cs := [.iface 106 (.agg #[.int .i64 x150, .int .i64 130]), .iface 29 (.int .i64 t210)]) hS underlying225 zeroValue108 sizeOf108 (parts := [(0, .tmp 20), (1, .tmp 22)]) rfl rfl (by decide) (by decide) (by kernel_rfl)) rfl rfl ?_)))))))
   rintro _ w ⟨b213, rfl, hS⟩
   refine cF (fun _ hg => errors_Join.ok hg hS) call118 h rfl rfl rfl ?_
   rintro ⟨y216, y217⟩ h _ w ⟨b218, A219, c220, rfl, hS⟩
   refine pn 1 rfl (lr (RQ.inB_ret (RQ.ret ?_)))
   have h := h.inrS
   refine RQ.ret (RQ.inB_ret (RQ.ret ?_))
   obtain rfl := h.some
   exact rt results84 rfl ⟨b218, A219, c220, rfl, hS.d2⟩
  refine RC.condF rfl (RC.exit (RQ.exitT ?_))
  have h := h.inrS
  refine RQ.exitT (RQ.inB_hit (tsr (pn 1 rfl (lr ?_))))
  obtain rfl := h.some
  exact rt results84 rfl ⟨rfl, hS⟩
def errors_joinError_Unwrap.f (a4 : model_flaw) (a5 : Int) : Option (Unit) := some ()
theorem errors_joinError_Unwrap.ok {a4 : model_flaw} {a5 : Int} {b1 : Nat} {A2 : Option Addr} {c3 : Nat} {r : Unit} (h : errors_joinError_Unwrap.f a4 a5 = some r) (hS : St B w (OSl 108 1 (.slice A2 2 c3) 2 [.iface 106 (.agg #[.int .i64 a4.at_, .int .i64 a4.why]), .iface 29 (.int .i64 a5)] :: Cl b1 [.slice A2 2 c3] 256 :: l) hf) :
    Calls prog 250 #[.pointer (some ⟨b1, 0, none⟩)] w (Ret fun v w => v = .slice A2 2 c3 ∧ St B w (OSl 108 1 (.slice A2 2 c3) 2 [.iface 106 (.agg #[.int .i64 a4.at_, .int .i64 a4.why]), .iface 29 (.int .i64 a5)] :: Cl b1 [.slice A2 2 c3] 256 :: l) hf) := by
  have h := Holds.of h
  refine en func250 rfl ntmps250 rfl (sr (pn 1 rfl (lnsr (pn 2 rfl (RL.s (Vl.fa 0 underlying256 rfl sizeOf225 rfl rfl) rfl (RL.s (Vl.ld 1 hS isAgg225 rfl rfl rfl) rfl (pn 1 rfl (lr ?_))))))))
  exact rt results250 rfl ⟨rfl, hS⟩
def errors_as_3.f (a1 a3 : model_flaw) : Option (Bool × model_flaw) := some (true, a1)
theorem errors_as_3.ok {a1 a3 : model_flaw} {b2 b4 : Nat} {r : Bool × model_flaw} (h : errors_as_3.f a1 a3 = some r) (hS : St B w (Cl b2 [.int .i64 a3.at_, .int .i64 a3.why] 106 :: Cl b4 [.pointer (some ⟨b2, 0, none⟩)] 110 :: l) hf) :
    Calls prog 90 #[.iface 106 (.agg #[.int .i64 a1.at_, .int .i64 a1.why]), .iface 110 (.pointer (some ⟨b2, 0, none⟩)), .agg #[.pointer (some ⟨1, 110, none⟩), .pointer (some ⟨b4, 0, none⟩), .int .u64 150], .iface 215 (.agg #[.pointer (some ⟨1, 106, none⟩)])] w (Ret fun v w => v = .bool r.1 ∧ St B w (Cl b2 [.int .i64 r.2.at_, .int .i64 r.2.why] 106 :: Cl b4 [.pointer (some ⟨b2, 0, none⟩)] 110 :: l) hf) := by
  have h := Holds.of h
  refine en func90 rfl ntmps90 rfl (sr (bx hS rfl rfl rfl rfl fun b8 w hS => pn 1 rfl (ln (RC.block (RC.unroll (RQ.round (RC.block (RC.seq (sr (pn 1 rfl (RL.s (Vl.extern (ls := [.tmp 16]) (v := .iface 215 (.agg #[.pointer (some ⟨1, 106, none⟩)])) rfl func91 (by kernel_rfl) (by kernel_rfl) (by kernel_rfl) (e := Extern.ReflectliteType.typeOf) (by kernel_rfl) (fun w => by kernel_rfl)) rfl ?_)))))))))))
  refine pn 1 rfl (RL.s (Vl.invokeX (F := 236) (ls := [.tmp 18]) (v := .bool true) (u' := .agg #[.pointer (some ⟨1, 106, none⟩)]) rfl rfl (fun w => by kernel_rfl) func236 (by kernel_rfl) (by kernel_rfl) (by kernel_rfl) (e := (Extern.ReflectliteType.relation "AssignableTo" Extern.ReflectliteType.assignableTo)) (by kernel_rfl) (fun w => by kernel_rfl)) rfl (ln (RC.condT rfl (sr (RL.s (Vl.lw 0 hS isAgg161 sizeOf161 rfl rfl rfl) rfl (RL.s (Vl.externAt (ls := [.tmp 20]) (v := .agg #[.pointer (some ⟨1, 106, none⟩), .pointer (some ⟨b2, 0, none⟩), .int .u64 409]) rfl func119 (by kernel_rfl) (by kernel_rfl) (by kernel_rfl) (e := Extern.ReflectliteValue.method (Extern.ReflectliteValue.valueError "reflectlite.Value.Elem" 0) Extern.ReflectliteValue.elem) (by kernel_rfl) (run_elemV (n := 150) (a := ⟨b4, 0, none⟩) (fun w => by kernel_rfl) underlying110 rfl (hS.cell 2 rfl rfl) (fun w => by kernel_rfl) (fun w => by kernel_rfl))) rfl (pn 1 rfl (RL.e (OW.externNew (ls := [.tmp 22]) (cs := [.int .i64 a1.at_, .int .i64 a1.why]) (T := 106) (v := fun b => .agg #[.pointer (some ⟨1, 106, none⟩), .pointer (some ⟨b, 0, none⟩), .int .u64 153]) hS rfl func87 (by kernel_rfl) (by kernel_rfl) (by kernel_rfl) (e := fun args => Extern.ReflectliteValue.unpack (args.getD 0 (.tuple #[]))) (by kernel_rfl) (fun w => by kernel_rfl)) rfl rfl ?_))))))))
  rintro _ w ⟨b10, rfl, hS⟩
  refine RL.e (OW.setV (ls := [.tmp 21, .tmp 23]) (val := .agg #[.int .i64 a1.at_, .int .i64 a1.why]) (vs := [.int .i64 a1.at_, .int .i64 a1.why]) (n := 409) (m := 153) (a2 := ⟨b10, 0, none⟩) 2 hS rfl rfl func120 (by kernel_rfl) (by kernel_rfl) (by kernel_rfl) (by kernel_rfl) (fun w => by kernel_rfl) (fun w => by kernel_rfl) rfl (fun w => by kernel_rfl) (run_loadVarA (vs := [.int .i64 a1.at_, .int .i64 a1.why]) isAgg106 sizeOf106 rfl (hS.cellsAt 0 rfl rfl)) rfl sizeOf106 rfl rfl rfl rfl) rfl rfl ?_
  rintro _ w ⟨rfl, hS⟩
  have hS : St B w (_ :: _ :: _ :: _ :: l) hf := hS
  refine lnsr (pn 1 rfl (lr (RQ.ret (RQ.inB_ret (RQ.ret (RQ.inB_ret ?_))))))
  obtain rfl := h.some
  exact rt results90 rfl ⟨rfl, hS.d0.d0⟩
def errors_as_2.f (a4 : model_flaw) (a5 : Int) (a7 : model_flaw) : Option (Bool × model_flaw) := ((errors_joinError_Unwrap.f a4 a5).bind fun _ => ((errors_as_3.f a4 a7).bind fun (y38, y39) => (if y38 = true then some (true, y39) else ((errors_as.f a5 y39).bind fun t44 => (if t44 = true then some (true, y39) else some (false, y39))))))
theorem errors_as_2.ok {a4 : model_flaw} {a5 : Int} {a7 : model_flaw} {b1 : Nat} {A2 : Option Addr} {c3 b6 b8 : Nat} {r : Bool × model_flaw} (h : errors_as_2.f a4 a5 a7 = some r) (hS : St B w (OSl 108 1 (.slice A2 2 c3) 2 [.iface 106 (.agg #[.int .i64 a4.at_, .int .i64 a4.why]), .iface 29 (.int .i64 a5)] :: Cl b1 [.slice A2 2 c3] 256 :: Cl b6 [.int .i64 a7.at_, .int .i64 a7.why] 106 :: Cl b8 [.pointer (some ⟨b6, 0, none⟩)] 110 :: l) hf) :
    Calls prog 90 #[.iface 254 (.pointer (some ⟨b1, 0, none⟩)), .iface 110 (.pointer (some ⟨b6, 0, none⟩)), .agg #[.pointer (some ⟨1, 110, none⟩), .pointer (some ⟨b8, 0, none⟩), .int .u64 150], .iface 215 (.agg #[.pointer (some ⟨1, 106, none⟩)])] w (Ret fun v w => v = .bool r.1 ∧ St B w (OSl 108 1 (.slice A2 2 c3) 2 [.iface 106 (.agg #[.int .i64 a4.at_, .int .i64 a4.why]), .iface 29 (.int .i64 a5)] :: Cl b1 [.slice A2 2 c3] 256 :: Cl b6 [.int .i64 r.2.at_, .int .i64 r.2.why] 106 :: Cl b8 [.pointer (some ⟨b6, 0, none⟩)] 110 :: l) hf) := by
  have h := Holds.of h
  refine en func90 rfl ntmps90 rfl (sr (bx hS rfl rfl rfl rfl fun b28 w hS => pn 1 rfl (ln (RC.block (RC.unroll (RQ.round (RC.block (RC.seq (sr (pn 1 rfl (RL.s (Vl.extern (ls := [.tmp 16]) (v := .iface 215 (.agg #[.pointer (some ⟨1, 254, none⟩)])) rfl func91 (by kernel_rfl) (by kernel_rfl) (by kernel_rfl) (e := Extern.ReflectliteType.typeOf) (by kernel_rfl) (fun w => by kernel_rfl)) rfl ?_)))))))))))
  refine pn 1 rfl (RL.s (Vl.invokeX (F := 236) (ls := [.tmp 18]) (v := .bool false) (u' := .agg #[.pointer (some ⟨1, 254, none⟩)]) rfl rfl (fun w => by kernel_rfl) func236 (by kernel_rfl) (by kernel_rfl) (by kernel_rfl) (e := (Extern.ReflectliteType.relation "AssignableTo" Extern.ReflectliteType.assignableTo)) (by kernel_rfl) (fun w => by kernel_rfl)) rfl (ln (RC.condF rfl (sk (RC.seq (sr (pn 1 rfl (RL.s (Vl.tassert (r := .tuple #[.nilIface, .bool false]) rfl (fun w => run_typeAssert_lacksB underlying219 (by kernel_rfl) (by kernel_rfl) _ _ w)) rfl (pn 5 rfl (ln (RC.seq ?_)))))))))))
  refine RC.region (pn 6 rfl (ln (RC.condF rfl (sk (sr (pn 1 rfl (ln (RC.block (sr (RL.s (Vl.tassert (r := .tuple #[.nilIface, .bool false]) rfl (fun w => run_typeAssert_lacksB underlying222 (by kernel_rfl) (by kernel_rfl) _ _ w)) rfl ?_))))))))))
  refine pn 2 rfl (ln (RC.condF rfl (sr (RL.s (Vl.tassert (r := .tuple #[.iface 254 (.pointer (some ⟨b1, 0, none⟩)), .bool true]) rfl (fun w => run_typeAssert_hasB underlying224 (by kernel_rfl) _ _ w)) rfl (pn 2 rfl (ln (RC.condT rfl (sr (pn 1 rfl (ln ?_))))))))))
  refine RC.seq (sr (pn 1 rfl ?_))
  obtain ⟨t29, hg30, h⟩ := h.bind
  have hc := errors_joinError_Unwrap.ok hg30 hS.p2.p2
  refine RL.e (OW.invoke (F := 250) (u' := .pointer (some ⟨b1, 0, none⟩)) (ls := []) rfl rfl (fun w => by kernel_rfl) call250 rfl hc) rfl rfl ?_
  rintro _ w ⟨rfl, hS⟩
  refine RL.s (Vl.lenSl underlying225 rfl) rfl (pn 1 rfl (ln (RC.block (RC.unroll (RQ.round (sr (pn 1 rfl (ln (RC.seq (RC.condT rfl (sk ?_)))))))))))
  refine RC.seq (RC.block (sr (RL.s (Vl.indexAddr (a'' := (ad A2).add 0) underlying225 sizeOf108 rfl rfl (hS.litAdr 0 rfl (by decide)) (by decide) (by decide) rfl) rfl (RL.s (Vl.load isAgg108 rfl (hS.litCell 0 rfl rfl)) rfl (pn 1 rfl (ln (RC.seq (sr (pn 1 rfl (RL.s (Vl.bin (v := .bool false) rfl rfl (by kernel_rfl)) rfl (ln ?_)))))))))))
  refine RC.condF rfl (sk (sr (pn 2 rfl (RL.s (Vl.lw 2 hS isAgg161 sizeOf161 rfl rfl rfl) rfl (pn 1 rfl (cF (fun _ hg => errors_as_3.ok hg hS.p4.p4) call90 h rfl rfl rfl ?_))))))
  rintro ⟨y38, y39⟩ h _ w ⟨rfl, hS⟩
  refine ln ?_
  refine RC.iteB 60 rfl h (fun hc40 h => ?_) fun hc40 h => ?_
  next =>
   refine RC.condT rfl (sr (pn 1 rfl (lr (RQ.inB_ret (RQ.ret (RQ.ret (RQ.inB_ret (RQ.ret (RQ.inB_ret (RQ.inB_ret (RQ.ret (RQ.inB_ret ?_))))))))))))
   obtain rfl := h.some
   exact rt results90 rfl ⟨rfl, hS.d4.p3.p3⟩
  refine RC.condF rfl (RC.skip (RQ.inB_n (RQ.then_n (RC.region (pn 2 rfl (ln (RQ.round (sr (pn 1 rfl (ln (RC.seq (RC.condT rfl ?_))))))))))))
  refine sk (RC.seq (RC.block (sr (RL.s (Vl.indexAddr (a'' := (ad A2).add 1) underlying225 sizeOf108 rfl rfl (hS.litAdr 2 rfl (by decide)) (by decide) (by decide) rfl) rfl (RL.s (Vl.load isAgg108 rfl (hS.litCell 2 rfl rfl)) rfl (pn 1 rfl (ln (RC.seq (sr (pn 1 rfl (RL.s (Vl.bin (v := .bool false) rfl rfl (by kernel_rfl)) rfl ?_)))))))))))
  refine ln (RC.condF rfl (sk (sr (pn 2 rfl (RL.s (Vl.lw 4 hS isAgg161 sizeOf161 rfl rfl rfl) rfl (pn 1 rfl (cF (fun _ hg => errors_as.ok hg hS) call90 h rfl rfl rfl ?_)))))))
  rintro t44 h _ w ⟨rfl, hS⟩
  refine ln ?_
  refine RC.iteB 60 rfl h (fun hc46 h => ?_) fun hc46 h => ?_
  next =>
   refine RC.condT rfl (sr (pn 1 rfl (lr (RQ.inB_ret (RQ.ret (RQ.ret (RQ.inB_ret (RQ.ret (RQ.inB_ret (RQ.inB_ret (RQ.ret (RQ.inB_ret ?_))))))))))))
   obtain rfl := h.some
   exact rt results90 rfl ⟨rfl, hS.d4.p3.p3⟩
  refine RC.condF rfl (RC.skip (RQ.inB_n (RQ.then_n (RC.region (pn 2 rfl (ln (RQ.round (sr (pn 1 rfl (ln (RC.seq (RC.condF rfl ?_))))))))))))
  refine RC.exit (RQ.exitT (RQ.exitT (RQ.inB_hit (tsr (pn 1 rfl (lr (RQ.inB_ret (RQ.inB_ret (RQ.ret (RQ.inB_ret ?_))))))))))
  obtain rfl := h.some
  exact rt results90 rfl ⟨rfl, hS.d4.p3.p3⟩
def errors_As_2.f (a4 : model_flaw) (a5 : Int) (a7 : model_flaw) : Option (Bool × model_flaw) := ((errors_as_2.f a4 a5 a7).bind fun (y18, y19) => some (y18, y19))
theorem errors_As_2.ok {a4 : model_flaw} {a5 : Int} {a7 : model_flaw} {b1 : Nat} {A2 : Option Addr} {c3 b6 : Nat} (hG0 : GlobAt hf 0 (.iface 215 (.agg #[.pointer (some ⟨1, 108, none⟩)]))) {r : Bool × model_flaw} (h : errors_As_2.f a4 a5 a7 = some r) (hS : St B w (OSl 108 1 (.slice A2 2 c3) 2 [.iface 106 (.agg #[.int .i64 a4.at_, .int .i64 a4.why]), .iface 29 (.int .i64 a5)] :: Cl b1 [.slice A2 2 c3] 256 :: Cl b6 [.int .i64 a7.at_, .int .i64 a7.why] 106 :: l) hf) :
    Calls prog 43 #[.iface 254 (.pointer (some ⟨b1, 0, none⟩)), .iface 110 (.pointer (some ⟨b6, 0, none⟩))] w (Ret fun v w => v = .bool r.1 ∧ St B w (OSl 108 1 (.slice A2 2 c3) 2 [.iface 106 (.agg #[.int .i64 a4.at_, .int .i64 a4.why]), .iface 29 (.int .i64 a5)] :: Cl b1 [.slice A2 2 c3] 256 :: Cl b6 [.int .i64 r.2.at_, .int .i64 r.2.why] 106 :: l) hf) := by
  have h := Holds.of h
  refine en func43 rfl ntmps43 rfl (sr (pn 1 rfl (ln (RC.seq (sr (pn 1 rfl (RL.s (Vl.bin (v := .bool false) rfl rfl (by kernel_rfl)) rfl (ln (RC.condF rfl (sk ?_))))))))))
  refine RC.seq (sr (pn 1 rfl (RL.s (Vl.bin (v := .bool false) rfl rfl (by kernel_rfl)) rfl (ln (RC.condF rfl (sk (sr (pn 1 rfl (RL.e (OW.externNew (ls := [.tmp 13]) (cs := [.pointer (some ⟨b6, 0, none⟩)]) (T := 110) (v := fun b => .agg #[.pointer (some ⟨1, 110, none⟩), .pointer (some ⟨b, 0, none⟩), .int .u64 150]) hS rfl func87 (by kernel_rfl) (by kernel_rfl) (by kernel_rfl) (e := fun args => Extern.ReflectliteValue.unpack (args.getD 0 (.tuple #[]))) (by kernel_rfl) (fun w => by kernel_rfl)) rfl rfl ?_)))))))))
  rintro _ w ⟨b14, rfl, hS⟩
  refine al hS zeroValue161 rfl rfl rfl fun b15 w hS => RL.e0 (OW.store (vs := [.pointer (some ⟨1, 110, none⟩), .pointer (some ⟨b14, 0, none⟩), .int .u64 150]) 0 hS rfl rfl rfl rfl sizeOf161 rfl rfl rfl rfl) rfl ?_
  rintro _ w ⟨rfl, hS⟩
  have hS : St B w (Cl _ [_, _, _] _ :: _ :: _ :: _ :: _ :: l) hf := hS
  refine lnsr (RL.s (Vl.lw 0 hS isAgg161 sizeOf161 rfl rfl rfl) rfl (RL.s (Vl.extern (ls := [.tmp 15]) (v := .iface 215 (.agg #[.pointer (some ⟨1, 110, none⟩)])) rfl func88 (by kernel_rfl) (by kernel_rfl) (by kernel_rfl) (e := Extern.ReflectliteValue.methodAny (Extern.ReflectliteValue.valueError "reflectlite.Value.Type" 0) fun t _ _ _ => Extern.ReflectliteType.toType t) (by kernel_rfl) (fun w => by kernel_rfl)) rfl (pn 1 rfl (ln (RC.seq (sr (pn 1 rfl (RL.s (Vl.invokeX (F := 179) (ls := []) (v := .int .u8 22) (u' := .pointer (some ⟨1, 110, none⟩)) rfl rfl (fun w => by kernel_rfl) func179 (by kernel_rfl) (by kernel_rfl) (by kernel_rfl) (e := (Extern.ReflectliteType.abiMethod fun t => do pure (.int .u8 (← Extern.Rtype.kind t)))) (by kernel_rfl) (fun w => by kernel_rfl)) rfl (pn 2 rfl (RL.sg (Vl.lw 0 hS isAgg161 sizeOf161 rfl rfl rfl) rfl rfl ?_))))))))))
  refine RL.sg (Vl.externAt (ls := [.tmp 21]) (v := .bool false) rfl func89 (by kernel_rfl) (by kernel_rfl) (by kernel_rfl) (e := Extern.ReflectliteValue.method (Extern.ReflectliteValue.valueError "reflectlite.Value.IsNil" 0) Extern.ReflectliteValue.isNil) (by kernel_rfl) (run_isNil (n := 150) (a := ⟨b14, 0, none⟩) (fun w => by kernel_rfl) underlying110 rfl (hS.cell 1 rfl rfl))) rfl rfl (pn 1 rfl (ln (RC.condF rfl (sk (sr (pn 1 rfl (RL.s (Vl.invokeX (F := 238) (ls := []) (v := .iface 215 (.agg #[.pointer (some ⟨1, 106, none⟩)])) (u' := .agg #[.pointer (some ⟨1, 110, none⟩)]) rfl rfl (fun w => by kernel_rfl) func238 (by kernel_rfl) (by kernel_rfl) (by kernel_rfl) (e := (Extern.ReflectliteType.method Extern.ReflectliteType.elem)) (by kernel_rfl) (fun w => by kernel_rfl)) rfl (pn 1 rfl (ln (RC.seq (RC.seq ?_)))))))))))
  refine RC.region (pn 1 rfl (RL.s (Vl.invokeX (F := 179) (ls := []) (v := .int .u8 25) (u' := .pointer (some ⟨1, 106, none⟩)) rfl rfl (fun w => by kernel_rfl) func179 (by kernel_rfl) (by kernel_rfl) (by kernel_rfl) (e := (Extern.ReflectliteType.abiMethod fun t => do pure (.int .u8 (← Extern.Rtype.kind t)))) (by kernel_rfl) (fun w => by kernel_rfl)) rfl (pn 3 rfl (RL.sg (Vl.load isAgg164 rfl (cellH_world hS.sub hG0)) rfl rfl (RL.sg (Vl.invokeX (F := 239) (ls := [.tmp 32]) (v := .bool true) (u' := .agg #[.pointer (some ⟨1, 106, none⟩)]) rfl rfl (fun w => by kernel_rfl) func239 (by kernel_rfl) (by kernel_rfl) (by kernel_rfl) (e := (Extern.ReflectliteType.relation "Implements" Extern.ReflectliteType.implements_)) (by kernel_rfl) (fun w => by kernel_rfl)) rfl rfl (pn 2 rfl (ln (RC.condF rfl (sk (sr (pn 2 rfl (RL.s (Vl.lw 0 hS isAgg161 sizeOf161 rfl rfl rfl) rfl ?_))))))))))))
  refine pn 1 rfl (cF (fun _ hg => errors_as_2.ok hg hS.p1.p4.p4.p4) call90 h rfl rfl rfl ?_)
  rintro ⟨y18, y19⟩ h _ w ⟨rfl, hS⟩
  refine pn 1 rfl (lr ?_)
  obtain rfl := h.some
  exact rt results43 rfl ⟨rfl, hS.d3.d3⟩
def model_flaw_Unwrap.f (a1 : model_flaw) : Option (Int) := some a1.why
theorem model_flaw_Unwrap.ok {a1 : model_flaw} {r : Int} (h : model_flaw_Unwrap.f a1 = some r) (hS : St B w (l) hf) :
    Calls prog 185 #[.agg #[.int .i64 a1.at_, .int .i64 a1.why]] w (Ret fun v w => v = .iface 29 (.int .i64 r) ∧ St B w (l) hf) := by
  have h := Holds.of h
  refine en func185 rfl ntmps185 rfl (sr (bx hS rfl rfl rfl rfl fun b3 w hS => pn 1 rfl (lnsr (RL.s (Vl.fa 1 underlying106 rfl sizeOf29 rfl rfl) rfl (RL.s (Vl.ld 0 hS isAgg29 rfl rfl rfl) rfl (RL.s (Vl.makeIface underlying29 rfl rfl) rfl (pn 1 rfl (lr ?_))))))))
  obtain rfl := h.some
  exact rt results185 rfl ⟨rfl, hS.d0⟩
def errors_is_4.f (a1 : model_flaw) (a2 : Int) (a3 : Bool) : Option (Bool) := (if a3 = true then ((model_flaw_Unwrap.f a1).bind fun t14 => (if t14 = a2 then some true else some false)) else ((model_flaw_Unwrap.f a1).bind fun t18 => some false))
theorem errors_is_4.ok {a1 : model_flaw} {a2 : Int} {a3 : Bool} {r : Bool} (h : errors_is_4.f a1 a2 a3 = some r) (hS : St B w (l) hf) :
    Calls prog 92 #[.iface 106 (.agg #[.int .i64 a1.at_, .int .i64 a1.why]), .iface 29 (.int .i64 a2), .bool a3] w (Ret fun v w => v = .bool r ∧ St B w (l) hf) := by
  have h := Holds.of h
  refine en func92 rfl ntmps92 rfl (sr (pn 1 rfl (ln (RC.block (RC.unroll (RQ.round (RC.block (RC.seq (sr (pn 2 rfl ?_))))))))))
  refine RL.iteB 15 rfl h (fun hc13 h => ?_) fun hc13 h => ?_
  next =>
   refine pn 2 rfl (RL.sg (Vl.ifaceNeq rfl rfl underlying108 rfl) rfl rfl (pn 1 rfl (ln (RC.condF rfl (sk (RC.seq (sr (pn 1 rfl (RL.s (Vl.tassert (r := .tuple #[.nilIface, .bool false]) rfl (fun w => run_typeAssert_lacksB underlying227 (by kernel_rfl) (by kernel_rfl) _ _ w)) rfl (pn 5 rfl (ln ?_)))))))))))
   refine sr (pn 6 rfl (ln (RC.condF rfl (sk (sr (pn 1 rfl (ln (RC.block (sr ?_)))))))))
   refine RL.s (Vl.tassert (r := .tuple #[.iface 106 (.agg #[.int .i64 a1.at_, .int .i64 a1.why]), .bool true]) rfl (fun w => run_typeAssert_hasB underlying222 (by kernel_rfl) _ _ w)) rfl (pn 2 rfl (ln (RC.condT rfl (sr (pn 1 rfl (lnsr (pn 1 rfl ?_)))))))
   obtain ⟨t14, hg15, h⟩ := h.bind
   have hc := model_flaw_Unwrap.ok hg15 hS
   refine RL.e (OW.invoke (F := 185) (u' := .agg #[.int .i64 a1.at_, .int .i64 a1.why]) (ls := []) rfl rfl (fun w => by kernel_rfl) call185 rfl hc) rfl rfl ?_
   rintro _ w ⟨rfl, hS⟩
   refine pn 1 rfl (lnsr (pn 1 rfl (RL.s (Vl.bin (v := .bool false) rfl rfl (by kernel_rfl)) rfl (ln (RC.condF rfl (RC.skip (RQ.inB_n (RQ.inB_n (RQ.then_n (RQ.round (RC.block ?_)))))))))))
   refine RC.seq (sr (pn 2 rfl (RL.re 15 rfl (congrArg Value.bool (id hc13)) (pn 2 rfl (RL.sg (Vl.ifaceInt rfl rfl underlying108 underlying29 type29 rfl) rfl rfl (pn 1 rfl (ln ?_)))))))
   refine RC.iteP 19 rfl h (fun hc17 h => ?_) fun hc17 h => ?_
   next =>
    refine RC.condT rfl (sr (pn 1 rfl (lr (RQ.ret (RQ.inB_ret (RQ.ret (RQ.inB_ret ?_)))))))
    obtain rfl := h.some
    exact rt results92 rfl ⟨rfl, hS⟩
   refine RC.condF rfl (sk (RC.seq (sr (pn 1 rfl (RL.s (Vl.tassert (r := .tuple #[.nilIface, .bool false]) rfl (fun w => run_typeAssert_lacksB underlying227 (by kernel_rfl) (by kernel_rfl) _ _ w)) rfl (pn 5 rfl (lnsr (pn 6 rfl (ln ?_)))))))))
   refine RC.condF rfl (sk (sr (pn 1 rfl (ln (RC.block (sr (RL.s (Vl.tassert (r := .tuple #[.nilIface, .bool false]) rfl (fun w => run_typeAssert_lacksB underlying222 (by kernel_rfl) (by kernel_rfl) _ _ w)) rfl (pn 2 rfl (ln (RC.condF rfl ?_))))))))))
   refine sr (RL.s (Vl.tassert (r := .tuple #[.nilIface, .bool false]) rfl (fun w => run_typeAssert_lacksB underlying224 (by kernel_rfl) (by kernel_rfl) _ _ w)) rfl (pn 2 rfl (ln (RC.condF rfl (sr (pn 1 rfl (lnsr (pn 1 rfl (RL.nil ?_)))))))))
   refine tr (RQ.inB_ret (RQ.inB_ret (RQ.ret (RQ.inB_ret ?_))))
   obtain rfl := h.some
   exact rt results92 rfl ⟨rfl, hS⟩
  refine pn 4 rfl (ln (RC.condF rfl (sk (RC.seq (sr (pn 1 rfl (RL.s (Vl.tassert (r := .tuple #[.nilIface, .bool false]) rfl (fun w => run_typeAssert_lacksB underlying227 (by kernel_rfl) (by kernel_rfl) _ _ w)) rfl (pn 5 rfl (lnsr ?_)))))))))
  refine pn 6 rfl (ln (RC.condF rfl (sk (sr (pn 1 rfl (ln (RC.block (sr (RL.s (Vl.tassert (r := .tuple #[.iface 106 (.agg #[.int .i64 a1.at_, .int .i64 a1.why]), .bool true]) rfl (fun w => run_typeAssert_hasB underlying222 (by kernel_rfl) _ _ w)) rfl (pn 2 rfl ?_))))))))))
  refine ln (RC.condT rfl (sr (pn 1 rfl (lnsr (pn 1 rfl ?_)))))
  obtain ⟨t18, hg19, h⟩ := h.bind
  have hc := model_flaw_Unwrap.ok hg19 hS
  refine RL.e (OW.invoke (F := 185) (u' := .agg #[.int .i64 a1.at_, .int .i64 a1.why]) (ls := []) rfl rfl (fun w => by kernel_rfl) call185 rfl hc) rfl rfl ?_
  rintro _ w ⟨rfl, hS⟩
  refine pn 1 rfl (lnsr (pn 1 rfl (RL.s (Vl.bin (v := .bool false) rfl rfl (by kernel_rfl)) rfl (ln (RC.condF rfl (RC.skip (RQ.inB_n (RQ.inB_n (RQ.then_n (RQ.round (RC.block ?_)))))))))))
  refine RC.seq (sr (pn 2 rfl (RL.re 15 rfl (congrArg Value.bool (eq_false_of hc13)) (pn 4 rfl (ln (RC.condF rfl (sk (RC.seq (sr (pn 1 rfl (RL.s (Vl.tassert (r := .tuple #[.nilIface, .bool false]) rfl (fun w => run_typeAssert_lacksB underlying227 (by kernel_rfl) (by kernel_rfl) _ _ w)) rfl ?_)))))))))))
  refine pn 5 rfl (lnsr (pn 6 rfl (ln (RC.condF rfl (sk (sr (pn 1 rfl (ln ?_))))))))
  refine RC.block (sr (RL.s (Vl.tassert (r := .tuple #[.nilIface, .bool false]) rfl (fun w => run_typeAssert_lacksB underlying222 (by kernel_rfl) (by kernel_rfl) _ _ w)) rfl (pn 2 rfl (ln (RC.condF rfl (sr (RL.s (Vl.tassert (r := .tuple #[.nilIface, .bool false]) rfl (fun w => run_typeAssert_lacksB underlying224 (by kernel_rfl) (by kernel_rfl) _ _ w)) rfl (pn 2 rfl (ln (RC.condF rfl (RC.seq ?_)))))))))))
  refine RC.region (pn 1 rfl (lnsr (pn 1 rfl (lr (RQ.inB_ret (RQ.inB_ret (RQ.ret (RQ.inB_ret ?_))))))))
  obtain rfl := h.some
  exact rt results92 rfl ⟨rfl, hS⟩
def errors_is_3.f (a4 : model_flaw) (a5 a6 : Int) (a7 : Bool) : Option (Bool) := (if a7 = true then ((errors_joinError_Unwrap.f a4 a5).bind fun _ => ((errors_is_4.f a4 a6 a7).bind fun t45 => (if t45 = true then some true else ((errors_is.f a5 a6 a7).bind fun t51 => (if t51 = true then some true else some false))))) else ((errors_joinError_Unwrap.f a4 a5).bind fun _ => ((errors_is_4.f a4 a6 a7).bind fun t59 => (if t59 = true then some true else ((errors_is.f a5 a6 a7).bind fun t65 => (if t65 = true then some true else some false))))))
theorem errors_is_3.ok {a4 : model_flaw} {a5 a6 : Int} {a7 : Bool} {b1 : Nat} {A2 : Option Addr} {c3 : Nat} {r : Bool} (h : errors_is_3.f a4 a5 a6 a7 = some r) (hS : St B w (OSl 108 1 (.slice A2 2 c3) 2 [.iface 106 (.agg #[.int .i64 a4.at_, .int .i64 a4.why]), .iface 29 (.int .i64 a5)] :: Cl b1 [.slice A2 2 c3] 256 :: l) hf) :
    Calls prog 92 #[.iface 254 (.pointer (some ⟨b1, 0, none⟩)), .iface 29 (.int .i64 a6), .bool a7] w (Ret fun v w => v = .bool r ∧ St B w (OSl 108 1 (.slice A2 2 c3) 2 [.iface 106 (.agg #[.int .i64 a4.at_, .int .i64 a4.why]), .iface 29 (.int .i64 a5)] :: Cl b1 [.slice A2 2 c3] 256 :: l) hf) := by
  have h := Holds.of h
  refine en func92 rfl ntmps92 rfl (sr (pn 1 rfl (ln (RC.block (RC.unroll (RQ.round (RC.block (RC.seq (sr (pn 2 rfl ?_))))))))))
  refine RL.iteB 15 rfl h (fun hc39 h => ?_) fun hc39 h => ?_
  next =>
   refine pn 2 rfl (RL.sg (Vl.ifaceNeq rfl rfl underlying108 rfl) rfl rfl (pn 1 rfl (ln (RC.condF rfl (sk (RC.seq (sr (pn 1 rfl (RL.s (Vl.tassert (r := .tuple #[.nilIface, .bool false]) rfl (fun w => run_typeAssert_lacksB underlying227 (by kernel_rfl) (by kernel_rfl) _ _ w)) rfl (pn 5 rfl (ln ?_)))))))))))
   refine sr (pn 6 rfl (ln (RC.condF rfl (sk (sr (pn 1 rfl (ln (RC.block (sr ?_)))))))))
   refine RL.s (Vl.tassert (r := .tuple #[.nilIface, .bool false]) rfl (fun w => run_typeAssert_lacksB underlying222 (by kernel_rfl) (by kernel_rfl) _ _ w)) rfl (pn 2 rfl (ln (RC.condF rfl (sr (RL.s (Vl.tassert (r := .tuple #[.iface 254 (.pointer (some ⟨b1, 0, none⟩)), .bool true]) rfl (fun w => run_typeAssert_hasB underlying224 (by kernel_rfl) _ _ w)) rfl (pn 2 rfl (ln (RC.condT rfl (sr (pn 1 rfl (RL.nil ?_)))))))))))
   refine RQ.then_n (RC.seq (sr (pn 1 rfl ?_)))
   obtain ⟨t40, hg41, h⟩ := h.bind
   have hc := errors_joinError_Unwrap.ok hg41 hS
   refine RL.e (OW.invoke (F := 250) (u' := .pointer (some ⟨b1, 0, none⟩)) (ls := []) rfl rfl (fun w => by kernel_rfl) call250 rfl hc) rfl rfl ?_
   rintro _ w ⟨rfl, hS⟩
   refine RL.s (Vl.lenSl underlying225 rfl) rfl (pn 1 rfl (ln (RC.block (RC.unroll (RQ.round (sr (pn 1 rfl (ln (RC.seq (RC.condT rfl (sk ?_)))))))))))
   refine RC.seq (RC.block (sr (RL.s (Vl.indexAddr (a'' := (ad A2).add 0) underlying225 sizeOf108 rfl rfl (hS.litAdr 0 rfl (by decide)) (by decide) (by decide) rfl) rfl (RL.s (Vl.load isAgg108 rfl (hS.litCell 0 rfl rfl)) rfl (pn 1 rfl (lnsr (pn 3 rfl (cF (fun _ hg => errors_is_4.ok hg hS) call92 h rfl rfl rfl ?_))))))))
   rintro t45 h _ w ⟨rfl, hS⟩
   refine ln ?_
   refine RC.iteB 52 rfl h (fun hc47 h => ?_) fun hc47 h => ?_
   next =>
    refine RC.condT rfl (sr (pn 1 rfl (lr (RQ.inB_ret (RQ.ret (RQ.ret (RQ.inB_ret (RQ.ret (RQ.inB_ret (RQ.inB_ret (RQ.ret (RQ.inB_ret ?_))))))))))))
    obtain rfl := h.some
    exact rt results92 rfl ⟨rfl, hS⟩
   refine RC.condF rfl (RC.skip (RQ.inB_n (RQ.then_n (RC.region (pn 2 rfl (ln (RQ.round (sr (pn 1 rfl (ln (RC.seq (RC.condT rfl ?_))))))))))))
   refine sk (RC.seq (RC.block (sr (RL.s (Vl.indexAddr (a'' := (ad A2).add 1) underlying225 sizeOf108 rfl rfl (hS.litAdr 0 rfl (by decide)) (by decide) (by decide) rfl) rfl (RL.s (Vl.load isAgg108 rfl (hS.litCell 0 rfl rfl)) rfl (pn 1 rfl (lnsr (pn 3 rfl (cF (fun _ hg => errors_is.ok hg hS) call92 h rfl rfl rfl ?_)))))))))
   rintro t51 h _ w ⟨rfl, hS⟩
   refine ln ?_
   refine RC.iteB 52 rfl h (fun hc53 h => ?_) fun hc53 h => ?_
   next =>
    refine RC.condT rfl (sr (pn 1 rfl (lr (RQ.inB_ret (RQ.ret (RQ.ret (RQ.inB_ret (RQ.ret (RQ.inB_ret (RQ.inB_ret (RQ.ret (RQ.inB_ret ?_))))))))))))
    obtain rfl := h.some
    exact rt results92 rfl ⟨rfl, hS⟩
   refine RC.condF rfl (RC.skip (RQ.inB_n (RQ.then_n (RC.region (pn 2 rfl (ln (RQ.round (sr (pn 1 rfl (ln (RC.seq (RC.condF rfl ?_))))))))))))
   refine RC.exit (RQ.exitT (RQ.exitT (RQ.inB_hit (tsr (pn 1 rfl (lr (RQ.inB_ret (RQ.inB_ret (RQ.ret (RQ.inB_ret ?_))))))))))
   obtain rfl := h.some
   exact rt results92 rfl ⟨rfl, hS⟩
  refine pn 4 rfl (ln (RC.condF rfl (sk (RC.seq (sr (pn 1 rfl (RL.s (Vl.tassert (r := .tuple #[.nilIface, .bool false]) rfl (fun w => run_typeAssert_lacksB underlying227 (by kernel_rfl) (by kernel_rfl) _ _ w)) rfl (pn 5 rfl (lnsr ?_)))))))))
  refine pn 6 rfl (ln (RC.condF rfl (sk (sr (pn 1 rfl (ln (RC.block (sr (RL.s (Vl.tassert (r := .tuple #[.nilIface, .bool false]) rfl (fun w => run_typeAssert_lacksB underlying222 (by kernel_rfl) (by kernel_rfl) _ _ w)) rfl (pn 2 rfl ?_))))))))))
  refine ln (RC.condF rfl (sr (RL.s (Vl.tassert (r := .tuple #[.iface 254 (.pointer (some ⟨b1, 0, none⟩)), .bool true]) rfl (fun w => run_typeAssert_hasB underlying224 (by kernel_rfl) _ _ w)) rfl (pn 2 rfl (ln (RC.condT rfl (sr (pn 1 rfl (ln (RC.seq ?_))))))))))
  refine sr (pn 1 rfl ?_)
  obtain ⟨t54, hg55, h⟩ := h.bind
  have hc := errors_joinError_Unwrap.ok hg55 hS
  refine RL.e (OW.invoke (F := 250) (u' := .pointer (some ⟨b1, 0, none⟩)) (ls := []) rfl rfl (fun w => by kernel_rfl) call250 rfl hc) rfl rfl ?_
  rintro _ w ⟨rfl, hS⟩
  refine RL.s (Vl.lenSl underlying225 rfl) rfl (pn 1 rfl (ln (RC.block (RC.unroll (RQ.round (sr (pn 1 rfl (ln (RC.seq (RC.condT rfl (sk ?_)))))))))))
  refine RC.seq (RC.block (sr (RL.s (Vl.indexAddr (a'' := (ad A2).add 0) underlying225 sizeOf108 rfl rfl (hS.litAdr 0 rfl (by decide)) (by decide) (by decide) rfl) rfl (RL.s (Vl.load isAgg108 rfl (hS.litCell 0 rfl rfl)) rfl (pn 1 rfl (lnsr (pn 3 rfl (cF (fun _ hg => errors_is_4.ok hg hS) call92 h rfl rfl rfl ?_))))))))
  rintro t59 h _ w ⟨rfl, hS⟩
  refine ln ?_
  refine RC.iteB 52 rfl h (fun hc61 h => ?_) fun hc61 h => ?_
  next =>
   refine RC.condT rfl (sr (pn 1 rfl (lr (RQ.inB_ret (RQ.ret (RQ.ret (RQ.inB_ret (RQ.ret (RQ.inB_ret (RQ.inB_ret (RQ.ret (RQ.inB_ret ?_))))))))))))
   obtain rfl := h.some
   exact rt results92 rfl ⟨rfl, hS⟩
  refine RC.condF rfl (RC.skip (RQ.inB_n (RQ.then_n (RC.region (pn 2 rfl (ln (RQ.round (sr (pn 1 rfl (ln (RC.seq (RC.condT rfl ?_))))))))))))
  refine sk (RC.seq (RC.block (sr (RL.s (Vl.indexAddr (a'' := (ad A2).add 1) underlying225 sizeOf108 rfl rfl (hS.litAdr 0 rfl (by decide)) (by decide) (by decide) rfl) rfl (RL.s (Vl.load isAgg108 rfl (hS.litCell 0 rfl rfl)) rfl (pn 1 rfl (lnsr (pn 3 rfl (cF (fun _ hg => errors_is.ok hg hS) call92 h rfl rfl rfl ?_)))))))))
  rintro t65 h _ w ⟨rfl, hS⟩
  refine ln ?_
  refine RC.iteB 52 rfl h (fun hc67 h => ?_) fun hc67 h => ?_
  next =>
   refine RC.condT rfl (sr (pn 1 rfl (lr (RQ.inB_ret (RQ.ret (RQ.ret (RQ.inB_ret (RQ.ret (RQ.inB_ret (RQ.inB_ret (RQ.ret (RQ.inB_ret ?_))))))))))))
   obtain rfl := h.some
   exact rt results92 rfl ⟨rfl, hS⟩
  refine RC.condF rfl (RC.skip (RQ.inB_n (RQ.then_n (RC.region (pn 2 rfl (ln (RQ.round (sr (pn 1 rfl (ln (RC.seq (RC.condF rfl ?_))))))))))))
  refine RC.exit (RQ.exitT (RQ.exitT (RQ.inB_hit (tsr (pn 1 rfl (lr (RQ.inB_ret (RQ.inB_ret (RQ.ret (RQ.inB_ret ?_))))))))))
  obtain rfl := h.some
  exact rt results92 rfl ⟨rfl, hS⟩
def errors_Is_4.f (a4 : model_flaw) (a5 a6 : Int) : Option (Bool) := ((errors_is_3.f a4 a5 a6 true).bind fun t9 => some t9)
theorem errors_Is_4.ok {a4 : model_flaw} {a5 a6 : Int} {b1 : Nat} {A2 : Option Addr} {c3 : Nat} {r : Bool} (h : errors_Is_4.f a4 a5 a6 = some r) (hS : St B w (OSl 108 1 (.slice A2 2 c3) 2 [.iface 106 (.agg #[.int .i64 a4.at_, .int .i64 a4.why]), .iface 29 (.int .i64 a5)] :: Cl b1 [.slice A2 2 c3] 256 :: l) hf) :
    Calls prog 44 #[.iface 254 (.pointer (some ⟨b1, 0, none⟩)), .iface 29 (.int .i64 a6)] w (Ret fun v w => v = .bool r ∧ St B w (OSl 108 1 (.slice A2 2 c3) 2 [.iface 106 (.agg #[.int .i64 a4.at_, .int .i64 a4.why]), .iface 29 (.int .i64 a5)] :: Cl b1 [.slice A2 2 c3] 256 :: l) hf) := by
  have h := Holds.of h
  refine en func44 rfl ntmps44 rfl (sr (pn 1 rfl (ln (RC.seq (sr (pn 1 rfl (RL.s (Vl.bin (v := .bool false) rfl rfl (by kernel_rfl)) rfl (pn 2 rfl (RL.sg (Vl.bin (v := .bool false) rfl rfl (by kernel_rfl)) rfl rfl (pn 1 rfl (ln ?_)))))))))))
  refine RC.condF rfl (sk (sr (pn 1 rfl (RL.s (Vl.extern (ls := [.tmp 15]) (v := .iface 215 (.agg #[.pointer (some ⟨1, 29, none⟩)])) rfl func91 (by kernel_rfl) (by kernel_rfl) (by kernel_rfl) (e := Extern.ReflectliteType.typeOf) (by kernel_rfl) (fun w => by kernel_rfl)) rfl (RL.s (Vl.invokeX (F := 237) (ls := []) (v := .bool true) (u' := .agg #[.pointer (some ⟨1, 29, none⟩)]) rfl rfl (fun w => by kernel_rfl) func237 (by kernel_rfl) (by kernel_rfl) (by kernel_rfl) (e := (Extern.ReflectliteType.method fun t => do Extern.Rtype.noPackHeld "Comparable" t; pure (.bool (← typeInfo t).comparable))) (by kernel_rfl) (fun w => by kernel_rfl)) rfl (pn 1 rfl (lnsr (pn 3 rfl (cF (fun _ hg => errors_is_3.ok hg hS) call92 h rfl rfl rfl ?_)))))))))
  rintro t9 h _ w ⟨rfl, hS⟩
  refine pn 1 rfl (lr ?_)
  obtain rfl := h.some
  exact rt results44 rfl ⟨rfl, hS⟩
def model_lane.f (a1 : api_Model) (a11 : Int) : Option (Bool) := (if 0 ≤ a11 then some (decide (a11 < (a1.Progs.length : Int))) else some false)
theorem model_lane.ok {a1 : api_Model} {a11 : Int} {A2 : Option Addr} {c3 : Nat} {A5 : Option Addr} {c6 : Nat} {A8 : Option Addr} {c9 : Nat} (hr4 : SlR (Rep.sl E_api_Instr.rep) hf A2 c3 a1.Progs) (hr7 : SlR E_api_Link.rep hf A5 c6 a1.Links) (hr10 : SlR E_api_Start.rep hf A8 c9 a1.Starts) {r : Bool} (h : model_lane.f a1 a11 = some r) (hS : St B w (l) hf) :
    Calls prog 77 #[.agg (C_api_Model a1 A2 c3 A5 c6 A8 c9).toArray, .int .i64 a11] w (Ret fun v w => v = .bool r ∧ St B w (l) hf) := by
  have h := Holds.of h
  refine en func77 rfl ntmps77 rfl (sr (bx hS rfl rfl rfl rfl fun b14 w hS => pn 1 rfl (lnsr (pn 3 rfl ?_))))
  refine RL.iteP 7 rfl h (fun hc15 h => ?_) fun hc15 h => ?_
  next =>
   refine pn 1 rfl (RL.sg (Vl.fa 0 underlying27 rfl sizeOf22 rfl rfl) rfl rfl (RL.sg (Vl.ld 0 hS isAgg22 rfl rfl rfl) rfl rfl (RL.sg (Vl.lenSl underlying22 rfl) rfl rfl (pn 3 rfl (lr ?_)))))
   obtain rfl := h.some
   exact rt results77 rfl ⟨rfl, hS.d0⟩
  refine pn 7 rfl (lr ?_)
  obtain rfl := h.some
  exact rt results77 rfl ⟨rfl, hS.d0⟩
def model_links.l2b (a1 : api_Model) : (Nat → Bool) × Int → Option (((Nat → Bool) × Int) ⊕ ((Int) ⊕ (model_flaw) ⊕ (Unit)))
  | (fn256, x257) => (if x257 < (a1.Links.length : Int) then (if 0 ≤ x257 then ((model_lane.f a1 ((nth a1.Links x257).From)).bind fun t364 => (if t364 = true then ((model_lane.f a1 ((nth a1.Links x257).To)).bind fun t367 => (if t367 = true then (if (nth a1.Links x257).Look < 1 then some (.inr (.inr (.inl (⟨x257, 131⟩ : model_flaw)))) else (if 4611686018427387903 < (nth a1.Links x257).Look then some (.inr (.inr (.inl (⟨x257, 131⟩ : model_flaw)))) else (if 0 ≤ (nth a1.Links x257).From ∧ (nth a1.Links x257).From < 16 then (if 0 ≤ (nth a1.Links x257).To ∧ (nth a1.Links x257).To < 16 then (if fn256 (((nth a1.Links x257).From).toNat * 16 + ((nth a1.Links x257).To).toNat * 1) = true then some (.inr (.inr (.inl (⟨x257, 131⟩ : model_flaw)))) else some (.inl (upd fn256 (((nth a1.Links x257).From).toNat * 16 + ((nth a1.Links x257).To).toNat * 1) true, IntKind.i64.wrap (x257 + 1)))) else none) else none))) else some (.inr (.inr (.inl (⟨x257, 131⟩ : model_flaw)))))) else some (.inr (.inr (.inl (⟨x257, 131⟩ : model_flaw)))))) else none) else some (.inr (.inr (.inr (())))))
def model_links.l2 (a1 : api_Model) (s : (Nat → Bool) × Int) : Option ((Int) ⊕ (model_flaw) ⊕ (Unit)) := loopR (model_links.l2b a1) s
def model_links.f (a1 : api_Model) : Option ((Int) ⊕ (model_flaw) ⊕ (Unit)) := (if 1024 < (a1.Links.length : Int) then some (.inl 131) else model_links.l2 a1 (fun _ => false, 0))
theorem model_links.ok {a1 : api_Model} {A2 : Option Addr} {c3 : Nat} {A5 : Option Addr} {c6 : Nat} {A8 : Option Addr} {c9 : Nat} (hr4 : SlR (Rep.sl E_api_Instr.rep) hf A2 c3 a1.Progs) (hr7 : SlR E_api_Link.rep hf A5 c6 a1.Links) (hr10 : SlR E_api_Start.rep hf A8 c9 a1.Starts) {r : (Int) ⊕ (model_flaw) ⊕ (Unit)} (h : model_links.f a1 = some r) (hS : St B w (l) hf) :
    Calls prog 85 #[.agg (C_api_Model a1 A2 c3 A5 c6 A8 c9).toArray] w (Ret fun v w => match (generalizing := false) r with | .inl r_ => v = .iface 29 (.int .i64 r_) ∧ St B w (l) hf | .inr (.inl r_) => v = .iface 106 (.agg #[.int .i64 r_.at_, .int .i64 r_.why]) ∧ St B w (l) hf | .inr (.inr (r_)) => v = .nilIface ∧ St B w (l) hf) := by
  have h := Holds.of h
  refine en func85 rfl ntmps85 rfl (sr (bx hS rfl rfl rfl rfl fun b194 w hS => pn 1 rfl (ln (RC.seq (sr (RL.s (Vl.fa 1 underlying27 rfl sizeOf23 rfl rfl) rfl (RL.s (Vl.ld 0 hS isAgg23 rfl rfl rfl) rfl (RL.s (Vl.lenSl underlying23 rfl) rfl (pn 1 rfl (ln ?_))))))))))
  refine RC.iteP 9 rfl h (fun hc196 h => ?_) fun hc196 h => ?_
  next =>
   refine RC.condT rfl (sr (RL.s (Vl.makeIface underlying29 rfl rfl) rfl (pn 1 rfl (lr (RQ.ret ?_)))))
   obtain rfl := h.some
   exact rt results85 rfl ⟨rfl, hS.d0⟩
  refine RC.condF rfl (sk (sr (RL.s (Vl.build (v := .agg (fc Value.bool 256 (fun _ => false)).toArray) (parts := []) rfl (by kernel_rfl)) rfl (RL.e (OW.alloc (cs := fc Value.bool 256 (fun _ => false)) hS zeroValue213 (by kernel_rfl)) rfl rfl ?_))))
  rintro _ w ⟨b197, rfl, hS⟩
  refine RL.e0 (OW.storeAll (f := fun _ => false) (g' := fun _ => false) 0 hS rfl rfl rfl sizeOf213 (fun _ => rfl) rfl) rfl ?_
  rintro _ w ⟨rfl, hS⟩
  have hS : St B w (_ :: _ :: l) hf := hS
  refine ln (RC.seq (sr (RL.s (Vl.fa 1 underlying27 rfl sizeOf23 rfl rfl) rfl (RL.s (Vl.ld 1 hS isAgg23 rfl rfl rfl) rfl (RL.s (Vl.lenSl underlying23 rfl) rfl (pn 1 rfl (ln (RC.block ?_))))))))
  refine fun a ha => RC.loop (N := 61) (body := (model_links.l2b a1)) (φ := (· = r)) (fun (s : (Nat → Bool) × Int) a w => ∃ (fn256 : (Nat → Bool)) (x257 : Int), s = (fn256, x257) ∧ Has 61 [(1, .pointer (some ⟨b194, 0, none⟩)), (3, .pointer (some ⟨b197, 0, none⟩)), (13, .slice A5 a1.Links.length c6), (14, .int .i64 (a1.Links.length : Int)), (15, .int .i64 x257)] a ∧ St B w (Cl b197 (fc Value.bool 256 fn256) 213 :: Cl b194 (C_api_Model a1 A2 c3 A5 c6 A8 c9) 27 :: l) hf) ?_ (s0 := (fun _ => false, 0)) h ⟨(fun _ => false), 0, rfl, ha.to ⟨rfl, rfl, rfl, rfl, rfl, trivial⟩, hS⟩
  rintro G318 _ a w ⟨fn256, x257, rfl, ha, hS⟩ h
  revert a
  show RC _ _ _ _ _ _
  refine sr (pn 1 rfl (ln (RC.seq ?_)))
  refine RC.iteP 16 rfl h (fun hc320 h => ?_) fun hc320 h => ?_
  next =>
   refine RC.condT rfl (sk (RC.seq (RC.block (sr (pn 1 rfl ?_)))))
   obtain ⟨hq349, h⟩ := h.req
   refine RL.s (Vl.indexAddr underlying23 sizeOf144 rfl rfl ((hr7.2.world hS.sub).adr hq349 hc320) hq349 hc320 rfl) rfl (RL.s (Vl.loadA isAgg144 sizeOf144 rfl rfl ((hr7.2.world hS.sub).cells hq349 hc320)) rfl (al hS zeroValue144 rfl rfl rfl fun b350 w hS => pn 1 rfl (RL.e0 (OW.store (vs := (C_api_Link (nth a1.Links x257))) 0 hS rfl rfl rfl rfl sizeOf144 rfl rfl rfl rfl) rfl ?_)))
   rintro _ w ⟨rfl, hS⟩
   have hS : St B w (Cl _ [_, _, _, _] _ :: _ :: _ :: l) hf := hS
   refine ln (RC.seq (RC.seq (RC.planS (plD [1, 3, 7, 11, 12, 15, 19, 21, 25, 29, 30, 33, 36, 39, 43, 45, 48, 51, 54, 58, 60, 63, 66, 69, 73, 75, 79, 83, 86, 89, 92]) [28, 29, 30] hS (fun w hS => hS) follows rfl (by kernel_rfl) (NoTmp.then (NoTmp.then (NoTmp.block (NoTmp.then (NoTmp.then (NoTmp.block (NoTmp.then NoTmp.body))))))) fun w hS => RP.s 0 0 rfl rfl hS (fun w hS => Vl.lw 2 hS isAgg27 sizeOf27 rfl rfl rfl) rfl (RP.s0 1 rfl (fun w => Vl.fa 0 underlying144 rfl sizeOf3 rfl rfl) rfl (RP.s 0 2 rfl rfl hS (fun w hS => Vl.ld 0 hS isAgg3 rfl rfl rfl) rfl ?_)))))
   obtain ⟨t364, hg365, h⟩ := h.bind
   have hc := model_lane.ok hr4 hr7 hr10 hg365 hS
   refine RP.e 3 rfl (OW.callF (ls := [.tmp 20, .tmp 22]) rfl call77 hc) rfl rfl ?_
   rintro _ w ⟨rfl, hS⟩
   refine ⟨kp ⟨fun _ => hS, trivial⟩, ?_⟩
   refine pp 2 rfl ?_
   refine RP.iteM 25 rfl h (fun hc366 h => ?_) fun hc366 h => ?_
   next =>
    refine RP.sg 0 6 rfl rfl hS (fun w hS => Vl.lw 2 hS isAgg27 sizeOf27 rfl rfl rfl) rfl rfl (RP.sg0 7 rfl (fun w => Vl.fa 1 underlying144 rfl sizeOf3 rfl rfl) rfl rfl (RP.sg 0 8 rfl rfl hS (fun w hS => Vl.ld 0 hS isAgg3 rfl rfl rfl) rfl rfl ?_))
    obtain ⟨t367, hg368, h⟩ := h.bind
    have hc := model_lane.ok hr4 hr7 hr10 hg368 hS
    refine RP.e 9 rfl (OW.callF (ls := [.tmp 26, .tmp 28]) rfl call77 hc) rfl rfl ?_
    rintro _ w ⟨rfl, hS⟩
    refine ⟨kp ⟨fun _ => hS, trivial⟩, ?_⟩
    refine pp 3 rfl ?_
    refine RP.iteM 32 rfl h (fun hc369 h => ?_) fun hc369 h => ?_
    next =>
     refine RP.sg0 13 rfl (fun w => Vl.fa 2 underlying144 rfl sizeOf2 rfl rfl) rfl rfl (RP.sg 0 14 rfl rfl hS (fun w hS => Vl.ld 0 hS isAgg2 rfl rfl rfl) rfl rfl (pp 3 rfl ?_))
     refine RP.iteP 37 rfl h (fun hc370 h => ?_) fun hc370 h => ?_
     next =>
      refine pp 1 rfl (RP.nn 0 19 rfl rfl rfl (pp 4 rfl (RP.nn 0 24 rfl rfl rfl (pp 1 rfl (RP.nn 0 26 rfl rfl rfl (RP.n1 27 rfl rfl rfl (RP.n1 28 rfl rfl rfl (RP.n1 29 rfl rfl rfl (RP.v1 30 rfl (Vl.pickT rfl rfl) rfl rfl (RP.nil (RQ.then_n (RC.condT rfl (sr (pn 1 rfl ?_))))))))))))))
      refine RL.s (Vl.build (v := .agg #[.int .i64 x257, .int .i64 131]) (parts := [(0, .tmp 51), (1, .const (.int .i64 131))]) rfl (by kernel_rfl)) rfl (RL.s (Vl.makeIface underlying106 rfl rfl) rfl (pn 1 rfl (lr (RQ.ret (RQ.inB_ret (RQ.ret ?_))))))
      have h := h.inrS
      refine RQ.ret (RQ.inB_ret (RQ.ret ?_))
      obtain rfl := h.some
      exact rt results85 rfl ⟨rfl, hS.d0.d0.d0⟩
     refine RP.sg0 18 rfl (fun w => Vl.fa 2 underlying144 rfl sizeOf2 rfl rfl) rfl rfl (RP.sg 0 19 rfl rfl hS (fun w hS => Vl.ld 0 hS isAgg2 rfl rfl rfl) rfl rfl (pp 3 rfl ?_))
     refine RP.iteP 42 rfl h (fun hc371 h => ?_) fun hc371 h => ?_
     next =>
      refine pp 1 rfl (RP.nn 0 24 rfl rfl rfl (pp 1 rfl (RP.nn 0 26 rfl rfl rfl (RP.n1 27 rfl rfl rfl (RP.n1 28 rfl rfl rfl (RP.n1 29 rfl rfl rfl (RP.v1 30 rfl (Vl.pickT rfl rfl) rfl rfl (RP.nil (RQ.then_n (RC.condT rfl (sr (pn 1 rfl (RL.s (Vl.build (v := .agg #[.int .i64 x257, .int .i64 131]) (parts := [(0, .tmp 51), (1, .const (.int .i64 131))]) rfl (by kernel_rfl)) rfl (RL.s (Vl.makeIface underlying106 rfl rfl) rfl ?_))))))))))))))
      refine pn 1 rfl (lr (RQ.ret (RQ.inB_ret (RQ.ret ?_))))
      have h := h.inrS
      refine RQ.ret (RQ.inB_ret (RQ.ret ?_))
      obtain rfl := h.some
      exact rt results85 rfl ⟨rfl, hS.d0.d0.d0⟩
     refine RP.sg0 23 rfl (fun w => Vl.fa 0 underlying144 rfl sizeOf3 rfl rfl) rfl rfl (RP.sg 0 24 rfl rfl hS (fun w hS => Vl.ld 0 hS isAgg3 rfl rfl rfl) rfl rfl (RP.sg0 25 rfl (fun w => Vl.fa 1 underlying144 rfl sizeOf3 rfl rfl) rfl rfl (RP.sg 0 26 rfl rfl hS (fun w hS => Vl.ld 0 hS isAgg3 rfl rfl rfl) rfl rfl ?_)))
     obtain ⟨⟨hq372, hq373⟩, h⟩ := h.req
     refine RP.v1 27 rfl (Vl.indexAddrA (a'' := ⟨b197, ((nth a1.Links x257).From).toNat * 16, none⟩) underlying213 sizeOf212 rfl rfl hq372 hq373 (add_zero_mk _ _)) rfl rfl ?_
     obtain ⟨⟨hq374, hq375⟩, h⟩ := h.req
     refine RP.v1 28 rfl (Vl.indexAddrA (a'' := ⟨b197, ((nth a1.Links x257).From).toNat * 16 + ((nth a1.Links x257).To).toNat * 1, none⟩) underlying212 sizeOf4 rfl rfl hq374 hq375 (add_mk _ _ _)) rfl rfl (RP.v1 29 rfl (Vl.load isAgg4 rfl (hS.cell 1 rfl (fc_get (by omega)))) rfl rfl (RP.v1 30 rfl (Vl.pickF rfl rfl) rfl rfl (RP.nil (RQ.then_n ?_))))
     refine RC.iteB 50 rfl h (fun hc376 h => ?_) fun hc376 h => ?_
     next =>
      refine RC.condT rfl (sr (pn 1 rfl (RL.s (Vl.build (v := .agg #[.int .i64 x257, .int .i64 131]) (parts := [(0, .tmp 51), (1, .const (.int .i64 131))]) rfl (by kernel_rfl)) rfl (RL.s (Vl.makeIface underlying106 rfl rfl) rfl (pn 1 rfl (lr (RQ.ret (RQ.inB_ret (RQ.ret ?_)))))))))
      have h := h.inrS
      refine RQ.ret (RQ.inB_ret (RQ.ret ?_))
      obtain rfl := h.some
      exact rt results85 rfl ⟨rfl, hS.d0.d0.d0⟩
     refine RC.condF rfl (sk (RC.planS (plD [0, 4, 6, 10, 14, 17, 20]) [5, 6] hS (fun w hS => hS) follows rfl (by kernel_rfl) (NoTmp.block (NoTmp.then (NoTmp.then (NoTmp.block (NoTmp.then NoTmp.body))))) fun w hS => RP.s0 0 rfl (fun w => Vl.fa 0 underlying144 rfl sizeOf3 rfl rfl) rfl (RP.s 0 1 rfl rfl hS (fun w hS => Vl.ld 0 hS isAgg3 rfl rfl rfl) rfl (RP.s0 2 rfl (fun w => Vl.fa 1 underlying144 rfl sizeOf3 rfl rfl) rfl (RP.s 0 3 rfl rfl hS (fun w hS => Vl.ld 0 hS isAgg3 rfl rfl rfl) rfl (RP.v1 4 rfl (Vl.indexAddrA (a'' := ⟨b197, ((nth a1.Links x257).From).toNat * 16, none⟩) underlying213 sizeOf212 rfl rfl hq372 hq373 (add_zero_mk _ _)) rfl rfl (RP.v1 5 rfl (Vl.indexAddrA (a'' := ⟨b197, ((nth a1.Links x257).From).toNat * 16 + ((nth a1.Links x257).To).toNat * 1, none⟩) underlying212 sizeOf4 rfl rfl hq374 hq375 (add_mk _ _ _)) rfl rfl (RP.e0 6 rfl (OW.storeF (mk := Value.bool) 1 hS rfl rfl rfl sizeOf4 (by omega) (fun _ => rfl) (fun _ => rfl) rfl) rfl ?_))))))))
     rintro _ w ⟨rfl, hS⟩
     have hS : St B w (_ :: _ :: _ :: l) hf := hS
     refine ⟨kp ⟨(by intro hx; cases hx), trivial⟩, ?_⟩
     refine RP.nil (RQ.inB_n (RQ.then_n (RC.region (pn 2 rfl (RL.nil ?_)))))
     exact fun a ha => ⟨(upd fn256 (((nth a1.Links x257).From).toNat * 16 + ((nth a1.Links x257).To).toNat * 1) true, IntKind.i64.wrap (x257 + 1)), ⟨(upd fn256 (((nth a1.Links x257).From).toNat * 16 + ((nth a1.Links x257).To).toNat * 1) true), (IntKind.i64.wrap (x257 + 1)), rfl, ha.to ⟨rfl, rfl, rfl, rfl, rfl, trivial⟩, hS.d0⟩, h.some⟩
    refine pp 1 rfl (RP.nn 0 14 rfl rfl rfl (pp 4 rfl (RP.nn 0 19 rfl rfl rfl (pp 4 rfl (RP.nn 0 24 rfl rfl rfl (pp 1 rfl (RP.nn 0 26 rfl rfl rfl (RP.n1 27 rfl rfl rfl (RP.n1 28 rfl rfl rfl (RP.n1 29 rfl rfl rfl (RP.v1 30 rfl (Vl.pickT rfl rfl) rfl rfl (RP.nil (RQ.then_n (RC.condT rfl (RC.seq ?_)))))))))))))))
    refine RC.region (pn 1 rfl (RL.s (Vl.build (v := .agg #[.int .i64 x257, .int .i64 131]) (parts := [(0, .tmp 51), (1, .const (.int .i64 131))]) rfl (by kernel_rfl)) rfl (RL.s (Vl.makeIface underlying106 rfl rfl) rfl (pn 1 rfl (lr (RQ.ret (RQ.inB_ret (RQ.ret ?_))))))))
    have h := h.inrS
    refine RQ.ret (RQ.inB_ret (RQ.ret ?_))
    obtain rfl := h.some
    exact rt results85 rfl ⟨rfl, hS.d0.d0.d0⟩
   refine RP.nn 0 6 rfl rfl rfl (pp 1 rfl (RP.nn 0 8 rfl rfl rfl (RP.n1 9 rfl rfl rfl (pp 4 rfl (RP.nn 0 14 rfl rfl rfl (pp 4 rfl (RP.nn 0 19 rfl rfl rfl (pp 4 rfl (RP.nn 0 24 rfl rfl rfl (pp 1 rfl (RP.nn 0 26 rfl rfl rfl (RP.n1 27 rfl rfl rfl (RP.n1 28 rfl rfl rfl (RP.n1 29 rfl rfl rfl (RP.v1 30 rfl (Vl.pickT rfl rfl) rfl rfl ?_)))))))))))))))
   refine RP.nil (RQ.then_n (RC.condT rfl (sr (pn 1 rfl (RL.s (Vl.build (v := .agg #[.int .i64 x257, .int .i64 131]) (parts := [(0, .tmp 51), (1, .const (.int .i64 131))]) rfl (by kernel_rfl)) rfl (RL.s (Vl.makeIface underlying106 rfl rfl) rfl (pn 1 rfl (lr (RQ.ret (RQ.inB_ret (RQ.ret ?_)))))))))))
   have h := h.inrS
   refine RQ.ret (RQ.inB_ret (RQ.ret ?_))
   obtain rfl := h.some
   exact rt results85 rfl ⟨rfl, hS.d0.d0.d0⟩
  refine RC.condF rfl (RC.exit (RQ.exitT ?_))
  have h := h.inrS
  refine RQ.exitT (RQ.inB_hit (tsr (pn 1 rfl (lr ?_))))
  obtain rfl := h.some
  exact rt results85 rfl ⟨rfl, hS.d0.d0⟩
def errors_As_3.f (a1 a3 : model_flaw) : Option (Bool × model_flaw) := ((errors_as_3.f a1 a3).bind fun (y14, y15) => some (y14, y15))
theorem errors_As_3.ok {a1 a3 : model_flaw} {b2 : Nat} (hG0 : GlobAt hf 0 (.iface 215 (.agg #[.pointer (some ⟨1, 108, none⟩)]))) {r : Bool × model_flaw} (h : errors_As_3.f a1 a3 = some r) (hS : St B w (Cl b2 [.int .i64 a3.at_, .int .i64 a3.why] 106 :: l) hf) :
    Calls prog 43 #[.iface 106 (.agg #[.int .i64 a1.at_, .int .i64 a1.why]), .iface 110 (.pointer (some ⟨b2, 0, none⟩))] w (Ret fun v w => v = .bool r.1 ∧ St B w (Cl b2 [.int .i64 r.2.at_, .int .i64 r.2.why] 106 :: l) hf) := by
  have h := Holds.of h
  refine en func43 rfl ntmps43 rfl (sr (pn 1 rfl (ln (RC.seq (sr (pn 1 rfl (RL.s (Vl.bin (v := .bool false) rfl rfl (by kernel_rfl)) rfl (ln (RC.condF rfl (sk ?_))))))))))
  refine RC.seq (sr (pn 1 rfl (RL.s (Vl.bin (v := .bool false) rfl rfl (by kernel_rfl)) rfl (ln (RC.condF rfl (sk (sr (pn 1 rfl (RL.e (OW.externNew (ls := [.tmp 13]) (cs := [.pointer (some ⟨b2, 0, none⟩)]) (T := 110) (v := fun b => .agg #[.pointer (some ⟨1, 110, none⟩), .pointer (some ⟨b, 0, none⟩), .int .u64 150]) hS rfl func87 (by kernel_rfl) (by kernel_rfl) (by kernel_rfl) (e := fun args => Extern.ReflectliteValue.unpack (args.getD 0 (.tuple #[]))) (by kernel_rfl) (fun w => by kernel_rfl)) rfl rfl ?_)))))))))
  rintro _ w ⟨b10, rfl, hS⟩
  refine al hS zeroValue161 rfl rfl rfl fun b11 w hS => RL.e0 (OW.store (vs := [.pointer (some ⟨1, 110, none⟩), .pointer (some ⟨b10, 0, none⟩), .int .u64 150]) 0 hS rfl rfl rfl rfl sizeOf161 rfl rfl rfl rfl) rfl ?_
  rintro _ w ⟨rfl, hS⟩
  have hS : St B w (Cl _ [_, _, _] _ :: _ :: _ :: l) hf := hS
  refine lnsr (RL.s (Vl.lw 0 hS isAgg161 sizeOf161 rfl rfl rfl) rfl (RL.s (Vl.extern (ls := [.tmp 15]) (v := .iface 215 (.agg #[.pointer (some ⟨1, 110, none⟩)])) rfl func88 (by kernel_rfl) (by kernel_rfl) (by kernel_rfl) (e := Extern.ReflectliteValue.methodAny (Extern.ReflectliteValue.valueError "reflectlite.Value.Type" 0) fun t _ _ _ => Extern.ReflectliteType.toType t) (by kernel_rfl) (fun w => by kernel_rfl)) rfl (pn 1 rfl (ln (RC.seq (sr (pn 1 rfl (RL.s (Vl.invokeX (F := 179) (ls := []) (v := .int .u8 22) (u' := .pointer (some ⟨1, 110, none⟩)) rfl rfl (fun w => by kernel_rfl) func179 (by kernel_rfl) (by kernel_rfl) (by kernel_rfl) (e := (Extern.ReflectliteType.abiMethod fun t => do pure (.int .u8 (← Extern.Rtype.kind t)))) (by kernel_rfl) (fun w => by kernel_rfl)) rfl (pn 2 rfl (RL.sg (Vl.lw 0 hS isAgg161 sizeOf161 rfl rfl rfl) rfl rfl ?_))))))))))
  refine RL.sg (Vl.externAt (ls := [.tmp 21]) (v := .bool false) rfl func89 (by kernel_rfl) (by kernel_rfl) (by kernel_rfl) (e := Extern.ReflectliteValue.method (Extern.ReflectliteValue.valueError "reflectlite.Value.IsNil" 0) Extern.ReflectliteValue.isNil) (by kernel_rfl) (run_isNil (n := 150) (a := ⟨b10, 0, none⟩) (fun w => by kernel_rfl) underlying110 rfl (hS.cell 1 rfl rfl))) rfl rfl (pn 1 rfl (ln (RC.condF rfl (sk (sr (pn 1 rfl (RL.s (Vl.invokeX (F := 238) (ls := []) (v := .iface 215 (.agg #[.pointer (some ⟨1, 106, none⟩)])) (u' := .agg #[.pointer (some ⟨1, 110, none⟩)]) rfl rfl (fun w => by kernel_rfl) func238 (by kernel_rfl) (by kernel_rfl) (by kernel_rfl) (e := (Extern.ReflectliteType.method Extern.ReflectliteType.elem)) (by kernel_rfl) (fun w => by kernel_rfl)) rfl (pn 1 rfl (ln (RC.seq (RC.seq ?_)))))))))))
  refine RC.region (pn 1 rfl (RL.s (Vl.invokeX (F := 179) (ls := []) (v := .int .u8 25) (u' := .pointer (some ⟨1, 106, none⟩)) rfl rfl (fun w => by kernel_rfl) func179 (by kernel_rfl) (by kernel_rfl) (by kernel_rfl) (e := (Extern.ReflectliteType.abiMethod fun t => do pure (.int .u8 (← Extern.Rtype.kind t)))) (by kernel_rfl) (fun w => by kernel_rfl)) rfl (pn 3 rfl (RL.sg (Vl.load isAgg164 rfl (cellH_world hS.sub hG0)) rfl rfl (RL.sg (Vl.invokeX (F := 239) (ls := [.tmp 32]) (v := .bool true) (u' := .agg #[.pointer (some ⟨1, 106, none⟩)]) rfl rfl (fun w => by kernel_rfl) func239 (by kernel_rfl) (by kernel_rfl) (by kernel_rfl) (e := (Extern.ReflectliteType.relation "Implements" Extern.ReflectliteType.implements_)) (by kernel_rfl) (fun w => by kernel_rfl)) rfl rfl (pn 2 rfl (ln (RC.condF rfl (sk (sr (pn 2 rfl (RL.s (Vl.lw 0 hS isAgg161 sizeOf161 rfl rfl rfl) rfl ?_))))))))))))
  refine pn 1 rfl (cF (fun _ hg => errors_as_3.ok hg hS.p1.p2) call90 h rfl rfl rfl ?_)
  rintro ⟨y14, y15⟩ h _ w ⟨rfl, hS⟩
  refine pn 1 rfl (lr ?_)
  obtain rfl := h.some
  exact rt results43 rfl ⟨rfl, hS.d1.d1⟩
def errors_Is_5.f (a1 : model_flaw) (a2 : Int) : Option (Bool) := ((errors_is_4.f a1 a2 true).bind fun t5 => some t5)
theorem errors_Is_5.ok {a1 : model_flaw} {a2 : Int} {r : Bool} (h : errors_Is_5.f a1 a2 = some r) (hS : St B w (l) hf) :
    Calls prog 44 #[.iface 106 (.agg #[.int .i64 a1.at_, .int .i64 a1.why]), .iface 29 (.int .i64 a2)] w (Ret fun v w => v = .bool r ∧ St B w (l) hf) := by
  have h := Holds.of h
  refine en func44 rfl ntmps44 rfl (sr (pn 1 rfl (ln (RC.seq (sr (pn 1 rfl (RL.s (Vl.bin (v := .bool false) rfl rfl (by kernel_rfl)) rfl (pn 2 rfl (RL.sg (Vl.bin (v := .bool false) rfl rfl (by kernel_rfl)) rfl rfl (pn 1 rfl (ln ?_)))))))))))
  refine RC.condF rfl (sk (sr (pn 1 rfl (RL.s (Vl.extern (ls := [.tmp 15]) (v := .iface 215 (.agg #[.pointer (some ⟨1, 29, none⟩)])) rfl func91 (by kernel_rfl) (by kernel_rfl) (by kernel_rfl) (e := Extern.ReflectliteType.typeOf) (by kernel_rfl) (fun w => by kernel_rfl)) rfl (RL.s (Vl.invokeX (F := 237) (ls := []) (v := .bool true) (u' := .agg #[.pointer (some ⟨1, 29, none⟩)]) rfl rfl (fun w => by kernel_rfl) func237 (by kernel_rfl) (by kernel_rfl) (by kernel_rfl) (e := (Extern.ReflectliteType.method fun t => do Extern.Rtype.noPackHeld "Comparable" t; pure (.bool (← typeInfo t).comparable))) (by kernel_rfl) (fun w => by kernel_rfl)) rfl (pn 1 rfl (lnsr (pn 3 rfl (cF (fun _ hg => errors_is_4.ok hg hS) call92 h rfl rfl rfl ?_)))))))))
  rintro t5 h _ w ⟨rfl, hS⟩
  refine pn 1 rfl (lr ?_)
  obtain rfl := h.some
  exact rt results44 rfl ⟨rfl, hS⟩
def model_starts.l2b (a1 : api_Model) : Int → Option ((Int) ⊕ ((Int) ⊕ (model_flaw) ⊕ (Unit)))
  | (x90) => (if x90 < (a1.Starts.length : Int) then (if 0 ≤ x90 then ((model_lane.f a1 ((nth a1.Starts x90).To)).bind fun t123 => (if t123 = true then ((vtime_Valid.f ((nth a1.Starts x90).Time)).bind fun t126 => (if t126 = true then some (.inl (IntKind.i64.wrap (x90 + 1))) else some (.inr (.inr (.inl (⟨x90, 132⟩ : model_flaw)))))) else some (.inr (.inr (.inl (⟨x90, 132⟩ : model_flaw)))))) else none) else some (.inr (.inr (.inr (())))))
def model_starts.l2 (a1 : api_Model) (s : Int) : Option ((Int) ⊕ (model_flaw) ⊕ (Unit)) := loopR (model_starts.l2b a1) s
def model_starts.f (a1 : api_Model) : Option ((Int) ⊕ (model_flaw) ⊕ (Unit)) := (if 4096 < (a1.Starts.length : Int) then some (.inl 132) else model_starts.l2 a1 (0))
theorem model_starts.ok {a1 : api_Model} {A2 : Option Addr} {c3 : Nat} {A5 : Option Addr} {c6 : Nat} {A8 : Option Addr} {c9 : Nat} (hr4 : SlR (Rep.sl E_api_Instr.rep) hf A2 c3 a1.Progs) (hr7 : SlR E_api_Link.rep hf A5 c6 a1.Links) (hr10 : SlR E_api_Start.rep hf A8 c9 a1.Starts) {r : (Int) ⊕ (model_flaw) ⊕ (Unit)} (h : model_starts.f a1 = some r) (hS : St B w (l) hf) :
    Calls prog 86 #[.agg (C_api_Model a1 A2 c3 A5 c6 A8 c9).toArray] w (Ret fun v w => match (generalizing := false) r with | .inl r_ => v = .iface 29 (.int .i64 r_) ∧ St B w (l) hf | .inr (.inl r_) => v = .iface 106 (.agg #[.int .i64 r_.at_, .int .i64 r_.why]) ∧ St B w (l) hf | .inr (.inr (r_)) => v = .nilIface ∧ St B w (l) hf) := by
  have h := Holds.of h
  refine en func86 rfl ntmps86 rfl (sr (bx hS rfl rfl rfl rfl fun b70 w hS => pn 1 rfl (ln (RC.seq (sr (RL.s (Vl.fa 2 underlying27 rfl sizeOf24 rfl rfl) rfl (RL.s (Vl.ld 0 hS isAgg24 rfl rfl rfl) rfl (RL.s (Vl.lenSl underlying24 rfl) rfl (pn 1 rfl (ln ?_))))))))))
  refine RC.iteP 8 rfl h (fun hc72 h => ?_) fun hc72 h => ?_
  next =>
   refine RC.condT rfl (sr (RL.s (Vl.makeIface underlying29 rfl rfl) rfl (pn 1 rfl (lr (RQ.ret ?_)))))
   obtain rfl := h.some
   exact rt results86 rfl ⟨rfl, hS.d0⟩
  refine RC.condF rfl (sk (RC.seq (sr (RL.s (Vl.fa 2 underlying27 rfl sizeOf24 rfl rfl) rfl (RL.s (Vl.ld 0 hS isAgg24 rfl rfl rfl) rfl (RL.s (Vl.lenSl underlying24 rfl) rfl (pn 1 rfl (ln (RC.block ?_)))))))))
  refine fun a ha => RC.loop (N := 33) (body := (model_starts.l2b a1)) (φ := (· = r)) (fun (s : Int) a w => ∃ (x90 : Int), s = (x90) ∧ Has 33 [(1, .pointer (some ⟨b70, 0, none⟩)), (11, .slice A8 a1.Starts.length c9), (12, .int .i64 (a1.Starts.length : Int)), (13, .int .i64 x90)] a ∧ St B w (Cl b70 (C_api_Model a1 A2 c3 A5 c6 A8 c9) 27 :: l) hf) ?_ (s0 := (0)) h ⟨0, rfl, ha.to ⟨rfl, rfl, rfl, rfl, trivial⟩, hS⟩
  rintro G110 x90 a w ⟨_, rfl, ha, hS⟩ h
  revert a
  show RC _ _ _ _ _ _
  refine sr (pn 1 rfl (ln (RC.seq ?_)))
  refine RC.iteP 14 rfl h (fun hc112 h => ?_) fun hc112 h => ?_
  next =>
   refine RC.condT rfl (sk (RC.seq (RC.block (sr (pn 1 rfl ?_)))))
   obtain ⟨hq121, h⟩ := h.req
   refine RL.s (Vl.indexAddr underlying24 sizeOf157 rfl rfl ((hr10.2.world hS.sub).adr hq121 hc112) hq121 hc112 rfl) rfl (RL.s (Vl.loadA isAgg157 sizeOf157 rfl rfl ((hr10.2.world hS.sub).cells hq121 hc112)) rfl (al hS zeroValue157 rfl rfl rfl fun b122 w hS => pn 1 rfl (RL.e0 (OW.store (vs := (C_api_Start (nth a1.Starts x90))) 0 hS rfl rfl rfl rfl sizeOf157 rfl rfl rfl rfl) rfl ?_)))
   rintro _ w ⟨rfl, hS⟩
   have hS : St B w (Cl _ [_, _, _] _ :: _ :: l) hf := hS
   refine lnsr (RL.s (Vl.lw 1 hS isAgg27 sizeOf27 rfl rfl rfl) rfl (RL.s (Vl.fa 0 underlying157 rfl sizeOf3 rfl rfl) rfl (RL.s (Vl.ld 0 hS isAgg3 rfl rfl rfl) rfl (cF (fun _ hg => model_lane.ok hr4 hr7 hr10 hg hS) call77 h rfl rfl rfl ?_))))
   rintro t123 h _ w ⟨rfl, hS⟩
   refine pn 2 rfl ?_
   refine RL.iteM 23 rfl h (fun hc125 h => ?_) fun hc125 h => ?_
   next =>
    refine RL.sg (Vl.fa 1 underlying157 rfl sizeOf2 rfl rfl) rfl rfl (RL.sg (Vl.ld 0 hS isAgg2 rfl rfl rfl) rfl rfl (cF (fun _ hg => vtime_Valid.ok hg hS) call73 h rfl rfl rfl ?_))
    rintro t126 h _ w ⟨rfl, hS⟩
    refine pn 2 rfl (ln ?_)
    refine RC.iteM 28 rfl h (fun hc128 h => ?_) fun hc128 h => ?_
    next =>
     refine RC.condF rfl (RC.skip (RQ.inB_n (RQ.then_n (RC.region (pn 2 rfl (RL.nil ?_))))))
     exact fun a ha => ⟨(IntKind.i64.wrap (x90 + 1)), ⟨(IntKind.i64.wrap (x90 + 1)), rfl, ha.to ⟨rfl, rfl, rfl, rfl, trivial⟩, hS.d0⟩, h.some⟩
    refine RC.condT rfl (sr (pn 1 rfl (RL.s (Vl.build (v := .agg #[.int .i64 x90, .int .i64 132]) (parts := [(0, .tmp 29), (1, .const (.int .i64 132))]) rfl (by kernel_rfl)) rfl (RL.s (Vl.makeIface underlying106 rfl rfl) rfl (pn 1 rfl (lr (RQ.inB_ret (RQ.ret ?_))))))))
    have h := h.inrS
    refine RQ.ret (RQ.inB_ret (RQ.ret ?_))
    obtain rfl := h.some
    exact rt results86 rfl ⟨rfl, hS.d0.d0⟩
   refine pn 5 rfl (ln (RC.condT rfl (sr (pn 1 rfl (RL.s (Vl.build (v := .agg #[.int .i64 x90, .int .i64 132]) (parts := [(0, .tmp 29), (1, .const (.int .i64 132))]) rfl (by kernel_rfl)) rfl (RL.s (Vl.makeIface underlying106 rfl rfl) rfl (pn 1 rfl (lr (RQ.inB_ret (RQ.ret ?_))))))))))
   have h := h.inrS
   refine RQ.ret (RQ.inB_ret (RQ.ret ?_))
   obtain rfl := h.some
   exact rt results86 rfl ⟨rfl, hS.d0.d0⟩
  refine RC.condF rfl (RC.exit (RQ.exitT ?_))
  have h := h.inrS
  refine RQ.exitT (RQ.inB_hit (tsr (pn 1 rfl (lr ?_))))
  obtain rfl := h.some
  exact rt results86 rfl ⟨rfl, hS.d0⟩
def model_Check.f (a1 : api_Model) : Option (Int) := ((model_rules.f).bind fun _ => ((model_sizes.f a1).bind fun t205 => match t205 with | .inl y207 => ((errors_As.f y207 (⟨0, 0⟩ : model_flaw)).bind fun t208 => (if t208 = true then some 0 else ((errors_Is.f y207 131).bind fun t211 => (if t211 = true then some 131 else ((errors_Is.f y207 132).bind fun t214 => (if t214 = true then some 132 else some 1)))))) | .inr (_) => ((model_programs.f a1).bind fun t239 => match t239 with | .inl (y241, y242) => ((errors_As_2.f y241 y242 (⟨0, 0⟩ : model_flaw)).bind fun (y248, y249) => (if y248 = true then some y249.why else ((errors_Is_4.f y241 y242 131).bind fun t251 => (if t251 = true then some 131 else ((errors_Is_4.f y241 y242 132).bind fun t254 => (if t254 = true then some 132 else some 1)))))) | .inr (_) => ((model_links.f a1).bind fun t285 => match t285 with | .inl y287 => ((errors_As.f y287 (⟨0, 0⟩ : model_flaw)).bind fun t288 => (if t288 = true then some 0 else ((errors_Is.f y287 131).bind fun t291 => (if t291 = true then some 131 else ((errors_Is.f y287 132).bind fun t294 => (if t294 = true then some 132 else some 1)))))) | .inr (.inl y297) => ((errors_As_3.f y297 (⟨0, 0⟩ : model_flaw)).bind fun (y300, y301) => (if y300 = true then some y301.why else ((errors_Is_5.f y297 131).bind fun t303 => (if t303 = true then some 131 else ((errors_Is_5.f y297 132).bind fun t306 => (if t306 = true then some 132 else some 1)))))) | .inr (.inr (_)) => ((model_starts.f a1).bind fun t337 => match t337 with | .inl y339 => ((errors_As.f y339 (⟨0, 0⟩ : model_flaw)).bind fun t340 => (if t340 = true then some 0 else ((errors_Is.f y339 131).bind fun t343 => (if t343 = true then some 131 else ((errors_Is.f y339 132).bind fun t346 => (if t346 = true then some 132 else some 1)))))) | .inr (.inl y349) => ((errors_As_3.f y349 (⟨0, 0⟩ : model_flaw)).bind fun (y352, y353) => (if y352 = true then some y353.why else ((errors_Is_5.f y349 131).bind fun t355 => (if t355 = true then some 131 else ((errors_Is_5.f y349 132).bind fun t358 => (if t358 = true then some 132 else some 1)))))) | .inr (.inr (_)) => some 0)))))
theorem model_Check.ok {a1 : api_Model} {A2 : Option Addr} {c3 : Nat} {A5 : Option Addr} {c6 : Nat} {A8 : Option Addr} {c9 : Nat} (hr4 : SlR (Rep.sl E_api_Instr.rep) hf A2 c3 a1.Progs) (hr7 : SlR E_api_Link.rep hf A5 c6 a1.Links) (hr10 : SlR E_api_Start.rep hf A8 c9 a1.Starts) (hG0 : GlobAt hf 0 (.iface 215 (.agg #[.pointer (some ⟨1, 108, none⟩)]))) {r : Int} (h : model_Check.f a1 = some r) (hS : St B w (l) hf) :
    Calls prog 10 #[.agg (C_api_Model a1 A2 c3 A5 c6 A8 c9).toArray] w (Ret fun v w => v = .int .i64 r ∧ St B w (l) hf) := by
  have h := Holds.of h
  refine en func10 rfl ntmps10 rfl (sr (bx hS rfl rfl rfl rfl fun b186 w hS => pn 1 rfl (ln (RC.seq (sr (cF (fun _ hg => model_rules.ok hg hS) call42 h rfl rfl rfl ?_))))))
  rintro _ h _ w ⟨rfl, hS⟩
  refine pn 1 rfl (ln (RC.block (RC.unroll (RQ.round (sr (pn 1 rfl (ln (RC.seq (RC.condT rfl (sk (RC.seq ?_)))))))))))
  refine RC.block (sr (RL.s (Vl.indexA (v := .agg #[.func (.func 83) #[] #[]]) underlying103 sizeOf102 rfl rfl (by decide) (by decide) (run_partA isAgg102 sizeOf102)) rfl (al hS zeroValue102 rfl rfl rfl fun b203 w hS => RL.e0 (OW.store (vs := [.func (.func 83) #[] #[]]) 0 hS rfl rfl rfl rfl sizeOf102 rfl rfl rfl rfl) rfl ?_)))
  rintro _ w ⟨rfl, hS⟩
  have hS : St B w (Cl _ [_] _ :: _ :: l) hf := hS
  refine lnsr (al hS zeroValue106 rfl rfl rfl fun b204 w hS => ln (RC.seq (sr (RL.s (Vl.fa 0 underlying102 rfl sizeOf100 rfl rfl) rfl (RL.s (Vl.ld 1 hS isAgg100 rfl rfl rfl) rfl (RL.s (Vl.lw 2 hS isAgg27 sizeOf27 rfl rfl rfl) rfl ?_))))))
  obtain ⟨t205, hg206, h⟩ := h.bind
  have hc := model_sizes.ok hr4 hr7 hr10 hg206 hS
  rcases t205 with y207 | _
  · refine RL.e (OW.call (ls := [.tmp 13]) rfl rfl call83 rfl hc) rfl rfl ?_
    rintro _ w ⟨rfl, hS⟩
    refine pn 1 rfl (ln (RC.block (sr (pn 1 rfl (RL.s (Vl.bin (v := .bool false) rfl rfl (by kernel_rfl)) rfl (pn 1 rfl (ln (RC.condF rfl (sr (pn 1 rfl (RL.s (Vl.makeIface underlying110 rfl rfl) rfl ?_)))))))))))
    refine cF (fun _ hg => errors_As.ok hG0 hg hS) call43 h rfl rfl rfl ?_
    rintro t208 h _ w ⟨rfl, hS⟩
    refine pn 1 rfl (ln ?_)
    refine RC.iteB 18 rfl h (fun hc210 h => ?_) fun hc210 h => ?_
    next =>
     refine RC.condT rfl (sr (RL.s (Vl.fa 1 underlying106 rfl sizeOf29 rfl rfl) rfl (RL.s (Vl.ld 0 hS isAgg29 rfl rfl rfl) rfl (pn 1 rfl (lr (RQ.inB_ret (RQ.ret (RQ.inB_ret (RQ.ret (RQ.ret (RQ.inB_ret (RQ.ret ?_))))))))))))
     obtain rfl := h.some
     exact rt results10 rfl ⟨rfl, hS.d0.d0.d0⟩
    refine RC.condF rfl (sr (pn 1 rfl (RL.s (Vl.makeIface underlying29 rfl rfl) rfl (cF (fun _ hg => errors_Is.ok hg hS) call44 h rfl rfl rfl ?_))))
    rintro t211 h _ w ⟨rfl, hS⟩
    refine pn 1 rfl (ln ?_)
    refine RC.iteB 24 rfl h (fun hc213 h => ?_) fun hc213 h => ?_
    next =>
     refine RC.condT rfl (sr (pn 1 rfl (lr (RQ.inB_ret (RQ.ret (RQ.inB_ret (RQ.ret (RQ.ret (RQ.inB_ret (RQ.ret ?_))))))))))
     obtain rfl := h.some
     exact rt results10 rfl ⟨rfl, hS.d0.d0.d0⟩
    refine RC.condF rfl (sr (pn 1 rfl (RL.s (Vl.makeIface underlying29 rfl rfl) rfl (cF (fun _ hg => errors_Is.ok hg hS) call44 h rfl rfl rfl ?_))))
    rintro t214 h _ w ⟨rfl, hS⟩
    refine pn 1 rfl (ln ?_)
    refine RC.iteB 28 rfl h (fun hc216 h => ?_) fun hc216 h => ?_
    next =>
     refine RC.condT rfl (sr (pn 1 rfl (lr (RQ.inB_ret (RQ.ret (RQ.inB_ret (RQ.ret (RQ.ret (RQ.inB_ret (RQ.ret ?_))))))))))
     obtain rfl := h.some
     exact rt results10 rfl ⟨rfl, hS.d0.d0.d0⟩
    refine RC.condF rfl (RC.skip (RQ.inB_n (tsr (pn 1 rfl (lr (RQ.inB_ret (RQ.ret (RQ.ret (RQ.inB_ret (RQ.ret ?_))))))))))
    obtain rfl := h.some
    exact rt results10 rfl ⟨rfl, hS.d0.d0.d0⟩
  refine RL.e (OW.call (ls := [.tmp 13]) rfl rfl call83 rfl hc) rfl rfl ?_
  rintro _ w ⟨rfl, hS⟩
  refine pn 1 rfl (ln (RC.block (sr (pn 1 rfl (RL.s (Vl.bin (v := .bool true) rfl rfl (by kernel_rfl)) rfl (pn 1 rfl (ln (RC.condT rfl (RC.exit (RQ.inB_miss rfl (RQ.exitT (RQ.inB_hit ?_))))))))))))
  refine RQ.then_n (RC.region (pn 2 rfl (ln (RQ.round (sr (pn 1 rfl (ln (RC.seq (RC.condT rfl (sk (RC.seq ?_)))))))))))
  refine RC.block (sr (RL.s (Vl.indexA (v := .agg #[.func (.func 84) #[] #[]]) underlying103 sizeOf102 rfl rfl (by decide) (by decide) (run_partA isAgg102 sizeOf102)) rfl (al hS zeroValue102 rfl rfl rfl fun b237 w hS => RL.e0 (OW.store (vs := [.func (.func 84) #[] #[]]) 0 hS rfl rfl rfl rfl sizeOf102 rfl rfl rfl rfl) rfl ?_)))
  rintro _ w ⟨rfl, hS⟩
  have hS : St B w (Cl _ [_] _ :: _ :: _ :: _ :: l) hf := hS
  refine lnsr (al hS zeroValue106 rfl rfl rfl fun b238 w hS => ln (RC.seq (sr (RL.s (Vl.fa 0 underlying102 rfl sizeOf100 rfl rfl) rfl (RL.s (Vl.ld 1 hS isAgg100 rfl rfl rfl) rfl (RL.s (Vl.lw 4 hS isAgg27 sizeOf27 rfl rfl rfl) rfl ?_))))))
  obtain ⟨t239, hg240, h⟩ := h.bind
  have hc := model_programs.ok hr4 hr7 hr10 hg240 hS
  rcases t239 with ⟨y241, y242⟩ | _
  · refine RL.e (OW.call (ls := [.tmp 13]) rfl rfl call84 rfl hc) rfl rfl ?_
    rintro _ w ⟨b243, A244, c245, rfl, hS⟩
    refine pn 1 rfl (ln (RC.block (sr (pn 1 rfl (RL.s (Vl.bin (v := .bool false) rfl rfl (by kernel_rfl)) rfl (pn 1 rfl (ln (RC.condF rfl (sr (pn 1 rfl (RL.s (Vl.makeIface underlying110 rfl rfl) rfl ?_)))))))))))
    refine cF (fun _ hg => errors_As_2.ok hG0 hg hS.p1) call43 h rfl rfl rfl ?_
    rintro ⟨y248, y249⟩ h _ w ⟨rfl, hS⟩
    refine pn 1 rfl (ln ?_)
    refine RC.iteB 18 rfl h (fun hc250 h => ?_) fun hc250 h => ?_
    next =>
     refine RC.condT rfl (sr (RL.s (Vl.fa 1 underlying106 rfl sizeOf29 rfl rfl) rfl (RL.s (Vl.ld 2 hS isAgg29 rfl rfl rfl) rfl (pn 1 rfl (lr (RQ.inB_ret (RQ.ret (RQ.inB_ret (RQ.ret (RQ.ret (RQ.inB_ret (RQ.ret ?_))))))))))))
     obtain rfl := h.some
     exact rt results10 rfl ⟨rfl, hS.d0.d0.d0.d0.d0.d0.d0⟩
    refine RC.condF rfl (sr (pn 1 rfl (RL.s (Vl.makeIface underlying29 rfl rfl) rfl (cF (fun _ hg => errors_Is_4.ok hg hS) call44 h rfl rfl rfl ?_))))
    rintro t251 h _ w ⟨rfl, hS⟩
    refine pn 1 rfl (ln ?_)
    refine RC.iteB 24 rfl h (fun hc253 h => ?_) fun hc253 h => ?_
    next =>
     refine RC.condT rfl (sr (pn 1 rfl (lr (RQ.inB_ret (RQ.ret (RQ.inB_ret (RQ.ret (RQ.ret (RQ.inB_ret (RQ.ret ?_))))))))))
     obtain rfl := h.some
     exact rt results10 rfl ⟨rfl, hS.d0.d0.d0.d0.d0.d0.d0⟩
    refine RC.condF rfl (sr (pn 1 rfl (RL.s (Vl.makeIface underlying29 rfl rfl) rfl (cF (fun _ hg => errors_Is_4.ok hg hS) call44 h rfl rfl rfl ?_))))
    rintro t254 h _ w ⟨rfl, hS⟩
    refine pn 1 rfl (ln ?_)
    refine RC.iteB 28 rfl h (fun hc256 h => ?_) fun hc256 h => ?_
    next =>
     refine RC.condT rfl (sr (pn 1 rfl (lr (RQ.inB_ret (RQ.ret (RQ.inB_ret (RQ.ret (RQ.ret (RQ.inB_ret (RQ.ret ?_))))))))))
     obtain rfl := h.some
     exact rt results10 rfl ⟨rfl, hS.d0.d0.d0.d0.d0.d0.d0⟩
    refine RC.condF rfl (RC.skip (RQ.inB_n (tsr (pn 1 rfl (lr (RQ.inB_ret (RQ.ret (RQ.ret (RQ.inB_ret (RQ.ret ?_))))))))))
    obtain rfl := h.some
    exact rt results10 rfl ⟨rfl, hS.d0.d0.d0.d0.d0.d0.d0⟩
  refine RL.e (OW.call (ls := [.tmp 13]) rfl rfl call84 rfl hc) rfl rfl ?_
  rintro _ w ⟨rfl, hS⟩
  refine pn 1 rfl (ln (RC.block (sr (pn 1 rfl (RL.s (Vl.bin (v := .bool true) rfl rfl (by kernel_rfl)) rfl (pn 1 rfl (ln (RC.condT rfl (RC.exit (RQ.inB_miss rfl (RQ.exitT (RQ.inB_hit ?_))))))))))))
  refine RQ.then_n (RC.region (pn 2 rfl (ln (RQ.round (sr (pn 1 rfl (ln (RC.seq (RC.condT rfl (sk (RC.seq ?_)))))))))))
  refine RC.block (sr (RL.s (Vl.indexA (v := .agg #[.func (.func 85) #[] #[]]) underlying103 sizeOf102 rfl rfl (by decide) (by decide) (run_partA isAgg102 sizeOf102)) rfl (al hS zeroValue102 rfl rfl rfl fun b283 w hS => RL.e0 (OW.store (vs := [.func (.func 85) #[] #[]]) 0 hS rfl rfl rfl rfl sizeOf102 rfl rfl rfl rfl) rfl ?_)))
  rintro _ w ⟨rfl, hS⟩
  have hS : St B w (Cl _ [_] _ :: _ :: _ :: _ :: _ :: _ :: l) hf := hS
  refine lnsr (al hS zeroValue106 rfl rfl rfl fun b284 w hS => ln (RC.seq (sr (RL.s (Vl.fa 0 underlying102 rfl sizeOf100 rfl rfl) rfl (RL.s (Vl.ld 1 hS isAgg100 rfl rfl rfl) rfl (RL.s (Vl.lw 6 hS isAgg27 sizeOf27 rfl rfl rfl) rfl ?_))))))
  obtain ⟨t285, hg286, h⟩ := h.bind
  have hc := model_links.ok hr4 hr7 hr10 hg286 hS
  rcases t285 with y287 | y297 | _
  · refine RL.e (OW.call (ls := [.tmp 13]) rfl rfl call85 rfl hc) rfl rfl ?_
    rintro _ w ⟨rfl, hS⟩
    refine pn 1 rfl (ln (RC.block (sr (pn 1 rfl (RL.s (Vl.bin (v := .bool false) rfl rfl (by kernel_rfl)) rfl (pn 1 rfl (ln (RC.condF rfl (sr (pn 1 rfl (RL.s (Vl.makeIface underlying110 rfl rfl) rfl ?_)))))))))))
    refine cF (fun _ hg => errors_As.ok hG0 hg hS) call43 h rfl rfl rfl ?_
    rintro t288 h _ w ⟨rfl, hS⟩
    refine pn 1 rfl (ln ?_)
    refine RC.iteB 18 rfl h (fun hc290 h => ?_) fun hc290 h => ?_
    next =>
     refine RC.condT rfl (sr (RL.s (Vl.fa 1 underlying106 rfl sizeOf29 rfl rfl) rfl (RL.s (Vl.ld 0 hS isAgg29 rfl rfl rfl) rfl (pn 1 rfl (lr (RQ.inB_ret (RQ.ret (RQ.inB_ret (RQ.ret (RQ.ret (RQ.inB_ret (RQ.ret ?_))))))))))))
     obtain rfl := h.some
     exact rt results10 rfl ⟨rfl, hS.d0.d0.d0.d0.d0.d0.d0⟩
    refine RC.condF rfl (sr (pn 1 rfl (RL.s (Vl.makeIface underlying29 rfl rfl) rfl (cF (fun _ hg => errors_Is.ok hg hS) call44 h rfl rfl rfl ?_))))
    rintro t291 h _ w ⟨rfl, hS⟩
    refine pn 1 rfl (ln ?_)
    refine RC.iteB 24 rfl h (fun hc293 h => ?_) fun hc293 h => ?_
    next =>
     refine RC.condT rfl (sr (pn 1 rfl (lr (RQ.inB_ret (RQ.ret (RQ.inB_ret (RQ.ret (RQ.ret (RQ.inB_ret (RQ.ret ?_))))))))))
     obtain rfl := h.some
     exact rt results10 rfl ⟨rfl, hS.d0.d0.d0.d0.d0.d0.d0⟩
    refine RC.condF rfl (sr (pn 1 rfl (RL.s (Vl.makeIface underlying29 rfl rfl) rfl (cF (fun _ hg => errors_Is.ok hg hS) call44 h rfl rfl rfl ?_))))
    rintro t294 h _ w ⟨rfl, hS⟩
    refine pn 1 rfl (ln ?_)
    refine RC.iteB 28 rfl h (fun hc296 h => ?_) fun hc296 h => ?_
    next =>
     refine RC.condT rfl (sr (pn 1 rfl (lr (RQ.inB_ret (RQ.ret (RQ.inB_ret (RQ.ret (RQ.ret (RQ.inB_ret (RQ.ret ?_))))))))))
     obtain rfl := h.some
     exact rt results10 rfl ⟨rfl, hS.d0.d0.d0.d0.d0.d0.d0⟩
    refine RC.condF rfl (RC.skip (RQ.inB_n (tsr (pn 1 rfl (lr (RQ.inB_ret (RQ.ret (RQ.ret (RQ.inB_ret (RQ.ret ?_))))))))))
    obtain rfl := h.some
    exact rt results10 rfl ⟨rfl, hS.d0.d0.d0.d0.d0.d0.d0⟩
  · refine RL.e (OW.call (ls := [.tmp 13]) rfl rfl call85 rfl hc) rfl rfl ?_
    rintro _ w ⟨rfl, hS⟩
    refine pn 1 rfl (ln (RC.block (sr (pn 1 rfl (RL.s (Vl.bin (v := .bool false) rfl rfl (by kernel_rfl)) rfl (pn 1 rfl (ln (RC.condF rfl (sr (pn 1 rfl (RL.s (Vl.makeIface underlying110 rfl rfl) rfl ?_)))))))))))
    refine cF (fun _ hg => errors_As_3.ok hG0 hg hS) call43 h rfl rfl rfl ?_
    rintro ⟨y300, y301⟩ h _ w ⟨rfl, hS⟩
    refine pn 1 rfl (ln ?_)
    refine RC.iteB 18 rfl h (fun hc302 h => ?_) fun hc302 h => ?_
    next =>
     refine RC.condT rfl (sr (RL.s (Vl.fa 1 underlying106 rfl sizeOf29 rfl rfl) rfl (RL.s (Vl.ld 0 hS isAgg29 rfl rfl rfl) rfl (pn 1 rfl (lr (RQ.inB_ret (RQ.ret (RQ.inB_ret (RQ.ret (RQ.ret (RQ.inB_ret (RQ.ret ?_))))))))))))
     obtain rfl := h.some
     exact rt results10 rfl ⟨rfl, hS.d0.d0.d0.d0.d0.d0.d0⟩
    refine RC.condF rfl (sr (pn 1 rfl (RL.s (Vl.makeIface underlying29 rfl rfl) rfl (cF (fun _ hg => errors_Is_5.ok hg hS) call44 h rfl rfl rfl ?_))))
    rintro t303 h _ w ⟨rfl, hS⟩
    refine pn 1 rfl (ln ?_)
    refine RC.iteB 24 rfl h (fun hc305 h => ?_) fun hc305 h => ?_
    next =>
     refine RC.condT rfl (sr (pn 1 rfl (lr (RQ.inB_ret (RQ.ret (RQ.inB_ret (RQ.ret (RQ.ret (RQ.inB_ret (RQ.ret ?_))))))))))
     obtain rfl := h.some
     exact rt results10 rfl ⟨rfl, hS.d0.d0.d0.d0.d0.d0.d0⟩
    refine RC.condF rfl (sr (pn 1 rfl (RL.s (Vl.makeIface underlying29 rfl rfl) rfl (cF (fun _ hg => errors_Is_5.ok hg hS) call44 h rfl rfl rfl ?_))))
    rintro t306 h _ w ⟨rfl, hS⟩
    refine pn 1 rfl (ln ?_)
    refine RC.iteB 28 rfl h (fun hc308 h => ?_) fun hc308 h => ?_
    next =>
     refine RC.condT rfl (sr (pn 1 rfl (lr (RQ.inB_ret (RQ.ret (RQ.inB_ret (RQ.ret (RQ.ret (RQ.inB_ret (RQ.ret ?_))))))))))
     obtain rfl := h.some
     exact rt results10 rfl ⟨rfl, hS.d0.d0.d0.d0.d0.d0.d0⟩
    refine RC.condF rfl (RC.skip (RQ.inB_n (tsr (pn 1 rfl (lr (RQ.inB_ret (RQ.ret (RQ.ret (RQ.inB_ret (RQ.ret ?_))))))))))
    obtain rfl := h.some
    exact rt results10 rfl ⟨rfl, hS.d0.d0.d0.d0.d0.d0.d0⟩
  refine RL.e (OW.call (ls := [.tmp 13]) rfl rfl call85 rfl hc) rfl rfl ?_
  rintro _ w ⟨rfl, hS⟩
  refine pn 1 rfl (ln (RC.block (sr (pn 1 rfl (RL.s (Vl.bin (v := .bool true) rfl rfl (by kernel_rfl)) rfl (pn 1 rfl (ln (RC.condT rfl (RC.exit (RQ.inB_miss rfl (RQ.exitT (RQ.inB_hit ?_))))))))))))
  refine RQ.then_n (RC.region (pn 2 rfl (ln (RQ.round (sr (pn 1 rfl (ln (RC.seq (RC.condT rfl (sk (RC.seq ?_)))))))))))
  refine RC.block (sr (RL.s (Vl.indexA (v := .agg #[.func (.func 86) #[] #[]]) underlying103 sizeOf102 rfl rfl (by decide) (by decide) (run_partA isAgg102 sizeOf102)) rfl (al hS zeroValue102 rfl rfl rfl fun b335 w hS => RL.e0 (OW.store (vs := [.func (.func 86) #[] #[]]) 0 hS rfl rfl rfl rfl sizeOf102 rfl rfl rfl rfl) rfl ?_)))
  rintro _ w ⟨rfl, hS⟩
  have hS : St B w (Cl _ [_] _ :: _ :: _ :: _ :: _ :: _ :: _ :: _ :: l) hf := hS
  refine lnsr (al hS zeroValue106 rfl rfl rfl fun b336 w hS => ln (RC.seq (sr (RL.s (Vl.fa 0 underlying102 rfl sizeOf100 rfl rfl) rfl (RL.s (Vl.ld 1 hS isAgg100 rfl rfl rfl) rfl (RL.s (Vl.lw 8 hS isAgg27 sizeOf27 rfl rfl rfl) rfl ?_))))))
  obtain ⟨t337, hg338, h⟩ := h.bind
  have hc := model_starts.ok hr4 hr7 hr10 hg338 hS
  rcases t337 with y339 | y349 | _
  · refine RL.e (OW.call (ls := [.tmp 13]) rfl rfl call86 rfl hc) rfl rfl ?_
    rintro _ w ⟨rfl, hS⟩
    refine pn 1 rfl (ln (RC.block (sr (pn 1 rfl (RL.s (Vl.bin (v := .bool false) rfl rfl (by kernel_rfl)) rfl (pn 1 rfl (ln (RC.condF rfl (sr (pn 1 rfl (RL.s (Vl.makeIface underlying110 rfl rfl) rfl ?_)))))))))))
    refine cF (fun _ hg => errors_As.ok hG0 hg hS) call43 h rfl rfl rfl ?_
    rintro t340 h _ w ⟨rfl, hS⟩
    refine pn 1 rfl (ln ?_)
    refine RC.iteB 18 rfl h (fun hc342 h => ?_) fun hc342 h => ?_
    next =>
     refine RC.condT rfl (sr (RL.s (Vl.fa 1 underlying106 rfl sizeOf29 rfl rfl) rfl (RL.s (Vl.ld 0 hS isAgg29 rfl rfl rfl) rfl (pn 1 rfl (lr (RQ.inB_ret (RQ.ret (RQ.inB_ret (RQ.ret (RQ.ret (RQ.inB_ret (RQ.ret ?_))))))))))))
     obtain rfl := h.some
     exact rt results10 rfl ⟨rfl, hS.d0.d0.d0.d0.d0.d0.d0.d0.d0⟩
    refine RC.condF rfl (sr (pn 1 rfl (RL.s (Vl.makeIface underlying29 rfl rfl) rfl (cF (fun _ hg => errors_Is.ok hg hS) call44 h rfl rfl rfl ?_))))
    rintro t343 h _ w ⟨rfl, hS⟩
    refine pn 1 rfl (ln ?_)
    refine RC.iteB 24 rfl h (fun hc345 h => ?_) fun hc345 h => ?_
    next =>
     refine RC.condT rfl (sr (pn 1 rfl (lr (RQ.inB_ret (RQ.ret (RQ.inB_ret (RQ.ret (RQ.ret (RQ.inB_ret (RQ.ret ?_))))))))))
     obtain rfl := h.some
     exact rt results10 rfl ⟨rfl, hS.d0.d0.d0.d0.d0.d0.d0.d0.d0⟩
    refine RC.condF rfl (sr (pn 1 rfl (RL.s (Vl.makeIface underlying29 rfl rfl) rfl (cF (fun _ hg => errors_Is.ok hg hS) call44 h rfl rfl rfl ?_))))
    rintro t346 h _ w ⟨rfl, hS⟩
    refine pn 1 rfl (ln ?_)
    refine RC.iteB 28 rfl h (fun hc348 h => ?_) fun hc348 h => ?_
    next =>
     refine RC.condT rfl (sr (pn 1 rfl (lr (RQ.inB_ret (RQ.ret (RQ.inB_ret (RQ.ret (RQ.ret (RQ.inB_ret (RQ.ret ?_))))))))))
     obtain rfl := h.some
     exact rt results10 rfl ⟨rfl, hS.d0.d0.d0.d0.d0.d0.d0.d0.d0⟩
    refine RC.condF rfl (RC.skip (RQ.inB_n (tsr (pn 1 rfl (lr (RQ.inB_ret (RQ.ret (RQ.ret (RQ.inB_ret (RQ.ret ?_))))))))))
    obtain rfl := h.some
    exact rt results10 rfl ⟨rfl, hS.d0.d0.d0.d0.d0.d0.d0.d0.d0⟩
  · refine RL.e (OW.call (ls := [.tmp 13]) rfl rfl call86 rfl hc) rfl rfl ?_
    rintro _ w ⟨rfl, hS⟩
    refine pn 1 rfl (ln (RC.block (sr (pn 1 rfl (RL.s (Vl.bin (v := .bool false) rfl rfl (by kernel_rfl)) rfl (pn 1 rfl (ln (RC.condF rfl (sr (pn 1 rfl (RL.s (Vl.makeIface underlying110 rfl rfl) rfl ?_)))))))))))
    refine cF (fun _ hg => errors_As_3.ok hG0 hg hS) call43 h rfl rfl rfl ?_
    rintro ⟨y352, y353⟩ h _ w ⟨rfl, hS⟩
    refine pn 1 rfl (ln ?_)
    refine RC.iteB 18 rfl h (fun hc354 h => ?_) fun hc354 h => ?_
    next =>
     refine RC.condT rfl (sr (RL.s (Vl.fa 1 underlying106 rfl sizeOf29 rfl rfl) rfl (RL.s (Vl.ld 0 hS isAgg29 rfl rfl rfl) rfl (pn 1 rfl (lr (RQ.inB_ret (RQ.ret (RQ.inB_ret (RQ.ret (RQ.ret (RQ.inB_ret (RQ.ret ?_))))))))))))
     obtain rfl := h.some
     exact rt results10 rfl ⟨rfl, hS.d0.d0.d0.d0.d0.d0.d0.d0.d0⟩
    refine RC.condF rfl (sr (pn 1 rfl (RL.s (Vl.makeIface underlying29 rfl rfl) rfl (cF (fun _ hg => errors_Is_5.ok hg hS) call44 h rfl rfl rfl ?_))))
    rintro t355 h _ w ⟨rfl, hS⟩
    refine pn 1 rfl (ln ?_)
    refine RC.iteB 24 rfl h (fun hc357 h => ?_) fun hc357 h => ?_
    next =>
     refine RC.condT rfl (sr (pn 1 rfl (lr (RQ.inB_ret (RQ.ret (RQ.inB_ret (RQ.ret (RQ.ret (RQ.inB_ret (RQ.ret ?_))))))))))
     obtain rfl := h.some
     exact rt results10 rfl ⟨rfl, hS.d0.d0.d0.d0.d0.d0.d0.d0.d0⟩
    refine RC.condF rfl (sr (pn 1 rfl (RL.s (Vl.makeIface underlying29 rfl rfl) rfl (cF (fun _ hg => errors_Is_5.ok hg hS) call44 h rfl rfl rfl ?_))))
    rintro t358 h _ w ⟨rfl, hS⟩
    refine pn 1 rfl (ln ?_)
    refine RC.iteB 28 rfl h (fun hc360 h => ?_) fun hc360 h => ?_
    next =>
     refine RC.condT rfl (sr (pn 1 rfl (lr (RQ.inB_ret (RQ.ret (RQ.inB_ret (RQ.ret (RQ.ret (RQ.inB_ret (RQ.ret ?_))))))))))
     obtain rfl := h.some
     exact rt results10 rfl ⟨rfl, hS.d0.d0.d0.d0.d0.d0.d0.d0.d0⟩
    refine RC.condF rfl (RC.skip (RQ.inB_n (tsr (pn 1 rfl (lr (RQ.inB_ret (RQ.ret (RQ.ret (RQ.inB_ret (RQ.ret ?_))))))))))
    obtain rfl := h.some
    exact rt results10 rfl ⟨rfl, hS.d0.d0.d0.d0.d0.d0.d0.d0.d0⟩
  refine RL.e (OW.call (ls := [.tmp 13]) rfl rfl call86 rfl hc) rfl rfl ?_
  rintro _ w ⟨rfl, hS⟩
  refine pn 1 rfl (ln (RC.block (sr (pn 1 rfl (RL.s (Vl.bin (v := .bool true) rfl rfl (by kernel_rfl)) rfl (pn 1 rfl (ln (RC.condT rfl (RC.exit (RQ.inB_miss rfl (RQ.exitT (RQ.inB_hit ?_))))))))))))
  refine RQ.then_n (RC.region (pn 2 rfl (ln (RQ.round (sr (pn 1 rfl (ln (RC.seq (RC.condF rfl (RC.exit (RQ.exitT (RQ.exitT ?_))))))))))))
  refine RQ.inB_hit (tsr (pn 1 rfl (lr ?_)))
  obtain rfl := h.some
  exact rt results10 rfl ⟨rfl, hS.d0.d0.d0.d0.d0.d0.d0.d0.d0⟩
def model_Ways_1.f (a1 : api_Link) (a3 : Int) : Option (Bool) := some (decide (a1.From = a3))
theorem model_Ways_1.ok {a1 : api_Link} {a3 : Int} {b2 : Nat} {r : Bool} (h : model_Ways_1.f a1 a3 = some r) (hS : St B w (Cl b2 [.int .i64 a3] 3 :: l) hf) :
    Calls prog 79 #[.agg (C_api_Link a1).toArray, .pointer (some ⟨b2, 0, none⟩)] w (Ret fun v w => v = .bool r ∧ St B w (Cl b2 [.int .i64 a3] 3 :: l) hf) := by
  have h := Holds.of h
  refine en func79 rfl ntmps79 rfl (sr (bx hS rfl rfl rfl rfl fun b5 w hS => pn 1 rfl (lnsr (RL.s (Vl.fa 0 underlying144 rfl sizeOf3 rfl rfl) rfl (RL.s (Vl.ld 0 hS isAgg3 rfl rfl rfl) rfl (RL.s (Vl.ld 1 hS isAgg3 rfl rfl rfl) rfl (pn 2 rfl (lr ?_))))))))
  obtain rfl := h.some
  exact rt results79 rfl ⟨rfl, hS.d0⟩
def model_places.j8 (x131 : Int) (l174 : List Int) : Option ((List Int × Int) ⊕ (List Int)) := some (.inl (l174, IntKind.i64.wrap (x131 + 1)))
def model_places.l7b (a1 : api_Model) (a12 : Int) : List Int × Int → Option ((List Int × Int) ⊕ (List Int))
  | (l128, x131) => (if x131 < (a1.Links.length : Int) then (if 0 ≤ x131 then ((model_Ways_1.f (nth a1.Links x131) a12).bind fun t179 => (if t179 = true then (if (l128.length + 1) * 8 ≤ 140737488355328 then model_places.j8 x131 (l128 ++ ([x131] : List Int)) else none) else model_places.j8 x131 l128)) else none) else some (.inr l128))
def model_places.l7 (a1 : api_Model) (a12 : Int) (s : List Int × Int) : Option (List Int) := loopR (model_places.l7b a1 a12) s
def model_places.f (a1 : api_Model) (a12 : Int) : Option (List Int) := model_places.l7 a1 a12 ([], 0)
theorem model_places.ok {a1 : api_Model} {a12 : Int} {A2 : Option Addr} {c3 : Nat} {A5 : Option Addr} {c6 : Nat} {A8 : Option Addr} {c9 b11 : Nat} (hr4 : SlR (Rep.sl E_api_Instr.rep) hf A2 c3 a1.Progs) (hr7 : SlR E_api_Link.rep hf A5 c6 a1.Links) (hr10 : SlR E_api_Start.rep hf A8 c9 a1.Starts) {r : List Int} (h : model_places.f a1 a12 = some r) (hS : St B w (Cl b11 [.int .i64 a12] 3 :: l) hf) :
    Calls prog 78 #[.agg (C_api_Model a1 A2 c3 A5 c6 A8 c9).toArray, .func (.func 79) #[] #[.pointer (some ⟨b11, 0, none⟩)]] w (Ret fun v w => ∃ (A_1 : Option Addr) (c_2 : Nat), v = .slice A_1 r.length c_2 ∧ St B w (OSf (FI .i64) 3 (.slice A_1 r.length c_2) r :: Cl b11 [.int .i64 a12] 3 :: l) hf) := by
  have h := Holds.of h
  refine en func78 rfl ntmps78 rfl (sr (bx hS rfl rfl rfl rfl fun b100 w hS => pn 1 rfl (lnsr (pn 1 rfl (ln (RC.seq (sr (RL.s (Vl.fa 1 underlying27 rfl sizeOf23 rfl rfl) rfl ?_))))))))
  refine RL.s (Vl.ld 0 hS isAgg23 rfl rfl rfl) rfl (RL.s (Vl.lenSl underlying23 rfl) rfl (pn 1 rfl (ln (RC.block ?_))))
  have hS := hS.nilSl (FI .i64) 3
  refine fun a ha => RC.loop (N := 25) (body := (model_places.l7b a1 a12)) (φ := (· = r)) (fun (s : List Int × Int) a w => ∃ (l128 : List Int) (x131 : Int), s = (l128, x131) ∧ ∃ (A129 : Option Addr) (c130 : Nat), Has 25 [(1, .func (.func 79) #[] #[.pointer (some ⟨b11, 0, none⟩)]), (5, .slice A129 l128.length c130), (9, .slice A5 a1.Links.length c6), (10, .int .i64 (a1.Links.length : Int)), (11, .int .i64 x131)] a ∧ St B w (OSf (FI .i64) 3 (.slice A129 l128.length c130) l128 :: Cl b11 [.int .i64 a12] 3 :: l) hf) ?_ (s0 := ([], 0)) h ⟨([]), 0, rfl, none, 0, ha.to ⟨rfl, rfl, rfl, rfl, rfl, trivial⟩, hS.d1⟩
  rintro G161 _ a w ⟨l128, x131, rfl, A129, c130, ha, hS⟩ h
  revert a
  show RC _ _ _ _ _ _
  refine sr (pn 1 rfl (ln (RC.seq ?_)))
  refine RC.iteP 12 rfl h (fun hc163 h => ?_) fun hc163 h => ?_
  next =>
   refine RC.condT rfl (sk ?_)
   refine RC.join (fun (s : List Int) a w => ∃ (l174 : List Int), s = (l174) ∧ ∃ (A175 : Option Addr) (c176 : Nat), Has 25 [(1, .func (.func 79) #[] #[.pointer (some ⟨b11, 0, none⟩)]), (5, .slice A175 l174.length c176), (9, .slice A5 a1.Links.length c6), (10, .int .i64 (a1.Links.length : Int)), (11, .int .i64 x131)] a ∧ St B w (OSf (FI .i64) 3 (.slice A175 l174.length c176) l174 :: Cl b11 [.int .i64 a12] 3 :: l) hf ∧ Holds (Sum.elim G161 (· = r)) (model_places.j8 x131 l174)) ?_ ?_
   · rintro l174 a w ⟨_, rfl, A175, c176, ha, hS, h⟩
     revert a
     show RC _ _ _ _ _ _
     refine RC.region (pn 2 rfl (RL.nil ?_))
     exact fun a ha => ⟨(l174, IntKind.i64.wrap (x131 + 1)), ⟨l174, (IntKind.i64.wrap (x131 + 1)), rfl, A175, c176, ha.to ⟨rfl, rfl, rfl, rfl, rfl, trivial⟩, hS⟩, h.some⟩
   refine RC.block (sr (pn 1 rfl ?_))
   obtain ⟨hq177, h⟩ := h.req
   refine RL.s (Vl.indexAddr underlying23 sizeOf144 rfl rfl ((hr7.2.world hS.sub).adr hq177 hc163) hq177 hc163 rfl) rfl (RL.s (Vl.loadA isAgg144 sizeOf144 rfl rfl ((hr7.2.world hS.sub).cells hq177 hc163)) rfl (al hS zeroValue144 rfl rfl rfl fun b178 w hS => pn 1 rfl (RL.e0 (OW.store (vs := (C_api_Link (nth a1.Links x131))) 0 hS rfl rfl rfl rfl sizeOf144 rfl rfl rfl rfl) rfl ?_)))
   rintro _ w ⟨rfl, hS⟩
   have hS : St B w (Cl _ [_, _, _, _] _ :: _ :: _ :: l) hf := hS
   refine lnsr (pn 1 rfl (RL.s (Vl.lw 0 hS isAgg144 sizeOf144 rfl rfl rfl) rfl ?_))
   obtain ⟨t179, hg180, h⟩ := h.bind
   have hc := model_Ways_1.ok hg180 hS.p2
   refine RL.e (OW.call (ls := [.tmp 17]) rfl rfl call79 rfl hc) rfl rfl ?_
   rintro _ w ⟨rfl, hS⟩
   refine ln ?_
   refine RC.iteB 18 rfl h (fun hc181 h => ?_) fun hc181 h => ?_
   next =>
    refine RC.condT rfl (RC.region (pn 2 rfl (RL.e (OW.buildSlice (E := (FI .i64)) (xs := ([x131] : List Int)) (cs := [.int .i64 x131]) hS underlying37 zeroValue3 sizeOf3 (parts := [(0, .tmp 20)]) rfl rfl (by decide) (by decide) (by kernel_rfl) rfl) rfl rfl ?_)))
    rintro _ w ⟨b182, rfl, hS⟩
    obtain ⟨hq183, h⟩ := h.req
    refine RL.e (OW.append (E := (FI .i64)) (xs := l128) (ys := ([x131] : List Int)) 3 hS rfl underlying37 type3 rfl rfl rfl rfl (by decide) rfl rfl rfl (hS.slW 0 rfl).2.2.flat (by simp only [maxLen, List.length_cons, List.length_nil] at *; omega) hq183 rfl) rfl rfl ?_
    rintro v186 w hS
    obtain ⟨A184, c185, rfl, _⟩ := hS.osShape 0 rfl
    have hS : St B w (_ :: _ :: _ :: _ :: l) hf := hS
    refine pn 1 rfl (RL.nil (RQ.inB_n ?_))
    exact fun a ha => ⟨((l128 ++ ([x131] : List Int))), (l128 ++ ([x131] : List Int)), rfl, A184, c185, ha.to ⟨rfl, rfl, rfl, rfl, rfl, trivial⟩, hS.d1.d2, h⟩
   refine RC.condF rfl (RC.skip (RQ.inB_n ?_))
   exact fun a ha => ⟨(l128), l128, rfl, A129, c130, ha.to ⟨rfl, rfl, rfl, rfl, rfl, trivial⟩, hS.d1.p1, h⟩
  refine RC.condF rfl (RC.exit (RQ.exitT ?_))
  have h := h.inrS
  refine RQ.exitT (RQ.inB_hit (tsr (pn 2 rfl (lr ?_))))
  obtain rfl := h.some
  exact rt results78 rfl ⟨A129, c130, rfl, hS⟩
def model_Ways.f (a1 : api_Model) (a11 : Int) : Option (List Int) := ((model_places.f a1 a11).bind fun t20 => some t20)
theorem model_Ways.ok {a1 : api_Model} {a11 : Int} {A2 : Option Addr} {c3 : Nat} {A5 : Option Addr} {c6 : Nat} {A8 : Option Addr} {c9 : Nat} (hr4 : SlR (Rep.sl E_api_Instr.rep) hf A2 c3 a1.Progs) (hr7 : SlR E_api_Link.rep hf A5 c6 a1.Links) (hr10 : SlR E_api_Start.rep hf A8 c9 a1.Starts) {r : List Int} (h : model_Ways.f a1 a11 = some r) (hS : St B w (l) hf) :
    Calls prog 36 #[.agg (C_api_Model a1 A2 c3 A5 c6 A8 c9).toArray, .int .i64 a11] w (Ret fun v w => ∃ (A_1 : Option Addr) (c_2 : Nat), v = .slice A_1 r.length c_2 ∧ St B w (OSf (FI .i64) 3 (.slice A_1 r.length c_2) r :: l) hf) := by
  have h := Holds.of h
  refine en func36 rfl ntmps36 rfl (sr (bx hS rfl rfl rfl rfl fun b18 w hS => bx hS rfl rfl rfl rfl fun b19 w hS => pn 1 rfl (lnsr (RL.s (Vl.lw 1 hS isAgg27 sizeOf27 rfl rfl rfl) rfl (RL.s (Vl.makeFunc (fi := []) (ca := [.tmp 3]) rfl rfl) rfl (cF (fun _ hg => model_places.ok hr4 hr7 hr10 hg hS) call78 h rfl rfl rfl ?_))))))
  rintro t20 h _ w ⟨A22, c23, rfl, hS⟩
  refine pn 1 rfl (lr ?_)
  obtain rfl := h.some
  exact rt results36 rfl ⟨A22, c23, rfl, hS.d1.d1⟩
def model_World.l6b (a1 : api_Model) (a11 : Int) (l231 : List api_Instr) (t303 : List Int) : List api_Link × Int → Option ((List api_Link × Int) ⊕ (api_World × Int))
  | (l327, x330) => (if x330 < (t303.length : Int) then (if 0 ≤ x330 then (if 0 ≤ nth t303 x330 ∧ nth t303 x330 < (a1.Links.length : Int) then (if (l327.length + 1) * 32 ≤ 140737488355328 then some (.inl ((l327 ++ ([nth a1.Links (nth t303 x330)])), IntKind.i64.wrap (x330 + 1))) else none) else none) else none) else some (.inr ((⟨l231, a11, l327, a1.Seed⟩ : api_World), 0)))
def model_World.l6 (a1 : api_Model) (a11 : Int) (l231 : List api_Instr) (t303 : List Int) (s : List api_Link × Int) : Option (api_World × Int) := loopR (model_World.l6b a1 a11 l231 t303) s
def model_World.j4 (a1 : api_Model) (a11 : Int) (l231 : List api_Instr) : Option (api_World × Int) := ((model_Ways.f a1 a11).bind fun t303 => model_World.l6 a1 a11 l231 t303 ([], 0))
def model_World.f (a1 : api_Model) (a11 : Int) : Option (api_World × Int) := ((model_Check.f a1).bind fun t205 => (if t205 = 0 then ((model_lane.f a1 a11).bind fun t211 => (if t211 = true then (if 0 ≤ a11 ∧ a11 < (a1.Progs.length : Int) then (if (([] : List api_Instr).length + (nth a1.Progs a11).length) * 32 ≤ 140737488355328 then model_World.j4 a1 a11 (([] : List api_Instr) ++ (nth a1.Progs a11)) else none) else none) else some ((⟨([] : List api_Instr), 0, ([] : List api_Link), 0⟩ : api_World), 1))) else some ((⟨([] : List api_Instr), 0, ([] : List api_Link), 0⟩ : api_World), t205)))
theorem model_World.ok {a1 : api_Model} {a11 : Int} {A2 : Option Addr} {c3 : Nat} {A5 : Option Addr} {c6 : Nat} {A8 : Option Addr} {c9 : Nat} (hr4 : SlR (Rep.sl E_api_Instr.rep) hf A2 c3 a1.Progs) (hr7 : SlR E_api_Link.rep hf A5 c6 a1.Links) (hr10 : SlR E_api_Start.rep hf A8 c9 a1.Starts) (hG0 : GlobAt hf 0 (.iface 215 (.agg #[.pointer (some ⟨1, 108, none⟩)]))) {r : api_World × Int} (h : model_World.f a1 a11 = some r) (hS : St B w (l) hf) :
    Calls prog 35 #[.agg (C_api_Model a1 A2 c3 A5 c6 A8 c9).toArray, .int .i64 a11] w (Ret fun v w => ∃ (A_1 : Option Addr) (c_2 : Nat) (A_3 : Option Addr) (c_4 : Nat), v = .tuple #[.agg (C_api_World r.1 A_1 c_2 A_3 c_4).toArray, .int .i64 r.2] ∧ St B w (OSf E_api_Instr 269 (.slice A_1 r.1.Prog.length c_2) r.1.Prog :: OSf E_api_Link 144 (.slice A_3 r.1.Links.length c_4) r.1.Links :: l) hf) := by
  have h := Holds.of h
  refine en func35 rfl ntmps35 rfl (sr (bx hS rfl rfl rfl rfl fun b200 w hS => al hS zeroValue91 rfl rfl rfl fun b201 w hS => pn 1 rfl (ln (RC.seq (sr (RL.s (Vl.lw 1 hS isAgg27 sizeOf27 rfl rfl rfl) rfl (cF (fun _ hg => model_Check.ok hr4 hr7 hr10 hG0 hg hS) call10 h rfl rfl rfl ?_)))))))
  rintro t205 h _ w ⟨rfl, hS⟩
  refine pn 1 rfl (lnsr (pn 2 rfl (ln ?_)))
  refine RC.iteN 13 rfl h (fun hc207 h => ?_) fun hc207 h => ?_
  next =>
   refine RC.condF rfl (sk (RC.seq (sr (RL.s (Vl.lw 1 hS isAgg27 sizeOf27 rfl rfl rfl) rfl (pn 1 rfl (cF (fun _ hg => model_lane.ok hr4 hr7 hr10 hg hS) call77 h rfl rfl rfl ?_))))))
   rintro t211 h _ w ⟨rfl, hS⟩
   refine pn 1 rfl (ln ?_)
   refine RC.iteM 19 rfl h (fun hc213 h => ?_) fun hc213 h => ?_
   next =>
    refine RC.condF rfl (sk ?_)
    refine RC.join (fun (s : List api_Instr) a w => ∃ (l231 : List api_Instr), s = (l231) ∧ ∃ (b230 : Nat) (A232 : Option Addr) (c233 : Nat), Has 51 [(1, .int .i64 a11), (2, .pointer (some ⟨b200, 0, none⟩)), (4, .pointer (some ⟨b201, 0, none⟩)), (7, .pointer (some ⟨b230, 0, none⟩))] a ∧ St B w (OSf E_api_Instr 269 (.slice A232 l231.length c233) l231 :: Cl b201 [.slice none 0 0, .int .i64 0, .slice none 0 0, .int .u64 0] 91 :: Cl b200 (C_api_Model a1 A2 c3 A5 c6 A8 c9) 27 :: Cl b230 [.slice A232 l231.length c233, .int .i64 a11, .slice none 0 0, .int .u64 a1.Seed] 91 :: l) hf ∧ Holds (· = r) (model_World.j4 a1 a11 l231)) ?_ ?_
    · rintro l231 a w ⟨_, rfl, b230, A232, c233, ha, hS, h⟩
      revert a
      show RC _ _ _ _ _ _
      refine RC.seq (sr (RL.s (Vl.lw 2 hS isAgg27 sizeOf27 rfl rfl rfl) rfl (pn 1 rfl (cF (fun _ hg => model_Ways.ok hr4 hr7 hr10 hg hS) call36 h rfl rfl rfl ?_))))
      rintro t303 h _ w ⟨A305, c306, rfl, hS⟩
      refine RL.s (Vl.lenSl underlying37 rfl) rfl (pn 1 rfl (ln (RC.block ?_)))
      have hS := hS.nilSl E_api_Link 144
      refine fun a ha => RC.loop (N := 51) (body := (model_World.l6b a1 a11 l231 t303)) (φ := (· = r)) (fun (s : List api_Link × Int) a w => ∃ (l327 : List api_Link) (x330 : Int), s = (l327, x330) ∧ ∃ (A328 : Option Addr) (c329 : Nat), Has 51 [(2, .pointer (some ⟨b200, 0, none⟩)), (4, .pointer (some ⟨b201, 0, none⟩)), (7, .pointer (some ⟨b230, 0, none⟩)), (33, .slice A305 t303.length c306), (34, .int .i64 (t303.length : Int)), (35, .int .i64 x330)] a ∧ St B w (OSf E_api_Instr 269 (.slice A232 l231.length c233) l231 :: OSf E_api_Link 144 (.slice A328 l327.length c329) l327 :: OSf (FI .i64) 3 (.slice A305 t303.length c306) t303 :: Cl b201 [.slice none 0 0, .int .i64 0, .slice none 0 0, .int .u64 0] 91 :: Cl b200 (C_api_Model a1 A2 c3 A5 c6 A8 c9) 27 :: Cl b230 [.slice A232 l231.length c233, .int .i64 a11, .slice A328 l327.length c329, .int .u64 a1.Seed] 91 :: l) hf) ?_ (s0 := ([], 0)) h ⟨([]), 0, rfl, none, 0, ha.to ⟨rfl, rfl, rfl, rfl, rfl, rfl, trivial⟩, hS.p2⟩
      rintro G353 _ a w ⟨l327, x330, rfl, A328, c329, ha, hS⟩ h
      revert a
      show RC _ _ _ _ _ _
      refine sr (pn 1 rfl (ln (RC.seq ?_)))
      refine RC.iteP 36 rfl h (fun hc355 h => ?_) fun hc355 h => ?_
      next =>
       refine RC.condT rfl (sk (RC.seq (RC.block (sr ?_))))
       obtain ⟨hq364, h⟩ := h.req
       refine RL.s (Vl.indexOwn 2 hS rfl underlying37 sizeOf3 rfl rfl hq364 hc355) rfl (RL.s (Vl.load isAgg3 rfl ((hS.slW 2 rfl).2.2.cell (j := 0) hq364 hc355 rfl)) rfl (pn 1 rfl (ln (RC.planS (plD [0, 4, 6, 10, 14, 17, 20, 23, 26, 29, 32]) [8, 9, 10] hS (fun w hS => hS) follows rfl (by kernel_rfl) (NoTmp.block (NoTmp.then (NoTmp.then (NoTmp.block (NoTmp.then NoTmp.body))))) fun w hS => RP.s0 0 rfl (fun w => Vl.fa 2 underlying91 rfl sizeOf23 rfl rfl) rfl (RP.s 0 1 rfl rfl hS (fun w hS => Vl.ld 5 hS isAgg23 rfl rfl rfl) rfl (RP.s0 2 rfl (fun w => Vl.fa 1 underlying27 rfl sizeOf23 rfl rfl) rfl (RP.s 0 3 rfl rfl hS (fun w hS => Vl.ld 4 hS isAgg23 rfl rfl rfl) rfl (RP.v1 4 rfl (Vl.move rfl) rfl rfl ?_))))))))
       obtain ⟨⟨hq365, hq366⟩, h⟩ := h.req
       refine RP.v1 5 rfl (Vl.indexAddr underlying23 sizeOf144 rfl rfl ((hr7.2.world hS.sub).adr hq365 hq366) hq365 hq366 rfl) rfl rfl (RP.v1 6 rfl (Vl.loadA isAgg144 sizeOf144 rfl rfl ((hr7.2.world hS.sub).cells hq365 hq366)) rfl rfl (RP.e 7 rfl (OW.buildSlice (E := E_api_Link) (xs := [nth a1.Links (nth t303 x330)]) (cs := (C_api_Link (nth a1.Links (nth t303 x330)))) hS underlying23 zeroValue144 sizeOf144 (parts := [(0, .tmp 45)]) rfl rfl (by decide) (by decide) (by kernel_rfl) rfl) rfl rfl ?_))
       rintro _ w ⟨b367, rfl, hS⟩
       refine ⟨kp ⟨fun _ => hS.d0, trivial⟩, ?_⟩
       obtain ⟨hq368, h⟩ := h.req
       refine RP.e 8 rfl (OW.append (E := E_api_Link) (xs := l327) (ys := [nth a1.Links (nth t303 x330)]) 2 hS rfl underlying23 type144 rfl rfl rfl rfl (by decide) rfl rfl rfl (hS.slW 0 rfl).2.2.flat (by simp only [maxLen, List.length_cons, List.length_nil] at *; omega) hq368 rfl) rfl rfl ?_
       rintro v371 w hS
       obtain ⟨A369, c370, rfl, _⟩ := hS.osShape 0 rfl
       have hS : St B w (_ :: _ :: _ :: _ :: _ :: _ :: _ :: l) hf := hS
       refine ⟨kp ⟨(by intro hx; cases hx), trivial⟩, ?_⟩
       refine RP.v1 9 rfl (Vl.fa 2 underlying91 rfl sizeOf23 rfl rfl) rfl rfl (RP.e0 10 rfl (OW.store (vs := [.slice A369 (l327 ++ ([nth a1.Links (nth t303 x330)])).length c370]) 6 hS rfl rfl rfl rfl sizeOf23 rfl rfl rfl rfl) rfl ?_)
       rintro _ w ⟨rfl, hS⟩
       have hS : St B w (_ :: _ :: _ :: _ :: _ :: _ :: Cl _ [_, _, _, _] _ :: l) hf := hS
       refine ⟨kp ⟨(by intro hx; cases hx), trivial⟩, ?_⟩
       refine RP.nil (RQ.inB_n (RQ.then_n (RC.region (pn 2 rfl (RL.nil ?_)))))
       exact fun a ha => ⟨((l327 ++ ([nth a1.Links (nth t303 x330)])), IntKind.i64.wrap (x330 + 1)), ⟨(l327 ++ ([nth a1.Links (nth t303 x330)])), (IntKind.i64.wrap (x330 + 1)), rfl, A369, c370, ha.to ⟨rfl, rfl, rfl, rfl, rfl, rfl, trivial⟩, hS.d1.p1⟩, h.some⟩
      refine RC.condF rfl (RC.exit (RQ.exitT ?_))
      have h := h.inrS
      refine RQ.exitT (RQ.inB_hit (tsr (RL.s (Vl.lw 5 hS isAgg91 sizeOf91 rfl rfl rfl) rfl (RL.e0 (OW.store (vs := [.slice A232 l231.length c233, .int .i64 a11, .slice A328 l327.length c329, .int .u64 a1.Seed]) 3 hS rfl rfl rfl rfl sizeOf91 rfl rfl rfl rfl) rfl ?_))))
      rintro _ w ⟨rfl, hS⟩
      have hS : St B w (_ :: _ :: _ :: Cl _ [_, _, _, _] _ :: _ :: _ :: l) hf := hS
      refine pn 1 rfl (lr ?_)
      obtain rfl := h.some
      refine RQ.ret0 (vs := [.agg #[.slice A232 l231.length c233, .int .i64 a11, .slice A328 l327.length c329, .int .u64 a1.Seed], .int .i64 0]) results35 ⟨⟨_, rfl, run_loadVarA (vs := [.slice A232 l231.length c233, .int .i64 a11, .slice A328 l327.length c329, .int .u64 a1.Seed]) isAgg91 sizeOf91 rfl (hS.cellsAt 3 rfl rfl)⟩, rfl, trivial⟩ ?_
      exact ⟨A232, c233, A328, c329, rfl, hS.d2.d2.d2.d2⟩
    refine RC.planS (.pure 0 (.early 1 0 (.pure 2 (.early 3 0 (.early 4 0 (.pure 6 (.pure 7 (.early 8 0 (.fork 5 10 (.pure 9 (.last 10 (.last 11 .nil))) (.last 5 (.last 9 (.last 11 .nil)))))))))))) [11] hS (fun w hS => hS) follows rfl (by kernel_rfl) (NoTmp.then NoTmp.body) fun w hS => RP.s0 0 rfl (fun w => Vl.fa 0 underlying27 rfl sizeOf22 rfl rfl) rfl (RP.s 0 1 rfl rfl hS (fun w hS => Vl.ld 1 hS isAgg22 rfl rfl rfl) rfl (pp 1 rfl ?_))
    obtain ⟨⟨hq372, hq373⟩, h⟩ := h.req
    refine RP.s 0 3 rfl rfl hS (fun w hS => Vl.indexAddr underlying22 sizeOf89 rfl rfl (hr4.2.adr hq372 hq373) hq372 hq373 rfl) rfl ?_
    obtain ⟨_, _, ⟨A374, c375, rfl, hr376⟩, hl377⟩ := hr4.2.elem hq372 hq373
    refine RP.s 0 4 rfl rfl hS (fun w hS => Vl.load isAgg89 rfl (cellH_world hS.sub (hl377 0 _ rfl))) rfl (pp 1 rfl (RP.s0 7 rfl (fun w => Vl.fa 3 underlying27 rfl sizeOf25 rfl rfl) rfl (RP.s 0 8 rfl rfl hS (fun w hS => Vl.ld 1 hS isAgg25 rfl rfl rfl) rfl ?_)))
    refine RP.fork ?_ ?_
    · obtain ⟨hq378, h⟩ := h.req
      have hS := hS.nilSl E_api_Instr 269
      refine RPW.e 5 rfl (OW.appendV (E := E_api_Instr) (xs := ([] : List api_Instr)) (ys := nth a1.Progs a11) 0 hS rfl underlying89 type269 rfl rfl rfl rfl (by decide) (by decide) rfl rfl (hr376.2.world hS.sub) hq378 rfl) rfl rfl ?_
      rintro v381 w hS
      obtain ⟨A379, c380, rfl, _⟩ := hS.osShape 0 rfl
      have hS : St B w (_ :: _ :: _ :: l) hf := hS
      refine ⟨kp ⟨fun _ => hS.d0, trivial⟩, ?_⟩
      refine RP.s0 9 rfl (fun w => Vl.build (v := .agg #[.slice A379 (([] : List api_Instr) ++ (nth a1.Progs a11)).length c380, .int .i64 a11, .slice none 0 0, .int .u64 a1.Seed]) (parts := [(0, .tmp 26), (1, .tmp 27), (3, .tmp 29)]) rfl (by kernel_rfl)) rfl (RP.e 10 rfl (OW.alloc (cs := [.slice none 0 0, .int .i64 0, .slice none 0 0, .int .u64 0]) hS zeroValue91 rfl) rfl rfl ?_)
      rintro _ w ⟨b382, rfl, hS⟩
      refine ⟨kp ⟨fun _ => hS.d0.d0, trivial⟩, ?_⟩
      refine RP.e0 11 rfl (OW.store (vs := [.slice A379 (([] : List api_Instr) ++ (nth a1.Progs a11)).length c380, .int .i64 a11, .slice none 0 0, .int .u64 a1.Seed]) 0 hS rfl rfl rfl rfl sizeOf91 rfl rfl rfl rfl) rfl ?_
      rintro _ w ⟨rfl, hS⟩
      have hS : St B w (Cl _ [_, _, _, _] _ :: _ :: _ :: _ :: l) hf := hS
      refine ⟨kp ⟨(by intro hx; cases hx), trivial⟩, ?_⟩
      refine RP.nil ?_
      exact fun a ha => ⟨((([] : List api_Instr) ++ (nth a1.Progs a11))), (([] : List api_Instr) ++ (nth a1.Progs a11)), rfl, b382, A379, c380, ha.to ⟨rfl, rfl, rfl, rfl, trivial⟩, hS.p3.p3.p3, h⟩
    · refine RPW.e 10 rfl (OW.alloc (cs := [.slice none 0 0, .int .i64 0, .slice none 0 0, .int .u64 0]) hS zeroValue91 rfl) rfl rfl ?_
      rintro _ w ⟨b383, rfl, hS⟩
      refine ⟨kp ⟨fun _ => hS.d0, trivial⟩, ?_⟩
      obtain ⟨hq384, h⟩ := h.req
      have hS := hS.nilSl E_api_Instr 269
      refine RP.e 5 rfl (OW.appendV (E := E_api_Instr) (xs := ([] : List api_Instr)) (ys := nth a1.Progs a11) 0 hS rfl underlying89 type269 rfl rfl rfl rfl (by decide) (by decide) rfl rfl (hr376.2.world hS.sub) hq384 rfl) rfl rfl ?_
      rintro v387 w hS
      obtain ⟨A385, c386, rfl, _⟩ := hS.osShape 0 rfl
      have hS : St B w (_ :: _ :: _ :: _ :: l) hf := hS
      refine ⟨kp ⟨fun _ => hS.d0.d0, trivial⟩, ?_⟩
      refine RP.v1 9 rfl (Vl.build (v := .agg #[.slice A385 (([] : List api_Instr) ++ (nth a1.Progs a11)).length c386, .int .i64 a11, .slice none 0 0, .int .u64 a1.Seed]) (parts := [(0, .tmp 26), (1, .tmp 27), (3, .tmp 29)]) rfl (by kernel_rfl)) rfl rfl (RP.e0 11 rfl (OW.store (vs := [.slice A385 (([] : List api_Instr) ++ (nth a1.Progs a11)).length c386, .int .i64 a11, .slice none 0 0, .int .u64 a1.Seed]) 1 hS rfl rfl rfl rfl sizeOf91 rfl rfl rfl rfl) rfl ?_)
      rintro _ w ⟨rfl, hS⟩
      have hS : St B w (_ :: Cl _ [_, _, _, _] _ :: _ :: _ :: l) hf := hS
      refine ⟨kp ⟨(by intro hx; cases hx), trivial⟩, ?_⟩
      refine RP.nil ?_
      exact fun a ha => ⟨((([] : List api_Instr) ++ (nth a1.Progs a11))), (([] : List api_Instr) ++ (nth a1.Progs a11)), rfl, b383, A385, c386, ha.to ⟨rfl, rfl, rfl, rfl, trivial⟩, hS.p3.p3.p2, h⟩
   refine RC.condT rfl (sr (RL.s (Vl.build (v := .agg #[.slice none 0 0, .int .i64 0, .slice none 0 0, .int .u64 0]) (parts := []) rfl (by kernel_rfl)) rfl (RL.e0 (OW.store (vs := [.slice none 0 0, .int .i64 0, .slice none 0 0, .int .u64 0]) 0 hS rfl rfl rfl rfl sizeOf91 rfl rfl rfl rfl) rfl ?_)))
   rintro _ w ⟨rfl, hS⟩
   have hS : St B w (Cl _ [_, _, _, _] _ :: _ :: l) hf := hS
   refine pn 1 rfl (lr (RQ.ret ?_))
   have hS := hS.nilSl E_api_Instr 269
   have hS := hS.nilSl E_api_Link 144
   obtain rfl := h.some
   refine RQ.ret0 (vs := [.agg #[.slice none 0 0, .int .i64 0, .slice none 0 0, .int .u64 0], .int .i64 1]) results35 ⟨⟨_, rfl, run_loadVarA (vs := [.slice none 0 0, .int .i64 0, .slice none 0 0, .int .u64 0]) isAgg91 sizeOf91 rfl (hS.cellsAt 2 rfl rfl)⟩, rfl, trivial⟩ ?_
   exact ⟨none, 0, none, 0, rfl, hS.d2.d2.p1⟩
  refine RC.condT rfl (sr (RL.s (Vl.build (v := .agg #[.slice none 0 0, .int .i64 0, .slice none 0 0, .int .u64 0]) (parts := []) rfl (by kernel_rfl)) rfl (pn 1 rfl (RL.e0 (OW.store (vs := [.slice none 0 0, .int .i64 0, .slice none 0 0, .int .u64 0]) 0 hS rfl rfl rfl rfl sizeOf91 rfl rfl rfl rfl) rfl ?_))))
  rintro _ w ⟨rfl, hS⟩
  have hS : St B w (Cl _ [_, _, _, _] _ :: _ :: l) hf := hS
  refine pn 1 rfl (lr (RQ.ret ?_))
  have hS := hS.nilSl E_api_Instr 269
  have hS := hS.nilSl E_api_Link 144
  obtain rfl := h.some
  refine RQ.ret0 (vs := [.agg #[.slice none 0 0, .int .i64 0, .slice none 0 0, .int .u64 0], .int .i64 t205]) results35 ⟨⟨_, rfl, run_loadVarA (vs := [.slice none 0 0, .int .i64 0, .slice none 0 0, .int .u64 0]) isAgg91 sizeOf91 rfl (hS.cellsAt 2 rfl rfl)⟩, rfl, trivial⟩ ?_
  exact ⟨none, 0, none, 0, rfl, hS.d2.d2.p1⟩
def tune_First.f  : Option (Unit) := some ()
theorem tune_First.ok {r : Unit} (h : tune_First.f = some r) (hS : St B w (l) hf) :
    Calls prog 37 #[] w (Ret fun v w => v = .agg #[.int .i64 2, .int .i64 4, .int .i64 0, .int .i64 1000, .int .i64 0] ∧ St B w (l) hf) := by
  have h := Holds.of h
  refine en func37 rfl ntmps37 rfl (sr (al hS zeroValue57 rfl rfl rfl fun b2 w hS => lnsr (RL.s (Vl.build (v := .agg #[.int .i64 2, .int .i64 4, .int .i64 0, .int .i64 1000, .int .i64 0]) (parts := [(0, .const (.int .i64 2)), (1, .const (.int .i64 4)), (3, .const (.int .i64 1000))]) rfl (by kernel_rfl)) rfl (RL.e0 (OW.store (vs := [.int .i64 2, .int .i64 4, .int .i64 0, .int .i64 1000, .int .i64 0]) 0 hS rfl rfl rfl rfl sizeOf57 rfl rfl rfl rfl) rfl ?_))))
  rintro _ w ⟨rfl, hS⟩
  have hS : St B w (Cl _ [_, _, _, _, _] _ :: l) hf := hS
  refine lr ?_
  have e := h.some
  refine RQ.ret0 (vs := [.agg #[.int .i64 2, .int .i64 4, .int .i64 0, .int .i64 1000, .int .i64 0]]) results37 ⟨⟨_, rfl, run_loadVarA (vs := [.int .i64 2, .int .i64 4, .int .i64 0, .int .i64 1000, .int .i64 0]) isAgg57 sizeOf57 rfl (hS.cellsAt 0 rfl rfl)⟩, trivial⟩ ?_
  exact ⟨rfl, hS.d0⟩
def vm_lane.f (a1 : Int) : Option (Bool) := (if 0 ≤ a1 then some (decide (a1 < 16)) else some false)
theorem vm_lane.ok {a1 : Int} {r : Bool} (h : vm_lane.f a1 = some r) (hS : St B w (l) hf) :
    Calls prog 114 #[.int .i64 a1] w (Ret fun v w => v = .bool r ∧ St B w (l) hf) := by
  have h := Holds.of h
  refine en func114 rfl ntmps114 rfl (sr (pn 1 rfl (lnsr (pn 3 rfl ?_))))
  refine RL.iteP 5 rfl h (fun hc3 h => ?_) fun hc3 h => ?_
  next =>
   refine pn 4 rfl (lr ?_)
   obtain rfl := h.some
   exact rt results114 rfl ⟨rfl, hS⟩
  refine pn 4 rfl (lr ?_)
  obtain rfl := h.some
  exact rt results114 rfl ⟨rfl, hS⟩
def vm_Check.l2b (a1 : api_World) : Int → Option ((Int) ⊕ (Int))
  | (x119) => (if x119 < (a1.Links.length : Int) then (if 0 ≤ x119 then ((vm_lane.f ((nth a1.Links x119).To)).bind fun t155 => (if t155 = true then (if (nth a1.Links x119).Look < 1 then some (.inr 1) else ((vtime_Valid.f ((nth a1.Links x119).Look)).bind fun t159 => (if t159 = true then some (.inl (IntKind.i64.wrap (x119 + 1))) else some (.inr 1)))) else some (.inr 1))) else none) else some (.inr 0))
def vm_Check.l2 (a1 : api_World) (s : Int) : Option (Int) := loopR (vm_Check.l2b a1) s
def vm_Check.f (a1 : api_World) : Option (Int) := ((code_Check.f a1.Prog).bind fun t89 => (if t89 = 0 then ((vm_lane.f a1.Self).bind fun t96 => (if t96 = true then (if 1024 < (a1.Links.length : Int) then some 1 else vm_Check.l2 a1 (0)) else some 1)) else some t89))
theorem vm_Check.ok {a1 : api_World} {A2 : Option Addr} {c3 : Nat} {A5 : Option Addr} {c6 : Nat} (hr4 : SlR E_api_Instr.rep hf A2 c3 a1.Prog) (hr7 : SlR E_api_Link.rep hf A5 c6 a1.Links) {r : Int} (h : vm_Check.f a1 = some r) (hS : St B w (l) hf) :
    Calls prog 80 #[.agg (C_api_World a1 A2 c3 A5 c6).toArray] w (Ret fun v w => v = .int .i64 r ∧ St B w (l) hf) := by
  have h := Holds.of h
  refine en func80 rfl ntmps80 rfl (sr (bx hS rfl rfl rfl rfl fun b85 w hS => pn 1 rfl (ln (RC.seq (sr (RL.s (Vl.fa 0 underlying91 rfl sizeOf89 rfl rfl) rfl (RL.s (Vl.ld 0 hS isAgg89 rfl rfl rfl) rfl (cF (fun _ hg => code_Check.ok hr4 hg hS) call113 h rfl rfl rfl ?_))))))))
  rintro t89 h _ w ⟨rfl, hS⟩
  refine pn 1 rfl (lnsr (pn 2 rfl (ln ?_)))
  refine RC.iteN 10 rfl h (fun hc91 h => ?_) fun hc91 h => ?_
  next =>
   refine RC.condF rfl (sk (RC.seq (sr (RL.s (Vl.fa 1 underlying91 rfl sizeOf3 rfl rfl) rfl (RL.s (Vl.ld 0 hS isAgg3 rfl rfl rfl) rfl (cF (fun _ hg => vm_lane.ok hg hS) call114 h rfl rfl rfl ?_))))))
   rintro t96 h _ w ⟨rfl, hS⟩
   refine pn 2 rfl ?_
   refine RL.iteM 16 rfl h (fun hc98 h => ?_) fun hc98 h => ?_
   next =>
    refine RL.sg (Vl.fa 2 underlying91 rfl sizeOf23 rfl rfl) rfl rfl (RL.sg (Vl.ld 0 hS isAgg23 rfl rfl rfl) rfl rfl (RL.sg (Vl.lenSl underlying23 rfl) rfl rfl (pn 2 rfl (ln ?_))))
    refine RC.iteP 21 rfl h (fun hc99 h => ?_) fun hc99 h => ?_
    next =>
     refine RC.condT rfl (sr (pn 1 rfl (lr (RQ.ret ?_))))
     obtain rfl := h.some
     exact rt results80 rfl ⟨rfl, hS.d0⟩
    refine RC.condF rfl (sk (RC.seq (sr (RL.s (Vl.fa 2 underlying91 rfl sizeOf23 rfl rfl) rfl (RL.s (Vl.ld 0 hS isAgg23 rfl rfl rfl) rfl (RL.s (Vl.lenSl underlying23 rfl) rfl (pn 1 rfl (ln (RC.block ?_)))))))))
    refine fun a ha => RC.loop (N := 45) (body := (vm_Check.l2b a1)) (φ := (· = r)) (fun (s : Int) a w => ∃ (x119 : Int), s = (x119) ∧ Has 45 [(23, .slice A5 a1.Links.length c6), (24, .int .i64 (a1.Links.length : Int)), (25, .int .i64 x119)] a ∧ St B w (l) hf) ?_ (s0 := (0)) h ⟨0, rfl, ha.to ⟨rfl, rfl, rfl, trivial⟩, hS.d0⟩
    rintro G141 x119 a w ⟨_, rfl, ha, hS⟩ h
    revert a
    show RC _ _ _ _ _ _
    refine sr (pn 1 rfl (ln (RC.seq ?_)))
    refine RC.iteP 26 rfl h (fun hc143 h => ?_) fun hc143 h => ?_
    next =>
     refine RC.condT rfl (sk (RC.seq (RC.block (sr ?_))))
     obtain ⟨hq153, h⟩ := h.req
     refine RL.s (Vl.indexAddr underlying23 sizeOf144 rfl rfl ((hr7.2.world hS.sub).adr hq153 hc143) hq153 hc143 rfl) rfl (RL.s (Vl.loadA isAgg144 sizeOf144 rfl rfl ((hr7.2.world hS.sub).cells hq153 hc143)) rfl (al hS zeroValue144 rfl rfl rfl fun b154 w hS => RL.e0 (OW.store (vs := (C_api_Link (nth a1.Links x119))) 0 hS rfl rfl rfl rfl sizeOf144 rfl rfl rfl rfl) rfl ?_))
     rintro _ w ⟨rfl, hS⟩
     have hS : St B w (Cl _ [_, _, _, _] _ :: l) hf := hS
     refine lnsr (RL.s (Vl.fa 1 underlying144 rfl sizeOf3 rfl rfl) rfl (RL.s (Vl.ld 0 hS isAgg3 rfl rfl rfl) rfl (cF (fun _ hg => vm_lane.ok hg hS) call114 h rfl rfl rfl ?_)))
     rintro t155 h _ w ⟨rfl, hS⟩
     refine pn 2 rfl ?_
     refine RL.iteM 33 rfl h (fun hc157 h => ?_) fun hc157 h => ?_
     next =>
      refine RL.sg (Vl.fa 2 underlying144 rfl sizeOf2 rfl rfl) rfl rfl (RL.sg (Vl.ld 0 hS isAgg2 rfl rfl rfl) rfl rfl (pn 3 rfl ?_))
      refine RL.iteP 38 rfl h (fun hc158 h => ?_) fun hc158 h => ?_
      next =>
       refine pn 5 rfl (ln (RC.condT rfl (sr (pn 1 rfl (lr (RQ.inB_ret (RQ.ret ?_)))))))
       have h := h.inrS
       refine RQ.ret (RQ.inB_ret (RQ.ret ?_))
       obtain rfl := h.some
       exact rt results80 rfl ⟨rfl, hS.d0⟩
      refine RL.sg (Vl.fa 2 underlying144 rfl sizeOf2 rfl rfl) rfl rfl (RL.sg (Vl.ld 0 hS isAgg2 rfl rfl rfl) rfl rfl (cF (fun _ hg => vtime_Valid.ok hg hS) call73 h rfl rfl rfl ?_))
      rintro t159 h _ w ⟨rfl, hS⟩
      refine pn 2 rfl (ln ?_)
      refine RC.iteM 43 rfl h (fun hc161 h => ?_) fun hc161 h => ?_
      next =>
       refine RC.condF rfl (RC.skip (RQ.inB_n (RQ.then_n (RC.region (pn 2 rfl (RL.nil ?_))))))
       exact fun a ha => ⟨(IntKind.i64.wrap (x119 + 1)), ⟨(IntKind.i64.wrap (x119 + 1)), rfl, ha.to ⟨rfl, rfl, rfl, trivial⟩, hS.d0⟩, h.some⟩
      refine RC.condT rfl (sr (pn 1 rfl (lr (RQ.inB_ret (RQ.ret ?_)))))
      have h := h.inrS
      refine RQ.ret (RQ.inB_ret (RQ.ret ?_))
      obtain rfl := h.some
      exact rt results80 rfl ⟨rfl, hS.d0⟩
     refine pn 10 rfl (ln (RC.condT rfl (sr (pn 1 rfl (lr (RQ.inB_ret (RQ.ret ?_)))))))
     have h := h.inrS
     refine RQ.ret (RQ.inB_ret (RQ.ret ?_))
     obtain rfl := h.some
     exact rt results80 rfl ⟨rfl, hS.d0⟩
    refine RC.condF rfl (RC.exit (RQ.exitT ?_))
    have h := h.inrS
    refine RQ.exitT (RQ.inB_hit (tsr (pn 1 rfl (lr ?_))))
    obtain rfl := h.some
    exact rt results80 rfl ⟨rfl, hS⟩
   refine pn 5 rfl (ln (RC.condT rfl (sr (pn 1 rfl (lr (RQ.ret ?_))))))
   obtain rfl := h.some
   exact rt results80 rfl ⟨rfl, hS.d0⟩
  refine RC.condT rfl (sr (pn 2 rfl (lr (RQ.ret ?_))))
  obtain rfl := h.some
  exact rt results80 rfl ⟨rfl, hS.d0⟩
def log_New.f (a1 : api_World) (a8 : api_State) (a9 : Int) : Option ((Int) ⊕ (log_Log × Int)) := ((vm_Check.f a1).bind fun t44 => (if t44 = 0 then (if (if a8.Sent < a8.Draws then a8.Sent else a8.Draws) < 0 then some (.inl 1) else (if 1099511627776 < (if a8.Draws < a8.Sent then a8.Sent else a8.Draws) then some (.inl 1) else (if a9 < 1 then some (.inl 1) else (if 1024 < a9 then some (.inl 1) else (if (([] : List api_Instr).length + a1.Prog.length) * 32 ≤ 140737488355328 then (if (([] : List api_Link).length + a1.Links.length) * 32 ≤ 140737488355328 then some (.inr (((⟨({ a1 with Prog := (([] : List api_Instr) ++ a1.Prog), Links := (([] : List api_Link) ++ a1.Links) } : api_World), true, a8, a9, ([] : List log_done), false⟩ : log_Log), 0))) else none) else none))))) else some (.inl t44)))
theorem log_New.ok {a1 : api_World} {a8 : api_State} {a9 : Int} {A2 : Option Addr} {c3 : Nat} {A5 : Option Addr} {c6 : Nat} (hr4 : SlR E_api_Instr.rep hf A2 c3 a1.Prog) (hr7 : SlR E_api_Link.rep hf A5 c6 a1.Links) {r : (Int) ⊕ (log_Log × Int)} (h : log_New.f a1 a8 a9 = some r) (hS : St B w (l) hf) :
    Calls prog 38 #[.agg (C_api_World a1 A2 c3 A5 c6).toArray, .agg (C_api_State a8).toArray, .int .i64 a9] w (Ret fun v w => match (generalizing := false) r with | .inl r_ => v = .tuple #[.pointer none, .int .i64 r_] ∧ St B w (l) hf | .inr (r_) => ∃ hf_ : Hp, Sub hf hf_ ∧ ∃ (b_1 : Nat), v = .tuple #[.pointer (some ⟨b_1, 0, none⟩), .int .i64 r_.2] ∧ St B w (O_log_Log hf_ r_.1 b_1 :: l) hf_) := by
  have h := Holds.of h
  refine en func38 rfl ntmps38 rfl (sr (bx hS rfl rfl rfl rfl fun b39 w hS => bx hS rfl rfl rfl rfl fun b40 w hS => pn 2 rfl (ln (RC.seq (sr (RL.s (Vl.lw 1 hS isAgg91 sizeOf91 rfl rfl rfl) rfl (cF (fun _ hg => vm_Check.ok hr4 hr7 hg hS) call80 h rfl rfl rfl ?_)))))))
  rintro t44 h _ w ⟨rfl, hS⟩
  refine pn 1 rfl (lnsr (pn 2 rfl (ln ?_)))
  refine RC.iteN 12 rfl h (fun hc46 h => ?_) fun hc46 h => ?_
  next =>
   refine RC.condF rfl (sk (RC.seq (sr (RL.s (Vl.fa 8 underlying70 rfl sizeOf3 rfl rfl) rfl (RL.s (Vl.ld 0 hS isAgg3 rfl rfl rfl) rfl (RL.s (Vl.fa 9 underlying70 rfl sizeOf3 rfl rfl) rfl (RL.s (Vl.ld 0 hS isAgg3 rfl rfl rfl) rfl (RL.s (Vl.min2 rfl rfl) rfl (pn 2 rfl ?_)))))))))
   refine RL.iteP 20 rfl h (fun hc51 h => ?_) fun hc51 h => ?_
   next =>
    refine pn 15 rfl (ln (RC.condT rfl (sr (pn 2 rfl (lr (RQ.ret ?_))))))
    obtain rfl := h.some
    exact rt results38 rfl ⟨rfl, hS.d0.d0⟩
   refine RL.sg (Vl.fa 8 underlying70 rfl sizeOf3 rfl rfl) rfl rfl (RL.sg (Vl.ld 0 hS isAgg3 rfl rfl rfl) rfl rfl (RL.sg (Vl.fa 9 underlying70 rfl sizeOf3 rfl rfl) rfl rfl (RL.sg (Vl.ld 0 hS isAgg3 rfl rfl rfl) rfl rfl (RL.sg (Vl.max2 rfl rfl) rfl rfl (pn 3 rfl ?_)))))
   refine RL.iteP 28 rfl h (fun hc52 h => ?_) fun hc52 h => ?_
   next =>
    refine pn 7 rfl (ln (RC.condT rfl (sr (pn 2 rfl (lr (RQ.ret ?_))))))
    obtain rfl := h.some
    exact rt results38 rfl ⟨rfl, hS.d0.d0⟩
   refine pn 4 rfl ?_
   refine RL.iteP 32 rfl h (fun hc53 h => ?_) fun hc53 h => ?_
   next =>
    refine pn 3 rfl (ln (RC.condT rfl (sr (pn 2 rfl (lr (RQ.ret ?_))))))
    obtain rfl := h.some
    exact rt results38 rfl ⟨rfl, hS.d0.d0⟩
   refine pn 3 rfl (ln ?_)
   refine RC.iteP 35 rfl h (fun hc54 h => ?_) fun hc54 h => ?_
   next =>
    refine RC.condT rfl (sr (pn 2 rfl (lr (RQ.ret ?_))))
    obtain rfl := h.some
    exact rt results38 rfl ⟨rfl, hS.d0.d0⟩
   refine RC.condF rfl (sk (sr (RL.s (Vl.fa 0 underlying91 rfl sizeOf89 rfl rfl) rfl (RL.s (Vl.ld 1 hS isAgg89 rfl rfl rfl) rfl ?_))))
   obtain ⟨hq55, h⟩ := h.req
   have hS := hS.nilSl E_api_Instr 269
   refine RL.e (OW.appendV (E := E_api_Instr) (xs := ([] : List api_Instr)) (ys := a1.Prog) 0 hS rfl underlying89 type269 rfl rfl rfl rfl (by decide) (by decide) rfl rfl (hr4.2.world hS.sub) hq55 rfl) rfl rfl ?_
   rintro v58 w hS
   obtain ⟨A56, c57, rfl, _⟩ := hS.osShape 0 rfl
   have hS : St B w (_ :: _ :: _ :: l) hf := hS
   refine RL.s (Vl.fa 0 underlying91 rfl sizeOf89 rfl rfl) rfl (RL.e0 (OW.store (vs := [.slice A56 (([] : List api_Instr) ++ a1.Prog).length c57]) 2 hS rfl rfl rfl rfl sizeOf89 rfl rfl rfl rfl) rfl ?_)
   rintro _ w ⟨rfl, hS⟩
   have hS : St B w (_ :: _ :: Cl _ [_, _, _, _] _ :: l) hf := hS
   refine lnsr (RL.s (Vl.fa 2 underlying91 rfl sizeOf23 rfl rfl) rfl (RL.s (Vl.ld 2 hS isAgg23 rfl rfl rfl) rfl ?_))
   obtain ⟨hq59, h⟩ := h.req
   have hS := hS.nilSl E_api_Link 144
   refine RL.e (OW.appendV (E := E_api_Link) (xs := ([] : List api_Link)) (ys := a1.Links) 0 hS rfl underlying23 type144 rfl rfl rfl rfl (by decide) (by decide) rfl rfl (hr7.2.world hS.sub) hq59 rfl) rfl rfl ?_
   rintro v62 w hS
   obtain ⟨A60, c61, rfl, _⟩ := hS.osShape 0 rfl
   have hS : St B w (_ :: _ :: _ :: _ :: l) hf := hS
   refine RL.s (Vl.fa 2 underlying91 rfl sizeOf23 rfl rfl) rfl (RL.e0 (OW.store (vs := [.slice A60 (([] : List api_Link) ++ a1.Links).length c61]) 3 hS rfl rfl rfl rfl sizeOf23 rfl rfl rfl rfl) rfl ?_)
   rintro _ w ⟨rfl, hS⟩
   have hS : St B w (_ :: _ :: _ :: Cl _ [_, _, _, _] _ :: l) hf := hS
   refine lnsr (RL.s (Vl.lw 3 hS isAgg91 sizeOf91 rfl rfl rfl) rfl (RL.s (Vl.lw 2 hS isAgg70 sizeOf70 rfl rfl rfl) rfl (pn 1 rfl (RL.s (Vl.build (v := .agg #[.slice A56 (([] : List api_Instr) ++ a1.Prog).length c57, .int .i64 a1.Self, .slice A60 (([] : List api_Link) ++ a1.Links).length c61, .int .u64 a1.Seed, .bool true, .int .i64 a8.Regs.c0, .int .i64 a8.Regs.c1, .int .i64 a8.Regs.c2, .int .i64 a8.Regs.c3, .int .i64 a8.Regs.c4, .int .i64 a8.Regs.c5, .int .i64 a8.Regs.c6, .int .i64 a8.Regs.c7, .int .i64 a8.Draws, .int .i64 a8.Sent, .int .i64 a9, .slice none 0 0, .bool false]) (parts := [(0, .tmp 44), (1, .const (.bool true)), (2, .tmp 45), (3, .tmp 46)]) rfl (by kernel_rfl)) rfl ?_))))
   obtain ⟨hf, hs63, hS, hr64⟩ := St.promote hS.p1
   obtain ⟨hf, hs65, hS, hr66⟩ := St.promote hS
   refine bx hS rfl rfl rfl rfl fun b67 w hS => pn 2 rfl (lr ?_)
   have hS := hS.nilSlR 176 10
   have hS := O_log_Log.c (x := (⟨({ a1 with Prog := (([] : List api_Instr) ++ a1.Prog), Links := (([] : List api_Link) ++ a1.Links) } : api_World), true, a8, a9, ([] : List log_done), false⟩ : log_Log)) (hr64.mono hs65) hr66 RepL.nil hS.p1
   obtain rfl := h.some
   exact rt results38 rfl ⟨_, (hs63.trans hs65), b67, rfl, hS.d1.d1⟩
  refine RC.condT rfl (sr (pn 3 rfl (lr (RQ.ret ?_))))
  obtain rfl := h.some
  exact rt results38 rfl ⟨rfl, hS.d0.d0⟩
def heap_New.f  : Option (heap_Heap) := some (⟨([] : List api_Message)⟩ : heap_Heap)
theorem heap_New.ok {r : heap_Heap} (h : heap_New.f = some r) (hS : St B w (l) hf) :
    Calls prog 115 #[] w (Ret fun v w => ∃ (b_1 : Nat), v = .pointer (some ⟨b_1, 0, none⟩) ∧ St B w (O_heap_Heap hf r b_1 :: l) hf) := by
  have h := Holds.of h
  refine en func115 rfl ntmps115 rfl (sr (pn 1 rfl (lnsr (RL.s (Vl.build (v := .agg #[.slice none 0 0, .func (.func 62) #[] #[]]) (parts := [(1, .func 62)]) rfl (by kernel_rfl)) rfl (RL.s (Vl.build (v := .agg #[.slice none 0 0, .func (.func 62) #[] #[]]) (parts := [(0, .tmp 1)]) rfl (by kernel_rfl)) rfl (bx hS rfl rfl rfl rfl fun b2 w hS => pn 1 rfl (lr ?_)))))))
  have hS := hS.nilSl E_api_Message 48
  have hS := O_heap_Heap.c (x := (⟨([] : List api_Message)⟩ : heap_Heap)) hS.p1
  obtain rfl := h.some
  exact rt results115 rfl ⟨b2, rfl, hS⟩
def pend_fresh.f  : Option (heap_Heap) := ((heap_New.f).bind fun t4 => some t4)
theorem pend_fresh.ok {r : heap_Heap} (h : pend_fresh.f = some r) (hS : St B w (l) hf) :
    Calls prog 81 #[.int .i64 0] w (Ret fun v w => ∃ (b_1 : Nat), v = .iface 203 (.pointer (some ⟨b_1, 0, none⟩)) ∧ St B w (O_heap_Heap hf r b_1 :: l) hf) := by
  have h := Holds.of h
  refine en func81 rfl ntmps81 rfl (sr (pn 1 rfl (ln (RC.seq (sr (pn 1 rfl (ln (RC.block (sr (pn 2 rfl ?_))))))))))
  refine ln (RC.condT rfl (sr (cF (fun _ hg => heap_New.ok hg hS) call115 h rfl rfl rfl ?_)))
  rintro t4 h _ w ⟨b6, rfl, hS⟩
  refine RL.s (Vl.makeIface underlying203 rfl rfl) rfl (pn 1 rfl (lr (RQ.inB_ret (RQ.ret ?_))))
  obtain rfl := h.some
  exact rt results81 rfl ⟨b6, rfl, hS⟩
def pend_New.f  : Option (pend_Pend × Int) := ((pend_fresh.f).bind fun t11 => some ((⟨t11⟩ : pend_Pend), 0))
theorem pend_New.ok {r : pend_Pend × Int} (h : pend_New.f = some r) (hS : St B w (l) hf) :
    Calls prog 39 #[.int .i64 0] w (Ret fun v w => ∃ (b_1 : Nat), v = .tuple #[.pointer (some ⟨b_1, 0, none⟩), .int .i64 r.2] ∧ St B w (O_pend_Pend hf r.1 b_1 :: l) hf) := by
  have h := Holds.of h
  refine en func39 rfl ntmps39 rfl (sr (pn 2 rfl (lnsr (pn 1 rfl (cF (fun _ hg => pend_fresh.ok hg hS) call81 h rfl rfl rfl ?_)))))
  rintro t11 h _ w ⟨b13, rfl, hS⟩
  refine pn 1 rfl (ln (RC.seq (sr (pn 1 rfl (RL.s (Vl.bin (v := .bool false) rfl rfl (by kernel_rfl)) rfl (ln (RC.condF rfl (sk (sr (pn 1 rfl ?_))))))))))
  refine RL.s (Vl.build (v := .agg #[.iface 203 (.pointer (some ⟨b13, 0, none⟩))]) (parts := [(0, .tmp 9)]) rfl (by kernel_rfl)) rfl (bx hS rfl rfl rfl rfl fun b14 w hS => pn 2 rfl (lr ?_))
  have hS := O_pend_Pend.c (x := (⟨t11⟩ : pend_Pend)) hS
  obtain rfl := h.some
  exact rt results39 rfl ⟨b14, rfl, hS⟩
def model_Starts.l2b (a1 : api_Model) : List api_Message × Int → Option ((List api_Message × Int) ⊕ (List api_Message))
  | (l90, x93) => (if x93 < (a1.Starts.length : Int) then (if 0 ≤ x93 then (if (l90.length + 1) * 56 ≤ 140737488355328 then some (.inl ((l90 ++ ([(⟨(⟨(nth a1.Starts x93).Time, (-1), x93⟩ : api_Key), (nth a1.Starts x93).To, (nth a1.Starts x93).Value, x93, false⟩ : api_Message)])), IntKind.i64.wrap (x93 + 1))) else none) else none) else some (.inr l90))
def model_Starts.l2 (a1 : api_Model) (s : List api_Message × Int) : Option (List api_Message) := loopR (model_Starts.l2b a1) s
def model_Starts.f (a1 : api_Model) : Option (List api_Message) := model_Starts.l2 a1 ([], 0)
theorem model_Starts.ok {a1 : api_Model} {A2 : Option Addr} {c3 : Nat} {A5 : Option Addr} {c6 : Nat} {A8 : Option Addr} {c9 : Nat} (hr4 : SlR (Rep.sl E_api_Instr.rep) hf A2 c3 a1.Progs) (hr7 : SlR E_api_Link.rep hf A5 c6 a1.Links) (hr10 : SlR E_api_Start.rep hf A8 c9 a1.Starts) {r : List api_Message} (h : model_Starts.f a1 = some r) (hS : St B w (l) hf) :
    Calls prog 40 #[.agg (C_api_Model a1 A2 c3 A5 c6 A8 c9).toArray] w (Ret fun v w => ∃ (A_1 : Option Addr) (c_2 : Nat), v = .slice A_1 r.length c_2 ∧ St B w (OSf E_api_Message 48 (.slice A_1 r.length c_2) r :: l) hf) := by
  have h := Holds.of h
  refine en func40 rfl ntmps40 rfl (sr (bx hS rfl rfl rfl rfl fun b71 w hS => pn 1 rfl (lnsr (pn 1 rfl (ln (RC.seq (sr (RL.s (Vl.fa 2 underlying27 rfl sizeOf24 rfl rfl) rfl ?_))))))))
  refine RL.s (Vl.ld 0 hS isAgg24 rfl rfl rfl) rfl (RL.s (Vl.lenSl underlying24 rfl) rfl (pn 1 rfl (ln (RC.block ?_))))
  have hS := hS.nilSl E_api_Message 48
  refine fun a ha => RC.loop (N := 29) (body := (model_Starts.l2b a1)) (φ := (· = r)) (fun (s : List api_Message × Int) a w => ∃ (l90 : List api_Message) (x93 : Int), s = (l90, x93) ∧ ∃ (A91 : Option Addr) (c92 : Nat), Has 29 [(3, .slice A91 l90.length c92), (7, .slice A8 a1.Starts.length c9), (8, .int .i64 (a1.Starts.length : Int)), (9, .int .i64 x93)] a ∧ St B w (OSf E_api_Message 48 (.slice A91 l90.length c92) l90 :: l) hf) ?_ (s0 := ([], 0)) h ⟨([]), 0, rfl, none, 0, ha.to ⟨rfl, rfl, rfl, rfl, trivial⟩, hS.d1⟩
  rintro G114 _ a w ⟨l90, x93, rfl, A91, c92, ha, hS⟩ h
  revert a
  show RC _ _ _ _ _ _
  refine sr (pn 1 rfl (ln (RC.seq ?_)))
  refine RC.iteP 10 rfl h (fun hc116 h => ?_) fun hc116 h => ?_
  next =>
   refine RC.condT rfl (sk (RC.seq (RC.block (sr (pn 1 rfl ?_)))))
   obtain ⟨hq124, h⟩ := h.req
   refine RL.s (Vl.indexAddr underlying24 sizeOf157 rfl rfl ((hr10.2.world hS.sub).adr hq124 hc116) hq124 hc116 rfl) rfl (RL.s (Vl.loadA isAgg157 sizeOf157 rfl rfl ((hr10.2.world hS.sub).cells hq124 hc116)) rfl (al hS zeroValue157 rfl rfl rfl fun b125 w hS => pn 1 rfl (RL.e0 (OW.store (vs := (C_api_Start (nth a1.Starts x93))) 0 hS rfl rfl rfl rfl sizeOf157 rfl rfl rfl rfl) rfl ?_)))
   rintro _ w ⟨rfl, hS⟩
   have hS : St B w (Cl _ [_, _, _] _ :: _ :: l) hf := hS
   refine ln (RC.region (pn 1 rfl (RL.s (Vl.fa 1 underlying157 rfl sizeOf2 rfl rfl) rfl (RL.s (Vl.ld 0 hS isAgg2 rfl rfl rfl) rfl (pn 1 rfl (RL.s (Vl.build (v := .agg #[.int .i64 ((nth a1.Starts x93).Time), .int .i64 (-1), .int .i64 x93]) (parts := [(0, .tmp 16), (1, .const (.int .i64 (-1))), (2, .tmp 17)]) rfl (by kernel_rfl)) rfl (RL.s (Vl.fa 0 underlying157 rfl sizeOf3 rfl rfl) rfl (RL.s (Vl.ld 0 hS isAgg3 rfl rfl rfl) rfl (RL.s (Vl.fa 2 underlying157 rfl sizeOf2 rfl rfl) rfl (RL.s (Vl.ld 0 hS isAgg2 rfl rfl rfl) rfl (pn 1 rfl (RL.s (Vl.build (v := .agg #[.int .i64 ((nth a1.Starts x93).Time), .int .i64 (-1), .int .i64 x93, .int .i64 ((nth a1.Starts x93).To), .int .i64 ((nth a1.Starts x93).Value), .int .i64 x93, .bool false]) (parts := [(0, .tmp 18), (1, .tmp 20), (2, .tmp 22), (3, .tmp 23)]) rfl (by kernel_rfl)) rfl (RL.e (OW.buildSlice (E := E_api_Message) (xs := [(⟨(⟨(nth a1.Starts x93).Time, (-1), x93⟩ : api_Key), (nth a1.Starts x93).To, (nth a1.Starts x93).Value, x93, false⟩ : api_Message)]) (cs := [.int .i64 ((nth a1.Starts x93).Time), .int .i64 (-1), .int .i64 x93, .int .i64 ((nth a1.Starts x93).To), .int .i64 ((nth a1.Starts x93).Value), .int .i64 x93, .bool false]) hS underlying39 zeroValue48 sizeOf48 (parts := [(0, .tmp 24)]) rfl rfl (by decide) (by decide) (by kernel_rfl) rfl) rfl rfl ?_)))))))))))))
   rintro _ w ⟨b126, rfl, hS⟩
   obtain ⟨hq127, h⟩ := h.req
   refine RL.e (OW.append (E := E_api_Message) (xs := l90) (ys := [(⟨(⟨(nth a1.Starts x93).Time, (-1), x93⟩ : api_Key), (nth a1.Starts x93).To, (nth a1.Starts x93).Value, x93, false⟩ : api_Message)]) 2 hS rfl underlying39 type48 rfl rfl rfl rfl (by decide) rfl rfl rfl (hS.slW 0 rfl).2.2.flat (by simp only [maxLen, List.length_cons, List.length_nil] at *; omega) hq127 rfl) rfl rfl ?_
   rintro v130 w hS
   obtain ⟨A128, c129, rfl, _⟩ := hS.osShape 0 rfl
   have hS : St B w (_ :: _ :: _ :: l) hf := hS
   refine pn 1 rfl (RL.nil (RQ.inB_n (RQ.then_n (RC.region (pn 2 rfl (RL.nil ?_))))))
   exact fun a ha => ⟨((l90 ++ ([(⟨(⟨(nth a1.Starts x93).Time, (-1), x93⟩ : api_Key), (nth a1.Starts x93).To, (nth a1.Starts x93).Value, x93, false⟩ : api_Message)])), IntKind.i64.wrap (x93 + 1)), ⟨(l90 ++ ([(⟨(⟨(nth a1.Starts x93).Time, (-1), x93⟩ : api_Key), (nth a1.Starts x93).To, (nth a1.Starts x93).Value, x93, false⟩ : api_Message)])), (IntKind.i64.wrap (x93 + 1)), rfl, A128, c129, ha.to ⟨rfl, rfl, rfl, rfl, trivial⟩, hS.d1.d1⟩, h.some⟩
  refine RC.condF rfl (RC.exit (RQ.exitT ?_))
  have h := h.inrS
  refine RQ.exitT (RQ.inB_hit (tsr (pn 2 rfl (lr ?_))))
  obtain rfl := h.some
  exact rt results40 rfl ⟨A91, c92, rfl, hS⟩
def pend_Pend_none.f (a2 : pend_Pend) : Option (Unit) := some ()
theorem pend_Pend_none.ok {a2 : pend_Pend} {b1 : Nat} {r : Unit} (h : pend_Pend_none.f a2 = some r) (hS : St B w (O_pend_Pend hf a2 b1 :: l) hf) :
    Calls prog 93 #[.pointer (some ⟨b1, 0, none⟩)] w (Ret fun v w => v = .bool false ∧ St B w (O_pend_Pend hf a2 b1 :: l) hf) := by
  have h := Holds.of h
  refine en func93 rfl ntmps93 rfl (sr (pn 1 rfl (lnsr (pn 1 rfl (RL.s (Vl.bin (v := .bool false) rfl rfl (by kernel_rfl)) rfl (pn 3 rfl (RL.sg (Vl.fa 0 underlying155 rfl sizeOf152 rfl rfl) rfl rfl ?_)))))))
  obtain ⟨b4, hS⟩ := O_pend_Pend.o hS
  refine RL.sg (Vl.ld 0 hS isAgg152 rfl rfl rfl) rfl rfl (RL.sg (Vl.bin (v := .bool false) rfl rfl (by kernel_rfl)) rfl rfl (pn 2 rfl (lr ?_)))
  have hS := O_pend_Pend.c (x := a2) hS
  exact rt results93 rfl ⟨rfl, hS⟩
def heap_Heap_none.f (a2 : heap_Heap) : Option (Unit) := some ()
theorem heap_Heap_none.ok {a2 : heap_Heap} {b1 : Nat} {r : Unit} (h : heap_Heap_none.f a2 = some r) (hS : St B w (O_heap_Heap hf a2 b1 :: l) hf) :
    Calls prog 198 #[.pointer (some ⟨b1, 0, none⟩)] w (Ret fun v w => v = .bool false ∧ St B w (O_heap_Heap hf a2 b1 :: l) hf) := by
  have h := Holds.of h
  refine en func198 rfl ntmps198 rfl (sr (pn 1 rfl (lnsr (pn 1 rfl (RL.s (Vl.bin (v := .bool false) rfl rfl (by kernel_rfl)) rfl (pn 3 rfl (RL.sg (Vl.fa 0 underlying245 rfl sizeOf243 rfl rfl) rfl rfl (RL.sg (Vl.fa 1 underlying243 rfl sizeOf77 rfl rfl) rfl rfl ?_))))))))
  obtain ⟨A5, c6, hS⟩ := O_heap_Heap.o hS
  refine RL.sg (Vl.ld 0 hS isAgg77 rfl rfl rfl) rfl rfl (RL.sg (Vl.bin (v := .bool false) rfl rfl (by kernel_rfl)) rfl rfl (pn 2 rfl (lr ?_)))
  have hS := O_heap_Heap.c (x := a2) hS
  exact rt results198 rfl ⟨rfl, hS⟩
def heap_pile_api_Message_each.f (a4 : List api_Message) : Option (Unit) := some ()
theorem heap_pile_api_Message_each.ok {a4 : List api_Message} {b1 : Nat} {A2 : Option Addr} {c3 : Nat} {r : Unit} (h : heap_pile_api_Message_each.f a4 = some r) (hS : St B w (Cl b1 [.slice A2 a4.length c3, .func (.func 62) #[] #[]] 245 :: OSf E_api_Message 48 (.slice A2 a4.length c3) a4 :: l) hf) :
    Calls prog 202 #[.pointer (some ⟨b1, 0, none⟩)] w (Ret fun v w => ∃ (b_1 : Nat), v = .func (.func 205) #[] #[.pointer (some ⟨b_1, 0, none⟩)] ∧ St B w (Cl b_1 [.pointer (some ⟨b1, 0, none⟩)] 319 :: Cl b1 [.slice A2 a4.length c3, .func (.func 62) #[] #[]] 245 :: OSf E_api_Message 48 (.slice A2 a4.length c3) a4 :: l) hf) := by
  have h := Holds.of h
  refine en func202 rfl ntmps202 rfl (sr (bx hS rfl rfl rfl rfl fun b6 w hS => pn 1 rfl (lnsr (RL.s (Vl.makeFunc (fi := []) (ca := [.tmp 1]) rfl rfl) rfl (pn 1 rfl (lr ?_))))))
  exact rt results202 rfl ⟨b6, rfl, hS⟩
def heap_Heap_find_round0.f (a5 a7 a9 a10 : Int) (a11 : api_Message) : Option ((Int) ⊕ (Unit)) := (if a11.Key.From = a5 then (if a11.Uid = a7 then some (.inl a10) else some (.inr (()))) else some (.inr (())))
theorem heap_Heap_find_round0.ok {a5 a7 a9 a10 : Int} {a11 : api_Message} {b1 : Nat} {rc2 : Loop} {b4 b6 b8 : Nat} (hr3 : RecF f199 0 27 [(4, .pointer (some ⟨b4, 0, none⟩)), (5, .pointer (some ⟨b6, 0, none⟩)), (6, .pointer (some ⟨b8, 0, none⟩))] rc2) {r : (Int) ⊕ (Unit)} (h : heap_Heap_find_round0.f a5 a7 a9 a10 a11 = some r) (hS : St B w (pts b1 (.loop rc2) :: Cl b4 [.int .i64 a5] 3 :: Cl b6 [.int .i64 a7] 3 :: Cl b8 [.int .i64 a9] 3 :: l) hf) :
    Yld prog b1 [.int .i64 a10, .agg (C_api_Message a11).toArray] w (Ret fun v w => match (generalizing := false) r with | .inl r_ => v = .bool false ∧ St B w (pts b1 (.loop (pd rc2 .ret)) :: Cl b4 [.int .i64 a5] 3 :: Cl b6 [.int .i64 a7] 3 :: Cl b8 [.int .i64 r_] 3 :: l) hf | .inr (r_) => v = .bool true ∧ St B w (pts b1 (.loop rc2) :: Cl b4 [.int .i64 a5] 3 :: Cl b6 [.int .i64 a7] 3 :: Cl b8 [.int .i64 a9] 3 :: l) hf) := by
  have h := Holds.of h
  refine Yld.of (psl := [13, 14]) hS hr3 rfl rfl rfl ?_
  show RC _ ⟨27, [], false⟩ _ _ [(14, .agg (C_api_Message a11).toArray), (13, .int .i64 a10), (4, .pointer (some ⟨b4, 0, none⟩)), (5, .pointer (some ⟨b6, 0, none⟩)), (6, .pointer (some ⟨b8, 0, none⟩))] w
  refine sr (pn 1 rfl (ln (RC.region (al hS zeroValue48 rfl rfl rfl fun b15 w hS => RL.e0 (OW.store (vs := (C_api_Message a11)) 0 hS rfl rfl rfl rfl sizeOf48 rfl rfl rfl rfl) rfl ?_))))
  rintro _ w ⟨rfl, hS⟩
  have hS : St B w (Cl _ [_, _, _, _, _, _, _] _ :: _ :: _ :: _ :: _ :: l) hf := hS
  refine ln (RQ.bg hS.p1 hr3.state rfl fun w hS => RC.block (sr (RL.s (Vl.fa 0 underlying48 rfl sizeOf46 rfl rfl) rfl (RL.s (Vl.fa 1 underlying46 rfl sizeOf3 rfl rfl) rfl (RL.s (Vl.ld 1 hS isAgg3 rfl rfl rfl) rfl (RL.s (Vl.ld 2 hS isAgg3 rfl rfl rfl) rfl (pn 2 rfl ?_)))))))
  refine RL.iteP 20 rfl h (fun hc16 h => ?_) fun hc16 h => ?_
  next =>
   refine RL.sg (Vl.fa 5 underlying48 rfl sizeOf3 rfl rfl) rfl rfl (RL.sg (Vl.ld 1 hS isAgg3 rfl rfl rfl) rfl rfl (RL.sg (Vl.ld 3 hS isAgg3 rfl rfl rfl) rfl rfl (pn 2 rfl (ln ?_))))
   refine RC.iteP 25 rfl h (fun hc17 h => ?_) fun hc17 h => ?_
   next =>
    refine RC.condT rfl (sr (pn 1 rfl (RL.e0 (OW.store (vs := [.int .i64 a10]) 4 hS rfl rfl rfl rfl sizeOf3 rfl rfl rfl rfl) rfl ?_)))
    rintro _ w ⟨rfl, hS⟩
    have hS : St B w (_ :: _ :: _ :: _ :: Cl _ [_] _ :: l) hf := hS
    refine lr (RQ.inB_ret ?_)
    obtain rfl := h.some
    exact RQ.rr hS fun w hS => ⟨rfl, hS.d1⟩
   refine RC.condF rfl (RC.skip (RQ.inB_n ?_))
   obtain rfl := h.some
   exact RQ.rn hS hr3.state hr3.pending fun w hS => ⟨rfl, hS.d1⟩
  refine pn 5 rfl (ln (RC.condF rfl (RC.skip (RQ.inB_n ?_))))
  obtain rfl := h.some
  exact RQ.rn hS hr3.state hr3.pending fun w hS => ⟨rfl, hS.d1⟩
def heap_pile_api_Message_each_1.l2b (a5 a7 a9 : Int) (a14 : List api_Message) : Int → Option ((Int) ⊕ ((Int) ⊕ (Unit)))
  | (x64) => (if x64 < (a14.length : Int) then (if 0 ≤ x64 then ((heap_Heap_find_round0.f a5 a7 a9 x64 (nth a14 x64)).bind fun t88 => match t88 with | .inl y90 => some (.inr (.inl y90)) | .inr (_) => some (.inl (IntKind.i64.wrap (x64 + 1)))) else none) else some (.inr (.inr (()))))
def heap_pile_api_Message_each_1.l2 (a5 a7 a9 : Int) (a14 : List api_Message) (s : Int) : Option ((Int) ⊕ (Unit)) := loopR (heap_pile_api_Message_each_1.l2b a5 a7 a9 a14) s
def heap_pile_api_Message_each_1.f (a5 a7 a9 : Int) (a14 : List api_Message) : Option ((Int) ⊕ (Unit)) := heap_pile_api_Message_each_1.l2 a5 a7 a9 a14 (0)
theorem heap_pile_api_Message_each_1.ok {a5 a7 a9 : Int} {a14 : List api_Message} {b1 : Nat} {rc2 : Loop} {b4 b6 b8 b10 b11 : Nat} {A12 : Option Addr} {c13 : Nat} (hr3 : RecF f199 0 27 [(4, .pointer (some ⟨b4, 0, none⟩)), (5, .pointer (some ⟨b6, 0, none⟩)), (6, .pointer (some ⟨b8, 0, none⟩))] rc2) {r : (Int) ⊕ (Unit)} (h : heap_pile_api_Message_each_1.f a5 a7 a9 a14 = some r) (hS : St B w (pts b1 (.loop rc2) :: Cl b4 [.int .i64 a5] 3 :: Cl b6 [.int .i64 a7] 3 :: Cl b8 [.int .i64 a9] 3 :: Cl b11 [.slice A12 a14.length c13, .func (.func 62) #[] #[]] 245 :: OSf E_api_Message 48 (.slice A12 a14.length c13) a14 :: Cl b10 [.pointer (some ⟨b11, 0, none⟩)] 319 :: l) hf) :
    Calls prog 205 #[.func (.yield b1) #[] #[], .pointer (some ⟨b10, 0, none⟩)] w (Ret fun v w => match (generalizing := false) r with | .inl r_ => v = .tuple #[] ∧ St B w (pts b1 (.loop (pd rc2 .ret)) :: Cl b4 [.int .i64 a5] 3 :: Cl b6 [.int .i64 a7] 3 :: Cl b8 [.int .i64 r_] 3 :: Cl b11 [.slice A12 a14.length c13, .func (.func 62) #[] #[]] 245 :: OSf E_api_Message 48 (.slice A12 a14.length c13) a14 :: Cl b10 [.pointer (some ⟨b11, 0, none⟩)] 319 :: l) hf | .inr (r_) => v = .tuple #[] ∧ St B w (pts b1 (.loop rc2) :: Cl b4 [.int .i64 a5] 3 :: Cl b6 [.int .i64 a7] 3 :: Cl b8 [.int .i64 a9] 3 :: Cl b11 [.slice A12 a14.length c13, .func (.func 62) #[] #[]] 245 :: OSf E_api_Message 48 (.slice A12 a14.length c13) a14 :: Cl b10 [.pointer (some ⟨b11, 0, none⟩)] 319 :: l) hf) := by
  have h := Holds.of h
  refine en func205 rfl ntmps205 rfl (sr (RL.s (Vl.ld 6 hS isAgg319 rfl rfl rfl) rfl (pn 1 rfl (RL.s (Vl.fa 0 underlying243 rfl sizeOf39 rfl rfl) rfl (RL.s (Vl.ld 4 hS isAgg39 rfl rfl rfl) rfl (RL.s (Vl.lenSl underlying39 rfl) rfl (pn 1 rfl (ln (RC.block ?_)))))))))
  refine fun a ha => RC.loop (N := 21) (body := (heap_pile_api_Message_each_1.l2b a5 a7 a9 a14)) (φ := (· = r)) (fun (s : Int) a w => ∃ (x64 : Int), s = (x64) ∧ Has 21 [(0, .func (.yield b1) #[] #[]), (8, .slice A12 a14.length c13), (9, .int .i64 (a14.length : Int)), (10, .int .i64 x64)] a ∧ St B w (OSf E_api_Message 48 (.slice A12 a14.length c13) a14 :: pts b1 (.loop rc2) :: Cl b4 [.int .i64 a5] 3 :: Cl b6 [.int .i64 a7] 3 :: Cl b8 [.int .i64 a9] 3 :: Cl b11 [.slice A12 a14.length c13, .func (.func 62) #[] #[]] 245 :: Cl b10 [.pointer (some ⟨b11, 0, none⟩)] 319 :: l) hf) ?_ (s0 := (0)) h ⟨0, rfl, ha.to ⟨rfl, rfl, rfl, rfl, trivial⟩, hS.p5⟩
  rintro G78 x64 a w ⟨_, rfl, ha, hS⟩ h
  revert a
  show RC _ _ _ _ _ _
  refine sr (pn 1 rfl (ln (RC.seq ?_)))
  refine RC.iteP 11 rfl h (fun hc80 h => ?_) fun hc80 h => ?_
  next =>
   refine RC.condT rfl (sk (RC.seq (RC.block (sr (pn 1 rfl ?_)))))
   obtain ⟨hq86, h⟩ := h.req
   refine RL.s (Vl.indexOwn 0 hS rfl underlying39 sizeOf48 rfl rfl hq86 hc80) rfl (RL.s (Vl.loadA isAgg48 sizeOf48 rfl rfl ((hS.slW 0 rfl).2.2.cells hq86 hc80)) rfl (al hS zeroValue48 rfl rfl rfl fun b87 w hS => pn 1 rfl (RL.e0 (OW.store (vs := (C_api_Message (nth a14 x64))) 0 hS rfl rfl rfl rfl sizeOf48 rfl rfl rfl rfl) rfl ?_)))
   rintro _ w ⟨rfl, hS⟩
   have hS : St B w (Cl _ [_, _, _, _, _, _, _] _ :: _ :: _ :: _ :: _ :: _ :: _ :: _ :: l) hf := hS
   refine lnsr (pn 2 rfl (RL.s (Vl.lw 0 hS isAgg48 sizeOf48 rfl rfl rfl) rfl (yc (fun _ hg89 => heap_Heap_find_round0.ok hr3 hg89 hS.p5.p5.p5.p5) rfl h rfl rfl rfl rfl ?_)))
   intro t88 h
   rcases t88 with y90 | _
   · rintro _ w ⟨rfl, hS⟩
     have hS : St B w (_ :: _ :: _ :: _ :: _ :: _ :: _ :: _ :: l) hf := hS
     refine pn 1 rfl (ln (RC.condT rfl (RC.ret (RQ.inB_ret (RQ.ret ?_)))))
     have h := h.inrS
     refine RQ.ret (RQ.inB_ret ?_)
     obtain rfl := h.some
     exact rt results205 rfl ⟨rfl, hS.d4.p5.p4.p4.p4.p4⟩
   · rintro _ w ⟨rfl, hS⟩
     have hS : St B w (_ :: _ :: _ :: _ :: _ :: _ :: _ :: _ :: l) hf := hS
     refine pn 1 rfl (ln (RC.condF rfl (RC.skip (RQ.inB_n (RQ.then_n (RC.region (pn 2 rfl (RL.nil ?_))))))))
     exact fun a ha => ⟨(IntKind.i64.wrap (x64 + 1)), ⟨(IntKind.i64.wrap (x64 + 1)), rfl, ha.to ⟨rfl, rfl, rfl, rfl, trivial⟩, hS.d4.p4⟩, h.some⟩
  refine RC.condF rfl (RC.exit (RQ.exitT ?_))
  have h := h.inrS
  refine RQ.exitT (RQ.inB_hit ?_)
  obtain rfl := h.some
  exact rtE results205 rfl ⟨rfl, hS.p5.p5.p5.p5.p5⟩
def heap_Heap_find.f (a2 : heap_Heap) (a3 a4 : Int) : Option (Int) := ((heap_pile_api_Message_each.f a2.p_l).bind fun _ => ((heap_pile_api_Message_each_1.f a3 a4 0 a2.p_l).bind fun t82 => match t82 with | .inl y84 => some y84 | .inr (_) => some (-1)))
theorem heap_Heap_find.ok {a2 : heap_Heap} {a3 a4 : Int} {b1 : Nat} {r : Int} (h : heap_Heap_find.f a2 a3 a4 = some r) (hS : St B w (O_heap_Heap hf a2 b1 :: l) hf) :
    Calls prog 199 #[.pointer (some ⟨b1, 0, none⟩), .int .i64 a3, .int .i64 a4] w (Ret fun v w => v = .int .i64 r ∧ St B w (O_heap_Heap hf a2 b1 :: l) hf) := by
  have h := Holds.of h
  refine enM func199 rfl ntmps199 rfl (sr (bx hS rfl rfl rfl rfl fun b48 w hS => bx hS rfl rfl rfl rfl fun b49 w hS => al hS zeroValue3 rfl rfl rfl fun b50 w hS => ln (RC.seq (sr (pn 2 rfl (RL.s (Vl.fa 0 underlying245 rfl sizeOf243 rfl rfl) rfl ?_))))))
  obtain ⟨A73, c74, hS⟩ := O_heap_Heap.o hS.p3
  refine cF (fun _ hg => heap_pile_api_Message_each.ok hg hS) call202 h rfl rfl rfl ?_
  rintro _ h _ w ⟨b77, rfl, hS⟩
  refine ln (RC.block ?_)
  obtain ⟨t82, hg83, h⟩ := h.bind
  refine RC.rf (args := fun b78 => #[.func (.yield b78) #[] #[], .pointer (some ⟨b77, 0, none⟩)]) rfl call205 rfl hS (fun _ => by simp) (fun b78 d79 rc80 w hr81 hS => heap_pile_api_Message_each_1.ok (RecOK.to (M := 27) hr81 rfl rfl ⟨rfl, rfl, rfl, trivial⟩) hg83 hS.p2.p4.p4.p5.p6.p7.p6) ?_
  rcases t82 with y84 | _
  · rintro b78 d79 rc80 _ w hr81 ⟨rfl, hS⟩
    refine RE.r hS fun w hS => RQ.inB_ret (RQ.ret ?_)
    have hS := O_heap_Heap.c (x := a2) hS.p4.p4
    obtain rfl := h.some
    exact rtM1 (vs := [.int .i64 y84]) results199 hS.p5 fun w hS => ⟨⟨⟨_, rfl, run_loadVar1 isAgg3 (hS.cell 3 rfl rfl)⟩, trivial⟩, ⟨rfl, hS.d1.d1.d1.d1⟩⟩
  · rintro b78 d79 rc80 _ w hr81 ⟨rfl, hS⟩
    refine RE.n hS hr81.state hr81.pending fun w hS => RQ.inB_n (tsr (RL.e0 (OW.store (vs := [.int .i64 (-1)]) 2 hS rfl rfl rfl rfl sizeOf3 rfl rfl rfl rfl) rfl ?_))
    rintro _ w ⟨rfl, hS⟩
    have hS : St B w (_ :: _ :: Cl _ [_] _ :: _ :: _ :: _ :: _ :: l) hf := hS
    refine lr ?_
    have hS := O_heap_Heap.c (x := a2) hS.p4.p4
    obtain rfl := h.some
    exact rtM1 (vs := [.int .i64 (-1)]) results199 hS.p5 fun w hS => ⟨⟨⟨_, rfl, run_loadVar1 isAgg3 (hS.cell 3 rfl rfl)⟩, trivial⟩, ⟨rfl, hS.d1.d1.d1.d1⟩⟩
def cmp_isNaN_int64.f (a1 : Int) : Option (Bool) := some (!decide (a1 = a1))
theorem cmp_isNaN_int64.ok {a1 : Int} {r : Bool} (h : cmp_isNaN_int64.f a1 = some r) (hS : St B w (l) hf) :
    Calls prog 132 #[.int .i64 a1] w (Ret fun v w => v = .bool r ∧ St B w (l) hf) := by
  have h := Holds.of h
  refine en func132 rfl ntmps132 rfl (sr (pn 1 rfl (lnsr (pn 4 rfl (lr ?_)))))
  obtain rfl := h.some
  exact rt results132 rfl ⟨rfl, hS⟩
def cmp_Compare_int64.f (a1 a2 : Int) : Option (Int) := ((cmp_isNaN_int64.f a1).bind fun t16 => ((cmp_isNaN_int64.f a2).bind fun t18 => (if t16 = true then (if t18 = true then some 0 else some (-1)) else (if t18 = true then some 1 else (if a1 < a2 then some (-1) else (if a2 < a1 then some 1 else some 0))))))
theorem cmp_Compare_int64.ok {a1 a2 : Int} {r : Int} (h : cmp_Compare_int64.f a1 a2 = some r) (hS : St B w (l) hf) :
    Calls prog 126 #[.int .i64 a1, .int .i64 a2] w (Ret fun v w => v = .int .i64 r ∧ St B w (l) hf) := by
  have h := Holds.of h
  refine en func126 rfl ntmps126 rfl (sr (pn 1 rfl (lnsr (pn 1 rfl (cF (fun _ hg => cmp_isNaN_int64.ok hg hS) call132 h rfl rfl rfl ?_)))))
  rintro t16 h _ w ⟨rfl, hS⟩
  refine pn 1 rfl (lnsr (pn 1 rfl (cF (fun _ hg => cmp_isNaN_int64.ok hg hS) call132 h rfl rfl rfl ?_)))
  rintro t18 h _ w ⟨rfl, hS⟩
  refine pn 1 rfl (ln (RC.seq (sr (pn 1 rfl (ln ?_)))))
  refine RC.iteB 11 rfl h (fun hc22 h => ?_) fun hc22 h => ?_
  next =>
   refine RC.condT rfl (RC.seq (sr (pn 1 rfl (ln ?_))))
   refine RC.iteB 12 rfl h (fun hc23 h => ?_) fun hc23 h => ?_
   next =>
    refine RC.condT rfl (sr (pn 1 rfl (lr (RQ.ret (RQ.ret ?_)))))
    obtain rfl := h.some
    exact rt results126 rfl ⟨rfl, hS⟩
   refine RC.condF rfl (sk (sr (pn 1 rfl (lr (RQ.ret ?_)))))
   obtain rfl := h.some
   exact rt results126 rfl ⟨rfl, hS⟩
  refine RC.condF rfl (sk (RC.seq (sr (pn 1 rfl (ln ?_)))))
  refine RC.iteB 13 rfl h (fun hc25 h => ?_) fun hc25 h => ?_
  next =>
   refine RC.condT rfl (sr (pn 1 rfl (lr (RQ.ret ?_))))
   obtain rfl := h.some
   exact rt results126 rfl ⟨rfl, hS⟩
  refine RC.condF rfl (sk (RC.seq (sr (pn 3 rfl (ln ?_)))))
  refine RC.iteP 16 rfl h (fun hc27 h => ?_) fun hc27 h => ?_
  next =>
   refine RC.condT rfl (sr (pn 1 rfl (lr (RQ.ret ?_))))
   obtain rfl := h.some
   exact rt results126 rfl ⟨rfl, hS⟩
  refine RC.condF rfl (sk (RC.seq (sr (pn 3 rfl (ln ?_)))))
  refine RC.iteP 19 rfl h (fun hc28 h => ?_) fun hc28 h => ?_
  next =>
   refine RC.condT rfl (sr (pn 1 rfl (lr (RQ.ret ?_))))
   obtain rfl := h.some
   exact rt results126 rfl ⟨rfl, hS⟩
  refine RC.condF rfl (sk (sr (pn 1 rfl (lr ?_))))
  obtain rfl := h.some
  exact rt results126 rfl ⟨rfl, hS⟩
def cmp_isNaN_int.f (a1 : Int) : Option (Bool) := some (!decide (a1 = a1))
theorem cmp_isNaN_int.ok {a1 : Int} {r : Bool} (h : cmp_isNaN_int.f a1 = some r) (hS : St B w (l) hf) :
    Calls prog 127 #[.int .i64 a1] w (Ret fun v w => v = .bool r ∧ St B w (l) hf) := by
  have h := Holds.of h
  refine en func127 rfl ntmps127 rfl (sr (pn 1 rfl (lnsr (pn 4 rfl (lr ?_)))))
  obtain rfl := h.some
  exact rt results127 rfl ⟨rfl, hS⟩
def cmp_Compare_int.f (a1 a2 : Int) : Option (Int) := ((cmp_isNaN_int.f a1).bind fun t16 => ((cmp_isNaN_int.f a2).bind fun t18 => (if t16 = true then (if t18 = true then some 0 else some (-1)) else (if t18 = true then some 1 else (if a1 < a2 then some (-1) else (if a2 < a1 then some 1 else some 0))))))
theorem cmp_Compare_int.ok {a1 a2 : Int} {r : Int} (h : cmp_Compare_int.f a1 a2 = some r) (hS : St B w (l) hf) :
    Calls prog 112 #[.int .i64 a1, .int .i64 a2] w (Ret fun v w => v = .int .i64 r ∧ St B w (l) hf) := by
  have h := Holds.of h
  refine en func112 rfl ntmps112 rfl (sr (pn 1 rfl (lnsr (pn 1 rfl (cF (fun _ hg => cmp_isNaN_int.ok hg hS) call127 h rfl rfl rfl ?_)))))
  rintro t16 h _ w ⟨rfl, hS⟩
  refine pn 1 rfl (lnsr (pn 1 rfl (cF (fun _ hg => cmp_isNaN_int.ok hg hS) call127 h rfl rfl rfl ?_)))
  rintro t18 h _ w ⟨rfl, hS⟩
  refine pn 1 rfl (ln (RC.seq (sr (pn 1 rfl (ln ?_)))))
  refine RC.iteB 11 rfl h (fun hc22 h => ?_) fun hc22 h => ?_
  next =>
   refine RC.condT rfl (RC.seq (sr (pn 1 rfl (ln ?_))))
   refine RC.iteB 12 rfl h (fun hc23 h => ?_) fun hc23 h => ?_
   next =>
    refine RC.condT rfl (sr (pn 1 rfl (lr (RQ.ret (RQ.ret ?_)))))
    obtain rfl := h.some
    exact rt results112 rfl ⟨rfl, hS⟩
   refine RC.condF rfl (sk (sr (pn 1 rfl (lr (RQ.ret ?_)))))
   obtain rfl := h.some
   exact rt results112 rfl ⟨rfl, hS⟩
  refine RC.condF rfl (sk (RC.seq (sr (pn 1 rfl (ln ?_)))))
  refine RC.iteB 13 rfl h (fun hc25 h => ?_) fun hc25 h => ?_
  next =>
   refine RC.condT rfl (sr (pn 1 rfl (lr (RQ.ret ?_))))
   obtain rfl := h.some
   exact rt results112 rfl ⟨rfl, hS⟩
  refine RC.condF rfl (sk (RC.seq (sr (pn 3 rfl (ln ?_)))))
  refine RC.iteP 16 rfl h (fun hc27 h => ?_) fun hc27 h => ?_
  next =>
   refine RC.condT rfl (sr (pn 1 rfl (lr (RQ.ret ?_))))
   obtain rfl := h.some
   exact rt results112 rfl ⟨rfl, hS⟩
  refine RC.condF rfl (sk (RC.seq (sr (pn 3 rfl (ln ?_)))))
  refine RC.iteP 19 rfl h (fun hc28 h => ?_) fun hc28 h => ?_
  next =>
   refine RC.condT rfl (sr (pn 1 rfl (lr (RQ.ret ?_))))
   obtain rfl := h.some
   exact rt results112 rfl ⟨rfl, hS⟩
  refine RC.condF rfl (sk (sr (pn 1 rfl (lr ?_))))
  obtain rfl := h.some
  exact rt results112 rfl ⟨rfl, hS⟩
def cmp_Or_int.l2b (a1 : List Int) : Int → Option ((Int) ⊕ (Int))
  | (x30) => (if x30 < (a1.length : Int) then (if 0 ≤ x30 then (if nth a1 x30 = 0 then some (.inl (IntKind.i64.wrap (x30 + 1))) else some (.inr (nth a1 x30))) else none) else some (.inr 0))
def cmp_Or_int.l2 (a1 : List Int) (s : Int) : Option (Int) := loopR (cmp_Or_int.l2b a1) s
def cmp_Or_int.f (a1 : List Int) : Option (Int) := cmp_Or_int.l2 a1 (0)
theorem cmp_Or_int.ok {a1 : List Int} {A2 : Option Addr} {c3 : Nat} (hr4 : SlR ((FI .i64).rep) hf A2 c3 a1) {r : Int} (h : cmp_Or_int.f a1 = some r) (hS : St B w (l) hf) :
    Calls prog 110 #[.slice A2 a1.length c3] w (Ret fun v w => v = .int .i64 r ∧ St B w (l) hf) := by
  have h := Holds.of h
  refine en func110 rfl ntmps110 rfl (sr (pn 1 rfl (lnsr (pn 1 rfl (ln (RC.seq (sr (pn 1 rfl (RL.s (Vl.lenSl underlying37 rfl) rfl ?_)))))))))
  refine pn 1 rfl (ln (RC.block ?_))
  refine fun a ha => RC.loop (N := 18) (body := (cmp_Or_int.l2b a1)) (φ := (· = r)) (fun (s : Int) a w => ∃ (x30 : Int), s = (x30) ∧ Has 18 [(3, .int .i64 0), (6, .slice A2 a1.length c3), (7, .int .i64 (a1.length : Int)), (8, .int .i64 x30)] a ∧ St B w (l) hf) ?_ (s0 := (0)) h ⟨0, rfl, ha.to ⟨rfl, rfl, rfl, rfl, trivial⟩, hS⟩
  rintro G38 x30 a w ⟨_, rfl, ha, hS⟩ h
  revert a
  show RC _ _ _ _ _ _
  refine sr (pn 1 rfl (ln (RC.seq ?_)))
  refine RC.iteP 9 rfl h (fun hc40 h => ?_) fun hc40 h => ?_
  next =>
   refine RC.condT rfl (sk (RC.seq (RC.block (sr ?_))))
   obtain ⟨hq43, h⟩ := h.req
   refine RL.s (Vl.indexAddr underlying37 sizeOf3 rfl rfl ((hr4.2.world hS.sub).adr hq43 hc40) hq43 hc40 rfl) rfl (RL.s (Vl.load isAgg3 rfl ((hr4.2.world hS.sub).cell (j := 0) hq43 hc40 rfl)) rfl (pn 1 rfl (lnsr (pn 3 rfl (ln ?_)))))
   refine RC.iteN 14 rfl h (fun hc44 h => ?_) fun hc44 h => ?_
   next =>
    refine RC.condF rfl (RC.skip (RQ.inB_n (RQ.then_n (RC.region (pn 2 rfl (RL.nil ?_))))))
    exact fun a ha => ⟨(IntKind.i64.wrap (x30 + 1)), ⟨(IntKind.i64.wrap (x30 + 1)), rfl, ha.to ⟨rfl, rfl, rfl, rfl, trivial⟩, hS⟩, h.some⟩
   refine RC.condT rfl (sr (pn 2 rfl (lr (RQ.inB_ret (RQ.ret ?_)))))
   have h := h.inrS
   refine RQ.ret (RQ.inB_ret (RQ.ret ?_))
   obtain rfl := h.some
   exact rt results110 rfl ⟨rfl, hS⟩
  refine RC.condF rfl (RC.exit (RQ.exitT ?_))
  have h := h.inrS
  refine RQ.exitT (RQ.inB_hit (tsr (pn 2 rfl (lr ?_))))
  obtain rfl := h.some
  exact rt results110 rfl ⟨rfl, hS⟩
end
end Go.Proofs.Gx
