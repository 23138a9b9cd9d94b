/-
 The walks of functions, each with what it computes: printed by wip/gx.py.
-/
import Derived.Test.YtdaibkppbhbggaaGreatDoorW0
set_option linter.unusedVariables false
set_option linter.unusedSimpArgs false
set_option maxRecDepth 100000
set_option maxHeartbeats 4000000
namespace Go.Proofs.Gx
open Go.Sl Tryz
variable {B : Base} {w : World} {l : List HProp} {hf : Hp}
noncomputable section
def isochronlaw17vwide.f  : Option (api_Caps) := some (⟨1000, 4096, 4096⟩ : api_Caps)
theorem isochronlaw17vwide.ok {r : api_Caps} (h : isochronlaw17vwide.f = some r) (hS : St B w (l) hf) :
   Calls prog 9 #[] w (Ret fun v w => v = .agg (C_api_Caps r).toArray ∧ St B w (l) hf) := by
 have h := Holds.of h
 refine en func9 rfl ntmps9 rfl (sr (rr [0] hS ?_))
 refine fun b2 => it fun w hS => lnsr (rr [0, 1] hS ?_)
 refine it fun w hS => lr ?_
 cases h.some
 refine rz [0] results9 hS ?_
 exact it ⟨rfl, hS.d0⟩
def model_rules.f  : Option (Unit) := some ()
theorem model_rules.ok {r : Unit} (h : model_rules.f = some r) (hS : St B w (l) hf) :
   Calls prog 42 #[] w (Ret fun v w => v = .agg #[.func (.func 83) #[] #[], .func (.func 84) #[] #[], .func (.func 85) #[] #[], .func (.func 86) #[] #[]] ∧ St B w (l) hf) := by
 have h := Holds.of h
 refine en func42 rfl ntmps42 rfl (sr (rr [0] hS ?_))
 refine fun b2 => it fun w hS => lnsr (r0 4 rfl (RL.s (Vl.build (v := .agg #[.func (.func 83) #[] #[], .func (.func 84) #[] #[], .func (.func 85) #[] #[], .func (.func 86) #[] #[]]) (parts := [(0, .tmp 1), (1, .tmp 2), (2, .tmp 3), (3, .tmp 4)]) rfl (by kernel_rfl)) rfl (rr [1] hS ?_)))
 refine it fun w hS => lr ?_
 have e := h.some
 refine rz [0] results42 hS ?_
 exact it ⟨rfl, hS.d0⟩
def vtime_Valid.f (a1 : Int) : Option (Bool) := (if 0 ≤ a1 then some (decide (a1 ≤ 4611686018427387903)) else some false)
theorem vtime_Valid.ok {a1 : Int} {r : Bool} (h : vtime_Valid.f a1 = some r) (hS : St B w (l) hf) :
   Calls prog 73 #[iV a1] w (Ret fun v w => v = .bool r ∧ St B w (l) hf) := by
 have h := Holds.of h
 refine en func73 rfl ntmps73 rfl (sr (pn 1 rfl (lnsr (pn 3 rfl ?_))))
 refine RL.iteP 5 rfl h (fun hc3 h => ?_) fun hc3 h => ?_
 next =>
  refine pn 4 rfl (lr ?_)
  cases h.some
  exact rt results73 rfl ⟨rfl, hS⟩
 refine pn 4 rfl (lr ?_)
 obtain rfl := h.some
 exact rt results73 rfl ⟨rfl, hS⟩
def model_sizes.f (a1 : api_Model) : Option ((Int) ⊕ (Unit)) := (if (a1.Progs.length : Int) < 1 then some (.inl 1) else (if 16 < (a1.Progs.length : Int) then some (.inl 1) else ((vtime_Valid.f a1.End).bind fun t22 => (if t22 = true then (if a1.Budget < 0 then some (.inl 1) else (if 4096 < a1.Budget then some (.inl 1) else some (.inr (())))) else some (.inl 1)))))
theorem model_sizes.ok {a1 : api_Model} {A2 A5 A8 : Option Addr} {c3 c6 c9 : Nat} (hr4 : SlR (Rep.sl E_api_Instr.rep) hf A2 c3 a1.Progs) (hr7 : SlR E_api_Link.rep hf A5 c6 a1.Links) (hr10 : SlR E_api_Start.rep hf A8 c9 a1.Starts) {r : (Int) ⊕ (Unit)} (h : model_sizes.f a1 = some r) (hS : St B w (l) hf) :
   Calls prog 83 #[.agg (C_api_Model a1 A2 c3 A5 c6 A8 c9).toArray] w (Ret fun v w => match (generalizing := false) r with | .inl r_ => v = .iface 29 (iV r_) ∧ St B w (l) hf | .inr (r_) => v = .nilIface ∧ St B w (l) hf) := by
 have h := Holds.of h
 refine en func83 rfl ntmps83 rfl (sr (rr [0, 0] hS ?_))
 refine fun b19 => it fun w hS => ln (RC.seq (sr (rr [0, 1, 0, 0, 0] hS ?_)))
 refine it fun w hS => RL.iteP 7 rfl h (fun hc20 h => ?_) fun hc20 h => ?_
 next =>
  refine pn 21 rfl (ln (jtr (r0 2 rfl (lr (RQ.ret ?_)))))
  cases h.some
  exact rt results83 rfl ⟨rfl, hS.d0⟩
 refine rr [0, 1, 0, 0, 0, 0] hS ?_
 refine it fun w hS => RL.iteP 13 rfl h (fun hc21 h => ?_) fun hc21 h => ?_
 next =>
  refine pn 15 rfl (ln (jtr (r0 2 rfl (lr (RQ.ret ?_)))))
  cases h.some
  exact rt results83 rfl ⟨rfl, hS.d0⟩
 refine rr [0, 1] hS ?_
 refine it fun w hS => cF (fun _ hg => vtime_Valid.ok hg hS) call73 h rfl rfl rfl ?_
 rintro t22 h _ w ⟨rfl, hS⟩
 refine pn 3 rfl ?_
 refine RL.iteM 19 rfl h (fun hc24 h => ?_) fun hc24 h => ?_
 next =>
  refine rr [0, 1, 0, 0, 0] hS ?_
  refine it fun w hS => RL.iteP 24 rfl h (fun hc25 h => ?_) fun hc25 h => ?_
  next =>
   refine pn 4 rfl (ln (jtr (r0 2 rfl (lr (RQ.ret ?_)))))
   cases h.some
   exact rt results83 rfl ⟨rfl, hS.d0⟩
  refine rr [0, 1, 0, 0] hS ?_
  refine it fun w hS => ln ?_
  refine RC.iteP 28 rfl h (fun hc26 h => ?_) fun hc26 h => ?_
  next =>
   refine jtr (r0 2 rfl (lr (RQ.ret ?_)))
   cases h.some
   exact rt results83 rfl ⟨rfl, hS.d0⟩
  refine jfs (sr (pn 1 rfl (lr ?_)))
  cases h.some
  exact rt results83 rfl ⟨rfl, hS.d0⟩
 refine pn 9 rfl (ln (jtr (r0 2 rfl (lr (RQ.ret ?_)))))
 cases h.some
 exact rt results83 rfl ⟨rfl, hS.d0⟩
def errors_as.f (a1 : Int) (a3 : model_flaw) : Option (Bool) := some false
theorem errors_as.ok {a1 : Int} {a3 : model_flaw} {b2 b4 : Nat} {r : Bool} (h : errors_as.f a1 a3 = some r) (hS : St B w (Cl b2 [iV a3.at_, iV a3.why] 106 :: Cl b4 [pV b2] 110 :: l) hf) :
   Calls prog 90 #[.iface 29 (iV a1), .iface 110 (pV b2), .agg #[.pointer (some ⟨1, 110, none⟩), pV b4, .int .u64 150], .iface 215 (.agg #[.pointer (some ⟨1, 106, none⟩)])] w (Ret fun v w => v = .bool r ∧ St B w (Cl b2 [iV a3.at_, iV a3.why] 106 :: Cl b4 [pV b2] 110 :: l) hf) := by
 have h := Holds.of h
 refine en func90 rfl ntmps90 rfl (sr (rr [0, 0] hS ?_))
 refine fun b6 => it fun w hS => ln (RC.block (RC.unroll (RQ.round (RC.block (RC.seq (sr (pn 1 rfl (RL.s (Vl.eX [.tmp 16] (.iface 215 (.agg #[.pointer (some ⟨1, 29, none⟩)])) Ex1 func91 rfl) rfl (pn 1 rfl ?_)))))))))
 refine RL.s (Vl.iX [.tmp 18] (.bool false) (.agg #[.pointer (some ⟨1, 29, none⟩)]) Ex2 func236 rfl rfl) rfl (ln (jfs (RC.seq (sr (pn 1 rfl (tno underlying219 rfl rfl (pn 5 rfl (lnsr ?_))))))))
 refine pn 6 rfl (ln (jfs (sr (pn 1 rfl (ln (RC.block (sr (tno underlying222 rfl rfl (pn 2 rfl ?_)))))))))
 refine ln (jf (sr (tno underlying224 rfl rfl (pn 2 rfl (ln (jf (sr (pn 1 rfl (ln (RC.seq ?_))))))))))
 refine RC.region (pn 1 rfl (lr (RQ.inB_ret (ir (RQ.inB_ret ?_)))))
 obtain rfl := h.some
 exact rt results90 rfl ⟨rfl, hS.d0⟩
def errors_As.f (a1 : Int) (a3 : model_flaw) : Option (Bool) := ((errors_as.f a1 a3).bind fun t10 => some t10)
theorem errors_As.ok {a1 : Int} {a3 : model_flaw} {b2 : Nat} (hG0 : GlobAt hf 0 (.iface 215 (.agg #[.pointer (some ⟨1, 108, none⟩)]))) {r : Bool} (h : errors_As.f a1 a3 = some r) (hS : St B w (Cl b2 [iV a3.at_, iV a3.why] 106 :: l) hf) :
   Calls prog 43 #[.iface 29 (iV a1), .iface 110 (pV b2)] w (Ret fun v w => v = .bool r ∧ St B w (Cl b2 [iV a3.at_, iV a3.why] 106 :: l) hf) := by
 have h := Holds.of h
 refine en func43 rfl ntmps43 rfl (sr (pn 1 rfl (ln (RC.seq (sr (pn 1 rfl (RL.s (Vl.bn false rfl rfl) rfl (ln (jfs ?_)))))))))
 refine RC.seq (sr (pn 1 rfl (RL.s (Vl.bn false rfl rfl) rfl (ln (jfs (sr (pn 1 rfl (RL.e (OW.externNew (ls := [.tmp 13]) (cs := [pV b2]) (T := 110) (v := fun b => .agg #[.pointer (some ⟨1, 110, none⟩), pV b, .int .u64 150]) hS rfl func87 (by kernel_rfl) (by kernel_rfl) (by kernel_rfl) (e := fun args => Extern.ReflectliteValue.unpack (args.getD 0 (.tuple #[]))) (by kernel_rfl) (fun w => by kernel_rfl)) rfl rfl ?_))))))))
 rintro _ w ⟨b8, rfl, hS⟩
 refine rr [0, 1] hS ?_
 refine fun b9 => it fun w hS => lnsr (rr [1] hS ?_)
 refine it fun w hS => RL.s (Vl.eX [.tmp 15] (.iface 215 (.agg #[.pointer (some ⟨1, 110, none⟩)])) Ex3 func88 rfl) rfl (pn 1 rfl (ln (RC.seq (sr (pn 1 rfl (RL.s (Vl.iX [] (.int .u8 22) (.pointer (some ⟨1, 110, none⟩)) Ex4 func179 rfl rfl) rfl (rr [0, 0, 1] hS ?_)))))))
 refine it fun w hS => ?_
 refine RL.sg (Vl.externAt (ls := [.tmp 21]) (v := .bool false) rfl func89 (by kernel_rfl) (by kernel_rfl) (by kernel_rfl) (e := Extern.ReflectliteValue.method (Extern.ReflectliteValue.valueError "reflectlite.Value.IsNil" 0) Extern.ReflectliteValue.isNil) (by kernel_rfl) (run_isNil (n := 150) (a := ⟨b8, 0, none⟩) (fun w => by kernel_rfl) underlying110 rfl (hS.cell 1 rfl rfl))) rfl rfl (pn 1 rfl (ln (jfs (sr (pn 1 rfl (RL.s (Vl.iX [] (.iface 215 (.agg #[.pointer (some ⟨1, 106, none⟩)])) (.agg #[.pointer (some ⟨1, 110, none⟩)]) Ex5 func238 rfl rfl) rfl (pn 1 rfl (ln (RC.seq (RC.seq ?_))))))))))
 refine RC.region (pn 1 rfl (RL.s (Vl.iX [] (.int .u8 25) (.pointer (some ⟨1, 106, none⟩)) Ex4 func179 rfl rfl) rfl (pn 3 rfl (RL.sg (Vl.load isAgg164 rfl (cellH_world hS.sub hG0)) rfl rfl (RL.sg (Vl.iX [.tmp 32] (.bool true) (.agg #[.pointer (some ⟨1, 106, none⟩)]) Ex6 func239 rfl rfl) rfl rfl (pn 2 rfl (ln (jfs (sr (rr [0, 0, 1, 0] hS ?_))))))))))
 refine it fun w hS => cF (fun _ hg => errors_as.ok hg hS.p1.p2) call90 h rfl rfl rfl ?_
 rintro t10 h _ w ⟨rfl, hS⟩
 refine pn 1 rfl (lr ?_)
 obtain rfl := h.some
 exact rt results43 rfl ⟨rfl, hS.d1.d1⟩
def errors_is.f (a1 a2 : Int) (a3 : Bool) : Option (Bool) := (if a3 = true then (if a1 = a2 then some true else some false) else some false)
theorem errors_is.ok {a1 a2 : Int} {a3 r : Bool} (h : errors_is.f a1 a2 a3 = some r) (hS : St B w (l) hf) :
   Calls prog 92 #[.iface 29 (iV a1), .iface 29 (iV a2), .bool a3] w (Ret fun v w => v = .bool r ∧ St B w (l) hf) := by
 have h := Holds.of h
 refine en func92 rfl ntmps92 rfl (sr (pn 1 rfl (ln (RC.block (RC.unroll (RQ.round (RC.block (RC.seq (sr (pn 2 rfl ?_))))))))))
 refine RL.iteB 15 rfl h (fun hc10 h => ?_) fun hc10 h => ?_
 next =>
  refine pn 2 rfl (RL.sg (Vl.ifaceInt rfl rfl underlying108 underlying29 type29 rfl) rfl rfl (pn 1 rfl (ln ?_)))
  refine RC.iteP 19 rfl h (fun hc11 h => ?_) fun hc11 h => ?_
  next =>
   refine jtr (pn 1 rfl (lr (RQ.ret (ir (RQ.inB_ret ?_)))))
   obtain rfl := h.some
   exact rt results92 rfl ⟨rfl, hS⟩
  refine jfs (RC.seq (sr (pn 1 rfl (tno underlying227 rfl rfl (pn 5 rfl (lnsr (pn 6 rfl (ln ?_))))))))
  refine jfs (sr (pn 1 rfl (ln (RC.block (sr (tno underlying222 rfl rfl (pn 2 rfl (ln (jf ?_)))))))))
  refine sr (tno underlying224 rfl rfl (pn 2 rfl (ln (jf (sr (pn 1 rfl (lnsr (pn 1 rfl (RL.nil ?_)))))))))
  refine tr (RQ.inB_ret (ir (RQ.inB_ret ?_)))
  obtain rfl := h.some
  exact rt results92 rfl ⟨rfl, hS⟩
 refine pn 4 rfl (ln (jfs (RC.seq (sr (pn 1 rfl (tno underlying227 rfl rfl (pn 5 rfl (lnsr ?_))))))))
 refine pn 6 rfl (ln (jfs (sr (pn 1 rfl (ln (RC.block (sr (tno underlying222 rfl rfl (pn 2 rfl ?_)))))))))
 refine ln (jf (sr (tno underlying224 rfl rfl (pn 2 rfl (ln (jf (sr (pn 1 rfl (ln (RC.seq ?_))))))))))
 refine RC.region (pn 1 rfl (lr (RQ.inB_ret (ir (RQ.inB_ret ?_)))))
 obtain rfl := h.some
 exact rt results92 rfl ⟨rfl, hS⟩
def errors_Is.f (a1 a2 : Int) : Option (Bool) := ((errors_is.f a1 a2 true).bind fun t5 => some t5)
theorem errors_Is.ok {a1 a2 : Int} {r : Bool} (h : errors_Is.f a1 a2 = some r) (hS : St B w (l) hf) :
   Calls prog 44 #[.iface 29 (iV a1), .iface 29 (iV a2)] w (Ret fun v w => v = .bool r ∧ St B w (l) hf) := by
 have h := Holds.of h
 refine en func44 rfl ntmps44 rfl (sr (pn 1 rfl (ln (RC.seq (sr (pn 1 rfl (RL.s (Vl.bn false rfl rfl) rfl (pn 2 rfl (RL.sg (Vl.bn false rfl rfl) rfl rfl (pn 1 rfl (ln ?_)))))))))))
 refine jfs (sr (pn 1 rfl (RL.s (Vl.eX [.tmp 15] (.iface 215 (.agg #[.pointer (some ⟨1, 29, none⟩)])) Ex1 func91 rfl) rfl (RL.s (Vl.iX [] (.bool true) (.agg #[.pointer (some ⟨1, 29, none⟩)]) Ex7 func237 rfl rfl) rfl (pn 1 rfl (lnsr (pn 3 rfl (cF (fun _ hg => errors_is.ok hg hS) call92 h rfl rfl rfl ?_))))))))
 rintro t5 h _ w ⟨rfl, hS⟩
 refine pn 1 rfl (lr ?_)
 obtain rfl := h.some
 exact rt results44 rfl ⟨rfl, hS⟩
def code_shapes.f  : Option (Unit) := some ()
theorem code_shapes.ok {r : Unit} (h : code_shapes.f = some r) (hS : St B w (l) hf) :
   Calls prog 137 #[] w (Ret fun v w => v = .agg #[.string lit_2d2d2d, .string lit_726e2d, .string lit_72722d, .string lit_rrr, .string lit_rrr, .string lit_rrr, .string lit_rrr, .string lit_rrr, .string lit_rrr, .string lit_rrr, .string lit_702d2d, .string lit_72702d, .string lit_rrr, .string lit_72722d, .string lit_722d2d, .string lit_722d2d, .string lit_722d2d] ∧ St B w (l) hf) := by
 have h := Holds.of h
 refine en func137 rfl ntmps137 rfl (sr (rr [0] hS ?_))
 refine fun b2 => it fun w hS => lnsr (RL.s (Vl.build (v := .agg #[.string lit_2d2d2d, .string lit_726e2d, .string lit_72722d, .string lit_rrr, .string lit_rrr, .string lit_rrr, .string lit_rrr, .string lit_rrr, .string lit_rrr, .string lit_rrr, .string lit_702d2d, .string lit_72702d, .string lit_rrr, .string lit_72722d, .string lit_722d2d, .string lit_722d2d, .string lit_722d2d]) (parts := [(0, .const (.string lit_2d2d2d)), (1, .const (.string lit_726e2d)), (2, .const (.string lit_72722d)), (3, .const (.string lit_rrr)), (4, .const (.string lit_rrr)), (5, .const (.string lit_rrr)), (6, .const (.string lit_rrr)), (7, .const (.string lit_rrr)), (8, .const (.string lit_rrr)), (9, .const (.string lit_rrr)), (10, .const (.string lit_702d2d)), (11, .const (.string lit_72702d)), (12, .const (.string lit_rrr)), (13, .const (.string lit_72722d)), (14, .const (.string lit_722d2d)), (15, .const (.string lit_722d2d)), (16, .const (.string lit_722d2d))]) rfl (by kernel_rfl)) rfl (rr [1] hS ?_))
 refine it fun w hS => lr ?_
 have e := h.some
 refine rz [0] results137 hS ?_
 exact it ⟨rfl, hS.d0⟩
def code_right.j2 (a1 x22 x23 : Int) : Option (Bool) := (if x22 ≤ a1 then some (decide (a1 ≤ x23)) else some false)
def code_right.f (a1 a2 a3 : Int) : Option (Bool) := (if a2 = 110 then code_right.j2 a1 (-2147483648) 2147483647 else (if a2 = 112 then code_right.j2 a1 0 a3 else (if a2 = 114 then code_right.j2 a1 0 15 else code_right.j2 a1 0 0)))
theorem code_right.ok {a1 a2 a3 : Int} {r : Bool} (h : code_right.f a1 a2 a3 = some r) (hS : St B w (l) hf) :
   Calls prog 138 #[iV a1, .int .u8 a2, iV a3] w (Ret fun v w => v = .bool r ∧ St B w (l) hf) := by
 have h := Holds.of h
 refine en func138 rfl ntmps138 rfl (sr (pn 1 rfl (lnsr (pn 2 rfl (ln ?_)))))
 refine RC.join (fun (s : Int × Int) a w => ∃ x22 x23, s = (x22, x23) ∧ Holds (· = r) (code_right.j2 a1 x22 x23) ∧ Has 25 [(0, iV a1), (7, iV x22), (8, iV x23)] a ∧ St B w (l) hf) ?_ ?_
 · rintro _ a w ⟨x22, x23, rfl, h, ha, hS⟩
   refine ro ha (sr (pn 4 rfl ?_))
   refine RL.iteP 20 rfl h (fun hc24 h => ?_) fun hc24 h => ?_
   next =>
    refine pn 5 rfl (lr ?_)
    cases h.some
    exact rt results138 rfl ⟨rfl, hS⟩
   refine pn 5 rfl (lr ?_)
   obtain rfl := h.some
   exact rt results138 rfl ⟨rfl, hS⟩
 refine sr (pn 1 rfl (ln (RC.block (RC.seq (RC.block (RC.seq (RC.block (RC.seq (RC.block (RC.seq (RC.block (RC.seq (RC.seq ?_)))))))))))))
 refine sr (pn 2 rfl (ln ?_))
 refine RC.iteP 10 rfl h (fun hc26 h => ?_) fun hc26 h => ?_
 next =>
  refine jt (RC.exit (RQ.exitT (RQ.exitT (RQ.inB_hit (tsr (pn 2 rfl (ln (RC.exit (RQ.inB_miss rfl (RQ.exitT (RQ.inB_miss rfl (RQ.exitT ?_))))))))))))
  refine RQ.inB_miss rfl (RQ.exitT (RQ.inB_hit ?_))
  exact fun a ha => ⟨_, _, _, rfl, h, ha.tE rfl, hS⟩
 refine jfs (RC.seq (sr (pn 2 rfl (ln ?_))))
 refine RC.iteP 12 rfl h (fun hc28 h => ?_) fun hc28 h => ?_
 next =>
  refine jt (RC.exit (RQ.exitT (RQ.exitT (RQ.inB_miss rfl (RQ.exitT (RQ.inB_hit (tsr (pn 2 rfl (ln (RC.exit (RQ.inB_miss rfl (RQ.exitT ?_))))))))))))
  refine RQ.inB_miss rfl (RQ.exitT (RQ.inB_hit ?_))
  exact fun a ha => ⟨_, _, _, rfl, h, ha.tE rfl, hS⟩
 refine jfs (sr (pn 2 rfl (ln ?_)))
 refine RC.iteP 14 rfl h (fun hc29 h => ?_) fun hc29 h => ?_
 next =>
  refine jt (RC.exit (RQ.exitT (RQ.inB_miss rfl (RQ.exitT (RQ.inB_miss rfl (RQ.exitT (RQ.inB_hit (RQ.then_n (RC.region (pn 1 rfl (RL.nil (RQ.inB_n (tsr ?_)))))))))))))
  refine pn 1 rfl (ln (RC.exit (RQ.inB_hit ?_)))
  exact fun a ha => ⟨_, _, _, rfl, h, ha.tE rfl, hS⟩
 refine jfs (RC.exit (RQ.inB_miss rfl (RQ.exitT (RQ.inB_miss rfl (RQ.exitT (RQ.inB_miss rfl (RQ.exitT (RQ.inB_hit (tsr (pn 1 rfl (RL.nil ?_)))))))))))
 refine RQ.then_n (RC.exit (RQ.inB_hit ?_))
 exact fun a ha => ⟨_, _, _, rfl, h, ha.tE rfl, hS⟩
def code_may.f (a1 : api_Instr) (a2 : Int) : Option (Bool) := (if a1.Op < 0 then some false else (if 17 ≤ a1.Op then some false else ((code_shapes.f).bind fun _ => (if 0 ≤ a1.Op ∧ a1.Op < 17 then (if 0 < ((nth ([lit_2d2d2d, lit_726e2d, lit_72722d, lit_rrr, lit_rrr, lit_rrr, lit_rrr, lit_rrr, lit_rrr, lit_rrr, lit_702d2d, lit_72702d, lit_rrr, lit_72722d, lit_722d2d, lit_722d2d, lit_722d2d] : List ByteArray) a1.Op).size : Int) then ((code_right.f a1.A (bt (nth ([lit_2d2d2d, lit_726e2d, lit_72722d, lit_rrr, lit_rrr, lit_rrr, lit_rrr, lit_rrr, lit_rrr, lit_rrr, lit_702d2d, lit_72702d, lit_rrr, lit_72722d, lit_722d2d, lit_722d2d, lit_722d2d] : List ByteArray) a1.Op) 0) a2).bind fun t33 => (if t33 = true then (if 1 < ((nth ([lit_2d2d2d, lit_726e2d, lit_72722d, lit_rrr, lit_rrr, lit_rrr, lit_rrr, lit_rrr, lit_rrr, lit_rrr, lit_702d2d, lit_72702d, lit_rrr, lit_72722d, lit_722d2d, lit_722d2d, lit_722d2d] : List ByteArray) a1.Op).size : Int) then ((code_right.f a1.B (bt (nth ([lit_2d2d2d, lit_726e2d, lit_72722d, lit_rrr, lit_rrr, lit_rrr, lit_rrr, lit_rrr, lit_rrr, lit_rrr, lit_702d2d, lit_72702d, lit_rrr, lit_72722d, lit_722d2d, lit_722d2d, lit_722d2d] : List ByteArray) a1.Op) 1) a2).bind fun t37 => (if t37 = true then (if 2 < ((nth ([lit_2d2d2d, lit_726e2d, lit_72722d, lit_rrr, lit_rrr, lit_rrr, lit_rrr, lit_rrr, lit_rrr, lit_rrr, lit_702d2d, lit_72702d, lit_rrr, lit_72722d, lit_722d2d, lit_722d2d, lit_722d2d] : List ByteArray) a1.Op).size : Int) then ((code_right.f a1.C (bt (nth ([lit_2d2d2d, lit_726e2d, lit_72722d, lit_rrr, lit_rrr, lit_rrr, lit_rrr, lit_rrr, lit_rrr, lit_rrr, lit_702d2d, lit_72702d, lit_rrr, lit_72722d, lit_722d2d, lit_722d2d, lit_722d2d] : List ByteArray) a1.Op) 2) a2).bind fun t41 => some t41) else none) else some false)) else none) else some false)) else none) else none))))
theorem code_may.ok {a1 : api_Instr} {a2 : Int} {r : Bool} (h : code_may.f a1 a2 = some r) (hS : St B w (l) hf) :
   Calls prog 133 #[.agg (C_api_Instr a1).toArray, iV a2] w (Ret fun v w => v = .bool r ∧ St B w (l) hf) := by
 have h := Holds.of h
 refine en func133 rfl ntmps133 rfl (sr (rr [0, 0] hS ?_))
 refine fun b23 => it fun w hS => ln (RC.seq (sr (rr [0, 1, 0, 0] hS ?_)))
 refine it fun w hS => RL.iteP 9 rfl h (fun hc26 h => ?_) fun hc26 h => ?_
 next =>
  refine pn 4 rfl (ln (jtr (pn 1 rfl (lr (RQ.ret ?_)))))
  obtain rfl := h.some
  exact rt results133 rfl ⟨rfl, hS.d0⟩
 refine rr [0, 1, 0, 0] hS ?_
 refine it fun w hS => ln ?_
 refine RC.iteP 13 rfl h (fun hc27 h => ?_) fun hc27 h => ?_
 next =>
  refine jtr (pn 1 rfl (lr (RQ.ret ?_)))
  obtain rfl := h.some
  exact rt results133 rfl ⟨rfl, hS.d0⟩
 refine jfs (RC.seq (dr [3, 7, 2, 11, 14] [3, 4] hS fun w hS => rq [0, 1] hS ?_))
 refine it ?_
 obtain ⟨t28, hg29, h⟩ := h.bind
 have hc := code_shapes.ok hg29 hS
 refine RP.e 0 rfl (OW.callF (ls := []) rfl call137 hc) rfl rfl ?_
 rintro _ w ⟨rfl, hS⟩
 refine ⟨kp ⟨fun _ => hS, trivial⟩, ?_⟩
 obtain ⟨⟨hq30, hq31⟩, h⟩ := h.req
 refine RP.v1 3 rfl (Vl.indexMap (f := Value.string) (l := ([lit_2d2d2d, lit_726e2d, lit_72722d, lit_rrr, lit_rrr, lit_rrr, lit_rrr, lit_rrr, lit_rrr, lit_rrr, lit_702d2d, lit_72702d, lit_rrr, lit_72722d, lit_722d2d, lit_722d2d, lit_722d2d] : List ByteArray)) underlying279 sizeOf9 isAgg9 rfl rfl rfl hq30 hq31) rfl rfl (rq [0] hS ?_)
 refine it (RP.nil (RQ.then_n (RC.seq (dr [0, 4, 6, 10, 12, 17, 18, 21, 25, 27, 31, 33, 38, 39, 42, 45, 49, 51, 55, 59, 62, 65, 68] [20, 21, 22] hS fun w hS => rq [0, 1, 0] hS ?_))))
 refine it ?_
 obtain ⟨hq32, h⟩ := h.req
 refine RP.s 0 3 rfl rfl hS (fun w hS => Vl.indexS underlying9 rfl rfl (by decide) hq32) rfl (pp 1 rfl ?_)
 obtain ⟨t33, hg34, h⟩ := h.bind
 have hc := code_right.ok hg34 hS
 refine RP.e 5 rfl (OW.callF (ls := [.tmp 19, .tmp 21, .tmp 22]) rfl call138 hc) rfl rfl ?_
 rintro _ w ⟨rfl, hS⟩
 refine ⟨kp ⟨fun _ => hS, trivial⟩, ?_⟩
 refine pp 1 rfl ?_
 refine RP.iteB 24 rfl h (fun hc35 h => ?_) fun hc35 h => ?_
 next =>
  refine rq [0, 1, 0] hS ?_
  refine it ?_
  obtain ⟨hq36, h⟩ := h.req
  refine RP.sg 0 10 rfl rfl hS (fun w hS => Vl.indexS underlying9 rfl rfl (by decide) hq36) rfl rfl (pp 1 rfl ?_)
  obtain ⟨t37, hg38, h⟩ := h.bind
  have hc := code_right.ok hg38 hS
  refine RP.e 12 rfl (OW.callF (ls := [.tmp 26, .tmp 28, .tmp 29]) rfl call138 hc) rfl rfl ?_
  rintro _ w ⟨rfl, hS⟩
  refine ⟨kp ⟨fun _ => hS, trivial⟩, ?_⟩
  refine pp 2 rfl ?_
  refine RP.iteB 32 rfl h (fun hc39 h => ?_) fun hc39 h => ?_
  next =>
   refine rq [0, 1, 0] hS ?_
   refine it ?_
   obtain ⟨hq40, h⟩ := h.req
   refine RP.sg 0 18 rfl rfl hS (fun w hS => Vl.indexS underlying9 rfl rfl (by decide) hq40) rfl rfl (rq [0] hS ?_)
   refine it ?_
   obtain ⟨t41, hg42, h⟩ := h.bind
   have hc := code_right.ok hg42 hS
   refine RP.e 20 rfl (OW.callF (ls := [.tmp 34, .tmp 36, .tmp 37]) rfl call138 hc) rfl rfl ?_
   rintro _ w ⟨rfl, hS⟩
   refine ⟨kp ⟨(by intro hx; cases hx), trivial⟩, ?_⟩
   refine rq [0, 0] hS ?_
   refine it (RP.nil (tr ?_))
   obtain rfl := h.some
   exact rt results133 rfl ⟨rfl, hS.d0⟩
  refine rq [0, 0, 0, 0, 0, 0, 0, 0] hS ?_
  refine it (RP.nil (tr ?_))
  obtain rfl := h.some
  exact rt results133 rfl ⟨rfl, hS.d0⟩
 refine rq [0, 0, 0, 0, 0, 0, 0, 0, 0, 0, 0, 0, 0, 0, 0, 0] hS ?_
 refine it (RP.nil (tr ?_))
 obtain rfl := h.some
 exact rt results133 rfl ⟨rfl, hS.d0⟩
def code_check.l2b (a1 : List api_Instr) : Int → Option ((Int) ⊕ ((Int) ⊕ (Int × Int) ⊕ (Unit)))
 | (x66) => (if x66 < (a1.length : Int) then (if 0 ≤ x66 then ((code_may.f (nth a1 x66) (a1.length : Int)).bind fun t93 => (if t93 = true then some (.inl (IntKind.i64.wrap (x66 + 1))) else some (.inr (.inr (.inl (x66, 130)))))) else none) else some (.inr (.inr (.inr (())))))
def code_check.l2 (a1 : List api_Instr) (s : Int) : Option ((Int) ⊕ (Int × Int) ⊕ (Unit)) := loopR (code_check.l2b a1) s
def code_check.f (a1 : List api_Instr) : Option ((Int) ⊕ (Int × Int) ⊕ (Unit)) := (if 256 < (a1.length : Int) then some (.inl 2) else code_check.l2 a1 (0))
theorem code_check.ok {a1 : List api_Instr} {A2 : Option Addr} {c3 : Nat} (hr4 : SlR E_api_Instr.rep hf A2 c3 a1) {r : (Int) ⊕ (Int × Int) ⊕ (Unit)} (h : code_check.f a1 = some r) (hS : St B w (l) hf) :
   Calls prog 128 #[sV A2 a1 c3] w (Ret fun v w => match (generalizing := false) r with | .inl r_ => v = .iface 29 (iV r_) ∧ St B w (l) hf | .inr (.inl r_) => ∃ (b_1 : Nat), v = .iface 271 (pV b_1) ∧ St B w (Cl b_1 [iV r_.1, .iface 29 (iV r_.2)] 273 :: l) hf | .inr (.inr (r_)) => v = .nilIface ∧ St B w (l) hf) := by
 have h := Holds.of h
 refine en func128 rfl ntmps128 rfl (sr (pn 1 rfl (ln (RC.seq (sr (r0 3 rfl (ln ?_)))))))
 refine RC.iteP 7 rfl h (fun hc52 h => ?_) fun hc52 h => ?_
 next =>
  refine jtr (r0 2 rfl (lr (RQ.ret ?_)))
  cases h.some
  exact rt results128 rfl ⟨rfl, hS⟩
 refine jfs (RC.seq (sr (r0 3 rfl (ln (RC.block (fun a ha => lp h (fun (s : Int) a w => ∃ x66, s = (x66) ∧ Has 27 [(0, sV A2 a1 c3), (9, sV A2 a1 c3), (10, iV (a1.length : Int)), (11, iV x66)] a ∧ St B w (l) hf) ⟨_, rfl, ha.tE rfl, hS⟩ ?_))))))
 rintro G82 x66 a w ⟨_, rfl, ha, hS⟩ h
 refine ro ha (sr (pn 1 rfl (ln (RC.seq ?_))))
 refine RC.iteP 12 rfl h (fun hc84 h => ?_) fun hc84 h => ?_
 next =>
  refine jt (sk (RC.seq (RC.block (sr (pn 1 rfl ?_)))))
  obtain ⟨hq91, h⟩ := h.req
  refine RL.s (Vl.indexAddr underlying89 sizeOf269 rfl rfl ((hr4.2.world hS.sub).adr hq91 hc84) hq91 hc84 rfl) rfl (RL.s (Vl.loadA isAgg269 sizeOf269 rfl rfl ((hr4.2.world hS.sub).cells hq91 hc84)) rfl (rr [0, 0, 1] hS ?_))
  refine fun b92 => it fun w hS => lnsr (rr [1, 0, 0] hS ?_)
  refine it fun w hS => cF (fun _ hg => code_may.ok hg hS) call133 h rfl rfl rfl ?_
  rintro t93 h _ w ⟨rfl, hS⟩
  refine pn 1 rfl (ln ?_)
  refine RC.iteM 20 rfl h (fun hc95 h => ?_) fun hc95 h => ?_
  next =>
   refine jf (RC.skip (RQ.inB_n (RQ.then_n (RC.region (pn 2 rfl (RL.nil ?_))))))
   exact fun a ha => ⟨_, h.some, _, rfl, ha.tE rfl, hS.d0⟩
  refine jtr (rr [0, 0, 0, 0, 0, 0] hS ?_)
  refine fun b96 => it fun w hS => lr (ir ?_)
  have h := h.inrS
  refine RQ.ret (ir ?_)
  cases h.some
  exact rt results128 rfl ⟨b96, rfl, hS.d1⟩
 refine jf (RC.exit (RQ.exitT ?_))
 have h := h.inrS
 refine RQ.exitT (RQ.inB_hit (tsr (pn 1 rfl (lr ?_))))
 cases h.some
 exact rt results128 rfl ⟨rfl, hS⟩
def code_wrong_Unwrap.f (a2 a3 : Int) : Option (Int) := some a3
theorem code_wrong_Unwrap.ok {a2 a3 r : Int} {b1 : Nat} (h : code_wrong_Unwrap.f a2 a3 = some r) (hS : St B w (Cl b1 [iV a2, .iface 29 (iV a3)] 273 :: l) hf) :
   Calls prog 253 #[pV b1] w (Ret fun v w => v = .iface 29 (iV r) ∧ St B w (Cl b1 [iV a2, .iface 29 (iV a3)] 273 :: l) hf) := by
 have h := Holds.of h
 refine en func253 rfl ntmps253 rfl (sr (pn 1 rfl (lnsr (rr [0, 0, 0, 1, 0] hS ?_))))
 refine it fun w hS => lr ?_
 obtain rfl := h.some
 exact rt results253 rfl ⟨rfl, hS⟩
def errors_is_2.f (a2 a3 a4 : Int) (a5 : Bool) : Option (Bool) := (if a5 = true then ((code_wrong_Unwrap.f a2 a3).bind fun t16 => (if t16 = a4 then some true else some false)) else ((code_wrong_Unwrap.f a2 a3).bind fun t20 => some false))
theorem errors_is_2.ok {a2 a3 a4 : Int} {a5 r : Bool} {b1 : Nat} (h : errors_is_2.f a2 a3 a4 a5 = some r) (hS : St B w (Cl b1 [iV a2, .iface 29 (iV a3)] 273 :: l) hf) :
   Calls prog 92 #[.iface 271 (pV b1), .iface 29 (iV a4), .bool a5] w (Ret fun v w => v = .bool r ∧ St B w (Cl b1 [iV a2, .iface 29 (iV a3)] 273 :: l) hf) := by
 have h := Holds.of h
 refine en func92 rfl ntmps92 rfl (sr (pn 1 rfl (ln (RC.block (RC.unroll (RQ.round (RC.block (RC.seq (sr (pn 2 rfl ?_))))))))))
 refine RL.iteB 15 rfl h (fun hc15 h => ?_) fun hc15 h => ?_
 next =>
  refine pn 2 rfl (RL.sg (Vl.ifaceNeq rfl rfl underlying108 rfl) rfl rfl (pn 1 rfl (ln (jfs (RC.seq (sr (pn 1 rfl (tno underlying227 rfl rfl (pn 5 rfl (ln ?_))))))))))
  refine sr (pn 6 rfl (ln (jfs (sr (pn 1 rfl (ln (RC.block (sr ?_))))))))
  refine tys underlying222 rfl rfl (pn 2 rfl (ln (jtr (pn 1 rfl (lnsr (pn 1 rfl ?_))))))
  obtain ⟨t16, hg17, h⟩ := h.bind
  have hc := code_wrong_Unwrap.ok hg17 hS
  refine RL.e (OW.invoke (F := 253) (u' := pV b1) (ls := []) rfl rfl (fun w => by kernel_rfl) call253 rfl hc) rfl rfl ?_
  rintro _ w ⟨rfl, hS⟩
  refine pn 1 rfl (lnsr (pn 1 rfl (RL.s (Vl.bn false rfl rfl) rfl (ln (jf (RC.skip (RQ.inB_n (RQ.inB_n (RQ.then_n (RQ.round (RC.block ?_)))))))))))
  refine RC.seq (sr (pn 2 rfl (RL.re 15 rfl (congrArg Value.bool (id hc15)) (pn 2 rfl (RL.sg (Vl.ifaceInt rfl rfl underlying108 underlying29 type29 rfl) rfl rfl (pn 1 rfl (ln ?_)))))))
  refine RC.iteP 19 rfl h (fun hc19 h => ?_) fun hc19 h => ?_
  next =>
   refine jtr (pn 1 rfl (lr (RQ.ret (ir (RQ.inB_ret ?_)))))
   obtain rfl := h.some
   exact rt results92 rfl ⟨rfl, hS⟩
  refine jfs (RC.seq (sr (pn 1 rfl (tno underlying227 rfl rfl (pn 5 rfl (lnsr (pn 6 rfl (ln ?_))))))))
  refine jfs (sr (pn 1 rfl (ln (RC.block (sr (tno underlying222 rfl rfl (pn 2 rfl (ln (jf ?_)))))))))
  refine sr (tno underlying224 rfl rfl (pn 2 rfl (ln (jf (sr (pn 1 rfl (lnsr (pn 1 rfl (RL.nil ?_)))))))))
  refine tr (RQ.inB_ret (ir (RQ.inB_ret ?_)))
  obtain rfl := h.some
  exact rt results92 rfl ⟨rfl, hS⟩
 refine pn 4 rfl (ln (jfs (RC.seq (sr (pn 1 rfl (tno underlying227 rfl rfl (pn 5 rfl (lnsr ?_))))))))
 refine pn 6 rfl (ln (jfs (sr (pn 1 rfl (ln (RC.block (sr (tys underlying222 rfl rfl (pn 2 rfl ?_)))))))))
 refine ln (jtr (pn 1 rfl (lnsr (pn 1 rfl ?_))))
 obtain ⟨t20, hg21, h⟩ := h.bind
 have hc := code_wrong_Unwrap.ok hg21 hS
 refine RL.e (OW.invoke (F := 253) (u' := pV b1) (ls := []) rfl rfl (fun w => by kernel_rfl) call253 rfl hc) rfl rfl ?_
 rintro _ w ⟨rfl, hS⟩
 refine pn 1 rfl (lnsr (pn 1 rfl (RL.s (Vl.bn false rfl rfl) rfl (ln (jf (RC.skip (RQ.inB_n (RQ.inB_n (RQ.then_n (RQ.round (RC.block ?_)))))))))))
 refine RC.seq (sr (pn 2 rfl (RL.re 15 rfl (congrArg Value.bool (eq_false_of hc15)) (pn 4 rfl (ln (jfs (RC.seq (sr (pn 1 rfl (tno underlying227 rfl rfl ?_))))))))))
 refine pn 5 rfl (lnsr (pn 6 rfl (ln (jfs (sr (pn 1 rfl (ln ?_)))))))
 refine RC.block (sr (tno underlying222 rfl rfl (pn 2 rfl (ln (jf (sr (tno underlying224 rfl rfl (pn 2 rfl (ln (jf (RC.seq ?_)))))))))))
 refine RC.region (pn 1 rfl (lnsr (pn 1 rfl (lr (RQ.inB_ret (ir (RQ.inB_ret ?_)))))))
 obtain rfl := h.some
 exact rt results92 rfl ⟨rfl, hS⟩
def errors_Is_2.f (a2 a3 a4 : Int) : Option (Bool) := ((errors_is_2.f a2 a3 a4 true).bind fun t7 => some t7)
theorem errors_Is_2.ok {a2 a3 a4 : Int} {b1 : Nat} {r : Bool} (h : errors_Is_2.f a2 a3 a4 = some r) (hS : St B w (Cl b1 [iV a2, .iface 29 (iV a3)] 273 :: l) hf) :
   Calls prog 44 #[.iface 271 (pV b1), .iface 29 (iV a4)] w (Ret fun v w => v = .bool r ∧ St B w (Cl b1 [iV a2, .iface 29 (iV a3)] 273 :: l) hf) := by
 have h := Holds.of h
 refine en func44 rfl ntmps44 rfl (sr (pn 1 rfl (ln (RC.seq (sr (pn 1 rfl (RL.s (Vl.bn false rfl rfl) rfl (pn 2 rfl (RL.sg (Vl.bn false rfl rfl) rfl rfl (pn 1 rfl (ln ?_)))))))))))
 refine jfs (sr (pn 1 rfl (RL.s (Vl.eX [.tmp 15] (.iface 215 (.agg #[.pointer (some ⟨1, 29, none⟩)])) Ex1 func91 rfl) rfl (RL.s (Vl.iX [] (.bool true) (.agg #[.pointer (some ⟨1, 29, none⟩)]) Ex7 func237 rfl rfl) rfl (pn 1 rfl (lnsr (pn 3 rfl (cF (fun _ hg => errors_is_2.ok hg hS) call92 h rfl rfl rfl ?_))))))))
 rintro t7 h _ w ⟨rfl, hS⟩
 refine pn 1 rfl (lr ?_)
 obtain rfl := h.some
 exact rt results44 rfl ⟨rfl, hS⟩
def errors_Is_3.f (a1 : Int) : Option (Bool) := some false
theorem errors_Is_3.ok {a1 : Int} {r : Bool} (h : errors_Is_3.f a1 = some r) (hS : St B w (l) hf) :
   Calls prog 44 #[.nilIface, .iface 29 (iV a1)] w (Ret fun v w => v = .bool r ∧ St B w (l) hf) := by
 have h := Holds.of h
 refine en func44 rfl ntmps44 rfl (sr (pn 1 rfl (ln (RC.seq (sr (pn 1 rfl (RL.s (Vl.bn true rfl rfl) rfl (pn 4 rfl (ln (jt (RC.seq ?_)))))))))))
 refine RC.region (pn 2 rfl (RL.s (Vl.bn false rfl rfl) rfl (pn 1 rfl (lr (RQ.ret ?_)))))
 obtain rfl := h.some
 exact rt results44 rfl ⟨rfl, hS⟩
def code_Check.f (a1 : List api_Instr) : Option (Int) := ((code_check.f a1).bind fun t20 => match t20 with | .inl y22 => ((errors_Is.f y22 2).bind fun t23 => (if t23 = true then some 2 else some 130)) | .inr (.inl (y26, y27)) => ((errors_Is_2.f y26 y27 2).bind fun t29 => (if t29 = true then some 2 else some 130)) | .inr (.inr (_)) => ((errors_Is_3.f 2).bind fun t32 => (if t32 = true then some 2 else some 0)))
theorem code_Check.ok {a1 : List api_Instr} {A2 : Option Addr} {c3 : Nat} (hr4 : SlR E_api_Instr.rep hf A2 c3 a1) {r : Int} (h : code_Check.f a1 = some r) (hS : St B w (l) hf) :
   Calls prog 113 #[sV A2 a1 c3] w (Ret fun v w => v = iV r ∧ St B w (l) hf) := by
 have h := Holds.of h
 refine en func113 rfl ntmps113 rfl (sr (pn 1 rfl (ln (RC.seq (sr (pn 1 rfl ?_))))))
 obtain ⟨t20, hg21, h⟩ := h.bind
 have hc := code_check.ok hr4 hg21 hS
 rcases t20 with y22 | ⟨y26, y27⟩ | _
 · refine RL.e (OW.callF (ls := [.tmp 4]) rfl call128 hc) rfl rfl ?_
   rintro _ w ⟨rfl, hS⟩
   refine pn 1 rfl (ln (RC.block (sr (r0 2 rfl (cF (fun _ hg => errors_Is.ok hg hS) call44 h rfl rfl rfl ?_)))))
   rintro t23 h _ w ⟨rfl, hS⟩
   refine pn 1 rfl (ln ?_)
   refine RC.iteB 6 rfl h (fun hc25 h => ?_) fun hc25 h => ?_
   next =>
    refine jtr (pn 1 rfl (lr (ir ?_)))
    obtain rfl := h.some
    exact rt results113 rfl ⟨rfl, hS⟩
   refine jf (sr (pn 1 rfl (RL.s (Vl.bn true rfl rfl) rfl (pn 1 rfl (ln (jtr (pn 1 rfl (lr (RQ.inB_ret ?_)))))))))
   refine RQ.ret ?_
   obtain rfl := h.some
   exact rt results113 rfl ⟨rfl, hS⟩
 · refine RL.e (OW.callF (ls := [.tmp 4]) rfl call128 hc) rfl rfl ?_
   rintro _ w ⟨b28, rfl, hS⟩
   refine pn 1 rfl (ln (RC.block (sr (r0 2 rfl (cF (fun _ hg => errors_Is_2.ok hg hS) call44 h rfl rfl rfl ?_)))))
   rintro t29 h _ w ⟨rfl, hS⟩
   refine pn 1 rfl (ln ?_)
   refine RC.iteB 6 rfl h (fun hc31 h => ?_) fun hc31 h => ?_
   next =>
    refine jtr (pn 1 rfl (lr (ir ?_)))
    obtain rfl := h.some
    exact rt results113 rfl ⟨rfl, hS.d0⟩
   refine jf (sr (pn 1 rfl (RL.s (Vl.bn true rfl rfl) rfl (pn 1 rfl (ln (jtr (pn 1 rfl (lr (RQ.inB_ret ?_)))))))))
   refine RQ.ret ?_
   obtain rfl := h.some
   exact rt results113 rfl ⟨rfl, hS.d0⟩
 refine RL.e (OW.callF (ls := [.tmp 4]) rfl call128 hc) rfl rfl ?_
 rintro _ w ⟨rfl, hS⟩
 refine pn 1 rfl (ln (RC.block (sr (r0 2 rfl (cF (fun _ hg => errors_Is_3.ok hg hS) call44 h rfl rfl rfl ?_)))))
 rintro t32 h _ w ⟨rfl, hS⟩
 refine pn 1 rfl (ln ?_)
 refine RC.iteB 6 rfl h (fun hc34 h => ?_) fun hc34 h => ?_
 next =>
  refine jtr (pn 1 rfl (lr (ir ?_)))
  obtain rfl := h.some
  exact rt results113 rfl ⟨rfl, hS⟩
 refine jf (sr (pn 1 rfl (RL.s (Vl.bn false rfl rfl) rfl (pn 1 rfl (ln (jf (RC.skip (RQ.inB_n (tsr (pn 1 rfl (RL.nil ?_)))))))))))
 refine tr ?_
 obtain rfl := h.some
 exact rt results113 rfl ⟨rfl, hS⟩
def errors_Join.f (a3 : model_flaw) (a4 : Int) : Option (model_flaw × Int) := some (a3, a4)
theorem errors_Join.ok {a3 : model_flaw} {a4 : Int} {A1 : Option Addr} {c2 : Nat} {r : model_flaw × Int} (h : errors_Join.f a3 a4 = some r) (hS : St B w (OSl 108 1 (.slice A1 2 c2) 2 [.iface 106 (.agg #[iV a3.at_, iV a3.why]), .iface 29 (iV a4)] :: l) hf) :
   Calls prog 118 #[.slice A1 2 c2] w (Ret fun v w => ∃ (b_1 : Nat) (A_2 : Option Addr) (c_3 : Nat), v = .iface 254 (pV b_1) ∧ St B w (Cl b_1 [.slice A_2 2 c_3] 256 :: OSl 108 1 (.slice A_2 2 c_3) 2 [.iface 106 (.agg #[iV r.1.at_, iV r.1.why]), .iface 29 (iV r.2)] :: OSl 108 1 (.slice A1 2 c2) 2 [.iface 106 (.agg #[iV a3.at_, iV a3.why]), .iface 29 (iV a4)] :: l) hf) := by
 have h := Holds.of h
 refine en func118 rfl ntmps118 rfl (sr (pn 1 rfl (lnsr (pn 1 rfl (ln (RC.seq (sr (r0 3 rfl (RL.nil ?_)))))))))
 refine RQ.then_n (RC.block (RC.unroll (RQ.round (sr (pn 1 rfl (ln (RC.seq (jt (sk (RC.seq (RC.block (RC.seq ?_))))))))))))
 refine RC.region (RL.s (Vl.indexAddr (a'' := (ad A1).add 0) underlying225 sizeOf108 rfl rfl (hS.litAdr 0 rfl (by decide)) (by decide) (by decide) rfl) rfl (RL.s (Vl.load isAgg108 rfl (hS.litCell 0 rfl rfl)) rfl (pn 1 rfl (lnsr (pn 1 rfl (RL.s (Vl.bn true rfl rfl) rfl (ln (jt (RC.region (pn 3 rfl (RL.nil ?_)))))))))))
 refine RQ.inB_n (RQ.then_n (RC.region (pn 2 rfl (ln (RQ.round (sr (pn 1 rfl (ln (RC.seq (jt (sk ?_)))))))))))
 refine RC.seq (RC.block (sr (RL.s (Vl.indexAddr (a'' := (ad A1).add 1) underlying225 sizeOf108 rfl rfl (hS.litAdr 0 rfl (by decide)) (by decide) (by decide) rfl) rfl (RL.s (Vl.load isAgg108 rfl (hS.litCell 0 rfl rfl)) rfl (pn 1 rfl (lnsr (pn 1 rfl (RL.s (Vl.bn true rfl rfl) rfl (ln (jt ?_))))))))))
 refine RC.region (pn 3 rfl (RL.nil (RQ.inB_n (RQ.then_n (RC.region (pn 2 rfl (ln (RQ.round (sr (pn 1 rfl (ln (RC.seq ?_))))))))))))
 refine jf (RC.exit (RQ.exitT (RQ.exitT (RQ.inB_hit (RQ.then_n (RC.seq (sr (pn 2 rfl (ln (jfs (RC.seq ?_)))))))))))
 refine RC.region (pn 1 rfl (RL.e (OW.make0L (c := 2) (sz := 1) hS underlying225 type108 rfl rfl rfl rfl (by decide) (by decide)) rfl rfl ?_))
 rintro _ w ⟨b31, rfl, hS⟩
 refine rr [0, 0, 0] hS ?_
 refine fun b32 => it fun w hS => ln (RC.seq (sr (r0 3 rfl (ln (RC.block (RC.unroll (RQ.round (sr (pn 1 rfl (RL.nil ?_))))))))))
 refine RQ.then_n (RC.seq (jt (sk (RC.seq (RC.block (sr (RL.s (Vl.indexAddr (a'' := (ad A1).add 0) underlying225 sizeOf108 rfl rfl (hS.litAdr 2 rfl (by decide)) (by decide) (by decide) rfl) rfl (RL.s (Vl.load isAgg108 rfl (hS.litCell 2 rfl rfl)) rfl (pn 1 rfl (lnsr ?_))))))))))
 refine pn 1 rfl (RL.s (Vl.bn true rfl rfl) rfl (ln (jt (RC.region (rr [0, 0, 0, 0, 1, 0] hS ?_)))))
 refine it fun w hS => RL.e (OW.buildSliceR (sz := 1) (cs := [.iface 106 (.agg #[iV a3.at_, iV a3.why])]) hS underlying225 zeroValue108 sizeOf108 (parts := [(0, .tmp 39)]) rfl rfl (by decide) (by decide) (by kernel_rfl)) rfl rfl ?_
 rintro _ w ⟨b48, rfl, hS⟩
 refine RL.e (OW.appendL (k := 1) (es := [.iface 106 (.agg #[iV a3.at_, iV a3.why])]) 2 0 hS rfl rfl underlying225 type108 rfl rfl rfl rfl (by decide) (by decide) rfl rfl rfl (by decide) rfl rfl rfl) rfl rfl ?_
 rintro _ w ⟨A49, c50, rfl, hS⟩
 have hS : St B w (_ :: _ :: _ :: _ :: l) hf := hS
 refine rr [0, 0, 3] hS ?_
 refine it fun w hS => RL.nil (RQ.inB_n (RQ.then_n (RC.region (pn 2 rfl (ln (RQ.round (sr (pn 1 rfl (ln (RC.seq (jt ?_)))))))))))
 refine sk (RC.seq (RC.block (sr (RL.s (Vl.indexAddr (a'' := (ad A1).add 1) underlying225 sizeOf108 rfl rfl (hS.litAdr 3 rfl (by decide)) (by decide) (by decide) rfl) rfl (RL.s (Vl.load isAgg108 rfl (hS.litCell 3 rfl rfl)) rfl (pn 1 rfl (lnsr (pn 1 rfl (RL.s (Vl.bn true rfl rfl) rfl (RL.nil ?_))))))))))
 refine RQ.then_n (jt (RC.region (rr [0, 0, 0, 0, 3, 0] hS ?_)))
 refine it fun w hS => RL.e (OW.buildSliceR (sz := 1) (cs := [.iface 29 (iV a4)]) hS underlying225 zeroValue108 sizeOf108 (parts := [(0, .tmp 39)]) rfl rfl (by decide) (by decide) (by kernel_rfl)) rfl rfl ?_
 rintro _ w ⟨b54, rfl, hS⟩
 refine RL.e (OW.appendL (k := 2) (es := [.iface 106 (.agg #[iV a3.at_, iV a3.why]), .iface 29 (iV a4)]) 1 0 hS rfl rfl underlying225 type108 rfl rfl rfl rfl (by decide) (by decide) rfl rfl rfl (by decide) rfl rfl rfl) rfl rfl ?_
 rintro _ w ⟨A55, c56, rfl, hS⟩
 have hS : St B w (_ :: _ :: _ :: _ :: _ :: l) hf := hS
 refine rr [0, 0, 4] hS ?_
 refine it fun w hS => RL.nil (RQ.inB_n (RQ.then_n (RC.region (pn 2 rfl (ln (RQ.round (sr (pn 1 rfl (ln (RC.seq (jf ?_)))))))))))
 refine RC.exit (RQ.exitT (RQ.exitT (RQ.inB_hit (tsr (r0 3 rfl (lr ?_))))))
 cases h.some
 exact rt results118 rfl ⟨b32, A55, c56, rfl, hS.d1.d1.p1⟩
def model_programs.l2b (a1 : api_Model) : Int → Option ((Int) ⊕ ((model_flaw × Int) ⊕ (Unit)))
 | (x150) => (if x150 < (a1.Progs.length : Int) then (if 0 ≤ x150 then ((code_Check.f (nth a1.Progs x150)).bind fun t210 => (if t210 = 0 then some (.inl (IntKind.i64.wrap (x150 + 1))) else ((errors_Join.f (⟨x150, 130⟩ : model_flaw) t210).bind fun (y216, y217) => some (.inr (.inl (y216, y217)))))) else none) else some (.inr (.inr (()))))
def model_programs.l2 (a1 : api_Model) (s : Int) : Option ((model_flaw × Int) ⊕ (Unit)) := loopR (model_programs.l2b a1) s
def model_programs.f (a1 : api_Model) : Option ((model_flaw × Int) ⊕ (Unit)) := model_programs.l2 a1 (0)
theorem model_programs.ok {a1 : api_Model} {A2 A5 A8 : Option Addr} {c3 c6 c9 : Nat} (hr4 : SlR (Rep.sl E_api_Instr.rep) hf A2 c3 a1.Progs) (hr7 : SlR E_api_Link.rep hf A5 c6 a1.Links) (hr10 : SlR E_api_Start.rep hf A8 c9 a1.Starts) {r : (model_flaw × Int) ⊕ (Unit)} (h : model_programs.f a1 = some r) (hS : St B w (l) hf) :
   Calls prog 84 #[.agg (C_api_Model a1 A2 c3 A5 c6 A8 c9).toArray] w (Ret fun v w => match (generalizing := false) r with | .inl r_ => ∃ (b_1 : Nat) (A_2 : Option Addr) (c_3 : Nat), v = .iface 254 (pV b_1) ∧ St B w (Cl b_1 [.slice A_2 2 c_3] 256 :: OSl 108 1 (.slice A_2 2 c_3) 2 [.iface 106 (.agg #[iV r_.1.at_, iV r_.1.why]), .iface 29 (iV r_.2)] :: l) hf | .inr (r_) => v = .nilIface ∧ St B w (l) hf) := by
 have h := Holds.of h
 refine en func84 rfl ntmps84 rfl (sr (rr [0, 0] hS ?_))
 refine fun b116 => it fun w hS => ln (RC.seq (sr (rr [0, 1, 0, 0] hS ?_)))
 refine it fun w hS => ln (RC.block (fun a ha => lp h (fun (s : Int) a w => ∃ x150, s = (x150) ∧ Has 26 [(7, sV A2 a1.Progs c3), (8, iV (a1.Progs.length : Int)), (9, iV x150)] a ∧ St B w (l) hf) ⟨_, rfl, ha.tE rfl, hS.d0⟩ ?_))
 rintro G186 x150 a w ⟨_, rfl, ha, hS⟩ h
 refine ro ha (sr (pn 1 rfl (ln (RC.seq ?_))))
 refine RC.iteP 10 rfl h (fun hc188 h => ?_) fun hc188 h => ?_
 next =>
  refine jt (sk (RC.seq (RC.block (sr (pn 1 rfl ?_)))))
  obtain ⟨hq205, h⟩ := h.req
  refine RL.s (Vl.indexAddr underlying22 sizeOf89 rfl rfl (hr4.2.adr hq205 hc188) hq205 hc188 rfl) rfl ?_
  obtain ⟨_, _, ⟨A206, c207, rfl, hr208⟩, hl209⟩ := hr4.2.elem hq205 hc188
  refine RL.s (Vl.load isAgg89 rfl (cellH_world hS.sub (hl209 0 _ rfl))) rfl (pn 2 rfl (lnsr (pn 1 rfl (cF (fun _ hg => code_Check.ok hr208 hg hS) call113 h rfl rfl rfl ?_))))
  rintro t210 h _ w ⟨rfl, hS⟩
  refine pn 1 rfl (lnsr (pn 2 rfl (ln ?_)))
  refine RC.iteN 17 rfl h (fun hc212 h => ?_) fun hc212 h => ?_
  next =>
   refine jf (RC.skip (RQ.inB_n (RQ.then_n (RC.region (pn 2 rfl (RL.nil ?_))))))
   exact fun a ha => ⟨_, h.some, _, rfl, ha.tE rfl, hS⟩
  refine jtr (r0 5 rfl (RL.e (OW.buildSliceR (sz := 1) (cs := [.iface 106 (.agg #[iV x150, iV 130]), .iface 29 (iV t210)]) hS underlying225 zeroValue108 sizeOf108 (parts := [(0, .tmp 20), (1, .tmp 22)]) rfl rfl (by decide) (by decide) (by kernel_rfl)) rfl rfl ?_))
  rintro _ w ⟨b213, rfl, hS⟩
  refine cF (fun _ hg => errors_Join.ok hg hS) call118 h rfl rfl rfl ?_
  rintro ⟨y216, y217⟩ h _ w ⟨b218, A219, c220, rfl, hS⟩
  refine pn 1 rfl (lr (ir ?_))
  have h := h.inrS
  refine RQ.ret (ir ?_)
  cases h.some
  exact rt results84 rfl ⟨b218, A219, c220, rfl, hS.d2⟩
 refine jf (RC.exit (RQ.exitT ?_))
 have h := h.inrS
 refine RQ.exitT (RQ.inB_hit (tsr (pn 1 rfl (lr ?_))))
 cases h.some
 exact rt results84 rfl ⟨rfl, hS⟩
def errors_joinError_Unwrap.f (a4 : model_flaw) (a5 : Int) : Option (Unit) := some ()
theorem errors_joinError_Unwrap.ok {a4 : model_flaw} {a5 : Int} {b1 c3 : Nat} {A2 : Option Addr} {r : Unit} (h : errors_joinError_Unwrap.f a4 a5 = some r) (hS : St B w (OSl 108 1 (.slice A2 2 c3) 2 [.iface 106 (.agg #[iV a4.at_, iV a4.why]), .iface 29 (iV a5)] :: Cl b1 [.slice A2 2 c3] 256 :: l) hf) :
   Calls prog 250 #[pV b1] w (Ret fun v w => v = .slice A2 2 c3 ∧ St B w (OSl 108 1 (.slice A2 2 c3) 2 [.iface 106 (.agg #[iV a4.at_, iV a4.why]), .iface 29 (iV a5)] :: Cl b1 [.slice A2 2 c3] 256 :: l) hf) := by
 have h := Holds.of h
 refine en func250 rfl ntmps250 rfl (sr (pn 1 rfl (lnsr (rr [0, 0, 0, 2, 0] hS ?_))))
 refine it fun w hS => lr ?_
 exact rt results250 rfl ⟨rfl, hS⟩
def errors_as_3.f (a1 a3 : model_flaw) : Option (Bool × model_flaw) := some (true, a1)
theorem errors_as_3.ok {a1 a3 : model_flaw} {b2 b4 : Nat} {r : Bool × model_flaw} (h : errors_as_3.f a1 a3 = some r) (hS : St B w (Cl b2 [iV a3.at_, iV a3.why] 106 :: Cl b4 [pV b2] 110 :: l) hf) :
   Calls prog 90 #[.iface 106 (.agg #[iV a1.at_, iV a1.why]), .iface 110 (pV b2), .agg #[.pointer (some ⟨1, 110, none⟩), pV b4, .int .u64 150], .iface 215 (.agg #[.pointer (some ⟨1, 106, none⟩)])] w (Ret fun v w => v = .bool r.1 ∧ St B w (Cl b2 [iV r.2.at_, iV r.2.why] 106 :: Cl b4 [pV b2] 110 :: l) hf) := by
 have h := Holds.of h
 refine en func90 rfl ntmps90 rfl (sr (rr [0, 0] hS ?_))
 refine fun b8 => it fun w hS => ln (RC.block (RC.unroll (RQ.round (RC.block (RC.seq (sr (pn 1 rfl (RL.s (Vl.eX [.tmp 16] (.iface 215 (.agg #[.pointer (some ⟨1, 106, none⟩)])) Ex1 func91 rfl) rfl (pn 1 rfl ?_)))))))))
 refine RL.s (Vl.iX [.tmp 18] (.bool true) (.agg #[.pointer (some ⟨1, 106, none⟩)]) Ex2 func236 rfl rfl) rfl (ln (jtr (rr [1] hS ?_)))
 refine it fun w hS => RL.s (Vl.externAt (ls := [.tmp 20]) (v := .agg #[.pointer (some ⟨1, 106, none⟩), pV b2, .int .u64 409]) rfl func119 (by kernel_rfl) (by kernel_rfl) (by kernel_rfl) (e := Extern.ReflectliteValue.method (Extern.ReflectliteValue.valueError "reflectlite.Value.Elem" 0) Extern.ReflectliteValue.elem) (by kernel_rfl) (run_elemV (n := 150) (a := ⟨b4, 0, none⟩) (fun w => by kernel_rfl) underlying110 rfl (hS.cell 2 rfl rfl) (fun w => by kernel_rfl) (fun w => by kernel_rfl))) rfl (pn 1 rfl (RL.e (OW.externNew (ls := [.tmp 22]) (cs := [iV a1.at_, iV a1.why]) (T := 106) (v := fun b => .agg #[.pointer (some ⟨1, 106, none⟩), pV b, .int .u64 153]) hS rfl func87 (by kernel_rfl) (by kernel_rfl) (by kernel_rfl) (e := fun args => Extern.ReflectliteValue.unpack (args.getD 0 (.tuple #[]))) (by kernel_rfl) (fun w => by kernel_rfl)) rfl rfl ?_))
 rintro _ w ⟨b10, rfl, hS⟩
 refine RL.e (OW.setV (ls := [.tmp 21, .tmp 23]) (val := .agg #[iV a1.at_, iV a1.why]) (vs := [iV a1.at_, iV a1.why]) (n := 409) (m := 153) (a2 := ⟨b10, 0, none⟩) 2 hS rfl rfl func120 (by kernel_rfl) (by kernel_rfl) (by kernel_rfl) (by kernel_rfl) (fun w => by kernel_rfl) (fun w => by kernel_rfl) rfl (fun w => by kernel_rfl) (run_loadVarA (vs := [iV a1.at_, iV a1.why]) isAgg106 sizeOf106 rfl (hS.cellsAt 0 rfl rfl)) rfl sizeOf106 rfl rfl rfl rfl) rfl rfl ?_
 rintro _ w ⟨rfl, hS⟩
 have hS : St B w (_ :: _ :: _ :: _ :: l) hf := hS
 refine lnsr (pn 1 rfl (lr (RQ.ret (ir (RQ.inB_ret ?_)))))
 cases h.some
 exact rt results90 rfl ⟨rfl, hS.d0.d0⟩
def errors_as_2.f (a4 : model_flaw) (a5 : Int) (a7 : model_flaw) : Option (Bool × model_flaw) := ((errors_joinError_Unwrap.f a4 a5).bind fun _ => ((errors_as_3.f a4 a7).bind fun (y38, y39) => (if y38 = true then some (true, y39) else ((errors_as.f a5 y39).bind fun t44 => (if t44 = true then some (true, y39) else some (false, y39))))))
theorem errors_as_2.ok {a4 a7 : model_flaw} {a5 : Int} {b1 c3 b6 b8 : Nat} {A2 : Option Addr} {r : Bool × model_flaw} (h : errors_as_2.f a4 a5 a7 = some r) (hS : St B w (OSl 108 1 (.slice A2 2 c3) 2 [.iface 106 (.agg #[iV a4.at_, iV a4.why]), .iface 29 (iV a5)] :: Cl b1 [.slice A2 2 c3] 256 :: Cl b6 [iV a7.at_, iV a7.why] 106 :: Cl b8 [pV b6] 110 :: l) hf) :
   Calls prog 90 #[.iface 254 (pV b1), .iface 110 (pV b6), .agg #[.pointer (some ⟨1, 110, none⟩), pV b8, .int .u64 150], .iface 215 (.agg #[.pointer (some ⟨1, 106, none⟩)])] w (Ret fun v w => v = .bool r.1 ∧ St B w (OSl 108 1 (.slice A2 2 c3) 2 [.iface 106 (.agg #[iV a4.at_, iV a4.why]), .iface 29 (iV a5)] :: Cl b1 [.slice A2 2 c3] 256 :: Cl b6 [iV r.2.at_, iV r.2.why] 106 :: Cl b8 [pV b6] 110 :: l) hf) := by
 have h := Holds.of h
 refine en func90 rfl ntmps90 rfl (sr (rr [0, 0] hS ?_))
 refine fun b28 => it fun w hS => ln (RC.block (RC.unroll (RQ.round (RC.block (RC.seq (sr (pn 1 rfl (RL.s (Vl.eX [.tmp 16] (.iface 215 (.agg #[.pointer (some ⟨1, 254, none⟩)])) Ex1 func91 rfl) rfl (pn 1 rfl ?_)))))))))
 refine RL.s (Vl.iX [.tmp 18] (.bool false) (.agg #[.pointer (some ⟨1, 254, none⟩)]) Ex2 func236 rfl rfl) rfl (ln (jfs (RC.seq (sr (pn 1 rfl (tno underlying219 rfl rfl (pn 5 rfl (lnsr ?_))))))))
 refine pn 6 rfl (ln (jfs (sr (pn 1 rfl (ln (RC.block (sr (tno underlying222 rfl rfl (pn 2 rfl ?_)))))))))
 refine ln (jf (sr (tys underlying224 rfl rfl (pn 2 rfl (ln (jtr (pn 1 rfl (ln (RC.seq ?_)))))))))
 refine sr (pn 1 rfl ?_)
 obtain ⟨t29, hg30, h⟩ := h.bind
 have hc := errors_joinError_Unwrap.ok hg30 hS.p2.p2
 refine RL.e (OW.invoke (F := 250) (u' := pV b1) (ls := []) rfl rfl (fun w => by kernel_rfl) call250 rfl hc) rfl rfl ?_
 rintro _ w ⟨rfl, hS⟩
 refine r0 2 rfl (ln (RC.block (RC.unroll (RQ.round (sr (pn 1 rfl (ln (RC.seq (jt (sk (RC.seq ?_)))))))))))
 refine RC.block (sr (RL.s (Vl.indexAddr (a'' := (ad A2).add 0) underlying225 sizeOf108 rfl rfl (hS.litAdr 0 rfl (by decide)) (by decide) (by decide) rfl) rfl (RL.s (Vl.load isAgg108 rfl (hS.litCell 0 rfl rfl)) rfl (pn 1 rfl (ln (RC.seq (sr (pn 1 rfl (RL.s (Vl.bn false rfl rfl) rfl (ln (jf ?_)))))))))))
 refine sk (sr (rr [0, 0, 3, 0] hS ?_))
 refine it fun w hS => cF (fun _ hg => errors_as_3.ok hg hS.p4.p4) call90 h rfl rfl rfl ?_
 rintro ⟨y38, y39⟩ h _ w ⟨rfl, hS⟩
 refine ln ?_
 refine RC.iteB 60 rfl h (fun hc40 h => ?_) fun hc40 h => ?_
 next =>
  refine jtr (pn 1 rfl (lr (ir (RQ.ret (ir (RQ.inB_ret (ir (RQ.inB_ret ?_))))))))
  cases h.some
  exact rt results90 rfl ⟨rfl, hS.d4.p3.p3⟩
 refine jf (RC.skip (RQ.inB_n (RQ.then_n (RC.region (pn 2 rfl (ln (RQ.round (sr (pn 1 rfl (ln (RC.seq (jt ?_))))))))))))
 refine sk (RC.seq (RC.block (sr (RL.s (Vl.indexAddr (a'' := (ad A2).add 1) underlying225 sizeOf108 rfl rfl (hS.litAdr 2 rfl (by decide)) (by decide) (by decide) rfl) rfl (RL.s (Vl.load isAgg108 rfl (hS.litCell 2 rfl rfl)) rfl (pn 1 rfl (ln (RC.seq (sr (pn 1 rfl (RL.s (Vl.bn false rfl rfl) rfl ?_)))))))))))
 refine ln (jfs (sr (rr [0, 0, 5, 0] hS ?_)))
 refine it fun w hS => cF (fun _ hg => errors_as.ok hg hS) call90 h rfl rfl rfl ?_
 rintro t44 h _ w ⟨rfl, hS⟩
 refine ln ?_
 refine RC.iteB 60 rfl h (fun hc46 h => ?_) fun hc46 h => ?_
 next =>
  refine jtr (pn 1 rfl (lr (ir (RQ.ret (ir (RQ.inB_ret (ir (RQ.inB_ret ?_))))))))
  cases h.some
  exact rt results90 rfl ⟨rfl, hS.d4.p3.p3⟩
 refine jf (RC.skip (RQ.inB_n (RQ.then_n (RC.region (pn 2 rfl (ln (RQ.round (sr (pn 1 rfl (ln (RC.seq (jf ?_))))))))))))
 refine RC.exit (RQ.exitT (RQ.exitT (RQ.inB_hit (tsr (pn 1 rfl (lr (RQ.inB_ret (ir (RQ.inB_ret ?_)))))))))
 cases h.some
 exact rt results90 rfl ⟨rfl, hS.d4.p3.p3⟩
def errors_As_2.f (a4 : model_flaw) (a5 : Int) (a7 : model_flaw) : Option (Bool × model_flaw) := ((errors_as_2.f a4 a5 a7).bind fun (y18, y19) => some (y18, y19))
theorem errors_As_2.ok {a4 a7 : model_flaw} {a5 : Int} {b1 c3 b6 : Nat} {A2 : Option Addr} (hG0 : GlobAt hf 0 (.iface 215 (.agg #[.pointer (some ⟨1, 108, none⟩)]))) {r : Bool × model_flaw} (h : errors_As_2.f a4 a5 a7 = some r) (hS : St B w (OSl 108 1 (.slice A2 2 c3) 2 [.iface 106 (.agg #[iV a4.at_, iV a4.why]), .iface 29 (iV a5)] :: Cl b1 [.slice A2 2 c3] 256 :: Cl b6 [iV a7.at_, iV a7.why] 106 :: l) hf) :
   Calls prog 43 #[.iface 254 (pV b1), .iface 110 (pV b6)] w (Ret fun v w => v = .bool r.1 ∧ St B w (OSl 108 1 (.slice A2 2 c3) 2 [.iface 106 (.agg #[iV a4.at_, iV a4.why]), .iface 29 (iV a5)] :: Cl b1 [.slice A2 2 c3] 256 :: Cl b6 [iV r.2.at_, iV r.2.why] 106 :: l) hf) := by
 have h := Holds.of h
 refine en func43 rfl ntmps43 rfl (sr (pn 1 rfl (ln (RC.seq (sr (pn 1 rfl (RL.s (Vl.bn false rfl rfl) rfl (ln (jfs ?_)))))))))
 refine RC.seq (sr (pn 1 rfl (RL.s (Vl.bn false rfl rfl) rfl (ln (jfs (sr (pn 1 rfl (RL.e (OW.externNew (ls := [.tmp 13]) (cs := [pV b6]) (T := 110) (v := fun b => .agg #[.pointer (some ⟨1, 110, none⟩), pV b, .int .u64 150]) hS rfl func87 (by kernel_rfl) (by kernel_rfl) (by kernel_rfl) (e := fun args => Extern.ReflectliteValue.unpack (args.getD 0 (.tuple #[]))) (by kernel_rfl) (fun w => by kernel_rfl)) rfl rfl ?_))))))))
 rintro _ w ⟨b14, rfl, hS⟩
 refine rr [0, 1] hS ?_
 refine fun b15 => it fun w hS => lnsr (rr [1] hS ?_)
 refine it fun w hS => RL.s (Vl.eX [.tmp 15] (.iface 215 (.agg #[.pointer (some ⟨1, 110, none⟩)])) Ex3 func88 rfl) rfl (pn 1 rfl (ln (RC.seq (sr (pn 1 rfl (RL.s (Vl.iX [] (.int .u8 22) (.pointer (some ⟨1, 110, none⟩)) Ex4 func179 rfl rfl) rfl (rr [0, 0, 1] hS ?_)))))))
 refine it fun w hS => ?_
 refine RL.sg (Vl.externAt (ls := [.tmp 21]) (v := .bool false) rfl func89 (by kernel_rfl) (by kernel_rfl) (by kernel_rfl) (e := Extern.ReflectliteValue.method (Extern.ReflectliteValue.valueError "reflectlite.Value.IsNil" 0) Extern.ReflectliteValue.isNil) (by kernel_rfl) (run_isNil (n := 150) (a := ⟨b14, 0, none⟩) (fun w => by kernel_rfl) underlying110 rfl (hS.cell 1 rfl rfl))) rfl rfl (pn 1 rfl (ln (jfs (sr (pn 1 rfl (RL.s (Vl.iX [] (.iface 215 (.agg #[.pointer (some ⟨1, 106, none⟩)])) (.agg #[.pointer (some ⟨1, 110, none⟩)]) Ex5 func238 rfl rfl) rfl (pn 1 rfl (ln (RC.seq (RC.seq ?_))))))))))
 refine RC.region (pn 1 rfl (RL.s (Vl.iX [] (.int .u8 25) (.pointer (some ⟨1, 106, none⟩)) Ex4 func179 rfl rfl) rfl (pn 3 rfl (RL.sg (Vl.load isAgg164 rfl (cellH_world hS.sub hG0)) rfl rfl (RL.sg (Vl.iX [.tmp 32] (.bool true) (.agg #[.pointer (some ⟨1, 106, none⟩)]) Ex6 func239 rfl rfl) rfl rfl (pn 2 rfl (ln (jfs (sr (rr [0, 0, 1, 0] hS ?_))))))))))
 refine it fun w hS => cF (fun _ hg => errors_as_2.ok hg hS.p1.p4.p4.p4) call90 h rfl rfl rfl ?_
 rintro ⟨y18, y19⟩ h _ w ⟨rfl, hS⟩
 refine pn 1 rfl (lr ?_)
 cases h.some
 exact rt results43 rfl ⟨rfl, hS.d3.d3⟩
def model_flaw_Unwrap.f (a1 : model_flaw) : Option (Int) := some a1.why
theorem model_flaw_Unwrap.ok {a1 : model_flaw} {r : Int} (h : model_flaw_Unwrap.f a1 = some r) (hS : St B w (l) hf) :
   Calls prog 185 #[.agg #[iV a1.at_, iV a1.why]] w (Ret fun v w => v = .iface 29 (iV r) ∧ St B w (l) hf) := by
 have h := Holds.of h
 refine en func185 rfl ntmps185 rfl (sr (rr [0, 0] hS ?_))
 refine fun b3 => it fun w hS => lnsr (rr [0, 1, 0, 0] hS ?_)
 refine it fun w hS => lr ?_
 cases h.some
 exact rt results185 rfl ⟨rfl, hS.d0⟩
def errors_is_4.f (a1 : model_flaw) (a2 : Int) (a3 : Bool) : Option (Bool) := (if a3 = true then ((model_flaw_Unwrap.f a1).bind fun t14 => (if t14 = a2 then some true else some false)) else ((model_flaw_Unwrap.f a1).bind fun t18 => some false))
theorem errors_is_4.ok {a1 : model_flaw} {a2 : Int} {a3 r : Bool} (h : errors_is_4.f a1 a2 a3 = some r) (hS : St B w (l) hf) :
   Calls prog 92 #[.iface 106 (.agg #[iV a1.at_, iV a1.why]), .iface 29 (iV a2), .bool a3] w (Ret fun v w => v = .bool r ∧ St B w (l) hf) := by
 have h := Holds.of h
 refine en func92 rfl ntmps92 rfl (sr (pn 1 rfl (ln (RC.block (RC.unroll (RQ.round (RC.block (RC.seq (sr (pn 2 rfl ?_))))))))))
 refine RL.iteB 15 rfl h (fun hc13 h => ?_) fun hc13 h => ?_
 next =>
  refine pn 2 rfl (RL.sg (Vl.ifaceNeq rfl rfl underlying108 rfl) rfl rfl (pn 1 rfl (ln (jfs (RC.seq (sr (pn 1 rfl (tno underlying227 rfl rfl (pn 5 rfl (ln ?_))))))))))
  refine sr (pn 6 rfl (ln (jfs (sr (pn 1 rfl (ln (RC.block (sr ?_))))))))
  refine tys underlying222 rfl rfl (pn 2 rfl (ln (jtr (pn 1 rfl (lnsr (pn 1 rfl ?_))))))
  obtain ⟨t14, hg15, h⟩ := h.bind
  have hc := model_flaw_Unwrap.ok hg15 hS
  refine RL.e (OW.invoke (F := 185) (u' := .agg #[iV a1.at_, iV a1.why]) (ls := []) rfl rfl (fun w => by kernel_rfl) call185 rfl hc) rfl rfl ?_
  rintro _ w ⟨rfl, hS⟩
  refine pn 1 rfl (lnsr (pn 1 rfl (RL.s (Vl.bn false rfl rfl) rfl (ln (jf (RC.skip (RQ.inB_n (RQ.inB_n (RQ.then_n (RQ.round (RC.block ?_)))))))))))
  refine RC.seq (sr (pn 2 rfl (RL.re 15 rfl (congrArg Value.bool (id hc13)) (pn 2 rfl (RL.sg (Vl.ifaceInt rfl rfl underlying108 underlying29 type29 rfl) rfl rfl (pn 1 rfl (ln ?_)))))))
  refine RC.iteP 19 rfl h (fun hc17 h => ?_) fun hc17 h => ?_
  next =>
   refine jtr (pn 1 rfl (lr (RQ.ret (ir (RQ.inB_ret ?_)))))
   obtain rfl := h.some
   exact rt results92 rfl ⟨rfl, hS⟩
  refine jfs (RC.seq (sr (pn 1 rfl (tno underlying227 rfl rfl (pn 5 rfl (lnsr (pn 6 rfl (ln ?_))))))))
  refine jfs (sr (pn 1 rfl (ln (RC.block (sr (tno underlying222 rfl rfl (pn 2 rfl (ln (jf ?_)))))))))
  refine sr (tno underlying224 rfl rfl (pn 2 rfl (ln (jf (sr (pn 1 rfl (lnsr (pn 1 rfl (RL.nil ?_)))))))))
  refine tr (RQ.inB_ret (ir (RQ.inB_ret ?_)))
  obtain rfl := h.some
  exact rt results92 rfl ⟨rfl, hS⟩
 refine pn 4 rfl (ln (jfs (RC.seq (sr (pn 1 rfl (tno underlying227 rfl rfl (pn 5 rfl (lnsr ?_))))))))
 refine pn 6 rfl (ln (jfs (sr (pn 1 rfl (ln (RC.block (sr (tys underlying222 rfl rfl (pn 2 rfl ?_)))))))))
 refine ln (jtr (pn 1 rfl (lnsr (pn 1 rfl ?_))))
 obtain ⟨t18, hg19, h⟩ := h.bind
 have hc := model_flaw_Unwrap.ok hg19 hS
 refine RL.e (OW.invoke (F := 185) (u' := .agg #[iV a1.at_, iV a1.why]) (ls := []) rfl rfl (fun w => by kernel_rfl) call185 rfl hc) rfl rfl ?_
 rintro _ w ⟨rfl, hS⟩
 refine pn 1 rfl (lnsr (pn 1 rfl (RL.s (Vl.bn false rfl rfl) rfl (ln (jf (RC.skip (RQ.inB_n (RQ.inB_n (RQ.then_n (RQ.round (RC.block ?_)))))))))))
 refine RC.seq (sr (pn 2 rfl (RL.re 15 rfl (congrArg Value.bool (eq_false_of hc13)) (pn 4 rfl (ln (jfs (RC.seq (sr (pn 1 rfl (tno underlying227 rfl rfl ?_))))))))))
 refine pn 5 rfl (lnsr (pn 6 rfl (ln (jfs (sr (pn 1 rfl (ln ?_)))))))
 refine RC.block (sr (tno underlying222 rfl rfl (pn 2 rfl (ln (jf (sr (tno underlying224 rfl rfl (pn 2 rfl (ln (jf (RC.seq ?_)))))))))))
 refine RC.region (pn 1 rfl (lnsr (pn 1 rfl (lr (RQ.inB_ret (ir (RQ.inB_ret ?_)))))))
 obtain rfl := h.some
 exact rt results92 rfl ⟨rfl, hS⟩
def errors_is_3.f (a4 : model_flaw) (a5 a6 : Int) (a7 : Bool) : Option (Bool) := (if a7 = true then ((errors_joinError_Unwrap.f a4 a5).bind fun _ => ((errors_is_4.f a4 a6 a7).bind fun t45 => (if t45 = true then some true else ((errors_is.f a5 a6 a7).bind fun t51 => (if t51 = true then some true else some false))))) else ((errors_joinError_Unwrap.f a4 a5).bind fun _ => ((errors_is_4.f a4 a6 a7).bind fun t59 => (if t59 = true then some true else ((errors_is.f a5 a6 a7).bind fun t65 => (if t65 = true then some true else some false))))))
theorem errors_is_3.ok {a4 : model_flaw} {a5 a6 : Int} {a7 r : Bool} {b1 c3 : Nat} {A2 : Option Addr} (h : errors_is_3.f a4 a5 a6 a7 = some r) (hS : St B w (OSl 108 1 (.slice A2 2 c3) 2 [.iface 106 (.agg #[iV a4.at_, iV a4.why]), .iface 29 (iV a5)] :: Cl b1 [.slice A2 2 c3] 256 :: l) hf) :
   Calls prog 92 #[.iface 254 (pV b1), .iface 29 (iV a6), .bool a7] w (Ret fun v w => v = .bool r ∧ St B w (OSl 108 1 (.slice A2 2 c3) 2 [.iface 106 (.agg #[iV a4.at_, iV a4.why]), .iface 29 (iV a5)] :: Cl b1 [.slice A2 2 c3] 256 :: l) hf) := by
 have h := Holds.of h
 refine en func92 rfl ntmps92 rfl (sr (pn 1 rfl (ln (RC.block (RC.unroll (RQ.round (RC.block (RC.seq (sr (pn 2 rfl ?_))))))))))
 refine RL.iteB 15 rfl h (fun hc39 h => ?_) fun hc39 h => ?_
 next =>
  refine pn 2 rfl (RL.sg (Vl.ifaceNeq rfl rfl underlying108 rfl) rfl rfl (pn 1 rfl (ln (jfs (RC.seq (sr (pn 1 rfl (tno underlying227 rfl rfl (pn 5 rfl (ln ?_))))))))))
  refine sr (pn 6 rfl (ln (jfs (sr (pn 1 rfl (ln (RC.block (sr ?_))))))))
  refine tno underlying222 rfl rfl (pn 2 rfl (ln (jf (sr (tys underlying224 rfl rfl (pn 2 rfl (ln (jtr (pn 1 rfl (RL.nil ?_))))))))))
  refine RQ.then_n (RC.seq (sr (pn 1 rfl ?_)))
  obtain ⟨t40, hg41, h⟩ := h.bind
  have hc := errors_joinError_Unwrap.ok hg41 hS
  refine RL.e (OW.invoke (F := 250) (u' := pV b1) (ls := []) rfl rfl (fun w => by kernel_rfl) call250 rfl hc) rfl rfl ?_
  rintro _ w ⟨rfl, hS⟩
  refine r0 2 rfl (ln (RC.block (RC.unroll (RQ.round (sr (pn 1 rfl (ln (RC.seq (jt (sk (RC.seq ?_)))))))))))
  refine RC.block (sr (RL.s (Vl.indexAddr (a'' := (ad A2).add 0) underlying225 sizeOf108 rfl rfl (hS.litAdr 0 rfl (by decide)) (by decide) (by decide) rfl) rfl (RL.s (Vl.load isAgg108 rfl (hS.litCell 0 rfl rfl)) rfl (pn 1 rfl (lnsr (pn 3 rfl (cF (fun _ hg => errors_is_4.ok hg hS) call92 h rfl rfl rfl ?_)))))))
  rintro t45 h _ w ⟨rfl, hS⟩
  refine ln ?_
  refine RC.iteB 52 rfl h (fun hc47 h => ?_) fun hc47 h => ?_
  next =>
   refine jtr (pn 1 rfl (lr (ir (RQ.ret (ir (RQ.inB_ret (ir (RQ.inB_ret ?_))))))))
   obtain rfl := h.some
   exact rt results92 rfl ⟨rfl, hS⟩
  refine jf (RC.skip (RQ.inB_n (RQ.then_n (RC.region (pn 2 rfl (ln (RQ.round (sr (pn 1 rfl (ln (RC.seq (jt ?_))))))))))))
  refine sk (RC.seq (RC.block (sr (RL.s (Vl.indexAddr (a'' := (ad A2).add 1) underlying225 sizeOf108 rfl rfl (hS.litAdr 0 rfl (by decide)) (by decide) (by decide) rfl) rfl (RL.s (Vl.load isAgg108 rfl (hS.litCell 0 rfl rfl)) rfl (pn 1 rfl (lnsr (pn 3 rfl (cF (fun _ hg => errors_is.ok hg hS) call92 h rfl rfl rfl ?_)))))))))
  rintro t51 h _ w ⟨rfl, hS⟩
  refine ln ?_
  refine RC.iteB 52 rfl h (fun hc53 h => ?_) fun hc53 h => ?_
  next =>
   refine jtr (pn 1 rfl (lr (ir (RQ.ret (ir (RQ.inB_ret (ir (RQ.inB_ret ?_))))))))
   obtain rfl := h.some
   exact rt results92 rfl ⟨rfl, hS⟩
  refine jf (RC.skip (RQ.inB_n (RQ.then_n (RC.region (pn 2 rfl (ln (RQ.round (sr (pn 1 rfl (ln (RC.seq (jf ?_))))))))))))
  refine RC.exit (RQ.exitT (RQ.exitT (RQ.inB_hit (tsr (pn 1 rfl (lr (RQ.inB_ret (ir (RQ.inB_ret ?_)))))))))
  obtain rfl := h.some
  exact rt results92 rfl ⟨rfl, hS⟩
 refine pn 4 rfl (ln (jfs (RC.seq (sr (pn 1 rfl (tno underlying227 rfl rfl (pn 5 rfl (lnsr ?_))))))))
 refine pn 6 rfl (ln (jfs (sr (pn 1 rfl (ln (RC.block (sr (tno underlying222 rfl rfl (pn 2 rfl ?_)))))))))
 refine ln (jf (sr (tys underlying224 rfl rfl (pn 2 rfl (ln (jtr (pn 1 rfl (ln (RC.seq ?_)))))))))
 refine sr (pn 1 rfl ?_)
 obtain ⟨t54, hg55, h⟩ := h.bind
 have hc := errors_joinError_Unwrap.ok hg55 hS
 refine RL.e (OW.invoke (F := 250) (u' := pV b1) (ls := []) rfl rfl (fun w => by kernel_rfl) call250 rfl hc) rfl rfl ?_
 rintro _ w ⟨rfl, hS⟩
 refine r0 2 rfl (ln (RC.block (RC.unroll (RQ.round (sr (pn 1 rfl (ln (RC.seq (jt (sk (RC.seq ?_)))))))))))
 refine RC.block (sr (RL.s (Vl.indexAddr (a'' := (ad A2).add 0) underlying225 sizeOf108 rfl rfl (hS.litAdr 0 rfl (by decide)) (by decide) (by decide) rfl) rfl (RL.s (Vl.load isAgg108 rfl (hS.litCell 0 rfl rfl)) rfl (pn 1 rfl (lnsr (pn 3 rfl (cF (fun _ hg => errors_is_4.ok hg hS) call92 h rfl rfl rfl ?_)))))))
 rintro t59 h _ w ⟨rfl, hS⟩
 refine ln ?_
 refine RC.iteB 52 rfl h (fun hc61 h => ?_) fun hc61 h => ?_
 next =>
  refine jtr (pn 1 rfl (lr (ir (RQ.ret (ir (RQ.inB_ret (ir (RQ.inB_ret ?_))))))))
  obtain rfl := h.some
  exact rt results92 rfl ⟨rfl, hS⟩
 refine jf (RC.skip (RQ.inB_n (RQ.then_n (RC.region (pn 2 rfl (ln (RQ.round (sr (pn 1 rfl (ln (RC.seq (jt ?_))))))))))))
 refine sk (RC.seq (RC.block (sr (RL.s (Vl.indexAddr (a'' := (ad A2).add 1) underlying225 sizeOf108 rfl rfl (hS.litAdr 0 rfl (by decide)) (by decide) (by decide) rfl) rfl (RL.s (Vl.load isAgg108 rfl (hS.litCell 0 rfl rfl)) rfl (pn 1 rfl (lnsr (pn 3 rfl (cF (fun _ hg => errors_is.ok hg hS) call92 h rfl rfl rfl ?_)))))))))
 rintro t65 h _ w ⟨rfl, hS⟩
 refine ln ?_
 refine RC.iteB 52 rfl h (fun hc67 h => ?_) fun hc67 h => ?_
 next =>
  refine jtr (pn 1 rfl (lr (ir (RQ.ret (ir (RQ.inB_ret (ir (RQ.inB_ret ?_))))))))
  obtain rfl := h.some
  exact rt results92 rfl ⟨rfl, hS⟩
 refine jf (RC.skip (RQ.inB_n (RQ.then_n (RC.region (pn 2 rfl (ln (RQ.round (sr (pn 1 rfl (ln (RC.seq (jf ?_))))))))))))
 refine RC.exit (RQ.exitT (RQ.exitT (RQ.inB_hit (tsr (pn 1 rfl (lr (RQ.inB_ret (ir (RQ.inB_ret ?_)))))))))
 obtain rfl := h.some
 exact rt results92 rfl ⟨rfl, hS⟩
def errors_Is_4.f (a4 : model_flaw) (a5 a6 : Int) : Option (Bool) := ((errors_is_3.f a4 a5 a6 true).bind fun t9 => some t9)
theorem errors_Is_4.ok {a4 : model_flaw} {a5 a6 : Int} {b1 c3 : Nat} {A2 : Option Addr} {r : Bool} (h : errors_Is_4.f a4 a5 a6 = some r) (hS : St B w (OSl 108 1 (.slice A2 2 c3) 2 [.iface 106 (.agg #[iV a4.at_, iV a4.why]), .iface 29 (iV a5)] :: Cl b1 [.slice A2 2 c3] 256 :: l) hf) :
   Calls prog 44 #[.iface 254 (pV b1), .iface 29 (iV a6)] w (Ret fun v w => v = .bool r ∧ St B w (OSl 108 1 (.slice A2 2 c3) 2 [.iface 106 (.agg #[iV a4.at_, iV a4.why]), .iface 29 (iV a5)] :: Cl b1 [.slice A2 2 c3] 256 :: l) hf) := by
 have h := Holds.of h
 refine en func44 rfl ntmps44 rfl (sr (pn 1 rfl (ln (RC.seq (sr (pn 1 rfl (RL.s (Vl.bn false rfl rfl) rfl (pn 2 rfl (RL.sg (Vl.bn false rfl rfl) rfl rfl (pn 1 rfl (ln ?_)))))))))))
 refine jfs (sr (pn 1 rfl (RL.s (Vl.eX [.tmp 15] (.iface 215 (.agg #[.pointer (some ⟨1, 29, none⟩)])) Ex1 func91 rfl) rfl (RL.s (Vl.iX [] (.bool true) (.agg #[.pointer (some ⟨1, 29, none⟩)]) Ex7 func237 rfl rfl) rfl (pn 1 rfl (lnsr (pn 3 rfl (cF (fun _ hg => errors_is_3.ok hg hS) call92 h rfl rfl rfl ?_))))))))
 rintro t9 h _ w ⟨rfl, hS⟩
 refine pn 1 rfl (lr ?_)
 obtain rfl := h.some
 exact rt results44 rfl ⟨rfl, hS⟩
def model_lane.f (a1 : api_Model) (a11 : Int) : Option (Bool) := (if 0 ≤ a11 then some (decide (a11 < (a1.Progs.length : Int))) else some false)
theorem model_lane.ok {a1 : api_Model} {a11 : Int} {A2 A5 A8 : Option Addr} {c3 c6 c9 : Nat} (hr4 : SlR (Rep.sl E_api_Instr.rep) hf A2 c3 a1.Progs) (hr7 : SlR E_api_Link.rep hf A5 c6 a1.Links) (hr10 : SlR E_api_Start.rep hf A8 c9 a1.Starts) {r : Bool} (h : model_lane.f a1 a11 = some r) (hS : St B w (l) hf) :
   Calls prog 77 #[.agg (C_api_Model a1 A2 c3 A5 c6 A8 c9).toArray, iV a11] w (Ret fun v w => v = .bool r ∧ St B w (l) hf) := by
 have h := Holds.of h
 refine en func77 rfl ntmps77 rfl (sr (rr [0, 0] hS ?_))
 refine fun b14 => it fun w hS => lnsr (pn 3 rfl ?_)
 refine RL.iteP 7 rfl h (fun hc15 h => ?_) fun hc15 h => ?_
 next =>
  refine rr [0, 0, 1, 0, 0, 0, 0] hS ?_
  refine it fun w hS => lr ?_
  cases h.some
  exact rt results77 rfl ⟨rfl, hS.d0⟩
 refine pn 7 rfl (lr ?_)
 obtain rfl := h.some
 exact rt results77 rfl ⟨rfl, hS.d0⟩
def model_links.l2b (a1 : api_Model) : (Nat → Bool) × Int → Option (((Nat → Bool) × Int) ⊕ ((Int) ⊕ (model_flaw) ⊕ (Unit)))
 | (fn256, x257) => (if x257 < (a1.Links.length : Int) then (if 0 ≤ x257 then ((model_lane.f a1 ((nth a1.Links x257).From)).bind fun t364 => (if t364 = true then ((model_lane.f a1 ((nth a1.Links x257).To)).bind fun t367 => (if t367 = true then (if (nth a1.Links x257).Look < 1 then some (.inr (.inr (.inl (⟨x257, 131⟩ : model_flaw)))) else (if 4611686018427387903 < (nth a1.Links x257).Look then some (.inr (.inr (.inl (⟨x257, 131⟩ : model_flaw)))) else (if 0 ≤ (nth a1.Links x257).From ∧ (nth a1.Links x257).From < 16 then (if 0 ≤ (nth a1.Links x257).To ∧ (nth a1.Links x257).To < 16 then (if fn256 (((nth a1.Links x257).From).toNat * 16 + ((nth a1.Links x257).To).toNat * 1) = true then some (.inr (.inr (.inl (⟨x257, 131⟩ : model_flaw)))) else some (.inl (upd fn256 (((nth a1.Links x257).From).toNat * 16 + ((nth a1.Links x257).To).toNat * 1) true, IntKind.i64.wrap (x257 + 1)))) else none) else none))) else some (.inr (.inr (.inl (⟨x257, 131⟩ : model_flaw)))))) else some (.inr (.inr (.inl (⟨x257, 131⟩ : model_flaw)))))) else none) else some (.inr (.inr (.inr (())))))
def model_links.l2 (a1 : api_Model) (s : (Nat → Bool) × Int) : Option ((Int) ⊕ (model_flaw) ⊕ (Unit)) := loopR (model_links.l2b a1) s
def model_links.f (a1 : api_Model) : Option ((Int) ⊕ (model_flaw) ⊕ (Unit)) := (if 1024 < (a1.Links.length : Int) then some (.inl 131) else model_links.l2 a1 (fun _ => false, 0))
theorem model_links.ok {a1 : api_Model} {A2 A5 A8 : Option Addr} {c3 c6 c9 : Nat} (hr4 : SlR (Rep.sl E_api_Instr.rep) hf A2 c3 a1.Progs) (hr7 : SlR E_api_Link.rep hf A5 c6 a1.Links) (hr10 : SlR E_api_Start.rep hf A8 c9 a1.Starts) {r : (Int) ⊕ (model_flaw) ⊕ (Unit)} (h : model_links.f a1 = some r) (hS : St B w (l) hf) :
   Calls prog 85 #[.agg (C_api_Model a1 A2 c3 A5 c6 A8 c9).toArray] w (Ret fun v w => match (generalizing := false) r with | .inl r_ => v = .iface 29 (iV r_) ∧ St B w (l) hf | .inr (.inl r_) => v = .iface 106 (.agg #[iV r_.at_, iV r_.why]) ∧ St B w (l) hf | .inr (.inr (r_)) => v = .nilIface ∧ St B w (l) hf) := by
 have h := Holds.of h
 refine en func85 rfl ntmps85 rfl (sr (rr [0, 0] hS ?_))
 refine fun b194 => it fun w hS => ln (RC.seq (sr (rr [0, 1, 0, 0] hS ?_)))
 refine it fun w hS => ln ?_
 refine RC.iteP 9 rfl h (fun hc196 h => ?_) fun hc196 h => ?_
 next =>
  refine jtr (r0 2 rfl (lr (RQ.ret ?_)))
  cases h.some
  exact rt results85 rfl ⟨rfl, hS.d0⟩
 refine jfs (sr (RL.s (Vl.build (v := .agg (fc Value.bool 256 (fun _ => false)).toArray) (parts := []) rfl (by kernel_rfl)) rfl (RL.e (OW.alloc (cs := fc Value.bool 256 (fun _ => false)) hS zeroValue213 (by kernel_rfl)) rfl rfl ?_)))
 rintro _ w ⟨b197, rfl, hS⟩
 refine RL.e0 (OW.storeAll (f := fun _ => false) (g' := fun _ => false) 0 hS rfl rfl rfl sizeOf213 (fun _ => rfl) rfl) rfl ?_
 rintro _ w ⟨rfl, hS⟩
 have hS : St B w (_ :: _ :: l) hf := hS
 refine ln (RC.seq (sr (rr [0, 2, 0, 0] hS ?_)))
 refine it fun w hS => ln (RC.block (fun a ha => lp h (fun (s : (Nat → Bool) × Int) a w => ∃ fn256 x257, s = (fn256, x257) ∧ Has 61 [(1, pV b194), (3, pV b197), (13, sV A5 a1.Links c6), (14, iV (a1.Links.length : Int)), (15, iV x257)] a ∧ St B w (Cl b197 (fc Value.bool 256 fn256) 213 :: Cl b194 (C_api_Model a1 A2 c3 A5 c6 A8 c9) 27 :: l) hf) ⟨_, _, rfl, ha.tE rfl, hS⟩ ?_))
 rintro G318 _ a w ⟨fn256, x257, rfl, ha, hS⟩ h
 refine ro ha (sr (pn 1 rfl (ln (RC.seq ?_))))
 refine RC.iteP 16 rfl h (fun hc320 h => ?_) fun hc320 h => ?_
 next =>
  refine jt (sk (RC.seq (RC.block (sr (pn 1 rfl ?_)))))
  obtain ⟨hq349, h⟩ := h.req
  refine RL.s (Vl.indexAddr underlying23 sizeOf144 rfl rfl ((hr7.2.world hS.sub).adr hq349 hc320) hq349 hc320 rfl) rfl (RL.s (Vl.loadA isAgg144 sizeOf144 rfl rfl ((hr7.2.world hS.sub).cells hq349 hc320)) rfl (rr [0, 0, 1] hS ?_))
  refine fun b350 => it fun w hS => ln (RC.seq (RC.seq (dr [1, 3, 7, 11, 12, 15, 19, 21, 25, 29, 30, 33, 36, 39, 43, 45, 48, 51, 54, 58, 60, 63, 66, 69, 73, 75, 79, 83, 86, 89, 92] [28, 29, 30] hS fun w hS => rq [3, 0, 1] hS ?_)))
  refine it ?_
  obtain ⟨t364, hg365, h⟩ := h.bind
  have hc := model_lane.ok hr4 hr7 hr10 hg365 hS
  refine RP.e 3 rfl (OW.callF (ls := [.tmp 20, .tmp 22]) rfl call77 hc) rfl rfl ?_
  rintro _ w ⟨rfl, hS⟩
  refine ⟨kp ⟨fun _ => hS, trivial⟩, ?_⟩
  refine pp 2 rfl ?_
  refine RP.iteM 25 rfl h (fun hc366 h => ?_) fun hc366 h => ?_
  next =>
   refine rq [3, 0, 1] hS ?_
   refine it ?_
   obtain ⟨t367, hg368, h⟩ := h.bind
   have hc := model_lane.ok hr4 hr7 hr10 hg368 hS
   refine RP.e 9 rfl (OW.callF (ls := [.tmp 26, .tmp 28]) rfl call77 hc) rfl rfl ?_
   rintro _ w ⟨rfl, hS⟩
   refine ⟨kp ⟨fun _ => hS, trivial⟩, ?_⟩
   refine pp 3 rfl ?_
   refine RP.iteM 32 rfl h (fun hc369 h => ?_) fun hc369 h => ?_
   next =>
    refine rq [0, 1, 0, 0, 0] hS ?_
    refine it ?_
    refine RP.iteP 37 rfl h (fun hc370 h => ?_) fun hc370 h => ?_
    next =>
     refine rq [0, 0, 0, 0, 0, 0, 0, 0, 0, 0, 0, 0, 0] hS ?_
     refine it (RP.nil (RQ.then_n (jtr (r0 4 rfl (lr (RQ.ret (ir ?_)))))))
     have h := h.inrS
     refine RQ.ret (ir ?_)
     cases h.some
     exact rt results85 rfl ⟨rfl, hS.d0.d0.d0⟩
    refine rq [0, 1, 0, 0, 0] hS ?_
    refine it ?_
    refine RP.iteP 42 rfl h (fun hc371 h => ?_) fun hc371 h => ?_
    next =>
     refine rq [0, 0, 0, 0, 0, 0, 0, 0] hS ?_
     refine it (RP.nil (RQ.then_n (jtr (r0 4 rfl (lr (RQ.ret (ir ?_)))))))
     have h := h.inrS
     refine RQ.ret (ir ?_)
     cases h.some
     exact rt results85 rfl ⟨rfl, hS.d0.d0.d0⟩
    refine rq [0, 1, 0, 1] hS ?_
    refine it ?_
    obtain ⟨⟨hq372, hq373⟩, h⟩ := h.req
    refine RP.v1 27 rfl (Vl.indexAddrA (a'' := ⟨b197, ((nth a1.Links x257).From).toNat * 16, none⟩) underlying213 sizeOf212 rfl rfl hq372 hq373 (add_zero_mk _ _)) rfl rfl ?_
    obtain ⟨⟨hq374, hq375⟩, h⟩ := h.req
    refine RP.v1 28 rfl (Vl.indexAddrA (a'' := ⟨b197, ((nth a1.Links x257).From).toNat * 16 + ((nth a1.Links x257).To).toNat * 1, none⟩) underlying212 sizeOf4 rfl rfl hq374 hq375 (add_mk _ _ _)) rfl rfl (RP.v1 29 rfl (Vl.load isAgg4 rfl (hS.cell 1 rfl (fc_get (by omega)))) rfl rfl (rq [0] hS ?_))
    refine it (RP.nil (RQ.then_n ?_))
    refine RC.iteB 50 rfl h (fun hc376 h => ?_) fun hc376 h => ?_
    next =>
     refine jtr (r0 4 rfl (lr (RQ.ret (ir ?_))))
     have h := h.inrS
     refine RQ.ret (ir ?_)
     cases h.some
     exact rt results85 rfl ⟨rfl, hS.d0.d0.d0⟩
    refine jfs (dr [0, 4, 6, 10, 14, 17, 20] [5, 6] hS fun w hS => rq [0, 1, 0, 1] hS ?_)
    refine it (RP.v1 4 rfl (Vl.indexAddrA (a'' := ⟨b197, ((nth a1.Links x257).From).toNat * 16, none⟩) underlying213 sizeOf212 rfl rfl hq372 hq373 (add_zero_mk _ _)) rfl rfl (RP.v1 5 rfl (Vl.indexAddrA (a'' := ⟨b197, ((nth a1.Links x257).From).toNat * 16 + ((nth a1.Links x257).To).toNat * 1, none⟩) underlying212 sizeOf4 rfl rfl hq374 hq375 (add_mk _ _ _)) rfl rfl (RP.e0 6 rfl (OW.storeF (mk := Value.bool) 1 hS rfl rfl rfl sizeOf4 (by omega) (fun _ => rfl) (fun _ => rfl) rfl) rfl ?_)))
    rintro _ w ⟨rfl, hS⟩
    have hS : St B w (_ :: _ :: _ :: l) hf := hS
    refine ⟨kp ⟨(by intro hx; cases hx), trivial⟩, ?_⟩
    refine RP.nil (RQ.inB_n (RQ.then_n (RC.region (pn 2 rfl (RL.nil ?_)))))
    exact fun a ha => ⟨_, h.some, _, _, rfl, ha.tE rfl, hS.d0⟩
   refine rq [0, 0, 0, 0, 0, 0, 0, 0, 0, 0, 0, 0, 0, 0, 0, 0, 0, 0] hS ?_
   refine it (RP.nil (RQ.then_n (jtr (r0 4 rfl (lr (RQ.ret (ir ?_)))))))
   have h := h.inrS
   refine RQ.ret (ir ?_)
   cases h.some
   exact rt results85 rfl ⟨rfl, hS.d0.d0.d0⟩
  refine rq [0, 0, 0, 0, 0, 0, 0, 0, 0, 0, 0, 0, 0, 0, 0, 0, 0, 0, 0, 0, 0, 0, 0, 0, 0] hS ?_
  refine it (RP.nil (RQ.then_n (jtr (r0 4 rfl (lr (RQ.ret (ir ?_)))))))
  have h := h.inrS
  refine RQ.ret (ir ?_)
  cases h.some
  exact rt results85 rfl ⟨rfl, hS.d0.d0.d0⟩
 refine jf (RC.exit (RQ.exitT ?_))
 have h := h.inrS
 refine RQ.exitT (RQ.inB_hit (tsr (pn 1 rfl (lr ?_))))
 cases h.some
 exact rt results85 rfl ⟨rfl, hS.d0.d0⟩
def errors_As_3.f (a1 a3 : model_flaw) : Option (Bool × model_flaw) := ((errors_as_3.f a1 a3).bind fun (y14, y15) => some (y14, y15))
theorem errors_As_3.ok {a1 a3 : model_flaw} {b2 : Nat} (hG0 : GlobAt hf 0 (.iface 215 (.agg #[.pointer (some ⟨1, 108, none⟩)]))) {r : Bool × model_flaw} (h : errors_As_3.f a1 a3 = some r) (hS : St B w (Cl b2 [iV a3.at_, iV a3.why] 106 :: l) hf) :
   Calls prog 43 #[.iface 106 (.agg #[iV a1.at_, iV a1.why]), .iface 110 (pV b2)] w (Ret fun v w => v = .bool r.1 ∧ St B w (Cl b2 [iV r.2.at_, iV r.2.why] 106 :: l) hf) := by
 have h := Holds.of h
 refine en func43 rfl ntmps43 rfl (sr (pn 1 rfl (ln (RC.seq (sr (pn 1 rfl (RL.s (Vl.bn false rfl rfl) rfl (ln (jfs ?_)))))))))
 refine RC.seq (sr (pn 1 rfl (RL.s (Vl.bn false rfl rfl) rfl (ln (jfs (sr (pn 1 rfl (RL.e (OW.externNew (ls := [.tmp 13]) (cs := [pV b2]) (T := 110) (v := fun b => .agg #[.pointer (some ⟨1, 110, none⟩), pV b, .int .u64 150]) hS rfl func87 (by kernel_rfl) (by kernel_rfl) (by kernel_rfl) (e := fun args => Extern.ReflectliteValue.unpack (args.getD 0 (.tuple #[]))) (by kernel_rfl) (fun w => by kernel_rfl)) rfl rfl ?_))))))))
 rintro _ w ⟨b10, rfl, hS⟩
 refine rr [0, 1] hS ?_
 refine fun b11 => it fun w hS => lnsr (rr [1] hS ?_)
 refine it fun w hS => RL.s (Vl.eX [.tmp 15] (.iface 215 (.agg #[.pointer (some ⟨1, 110, none⟩)])) Ex3 func88 rfl) rfl (pn 1 rfl (ln (RC.seq (sr (pn 1 rfl (RL.s (Vl.iX [] (.int .u8 22) (.pointer (some ⟨1, 110, none⟩)) Ex4 func179 rfl rfl) rfl (rr [0, 0, 1] hS ?_)))))))
 refine it fun w hS => ?_
 refine RL.sg (Vl.externAt (ls := [.tmp 21]) (v := .bool false) rfl func89 (by kernel_rfl) (by kernel_rfl) (by kernel_rfl) (e := Extern.ReflectliteValue.method (Extern.ReflectliteValue.valueError "reflectlite.Value.IsNil" 0) Extern.ReflectliteValue.isNil) (by kernel_rfl) (run_isNil (n := 150) (a := ⟨b10, 0, none⟩) (fun w => by kernel_rfl) underlying110 rfl (hS.cell 1 rfl rfl))) rfl rfl (pn 1 rfl (ln (jfs (sr (pn 1 rfl (RL.s (Vl.iX [] (.iface 215 (.agg #[.pointer (some ⟨1, 106, none⟩)])) (.agg #[.pointer (some ⟨1, 110, none⟩)]) Ex5 func238 rfl rfl) rfl (pn 1 rfl (ln (RC.seq (RC.seq ?_))))))))))
 refine RC.region (pn 1 rfl (RL.s (Vl.iX [] (.int .u8 25) (.pointer (some ⟨1, 106, none⟩)) Ex4 func179 rfl rfl) rfl (pn 3 rfl (RL.sg (Vl.load isAgg164 rfl (cellH_world hS.sub hG0)) rfl rfl (RL.sg (Vl.iX [.tmp 32] (.bool true) (.agg #[.pointer (some ⟨1, 106, none⟩)]) Ex6 func239 rfl rfl) rfl rfl (pn 2 rfl (ln (jfs (sr (rr [0, 0, 1, 0] hS ?_))))))))))
 refine it fun w hS => cF (fun _ hg => errors_as_3.ok hg hS.p1.p2) call90 h rfl rfl rfl ?_
 rintro ⟨y14, y15⟩ h _ w ⟨rfl, hS⟩
 refine pn 1 rfl (lr ?_)
 cases h.some
 exact rt results43 rfl ⟨rfl, hS.d1.d1⟩
def errors_Is_5.f (a1 : model_flaw) (a2 : Int) : Option (Bool) := ((errors_is_4.f a1 a2 true).bind fun t5 => some t5)
theorem errors_Is_5.ok {a1 : model_flaw} {a2 : Int} {r : Bool} (h : errors_Is_5.f a1 a2 = some r) (hS : St B w (l) hf) :
   Calls prog 44 #[.iface 106 (.agg #[iV a1.at_, iV a1.why]), .iface 29 (iV a2)] w (Ret fun v w => v = .bool r ∧ St B w (l) hf) := by
 have h := Holds.of h
 refine en func44 rfl ntmps44 rfl (sr (pn 1 rfl (ln (RC.seq (sr (pn 1 rfl (RL.s (Vl.bn false rfl rfl) rfl (pn 2 rfl (RL.sg (Vl.bn false rfl rfl) rfl rfl (pn 1 rfl (ln ?_)))))))))))
 refine jfs (sr (pn 1 rfl (RL.s (Vl.eX [.tmp 15] (.iface 215 (.agg #[.pointer (some ⟨1, 29, none⟩)])) Ex1 func91 rfl) rfl (RL.s (Vl.iX [] (.bool true) (.agg #[.pointer (some ⟨1, 29, none⟩)]) Ex7 func237 rfl rfl) rfl (pn 1 rfl (lnsr (pn 3 rfl (cF (fun _ hg => errors_is_4.ok hg hS) call92 h rfl rfl rfl ?_))))))))
 rintro t5 h _ w ⟨rfl, hS⟩
 refine pn 1 rfl (lr ?_)
 obtain rfl := h.some
 exact rt results44 rfl ⟨rfl, hS⟩
def model_starts.l2b (a1 : api_Model) : Int → Option ((Int) ⊕ ((Int) ⊕ (model_flaw) ⊕ (Unit)))
 | (x90) => (if x90 < (a1.Starts.length : Int) then (if 0 ≤ x90 then ((model_lane.f a1 ((nth a1.Starts x90).To)).bind fun t123 => (if t123 = true then ((vtime_Valid.f ((nth a1.Starts x90).Time)).bind fun t126 => (if t126 = true then some (.inl (IntKind.i64.wrap (x90 + 1))) else some (.inr (.inr (.inl (⟨x90, 132⟩ : model_flaw)))))) else some (.inr (.inr (.inl (⟨x90, 132⟩ : model_flaw)))))) else none) else some (.inr (.inr (.inr (())))))
def model_starts.l2 (a1 : api_Model) (s : Int) : Option ((Int) ⊕ (model_flaw) ⊕ (Unit)) := loopR (model_starts.l2b a1) s
def model_starts.f (a1 : api_Model) : Option ((Int) ⊕ (model_flaw) ⊕ (Unit)) := (if 4096 < (a1.Starts.length : Int) then some (.inl 132) else model_starts.l2 a1 (0))
theorem model_starts.ok {a1 : api_Model} {A2 A5 A8 : Option Addr} {c3 c6 c9 : Nat} (hr4 : SlR (Rep.sl E_api_Instr.rep) hf A2 c3 a1.Progs) (hr7 : SlR E_api_Link.rep hf A5 c6 a1.Links) (hr10 : SlR E_api_Start.rep hf A8 c9 a1.Starts) {r : (Int) ⊕ (model_flaw) ⊕ (Unit)} (h : model_starts.f a1 = some r) (hS : St B w (l) hf) :
   Calls prog 86 #[.agg (C_api_Model a1 A2 c3 A5 c6 A8 c9).toArray] w (Ret fun v w => match (generalizing := false) r with | .inl r_ => v = .iface 29 (iV r_) ∧ St B w (l) hf | .inr (.inl r_) => v = .iface 106 (.agg #[iV r_.at_, iV r_.why]) ∧ St B w (l) hf | .inr (.inr (r_)) => v = .nilIface ∧ St B w (l) hf) := by
 have h := Holds.of h
 refine en func86 rfl ntmps86 rfl (sr (rr [0, 0] hS ?_))
 refine fun b70 => it fun w hS => ln (RC.seq (sr (rr [0, 1, 0, 0] hS ?_)))
 refine it fun w hS => ln ?_
 refine RC.iteP 8 rfl h (fun hc72 h => ?_) fun hc72 h => ?_
 next =>
  refine jtr (r0 2 rfl (lr (RQ.ret ?_)))
  cases h.some
  exact rt results86 rfl ⟨rfl, hS.d0⟩
 refine jfs (RC.seq (sr (rr [0, 1, 0, 0] hS ?_)))
 refine it fun w hS => ln (RC.block (fun a ha => lp h (fun (s : Int) a w => ∃ x90, s = (x90) ∧ Has 33 [(1, pV b70), (11, sV A8 a1.Starts c9), (12, iV (a1.Starts.length : Int)), (13, iV x90)] a ∧ St B w (Cl b70 (C_api_Model a1 A2 c3 A5 c6 A8 c9) 27 :: l) hf) ⟨_, rfl, ha.tE rfl, hS⟩ ?_))
 rintro G110 x90 a w ⟨_, rfl, ha, hS⟩ h
 refine ro ha (sr (pn 1 rfl (ln (RC.seq ?_))))
 refine RC.iteP 14 rfl h (fun hc112 h => ?_) fun hc112 h => ?_
 next =>
  refine jt (sk (RC.seq (RC.block (sr (pn 1 rfl ?_)))))
  obtain ⟨hq121, h⟩ := h.req
  refine RL.s (Vl.indexAddr underlying24 sizeOf157 rfl rfl ((hr10.2.world hS.sub).adr hq121 hc112) hq121 hc112 rfl) rfl (RL.s (Vl.loadA isAgg157 sizeOf157 rfl rfl ((hr10.2.world hS.sub).cells hq121 hc112)) rfl (rr [0, 0, 1] hS ?_))
  refine fun b122 => it fun w hS => lnsr (rr [2, 0, 1] hS ?_)
  refine it fun w hS => cF (fun _ hg => model_lane.ok hr4 hr7 hr10 hg hS) call77 h rfl rfl rfl ?_
  rintro t123 h _ w ⟨rfl, hS⟩
  refine pn 2 rfl ?_
  refine RL.iteM 23 rfl h (fun hc125 h => ?_) fun hc125 h => ?_
  next =>
   refine rr [0, 1] hS ?_
   refine it fun w hS => cF (fun _ hg => vtime_Valid.ok hg hS) call73 h rfl rfl rfl ?_
   rintro t126 h _ w ⟨rfl, hS⟩
   refine pn 2 rfl (ln ?_)
   refine RC.iteM 28 rfl h (fun hc128 h => ?_) fun hc128 h => ?_
   next =>
    refine jf (RC.skip (RQ.inB_n (RQ.then_n (RC.region (pn 2 rfl (RL.nil ?_))))))
    exact fun a ha => ⟨_, h.some, _, rfl, ha.tE rfl, hS.d0⟩
   refine jtr (r0 4 rfl (lr (ir ?_)))
   have h := h.inrS
   refine RQ.ret (ir ?_)
   cases h.some
   exact rt results86 rfl ⟨rfl, hS.d0.d0⟩
  refine pn 5 rfl (ln (jtr (r0 4 rfl (lr (ir ?_)))))
  have h := h.inrS
  refine RQ.ret (ir ?_)
  cases h.some
  exact rt results86 rfl ⟨rfl, hS.d0.d0⟩
 refine jf (RC.exit (RQ.exitT ?_))
 have h := h.inrS
 refine RQ.exitT (RQ.inB_hit (tsr (pn 1 rfl (lr ?_))))
 cases h.some
 exact rt results86 rfl ⟨rfl, hS.d0⟩
def model_Check.f (a1 : api_Model) : Option (Int) := ((model_rules.f).bind fun _ => ((model_sizes.f a1).bind fun t205 => match t205 with | .inl y207 => ((errors_As.f y207 (⟨0, 0⟩ : model_flaw)).bind fun t208 => (if t208 = true then some 0 else ((errors_Is.f y207 131).bind fun t211 => (if t211 = true then some 131 else ((errors_Is.f y207 132).bind fun t214 => (if t214 = true then some 132 else some 1)))))) | .inr (_) => ((model_programs.f a1).bind fun t239 => match t239 with | .inl (y241, y242) => ((errors_As_2.f y241 y242 (⟨0, 0⟩ : model_flaw)).bind fun (y248, y249) => (if y248 = true then some y249.why else ((errors_Is_4.f y241 y242 131).bind fun t251 => (if t251 = true then some 131 else ((errors_Is_4.f y241 y242 132).bind fun t254 => (if t254 = true then some 132 else some 1)))))) | .inr (_) => ((model_links.f a1).bind fun t285 => match t285 with | .inl y287 => ((errors_As.f y287 (⟨0, 0⟩ : model_flaw)).bind fun t288 => (if t288 = true then some 0 else ((errors_Is.f y287 131).bind fun t291 => (if t291 = true then some 131 else ((errors_Is.f y287 132).bind fun t294 => (if t294 = true then some 132 else some 1)))))) | .inr (.inl y297) => ((errors_As_3.f y297 (⟨0, 0⟩ : model_flaw)).bind fun (y300, y301) => (if y300 = true then some y301.why else ((errors_Is_5.f y297 131).bind fun t303 => (if t303 = true then some 131 else ((errors_Is_5.f y297 132).bind fun t306 => (if t306 = true then some 132 else some 1)))))) | .inr (.inr (_)) => ((model_starts.f a1).bind fun t337 => match t337 with | .inl y339 => ((errors_As.f y339 (⟨0, 0⟩ : model_flaw)).bind fun t340 => (if t340 = true then some 0 else ((errors_Is.f y339 131).bind fun t343 => (if t343 = true then some 131 else ((errors_Is.f y339 132).bind fun t346 => (if t346 = true then some 132 else some 1)))))) | .inr (.inl y349) => ((errors_As_3.f y349 (⟨0, 0⟩ : model_flaw)).bind fun (y352, y353) => (if y352 = true then some y353.why else ((errors_Is_5.f y349 131).bind fun t355 => (if t355 = true then some 131 else ((errors_Is_5.f y349 132).bind fun t358 => (if t358 = true then some 132 else some 1)))))) | .inr (.inr (_)) => some 0)))))
theorem model_Check.ok {a1 : api_Model} {A2 A5 A8 : Option Addr} {c3 c6 c9 : Nat} (hr4 : SlR (Rep.sl E_api_Instr.rep) hf A2 c3 a1.Progs) (hr7 : SlR E_api_Link.rep hf A5 c6 a1.Links) (hr10 : SlR E_api_Start.rep hf A8 c9 a1.Starts) (hG0 : GlobAt hf 0 (.iface 215 (.agg #[.pointer (some ⟨1, 108, none⟩)]))) {r : Int} (h : model_Check.f a1 = some r) (hS : St B w (l) hf) :
   Calls prog 10 #[.agg (C_api_Model a1 A2 c3 A5 c6 A8 c9).toArray] w (Ret fun v w => v = iV r ∧ St B w (l) hf) := by
 have h := Holds.of h
 refine en func10 rfl ntmps10 rfl (sr (rr [0, 0] hS ?_))
 refine fun b186 => it fun w hS => ln (RC.seq (sr (cF (fun _ hg => model_rules.ok hg hS) call42 h rfl rfl rfl ?_)))
 rintro _ h _ w ⟨rfl, hS⟩
 refine pn 1 rfl (ln (RC.block (RC.unroll (RQ.round (sr (pn 1 rfl (ln (RC.seq (jt (sk (RC.seq ?_)))))))))))
 refine RC.block (sr (RL.s (Vl.indexA (v := .agg #[.func (.func 83) #[] #[]]) underlying103 sizeOf102 rfl rfl (by decide) (by decide) (run_partA isAgg102 sizeOf102)) rfl (rr [0, 1] hS ?_)))
 refine fun b203 => it fun w hS => lnsr (rr [0] hS ?_)
 refine fun b204 => it fun w hS => ln (RC.seq (sr (rr [0, 2, 3] hS ?_)))
 refine it fun w hS => ?_
 obtain ⟨t205, hg206, h⟩ := h.bind
 have hc := model_sizes.ok hr4 hr7 hr10 hg206 hS
 rcases t205 with y207 | _
 · refine RL.e (OW.call (ls := [.tmp 13]) rfl rfl call83 rfl hc) rfl rfl ?_
   rintro _ w ⟨rfl, hS⟩
   refine pn 1 rfl (ln (RC.block (sr (pn 1 rfl (RL.s (Vl.bn false rfl rfl) rfl (pn 1 rfl (ln (jf (sr (r0 2 rfl (cF (fun _ hg => errors_As.ok hG0 hg hS) call43 h rfl rfl rfl ?_)))))))))))
   rintro t208 h _ w ⟨rfl, hS⟩
   refine pn 1 rfl (ln ?_)
   refine RC.iteB 18 rfl h (fun hc210 h => ?_) fun hc210 h => ?_
   next =>
    refine jtr (rr [0, 1, 0] hS ?_)
    refine it fun w hS => lr (ir (ir (RQ.ret (ir ?_))))
    obtain rfl := h.some
    exact rt results10 rfl ⟨rfl, hS.d0.d0.d0⟩
   refine jf (sr (r0 2 rfl (cF (fun _ hg => errors_Is.ok hg hS) call44 h rfl rfl rfl ?_)))
   rintro t211 h _ w ⟨rfl, hS⟩
   refine pn 1 rfl (ln ?_)
   refine RC.iteB 24 rfl h (fun hc213 h => ?_) fun hc213 h => ?_
   next =>
    refine jtr (pn 1 rfl (lr (ir (ir (RQ.ret (ir ?_))))))
    obtain rfl := h.some
    exact rt results10 rfl ⟨rfl, hS.d0.d0.d0⟩
   refine jf (sr (r0 2 rfl (cF (fun _ hg => errors_Is.ok hg hS) call44 h rfl rfl rfl ?_)))
   rintro t214 h _ w ⟨rfl, hS⟩
   refine pn 1 rfl (ln ?_)
   refine RC.iteB 28 rfl h (fun hc216 h => ?_) fun hc216 h => ?_
   next =>
    refine jtr (pn 1 rfl (lr (ir (ir (RQ.ret (ir ?_))))))
    obtain rfl := h.some
    exact rt results10 rfl ⟨rfl, hS.d0.d0.d0⟩
   refine jf (RC.skip (RQ.inB_n (tsr (pn 1 rfl (lr (ir (RQ.ret (ir ?_))))))))
   obtain rfl := h.some
   exact rt results10 rfl ⟨rfl, hS.d0.d0.d0⟩
 refine RL.e (OW.call (ls := [.tmp 13]) rfl rfl call83 rfl hc) rfl rfl ?_
 rintro _ w ⟨rfl, hS⟩
 refine pn 1 rfl (ln (RC.block (sr (pn 1 rfl (RL.s (Vl.bn true rfl rfl) rfl (pn 1 rfl (ln (jt (RC.exit (RQ.inB_miss rfl (RQ.exitT (RQ.inB_hit ?_))))))))))))
 refine RQ.then_n (RC.region (pn 2 rfl (ln (RQ.round (sr (pn 1 rfl (ln (RC.seq (jt (sk (RC.seq ?_)))))))))))
 refine RC.block (sr (RL.s (Vl.indexA (v := .agg #[.func (.func 84) #[] #[]]) underlying103 sizeOf102 rfl rfl (by decide) (by decide) (run_partA isAgg102 sizeOf102)) rfl (rr [0, 1] hS ?_)))
 refine fun b237 => it fun w hS => lnsr (rr [0] hS ?_)
 refine fun b238 => it fun w hS => ln (RC.seq (sr (rr [0, 2, 5] hS ?_)))
 refine it fun w hS => ?_
 obtain ⟨t239, hg240, h⟩ := h.bind
 have hc := model_programs.ok hr4 hr7 hr10 hg240 hS
 rcases t239 with ⟨y241, y242⟩ | _
 · refine RL.e (OW.call (ls := [.tmp 13]) rfl rfl call84 rfl hc) rfl rfl ?_
   rintro _ w ⟨b243, A244, c245, rfl, hS⟩
   refine pn 1 rfl (ln (RC.block (sr (pn 1 rfl (RL.s (Vl.bn false rfl rfl) rfl (pn 1 rfl (ln (jf (sr (r0 2 rfl (cF (fun _ hg => errors_As_2.ok hG0 hg hS.p1) call43 h rfl rfl rfl ?_)))))))))))
   rintro ⟨y248, y249⟩ h _ w ⟨rfl, hS⟩
   refine pn 1 rfl (ln ?_)
   refine RC.iteB 18 rfl h (fun hc250 h => ?_) fun hc250 h => ?_
   next =>
    refine jtr (rr [0, 3, 0] hS ?_)
    refine it fun w hS => lr (ir (ir (RQ.ret (ir ?_))))
    cases h.some
    exact rt results10 rfl ⟨rfl, hS.d0.d0.d0.d0.d0.d0.d0⟩
   refine jf (sr (r0 2 rfl (cF (fun _ hg => errors_Is_4.ok hg hS) call44 h rfl rfl rfl ?_)))
   rintro t251 h _ w ⟨rfl, hS⟩
   refine pn 1 rfl (ln ?_)
   refine RC.iteB 24 rfl h (fun hc253 h => ?_) fun hc253 h => ?_
   next =>
    refine jtr (pn 1 rfl (lr (ir (ir (RQ.ret (ir ?_))))))
    obtain rfl := h.some
    exact rt results10 rfl ⟨rfl, hS.d0.d0.d0.d0.d0.d0.d0⟩
   refine jf (sr (r0 2 rfl (cF (fun _ hg => errors_Is_4.ok hg hS) call44 h rfl rfl rfl ?_)))
   rintro t254 h _ w ⟨rfl, hS⟩
   refine pn 1 rfl (ln ?_)
   refine RC.iteB 28 rfl h (fun hc256 h => ?_) fun hc256 h => ?_
   next =>
    refine jtr (pn 1 rfl (lr (ir (ir (RQ.ret (ir ?_))))))
    obtain rfl := h.some
    exact rt results10 rfl ⟨rfl, hS.d0.d0.d0.d0.d0.d0.d0⟩
   refine jf (RC.skip (RQ.inB_n (tsr (pn 1 rfl (lr (ir (RQ.ret (ir ?_))))))))
   obtain rfl := h.some
   exact rt results10 rfl ⟨rfl, hS.d0.d0.d0.d0.d0.d0.d0⟩
 refine RL.e (OW.call (ls := [.tmp 13]) rfl rfl call84 rfl hc) rfl rfl ?_
 rintro _ w ⟨rfl, hS⟩
 refine pn 1 rfl (ln (RC.block (sr (pn 1 rfl (RL.s (Vl.bn true rfl rfl) rfl (pn 1 rfl (ln (jt (RC.exit (RQ.inB_miss rfl (RQ.exitT (RQ.inB_hit ?_))))))))))))
 refine RQ.then_n (RC.region (pn 2 rfl (ln (RQ.round (sr (pn 1 rfl (ln (RC.seq (jt (sk (RC.seq ?_)))))))))))
 refine RC.block (sr (RL.s (Vl.indexA (v := .agg #[.func (.func 85) #[] #[]]) underlying103 sizeOf102 rfl rfl (by decide) (by decide) (run_partA isAgg102 sizeOf102)) rfl (rr [0, 1] hS ?_)))
 refine fun b283 => it fun w hS => lnsr (rr [0] hS ?_)
 refine fun b284 => it fun w hS => ln (RC.seq (sr (rr [0, 2, 7] hS ?_)))
 refine it fun w hS => ?_
 obtain ⟨t285, hg286, h⟩ := h.bind
 have hc := model_links.ok hr4 hr7 hr10 hg286 hS
 rcases t285 with y287 | y297 | _
 · refine RL.e (OW.call (ls := [.tmp 13]) rfl rfl call85 rfl hc) rfl rfl ?_
   rintro _ w ⟨rfl, hS⟩
   refine pn 1 rfl (ln (RC.block (sr (pn 1 rfl (RL.s (Vl.bn false rfl rfl) rfl (pn 1 rfl (ln (jf (sr (r0 2 rfl (cF (fun _ hg => errors_As.ok hG0 hg hS) call43 h rfl rfl rfl ?_)))))))))))
   rintro t288 h _ w ⟨rfl, hS⟩
   refine pn 1 rfl (ln ?_)
   refine RC.iteB 18 rfl h (fun hc290 h => ?_) fun hc290 h => ?_
   next =>
    refine jtr (rr [0, 1, 0] hS ?_)
    refine it fun w hS => lr (ir (ir (RQ.ret (ir ?_))))
    obtain rfl := h.some
    exact rt results10 rfl ⟨rfl, hS.d0.d0.d0.d0.d0.d0.d0⟩
   refine jf (sr (r0 2 rfl (cF (fun _ hg => errors_Is.ok hg hS) call44 h rfl rfl rfl ?_)))
   rintro t291 h _ w ⟨rfl, hS⟩
   refine pn 1 rfl (ln ?_)
   refine RC.iteB 24 rfl h (fun hc293 h => ?_) fun hc293 h => ?_
   next =>
    refine jtr (pn 1 rfl (lr (ir (ir (RQ.ret (ir ?_))))))
    obtain rfl := h.some
    exact rt results10 rfl ⟨rfl, hS.d0.d0.d0.d0.d0.d0.d0⟩
   refine jf (sr (r0 2 rfl (cF (fun _ hg => errors_Is.ok hg hS) call44 h rfl rfl rfl ?_)))
   rintro t294 h _ w ⟨rfl, hS⟩
   refine pn 1 rfl (ln ?_)
   refine RC.iteB 28 rfl h (fun hc296 h => ?_) fun hc296 h => ?_
   next =>
    refine jtr (pn 1 rfl (lr (ir (ir (RQ.ret (ir ?_))))))
    obtain rfl := h.some
    exact rt results10 rfl ⟨rfl, hS.d0.d0.d0.d0.d0.d0.d0⟩
   refine jf (RC.skip (RQ.inB_n (tsr (pn 1 rfl (lr (ir (RQ.ret (ir ?_))))))))
   obtain rfl := h.some
   exact rt results10 rfl ⟨rfl, hS.d0.d0.d0.d0.d0.d0.d0⟩
 · refine RL.e (OW.call (ls := [.tmp 13]) rfl rfl call85 rfl hc) rfl rfl ?_
   rintro _ w ⟨rfl, hS⟩
   refine pn 1 rfl (ln (RC.block (sr (pn 1 rfl (RL.s (Vl.bn false rfl rfl) rfl (pn 1 rfl (ln (jf (sr (r0 2 rfl (cF (fun _ hg => errors_As_3.ok hG0 hg hS) call43 h rfl rfl rfl ?_)))))))))))
   rintro ⟨y300, y301⟩ h _ w ⟨rfl, hS⟩
   refine pn 1 rfl (ln ?_)
   refine RC.iteB 18 rfl h (fun hc302 h => ?_) fun hc302 h => ?_
   next =>
    refine jtr (rr [0, 1, 0] hS ?_)
    refine it fun w hS => lr (ir (ir (RQ.ret (ir ?_))))
    cases h.some
    exact rt results10 rfl ⟨rfl, hS.d0.d0.d0.d0.d0.d0.d0⟩
   refine jf (sr (r0 2 rfl (cF (fun _ hg => errors_Is_5.ok hg hS) call44 h rfl rfl rfl ?_)))
   rintro t303 h _ w ⟨rfl, hS⟩
   refine pn 1 rfl (ln ?_)
   refine RC.iteB 24 rfl h (fun hc305 h => ?_) fun hc305 h => ?_
   next =>
    refine jtr (pn 1 rfl (lr (ir (ir (RQ.ret (ir ?_))))))
    obtain rfl := h.some
    exact rt results10 rfl ⟨rfl, hS.d0.d0.d0.d0.d0.d0.d0⟩
   refine jf (sr (r0 2 rfl (cF (fun _ hg => errors_Is_5.ok hg hS) call44 h rfl rfl rfl ?_)))
   rintro t306 h _ w ⟨rfl, hS⟩
   refine pn 1 rfl (ln ?_)
   refine RC.iteB 28 rfl h (fun hc308 h => ?_) fun hc308 h => ?_
   next =>
    refine jtr (pn 1 rfl (lr (ir (ir (RQ.ret (ir ?_))))))
    obtain rfl := h.some
    exact rt results10 rfl ⟨rfl, hS.d0.d0.d0.d0.d0.d0.d0⟩
   refine jf (RC.skip (RQ.inB_n (tsr (pn 1 rfl (lr (ir (RQ.ret (ir ?_))))))))
   obtain rfl := h.some
   exact rt results10 rfl ⟨rfl, hS.d0.d0.d0.d0.d0.d0.d0⟩
 refine RL.e (OW.call (ls := [.tmp 13]) rfl rfl call85 rfl hc) rfl rfl ?_
 rintro _ w ⟨rfl, hS⟩
 refine pn 1 rfl (ln (RC.block (sr (pn 1 rfl (RL.s (Vl.bn true rfl rfl) rfl (pn 1 rfl (ln (jt (RC.exit (RQ.inB_miss rfl (RQ.exitT (RQ.inB_hit ?_))))))))))))
 refine RQ.then_n (RC.region (pn 2 rfl (ln (RQ.round (sr (pn 1 rfl (ln (RC.seq (jt (sk (RC.seq ?_)))))))))))
 refine RC.block (sr (RL.s (Vl.indexA (v := .agg #[.func (.func 86) #[] #[]]) underlying103 sizeOf102 rfl rfl (by decide) (by decide) (run_partA isAgg102 sizeOf102)) rfl (rr [0, 1] hS ?_)))
 refine fun b335 => it fun w hS => lnsr (rr [0] hS ?_)
 refine fun b336 => it fun w hS => ln (RC.seq (sr (rr [0, 2, 9] hS ?_)))
 refine it fun w hS => ?_
 obtain ⟨t337, hg338, h⟩ := h.bind
 have hc := model_starts.ok hr4 hr7 hr10 hg338 hS
 rcases t337 with y339 | y349 | _
 · refine RL.e (OW.call (ls := [.tmp 13]) rfl rfl call86 rfl hc) rfl rfl ?_
   rintro _ w ⟨rfl, hS⟩
   refine pn 1 rfl (ln (RC.block (sr (pn 1 rfl (RL.s (Vl.bn false rfl rfl) rfl (pn 1 rfl (ln (jf (sr (r0 2 rfl (cF (fun _ hg => errors_As.ok hG0 hg hS) call43 h rfl rfl rfl ?_)))))))))))
   rintro t340 h _ w ⟨rfl, hS⟩
   refine pn 1 rfl (ln ?_)
   refine RC.iteB 18 rfl h (fun hc342 h => ?_) fun hc342 h => ?_
   next =>
    refine jtr (rr [0, 1, 0] hS ?_)
    refine it fun w hS => lr (ir (ir (RQ.ret (ir ?_))))
    obtain rfl := h.some
    exact rt results10 rfl ⟨rfl, hS.d0.d0.d0.d0.d0.d0.d0.d0.d0⟩
   refine jf (sr (r0 2 rfl (cF (fun _ hg => errors_Is.ok hg hS) call44 h rfl rfl rfl ?_)))
   rintro t343 h _ w ⟨rfl, hS⟩
   refine pn 1 rfl (ln ?_)
   refine RC.iteB 24 rfl h (fun hc345 h => ?_) fun hc345 h => ?_
   next =>
    refine jtr (pn 1 rfl (lr (ir (ir (RQ.ret (ir ?_))))))
    obtain rfl := h.some
    exact rt results10 rfl ⟨rfl, hS.d0.d0.d0.d0.d0.d0.d0.d0.d0⟩
   refine jf (sr (r0 2 rfl (cF (fun _ hg => errors_Is.ok hg hS) call44 h rfl rfl rfl ?_)))
   rintro t346 h _ w ⟨rfl, hS⟩
   refine pn 1 rfl (ln ?_)
   refine RC.iteB 28 rfl h (fun hc348 h => ?_) fun hc348 h => ?_
   next =>
    refine jtr (pn 1 rfl (lr (ir (ir (RQ.ret (ir ?_))))))
    obtain rfl := h.some
    exact rt results10 rfl ⟨rfl, hS.d0.d0.d0.d0.d0.d0.d0.d0.d0⟩
   refine jf (RC.skip (RQ.inB_n (tsr (pn 1 rfl (lr (ir (RQ.ret (ir ?_))))))))
   obtain rfl := h.some
   exact rt results10 rfl ⟨rfl, hS.d0.d0.d0.d0.d0.d0.d0.d0.d0⟩
 · refine RL.e (OW.call (ls := [.tmp 13]) rfl rfl call86 rfl hc) rfl rfl ?_
   rintro _ w ⟨rfl, hS⟩
   refine pn 1 rfl (ln (RC.block (sr (pn 1 rfl (RL.s (Vl.bn false rfl rfl) rfl (pn 1 rfl (ln (jf (sr (r0 2 rfl (cF (fun _ hg => errors_As_3.ok hG0 hg hS) call43 h rfl rfl rfl ?_)))))))))))
   rintro ⟨y352, y353⟩ h _ w ⟨rfl, hS⟩
   refine pn 1 rfl (ln ?_)
   refine RC.iteB 18 rfl h (fun hc354 h => ?_) fun hc354 h => ?_
   next =>
    refine jtr (rr [0, 1, 0] hS ?_)
    refine it fun w hS => lr (ir (ir (RQ.ret (ir ?_))))
    cases h.some
    exact rt results10 rfl ⟨rfl, hS.d0.d0.d0.d0.d0.d0.d0.d0.d0⟩
   refine jf (sr (r0 2 rfl (cF (fun _ hg => errors_Is_5.ok hg hS) call44 h rfl rfl rfl ?_)))
   rintro t355 h _ w ⟨rfl, hS⟩
   refine pn 1 rfl (ln ?_)
   refine RC.iteB 24 rfl h (fun hc357 h => ?_) fun hc357 h => ?_
   next =>
    refine jtr (pn 1 rfl (lr (ir (ir (RQ.ret (ir ?_))))))
    obtain rfl := h.some
    exact rt results10 rfl ⟨rfl, hS.d0.d0.d0.d0.d0.d0.d0.d0.d0⟩
   refine jf (sr (r0 2 rfl (cF (fun _ hg => errors_Is_5.ok hg hS) call44 h rfl rfl rfl ?_)))
   rintro t358 h _ w ⟨rfl, hS⟩
   refine pn 1 rfl (ln ?_)
   refine RC.iteB 28 rfl h (fun hc360 h => ?_) fun hc360 h => ?_
   next =>
    refine jtr (pn 1 rfl (lr (ir (ir (RQ.ret (ir ?_))))))
    obtain rfl := h.some
    exact rt results10 rfl ⟨rfl, hS.d0.d0.d0.d0.d0.d0.d0.d0.d0⟩
   refine jf (RC.skip (RQ.inB_n (tsr (pn 1 rfl (lr (ir (RQ.ret (ir ?_))))))))
   obtain rfl := h.some
   exact rt results10 rfl ⟨rfl, hS.d0.d0.d0.d0.d0.d0.d0.d0.d0⟩
 refine RL.e (OW.call (ls := [.tmp 13]) rfl rfl call86 rfl hc) rfl rfl ?_
 rintro _ w ⟨rfl, hS⟩
 refine pn 1 rfl (ln (RC.block (sr (pn 1 rfl (RL.s (Vl.bn true rfl rfl) rfl (pn 1 rfl (ln (jt (RC.exit (RQ.inB_miss rfl (RQ.exitT (RQ.inB_hit ?_))))))))))))
 refine RQ.then_n (RC.region (pn 2 rfl (ln (RQ.round (sr (pn 1 rfl (ln (RC.seq (jf (RC.exit (RQ.exitT (RQ.exitT ?_))))))))))))
 refine RQ.inB_hit (tsr (pn 1 rfl (lr ?_)))
 obtain rfl := h.some
 exact rt results10 rfl ⟨rfl, hS.d0.d0.d0.d0.d0.d0.d0.d0.d0⟩
def model_Ways_1.f (a1 : api_Link) (a3 : Int) : Option (Bool) := some (decide (a1.From = a3))
theorem model_Ways_1.ok {a1 : api_Link} {a3 : Int} {b2 : Nat} {r : Bool} (h : model_Ways_1.f a1 a3 = some r) (hS : St B w (Cl b2 [iV a3] 3 :: l) hf) :
   Calls prog 79 #[.agg (C_api_Link a1).toArray, pV b2] w (Ret fun v w => v = .bool r ∧ St B w (Cl b2 [iV a3] 3 :: l) hf) := by
 have h := Holds.of h
 refine en func79 rfl ntmps79 rfl (sr (rr [0, 0] hS ?_))
 refine fun b5 => it fun w hS => lnsr (rr [0, 1, 2, 0, 0] hS ?_)
 refine it fun w hS => lr ?_
 cases h.some
 exact rt results79 rfl ⟨rfl, hS.d0⟩
def model_places.j8 (x131 : Int) (l174 : List Int) : Option ((List Int × Int) ⊕ (List Int)) := some (.inl (l174, IntKind.i64.wrap (x131 + 1)))
def model_places.l7b (a1 : api_Model) (a12 : Int) : List Int × Int → Option ((List Int × Int) ⊕ (List Int))
 | (l128, x131) => (if x131 < (a1.Links.length : Int) then (if 0 ≤ x131 then ((model_Ways_1.f (nth a1.Links x131) a12).bind fun t179 => (if t179 = true then (if (l128.length + 1) * 8 ≤ 140737488355328 then model_places.j8 x131 (l128 ++ ([x131] : List Int)) else none) else model_places.j8 x131 l128)) else none) else some (.inr l128))
def model_places.l7 (a1 : api_Model) (a12 : Int) (s : List Int × Int) : Option (List Int) := loopR (model_places.l7b a1 a12) s
def model_places.f (a1 : api_Model) (a12 : Int) : Option (List Int) := model_places.l7 a1 a12 ([], 0)
theorem model_places.ok {a1 : api_Model} {a12 : Int} {A2 A5 A8 : Option Addr} {c3 c6 c9 b11 : Nat} (hr4 : SlR (Rep.sl E_api_Instr.rep) hf A2 c3 a1.Progs) (hr7 : SlR E_api_Link.rep hf A5 c6 a1.Links) (hr10 : SlR E_api_Start.rep hf A8 c9 a1.Starts) {r : List Int} (h : model_places.f a1 a12 = some r) (hS : St B w (Cl b11 [iV a12] 3 :: l) hf) :
   Calls prog 78 #[.agg (C_api_Model a1 A2 c3 A5 c6 A8 c9).toArray, .func (.func 79) #[] #[pV b11]] w (Ret fun v w => ∃ (A_1 : Option Addr) (c_2 : Nat), v = sV A_1 r c_2 ∧ St B w (OSf (FI .i64) 3 (sV A_1 r c_2) r :: Cl b11 [iV a12] 3 :: l) hf) := by
 have h := Holds.of h
 refine en func78 rfl ntmps78 rfl (sr (rr [0, 0] hS ?_))
 refine fun b100 => it fun w hS => lnsr (pn 1 rfl (ln (RC.seq (sr (rr [0, 1, 0, 0] hS ?_)))))
 refine it fun w hS => RL.nil ?_
 refine RQ.then_n (RC.block ?_)
 have hS := hS.nilSl (FI .i64) 3
 refine fun a ha => lp h (fun (s : List Int × Int) a w => ∃ l128 x131, s = (l128, x131) ∧ ∃ A129 c130, Has 25 [(1, .func (.func 79) #[] #[pV b11]), (5, sV A129 l128 c130), (9, sV A5 a1.Links c6), (10, iV (a1.Links.length : Int)), (11, iV x131)] a ∧ St B w (OSf (FI .i64) 3 (sV A129 l128 c130) l128 :: Cl b11 [iV a12] 3 :: l) hf) ⟨_, _, rfl, _, _, ha.tE rfl, hS.d1⟩ ?_
 rintro G161 _ a w ⟨l128, x131, rfl, A129, c130, ha, hS⟩ h
 refine ro ha (sr (pn 1 rfl (ln (RC.seq ?_))))
 refine RC.iteP 12 rfl h (fun hc163 h => ?_) fun hc163 h => ?_
 next =>
  refine jt (sk ?_)
  refine RC.join (fun (s : List Int) a w => ∃ l174, s = (l174) ∧ Holds (Sum.elim G161 (· = r)) (model_places.j8 x131 l174) ∧ ∃ A175 c176, Has 25 [(1, .func (.func 79) #[] #[pV b11]), (5, sV A175 l174 c176), (9, sV A5 a1.Links c6), (10, iV (a1.Links.length : Int)), (11, iV x131)] a ∧ St B w (OSf (FI .i64) 3 (sV A175 l174 c176) l174 :: Cl b11 [iV a12] 3 :: l) hf) ?_ ?_
  · rintro l174 a w ⟨_, rfl, h, A175, c176, ha, hS⟩
    refine ro ha (RC.region (pn 2 rfl (RL.nil ?_)))
    exact fun a ha => ⟨_, h.some, _, _, rfl, _, _, ha.tE rfl, hS⟩
  refine RC.block (sr (pn 1 rfl ?_))
  obtain ⟨hq177, h⟩ := h.req
  refine RL.s (Vl.indexAddr underlying23 sizeOf144 rfl rfl ((hr7.2.world hS.sub).adr hq177 hc163) hq177 hc163 rfl) rfl (RL.s (Vl.loadA isAgg144 sizeOf144 rfl rfl ((hr7.2.world hS.sub).cells hq177 hc163)) rfl (rr [0, 0, 1] hS ?_))
  refine fun b178 => it fun w hS => lnsr (rr [0, 1] hS ?_)
  refine it fun w hS => ?_
  obtain ⟨t179, hg180, h⟩ := h.bind
  have hc := model_Ways_1.ok hg180 hS.p2
  refine RL.e (OW.call (ls := [.tmp 17]) rfl rfl call79 rfl hc) rfl rfl ?_
  rintro _ w ⟨rfl, hS⟩
  refine ln ?_
  refine RC.iteB 18 rfl h (fun hc181 h => ?_) fun hc181 h => ?_
  next =>
   refine jt (RC.region (pn 2 rfl (RL.e (OW.buildSlice (E := (FI .i64)) (xs := ([x131] : List Int)) (cs := [iV x131]) hS underlying37 zeroValue3 sizeOf3 (parts := [(0, .tmp 20)]) rfl rfl (by decide) (by decide) (by kernel_rfl) rfl) rfl rfl ?_)))
   rintro _ w ⟨b182, rfl, hS⟩
   obtain ⟨hq183, h⟩ := h.req
   refine RL.e (OW.append (E := (FI .i64)) (xs := l128) (ys := ([x131] : List Int)) 3 hS rfl underlying37 type3 rfl rfl rfl rfl (by decide) rfl rfl rfl (hS.slW 0 rfl).2.2.flat (by simp only [maxLen, List.length_cons, List.length_nil] at *; omega) hq183 rfl) rfl rfl ?_
   rintro v186 w hS
   obtain ⟨A184, c185, rfl, _⟩ := hS.osShape 0 rfl
   have hS : St B w (_ :: _ :: _ :: _ :: l) hf := hS
   refine pn 1 rfl (RL.nil (RQ.inB_n ?_))
   exact fun a ha => ⟨_, _, rfl, h, _, _, ha.tE rfl, hS.d1.d2⟩
  refine jf (RC.skip (RQ.inB_n ?_))
  exact fun a ha => ⟨_, _, rfl, h, _, _, ha.tE rfl, hS.d1.p1⟩
 refine jf (RC.exit (RQ.exitT ?_))
 have h := h.inrS
 refine RQ.exitT (RQ.inB_hit (tsr (pn 2 rfl (lr ?_))))
 obtain rfl := h.some
 exact rt results78 rfl ⟨A129, c130, rfl, hS⟩
def model_Ways.f (a1 : api_Model) (a11 : Int) : Option (List Int) := ((model_places.f a1 a11).bind fun t20 => some t20)
theorem model_Ways.ok {a1 : api_Model} {a11 : Int} {A2 A5 A8 : Option Addr} {c3 c6 c9 : Nat} (hr4 : SlR (Rep.sl E_api_Instr.rep) hf A2 c3 a1.Progs) (hr7 : SlR E_api_Link.rep hf A5 c6 a1.Links) (hr10 : SlR E_api_Start.rep hf A8 c9 a1.Starts) {r : List Int} (h : model_Ways.f a1 a11 = some r) (hS : St B w (l) hf) :
   Calls prog 36 #[.agg (C_api_Model a1 A2 c3 A5 c6 A8 c9).toArray, iV a11] w (Ret fun v w => ∃ (A_1 : Option Addr) (c_2 : Nat), v = sV A_1 r c_2 ∧ St B w (OSf (FI .i64) 3 (sV A_1 r c_2) r :: l) hf) := by
 have h := Holds.of h
 refine en func36 rfl ntmps36 rfl (sr (rr [0, 0, 0] hS ?_))
 refine fun b18 b19 => it fun w hS => lnsr (rr [2] hS ?_)
 refine it fun w hS => RL.s (Vl.makeFunc (fi := []) (ca := [.tmp 3]) rfl rfl) rfl (cF (fun _ hg => model_places.ok hr4 hr7 hr10 hg hS) call78 h rfl rfl rfl ?_)
 rintro t20 h _ w ⟨A22, c23, rfl, hS⟩
 refine pn 1 rfl (lr ?_)
 obtain rfl := h.some
 exact rt results36 rfl ⟨A22, c23, rfl, hS.d1.d1⟩
def model_World.l6b (a1 : api_Model) (a11 : Int) (l231 : List api_Instr) (t303 : List Int) : List api_Link × Int → Option ((List api_Link × Int) ⊕ (api_World × Int))
 | (l327, x330) => (if x330 < (t303.length : Int) then (if 0 ≤ x330 then (if 0 ≤ nth t303 x330 ∧ nth t303 x330 < (a1.Links.length : Int) then (if (l327.length + 1) * 32 ≤ 140737488355328 then some (.inl ((l327 ++ ([nth a1.Links (nth t303 x330)])), IntKind.i64.wrap (x330 + 1))) else none) else none) else none) else some (.inr ((⟨l231, a11, l327, a1.Seed⟩ : api_World), 0)))
def model_World.l6 (a1 : api_Model) (a11 : Int) (l231 : List api_Instr) (t303 : List Int) (s : List api_Link × Int) : Option (api_World × Int) := loopR (model_World.l6b a1 a11 l231 t303) s
def model_World.j4 (a1 : api_Model) (a11 : Int) (l231 : List api_Instr) : Option (api_World × Int) := ((model_Ways.f a1 a11).bind fun t303 => model_World.l6 a1 a11 l231 t303 ([], 0))
def model_World.f (a1 : api_Model) (a11 : Int) : Option (api_World × Int) := ((model_Check.f a1).bind fun t205 => (if t205 = 0 then ((model_lane.f a1 a11).bind fun t211 => (if t211 = true then (if 0 ≤ a11 ∧ a11 < (a1.Progs.length : Int) then (if (([] : List api_Instr).length + (nth a1.Progs a11).length) * 32 ≤ 140737488355328 then model_World.j4 a1 a11 (([] : List api_Instr) ++ (nth a1.Progs a11)) else none) else none) else some ((⟨([] : List api_Instr), 0, ([] : List api_Link), 0⟩ : api_World), 1))) else some ((⟨([] : List api_Instr), 0, ([] : List api_Link), 0⟩ : api_World), t205)))
theorem model_World.ok {a1 : api_Model} {a11 : Int} {A2 A5 A8 : Option Addr} {c3 c6 c9 : Nat} (hr4 : SlR (Rep.sl E_api_Instr.rep) hf A2 c3 a1.Progs) (hr7 : SlR E_api_Link.rep hf A5 c6 a1.Links) (hr10 : SlR E_api_Start.rep hf A8 c9 a1.Starts) (hG0 : GlobAt hf 0 (.iface 215 (.agg #[.pointer (some ⟨1, 108, none⟩)]))) {r : api_World × Int} (h : model_World.f a1 a11 = some r) (hS : St B w (l) hf) :
   Calls prog 35 #[.agg (C_api_Model a1 A2 c3 A5 c6 A8 c9).toArray, iV a11] w (Ret fun v w => ∃ (A_1 : Option Addr) (c_2 : Nat) (A_3 : Option Addr) (c_4 : Nat), v = .tuple #[.agg (C_api_World r.1 A_1 c_2 A_3 c_4).toArray, iV r.2] ∧ St B w (OSf E_api_Instr 269 (sV A_1 r.1.Prog c_2) r.1.Prog :: OSf E_api_Link 144 (sV A_3 r.1.Links c_4) r.1.Links :: l) hf) := by
 have h := Holds.of h
 refine en func35 rfl ntmps35 rfl (sr (rr [0, 0, 0] hS ?_))
 refine fun b200 b201 => it fun w hS => ln (RC.seq (sr (rr [2] hS ?_)))
 refine it fun w hS => cF (fun _ hg => model_Check.ok hr4 hr7 hr10 hG0 hg hS) call10 h rfl rfl rfl ?_
 rintro t205 h _ w ⟨rfl, hS⟩
 refine pn 1 rfl (lnsr (pn 2 rfl (ln ?_)))
 refine RC.iteN 13 rfl h (fun hc207 h => ?_) fun hc207 h => ?_
 next =>
  refine jfs (RC.seq (sr (rr [2, 0] hS ?_)))
  refine it fun w hS => cF (fun _ hg => model_lane.ok hr4 hr7 hr10 hg hS) call77 h rfl rfl rfl ?_
  rintro t211 h _ w ⟨rfl, hS⟩
  refine pn 1 rfl (ln ?_)
  refine RC.iteM 19 rfl h (fun hc213 h => ?_) fun hc213 h => ?_
  next =>
   refine jfs ?_
   refine RC.join (fun (s : List api_Instr) a w => ∃ l231, s = (l231) ∧ Holds (· = r) (model_World.j4 a1 a11 l231) ∧ ∃ b230 A232 c233, Has 51 [(1, iV a11), (2, pV b200), (4, pV b201), (7, pV b230)] a ∧ St B w (OSf E_api_Instr 269 (sV A232 l231 c233) l231 :: Cl b201 [.slice none 0 0, iV 0, .slice none 0 0, .int .u64 0] 91 :: Cl b200 (C_api_Model a1 A2 c3 A5 c6 A8 c9) 27 :: Cl b230 [sV A232 l231 c233, iV a11, .slice none 0 0, .int .u64 a1.Seed] 91 :: l) hf) ?_ ?_
   · rintro l231 a w ⟨_, rfl, h, b230, A232, c233, ha, hS⟩
     refine ro ha (RC.seq (sr (rr [3, 0] hS ?_)))
     refine it fun w hS => cF (fun _ hg => model_Ways.ok hr4 hr7 hr10 hg hS) call36 h rfl rfl rfl ?_
     rintro t303 h _ w ⟨A305, c306, rfl, hS⟩
     refine r0 2 rfl (ln (RC.block ?_))
     have hS := hS.nilSl E_api_Link 144
     refine fun a ha => lp h (fun (s : List api_Link × Int) a w => ∃ l327 x330, s = (l327, x330) ∧ ∃ A328 c329, Has 51 [(2, pV b200), (4, pV b201), (7, pV b230), (33, sV A305 t303 c306), (34, iV (t303.length : Int)), (35, iV x330)] a ∧ St B w (OSf E_api_Instr 269 (sV A232 l231 c233) l231 :: OSf E_api_Link 144 (sV A328 l327 c329) l327 :: OSf (FI .i64) 3 (sV A305 t303 c306) t303 :: Cl b201 [.slice none 0 0, iV 0, .slice none 0 0, .int .u64 0] 91 :: Cl b200 (C_api_Model a1 A2 c3 A5 c6 A8 c9) 27 :: Cl b230 [sV A232 l231 c233, iV a11, sV A328 l327 c329, .int .u64 a1.Seed] 91 :: l) hf) ⟨_, _, rfl, _, _, ha.tE rfl, hS.p2⟩ ?_
     rintro G353 _ a w ⟨l327, x330, rfl, A328, c329, ha, hS⟩ h
     refine ro ha (sr (pn 1 rfl (ln (RC.seq ?_))))
     refine RC.iteP 36 rfl h (fun hc355 h => ?_) fun hc355 h => ?_
     next =>
      refine jt (sk (RC.seq (RC.block (sr ?_))))
      obtain ⟨hq364, h⟩ := h.req
      refine RL.s (Vl.indexOwn 2 hS rfl underlying37 sizeOf3 rfl rfl hq364 hc355) rfl (RL.s (Vl.load isAgg3 rfl ((hS.slW 2 rfl).2.2.cell (j := 0) hq364 hc355 rfl)) rfl (pn 1 rfl (ln (dr [0, 4, 6, 10, 14, 17, 20, 23, 26, 29, 32] [8, 9, 10] hS fun w hS => rq [0, 6, 0, 5, 0] hS ?_))))
      refine it ?_
      obtain ⟨⟨hq365, hq366⟩, h⟩ := h.req
      refine RP.v1 5 rfl (Vl.indexAddr underlying23 sizeOf144 rfl rfl ((hr7.2.world hS.sub).adr hq365 hq366) hq365 hq366 rfl) rfl rfl (RP.v1 6 rfl (Vl.loadA isAgg144 sizeOf144 rfl rfl ((hr7.2.world hS.sub).cells hq365 hq366)) rfl rfl (RP.e 7 rfl (OW.buildSlice (E := E_api_Link) (xs := [nth a1.Links (nth t303 x330)]) (cs := (C_api_Link (nth a1.Links (nth t303 x330)))) hS underlying23 zeroValue144 sizeOf144 (parts := [(0, .tmp 45)]) rfl rfl (by decide) (by decide) (by kernel_rfl) rfl) rfl rfl ?_))
      rintro _ w ⟨b367, rfl, hS⟩
      refine ⟨kp ⟨fun _ => hS.d0, trivial⟩, ?_⟩
      obtain ⟨hq368, h⟩ := h.req
      refine RP.e 8 rfl (OW.append (E := E_api_Link) (xs := l327) (ys := [nth a1.Links (nth t303 x330)]) 2 hS rfl underlying23 type144 rfl rfl rfl rfl (by decide) rfl rfl rfl (hS.slW 0 rfl).2.2.flat (by simp only [maxLen, List.length_cons, List.length_nil] at *; omega) hq368 rfl) rfl rfl ?_
      rintro v371 w hS
      obtain ⟨A369, c370, rfl, _⟩ := hS.osShape 0 rfl
      have hS : St B w (_ :: _ :: _ :: _ :: _ :: _ :: _ :: l) hf := hS
      refine ⟨kp ⟨(by intro hx; cases hx), trivial⟩, ?_⟩
      refine RP.v1 9 rfl (Vl.fa 2 underlying91 rfl sizeOf23 rfl rfl) rfl rfl (RP.e0 10 rfl (OW.store (vs := [.slice A369 (l327 ++ ([nth a1.Links (nth t303 x330)])).length c370]) 6 hS rfl rfl rfl rfl sizeOf23 rfl rfl rfl rfl) rfl ?_)
      rintro _ w ⟨rfl, hS⟩
      have hS : St B w (_ :: _ :: _ :: _ :: _ :: _ :: Cl _ [_, _, _, _] _ :: l) hf := hS
      refine ⟨kp ⟨(by intro hx; cases hx), trivial⟩, ?_⟩
      refine RP.nil (RQ.inB_n (RQ.then_n (RC.region (pn 2 rfl (RL.nil ?_)))))
      exact fun a ha => ⟨_, h.some, _, _, rfl, _, _, ha.tE rfl, hS.d1.p1⟩
     refine jf (RC.exit (RQ.exitT ?_))
     have h := h.inrS
     refine RQ.exitT (RQ.inB_hit (tsr (rr [6, 4, 0] hS ?_)))
     refine it fun w hS => lr ?_
     cases h.some
     refine rz [3] results35 hS ?_
     exact it ⟨A232, c233, A328, c329, rfl, hS.d2.d2.d2.d2⟩
   refine RC.planS (.pure 0 (.early 1 0 (.pure 2 (.early 3 0 (.early 4 0 (.pure 6 (.pure 7 (.early 8 0 (.fork 5 10 (.pure 9 (.last 10 (.last 11 .nil))) (.last 5 (.last 9 (.last 11 .nil)))))))))))) [11] hS (fun w hS => hS) follows rfl (by kernel_rfl) (NoTmp.then NoTmp.body) fun w hS => rq [0, 2, 0] hS ?_
   refine it ?_
   obtain ⟨⟨hq372, hq373⟩, h⟩ := h.req
   refine RP.s 0 3 rfl rfl hS (fun w hS => Vl.indexAddr underlying22 sizeOf89 rfl rfl (hr4.2.adr hq372 hq373) hq372 hq373 rfl) rfl ?_
   obtain ⟨_, _, ⟨A374, c375, rfl, hr376⟩, hl377⟩ := hr4.2.elem hq372 hq373
   refine RP.s 0 4 rfl rfl hS (fun w hS => Vl.load isAgg89 rfl (cellH_world hS.sub (hl377 0 _ rfl))) rfl (rq [0, 0, 2] hS ?_)
   refine it ?_
   refine RP.fork ?_ ?_
   · obtain ⟨hq378, h⟩ := h.req
     have hS := hS.nilSl E_api_Instr 269
     refine RPW.e 5 rfl (OW.appendV (E := E_api_Instr) (xs := ([] : List api_Instr)) (ys := nth a1.Progs a11) 0 hS rfl underlying89 type269 rfl rfl rfl rfl (by decide) (by decide) rfl rfl (hr376.2.world hS.sub) hq378 rfl) rfl rfl ?_
     rintro v381 w hS
     obtain ⟨A379, c380, rfl, _⟩ := hS.osShape 0 rfl
     have hS : St B w (_ :: _ :: _ :: l) hf := hS
     refine ⟨kp ⟨fun _ => hS.d0, trivial⟩, ?_⟩
     refine rq [0] hS.d0 ?_
     refine it (RP.e 10 rfl (OW.alloc (cs := [.slice none 0 0, iV 0, .slice none 0 0, .int .u64 0]) hS zeroValue91 rfl) rfl rfl ?_)
     rintro _ w ⟨b382, rfl, hS⟩
     refine ⟨kp ⟨fun _ => hS.d0.d0, trivial⟩, ?_⟩
     refine RP.e0 11 rfl (OW.store (vs := [.slice A379 (([] : List api_Instr) ++ (nth a1.Progs a11)).length c380, iV a11, .slice none 0 0, .int .u64 a1.Seed]) 0 hS rfl rfl rfl rfl sizeOf91 rfl rfl rfl rfl) rfl ?_
     rintro _ w ⟨rfl, hS⟩
     have hS : St B w (Cl _ [_, _, _, _] _ :: _ :: _ :: _ :: l) hf := hS
     refine ⟨kp ⟨(by intro hx; cases hx), trivial⟩, ?_⟩
     refine RP.nil ?_
     exact fun a ha => ⟨_, _, rfl, h, _, _, _, ha.tE rfl, hS.p3.p3.p3⟩
   · refine RPW.e 10 rfl (OW.alloc (cs := [.slice none 0 0, iV 0, .slice none 0 0, .int .u64 0]) hS zeroValue91 rfl) rfl rfl ?_
     rintro _ w ⟨b383, rfl, hS⟩
     refine ⟨kp ⟨fun _ => hS.d0, trivial⟩, ?_⟩
     obtain ⟨hq384, h⟩ := h.req
     have hS := hS.nilSl E_api_Instr 269
     refine RP.e 5 rfl (OW.appendV (E := E_api_Instr) (xs := ([] : List api_Instr)) (ys := nth a1.Progs a11) 0 hS rfl underlying89 type269 rfl rfl rfl rfl (by decide) (by decide) rfl rfl (hr376.2.world hS.sub) hq384 rfl) rfl rfl ?_
     rintro v387 w hS
     obtain ⟨A385, c386, rfl, _⟩ := hS.osShape 0 rfl
     have hS : St B w (_ :: _ :: _ :: _ :: l) hf := hS
     refine ⟨kp ⟨fun _ => hS.d0.d0, trivial⟩, ?_⟩
     refine rq [0] hS.d0.d0 ?_
     refine it (RP.e0 11 rfl (OW.store (vs := [.slice A385 (([] : List api_Instr) ++ (nth a1.Progs a11)).length c386, iV a11, .slice none 0 0, .int .u64 a1.Seed]) 1 hS rfl rfl rfl rfl sizeOf91 rfl rfl rfl rfl) rfl ?_)
     rintro _ w ⟨rfl, hS⟩
     have hS : St B w (_ :: Cl _ [_, _, _, _] _ :: _ :: _ :: l) hf := hS
     refine ⟨kp ⟨(by intro hx; cases hx), trivial⟩, ?_⟩
     refine RP.nil ?_
     exact fun a ha => ⟨_, _, rfl, h, _, _, _, ha.tE rfl, hS.p3.p3.p2⟩
  refine jtr (rr [0, 1, 0] hS ?_)
  refine it fun w hS => lr (RQ.ret ?_)
  have hS := hS.nilSl E_api_Instr 269
  have hS := hS.nilSl E_api_Link 144
  cases h.some
  refine rz [2] results35 hS ?_
  exact it ⟨none, 0, none, 0, rfl, hS.d2.d2.p1⟩
 refine jtr (rr [0, 0, 1, 0] hS ?_)
 refine it fun w hS => lr (RQ.ret ?_)
 have hS := hS.nilSl E_api_Instr 269
 have hS := hS.nilSl E_api_Link 144
 cases h.some
 refine rz [2] results35 hS ?_
 exact it ⟨none, 0, none, 0, rfl, hS.d2.d2.p1⟩
def tune_First.f  : Option (Unit) := some ()
theorem tune_First.ok {r : Unit} (h : tune_First.f = some r) (hS : St B w (l) hf) :
   Calls prog 37 #[] w (Ret fun v w => v = .agg #[iV 2, iV 4, iV 0, iV 1000, iV 0] ∧ St B w (l) hf) := by
 have h := Holds.of h
 refine en func37 rfl ntmps37 rfl (sr (rr [0] hS ?_))
 refine fun b2 => it fun w hS => lnsr (rr [0, 1] hS ?_)
 refine it fun w hS => lr ?_
 have e := h.some
 refine rz [0] results37 hS ?_
 exact it ⟨rfl, hS.d0⟩
def vm_lane.f (a1 : Int) : Option (Bool) := (if 0 ≤ a1 then some (decide (a1 < 16)) else some false)
theorem vm_lane.ok {a1 : Int} {r : Bool} (h : vm_lane.f a1 = some r) (hS : St B w (l) hf) :
   Calls prog 114 #[iV a1] w (Ret fun v w => v = .bool r ∧ St B w (l) hf) := by
 have h := Holds.of h
 refine en func114 rfl ntmps114 rfl (sr (pn 1 rfl (lnsr (pn 3 rfl ?_))))
 refine RL.iteP 5 rfl h (fun hc3 h => ?_) fun hc3 h => ?_
 next =>
  refine pn 4 rfl (lr ?_)
  cases h.some
  exact rt results114 rfl ⟨rfl, hS⟩
 refine pn 4 rfl (lr ?_)
 obtain rfl := h.some
 exact rt results114 rfl ⟨rfl, hS⟩
def vm_Check.l2b (a1 : api_World) : Int → Option ((Int) ⊕ (Int))
 | (x119) => (if x119 < (a1.Links.length : Int) then (if 0 ≤ x119 then ((vm_lane.f ((nth a1.Links x119).To)).bind fun t155 => (if t155 = true then (if (nth a1.Links x119).Look < 1 then some (.inr 1) else ((vtime_Valid.f ((nth a1.Links x119).Look)).bind fun t159 => (if t159 = true then some (.inl (IntKind.i64.wrap (x119 + 1))) else some (.inr 1)))) else some (.inr 1))) else none) else some (.inr 0))
def vm_Check.l2 (a1 : api_World) (s : Int) : Option (Int) := loopR (vm_Check.l2b a1) s
def vm_Check.f (a1 : api_World) : Option (Int) := ((code_Check.f a1.Prog).bind fun t89 => (if t89 = 0 then ((vm_lane.f a1.Self).bind fun t96 => (if t96 = true then (if 1024 < (a1.Links.length : Int) then some 1 else vm_Check.l2 a1 (0)) else some 1)) else some t89))
theorem vm_Check.ok {a1 : api_World} {A2 A5 : Option Addr} {c3 c6 : Nat} (hr4 : SlR E_api_Instr.rep hf A2 c3 a1.Prog) (hr7 : SlR E_api_Link.rep hf A5 c6 a1.Links) {r : Int} (h : vm_Check.f a1 = some r) (hS : St B w (l) hf) :
   Calls prog 80 #[.agg (C_api_World a1 A2 c3 A5 c6).toArray] w (Ret fun v w => v = iV r ∧ St B w (l) hf) := by
 have h := Holds.of h
 refine en func80 rfl ntmps80 rfl (sr (rr [0, 0] hS ?_))
 refine fun b85 => it fun w hS => ln (RC.seq (sr (rr [0, 1] hS ?_)))
 refine it fun w hS => cF (fun _ hg => code_Check.ok hr4 hg hS) call113 h rfl rfl rfl ?_
 rintro t89 h _ w ⟨rfl, hS⟩
 refine pn 1 rfl (lnsr (pn 2 rfl (ln ?_)))
 refine RC.iteN 10 rfl h (fun hc91 h => ?_) fun hc91 h => ?_
 next =>
  refine jfs (RC.seq (sr (rr [0, 1] hS ?_)))
  refine it fun w hS => cF (fun _ hg => vm_lane.ok hg hS) call114 h rfl rfl rfl ?_
  rintro t96 h _ w ⟨rfl, hS⟩
  refine pn 2 rfl ?_
  refine RL.iteM 16 rfl h (fun hc98 h => ?_) fun hc98 h => ?_
  next =>
   refine rr [0, 1, 0, 0, 0] hS ?_
   refine it fun w hS => ln ?_
   refine RC.iteP 21 rfl h (fun hc99 h => ?_) fun hc99 h => ?_
   next =>
    refine jtr (pn 1 rfl (lr (RQ.ret ?_)))
    obtain rfl := h.some
    exact rt results80 rfl ⟨rfl, hS.d0⟩
   refine jfs (RC.seq (sr (rr [0, 1, 0, 0] hS ?_)))
   refine it fun w hS => ln (RC.block (fun a ha => lp h (fun (s : Int) a w => ∃ x119, s = (x119) ∧ Has 45 [(23, sV A5 a1.Links c6), (24, iV (a1.Links.length : Int)), (25, iV x119)] a ∧ St B w (l) hf) ⟨_, rfl, ha.tE rfl, hS.d0⟩ ?_))
   rintro G141 x119 a w ⟨_, rfl, ha, hS⟩ h
   refine ro ha (sr (pn 1 rfl (ln (RC.seq ?_))))
   refine RC.iteP 26 rfl h (fun hc143 h => ?_) fun hc143 h => ?_
   next =>
    refine jt (sk (RC.seq (RC.block (sr ?_))))
    obtain ⟨hq153, h⟩ := h.req
    refine RL.s (Vl.indexAddr underlying23 sizeOf144 rfl rfl ((hr7.2.world hS.sub).adr hq153 hc143) hq153 hc143 rfl) rfl (RL.s (Vl.loadA isAgg144 sizeOf144 rfl rfl ((hr7.2.world hS.sub).cells hq153 hc143)) rfl (rr [0, 1] hS ?_))
    refine fun b154 => it fun w hS => lnsr (rr [0, 1] hS ?_)
    refine it fun w hS => cF (fun _ hg => vm_lane.ok hg hS) call114 h rfl rfl rfl ?_
    rintro t155 h _ w ⟨rfl, hS⟩
    refine pn 2 rfl ?_
    refine RL.iteM 33 rfl h (fun hc157 h => ?_) fun hc157 h => ?_
    next =>
     refine rr [0, 1, 0, 0, 0] hS ?_
     refine it fun w hS => RL.iteP 38 rfl h (fun hc158 h => ?_) fun hc158 h => ?_
     next =>
      refine pn 5 rfl (ln (jtr (pn 1 rfl (lr (ir ?_)))))
      have h := h.inrS
      refine RQ.ret (ir ?_)
      obtain rfl := h.some
      exact rt results80 rfl ⟨rfl, hS.d0⟩
     refine rr [0, 1] hS ?_
     refine it fun w hS => cF (fun _ hg => vtime_Valid.ok hg hS) call73 h rfl rfl rfl ?_
     rintro t159 h _ w ⟨rfl, hS⟩
     refine pn 2 rfl (ln ?_)
     refine RC.iteM 43 rfl h (fun hc161 h => ?_) fun hc161 h => ?_
     next =>
      refine jf (RC.skip (RQ.inB_n (RQ.then_n (RC.region (pn 2 rfl (RL.nil ?_))))))
      exact fun a ha => ⟨_, h.some, _, rfl, ha.tE rfl, hS.d0⟩
     refine jtr (pn 1 rfl (lr (ir ?_)))
     have h := h.inrS
     refine RQ.ret (ir ?_)
     obtain rfl := h.some
     exact rt results80 rfl ⟨rfl, hS.d0⟩
    refine pn 10 rfl (ln (jtr (pn 1 rfl (lr (ir ?_)))))
    have h := h.inrS
    refine RQ.ret (ir ?_)
    obtain rfl := h.some
    exact rt results80 rfl ⟨rfl, hS.d0⟩
   refine jf (RC.exit (RQ.exitT ?_))
   have h := h.inrS
   refine RQ.exitT (RQ.inB_hit (tsr (pn 1 rfl (lr ?_))))
   obtain rfl := h.some
   exact rt results80 rfl ⟨rfl, hS⟩
  refine pn 5 rfl (ln (jtr (pn 1 rfl (lr (RQ.ret ?_)))))
  obtain rfl := h.some
  exact rt results80 rfl ⟨rfl, hS.d0⟩
 refine jtr (pn 2 rfl (lr (RQ.ret ?_)))
 obtain rfl := h.some
 exact rt results80 rfl ⟨rfl, hS.d0⟩
def log_New.f (a1 : api_World) (a8 : api_State) (a9 : Int) : Option ((Int) ⊕ (log_Log × Int)) := ((vm_Check.f a1).bind fun t44 => (if t44 = 0 then (if (if a8.Sent < a8.Draws then a8.Sent else a8.Draws) < 0 then some (.inl 1) else (if 1099511627776 < (if a8.Draws < a8.Sent then a8.Sent else a8.Draws) then some (.inl 1) else (if a9 < 1 then some (.inl 1) else (if 1024 < a9 then some (.inl 1) else (if (([] : List api_Instr).length + a1.Prog.length) * 32 ≤ 140737488355328 then (if (([] : List api_Link).length + a1.Links.length) * 32 ≤ 140737488355328 then some (.inr (((⟨({ a1 with Prog := (([] : List api_Instr) ++ a1.Prog), Links := (([] : List api_Link) ++ a1.Links) } : api_World), true, a8, a9, ([] : List log_done), false⟩ : log_Log), 0))) else none) else none))))) else some (.inl t44)))
theorem log_New.ok {a1 : api_World} {a8 : api_State} {a9 : Int} {A2 A5 : Option Addr} {c3 c6 : Nat} (hr4 : SlR E_api_Instr.rep hf A2 c3 a1.Prog) (hr7 : SlR E_api_Link.rep hf A5 c6 a1.Links) {r : (Int) ⊕ (log_Log × Int)} (h : log_New.f a1 a8 a9 = some r) (hS : St B w (l) hf) :
   Calls prog 38 #[.agg (C_api_World a1 A2 c3 A5 c6).toArray, .agg (C_api_State a8).toArray, iV a9] w (Ret fun v w => match (generalizing := false) r with | .inl r_ => v = .tuple #[.pointer none, iV r_] ∧ St B w (l) hf | .inr (r_) => ∃ hf_ : Hp, Sub hf hf_ ∧ ∃ (b_1 : Nat), v = .tuple #[pV b_1, iV r_.2] ∧ St B w (O_log_Log hf_ r_.1 b_1 :: l) hf_) := by
 have h := Holds.of h
 refine en func38 rfl ntmps38 rfl (sr (rr [0, 0, 0, 0] hS ?_))
 refine fun b39 b40 => it fun w hS => ln (RC.seq (sr (rr [2] hS ?_)))
 refine it fun w hS => cF (fun _ hg => vm_Check.ok hr4 hr7 hg hS) call80 h rfl rfl rfl ?_
 rintro t44 h _ w ⟨rfl, hS⟩
 refine pn 1 rfl (lnsr (pn 2 rfl (ln ?_)))
 refine RC.iteN 12 rfl h (fun hc46 h => ?_) fun hc46 h => ?_
 next =>
  refine jfs (RC.seq (sr (rr [0, 1, 0, 1] hS ?_)))
  refine it fun w hS => RL.s (Vl.min2 rfl rfl) rfl (pn 2 rfl ?_)
  refine RL.iteP 20 rfl h (fun hc51 h => ?_) fun hc51 h => ?_
  next =>
   refine pn 15 rfl (ln (jtr (pn 2 rfl (lr (RQ.ret ?_)))))
   cases h.some
   exact rt results38 rfl ⟨rfl, hS.d0.d0⟩
  refine rr [0, 1, 0, 1] hS ?_
  refine it fun w hS => RL.sg (Vl.max2 rfl rfl) rfl rfl (pn 3 rfl ?_)
  refine RL.iteP 28 rfl h (fun hc52 h => ?_) fun hc52 h => ?_
  next =>
   refine pn 7 rfl (ln (jtr (pn 2 rfl (lr (RQ.ret ?_)))))
   cases h.some
   exact rt results38 rfl ⟨rfl, hS.d0.d0⟩
  refine pn 4 rfl ?_
  refine RL.iteP 32 rfl h (fun hc53 h => ?_) fun hc53 h => ?_
  next =>
   refine pn 3 rfl (ln (jtr (pn 2 rfl (lr (RQ.ret ?_)))))
   cases h.some
   exact rt results38 rfl ⟨rfl, hS.d0.d0⟩
  refine pn 3 rfl (ln ?_)
  refine RC.iteP 35 rfl h (fun hc54 h => ?_) fun hc54 h => ?_
  next =>
   refine jtr (pn 2 rfl (lr (RQ.ret ?_)))
   cases h.some
   exact rt results38 rfl ⟨rfl, hS.d0.d0⟩
  refine jfs (sr (rr [0, 2] hS ?_))
  refine it fun w hS => ?_
  obtain ⟨hq55, h⟩ := h.req
  have hS := hS.nilSl E_api_Instr 269
  refine RL.e (OW.appendV (E := E_api_Instr) (xs := ([] : List api_Instr)) (ys := a1.Prog) 0 hS rfl underlying89 type269 rfl rfl rfl rfl (by decide) (by decide) rfl rfl (hr4.2.world hS.sub) hq55 rfl) rfl rfl ?_
  rintro v58 w hS
  obtain ⟨A56, c57, rfl, _⟩ := hS.osShape 0 rfl
  have hS : St B w (_ :: _ :: _ :: l) hf := hS
  refine rr [0, 3] hS ?_
  refine it fun w hS => lnsr (rr [0, 3] hS ?_)
  refine it fun w hS => ?_
  obtain ⟨hq59, h⟩ := h.req
  have hS := hS.nilSl E_api_Link 144
  refine RL.e (OW.appendV (E := E_api_Link) (xs := ([] : List api_Link)) (ys := a1.Links) 0 hS rfl underlying23 type144 rfl rfl rfl rfl (by decide) (by decide) rfl rfl (hr7.2.world hS.sub) hq59 rfl) rfl rfl ?_
  rintro v62 w hS
  obtain ⟨A60, c61, rfl, _⟩ := hS.osShape 0 rfl
  have hS : St B w (_ :: _ :: _ :: _ :: l) hf := hS
  refine rr [0, 4] hS ?_
  refine it fun w hS => lnsr (rr [4, 3, 0, 0] hS ?_)
  refine it fun w hS => ?_
  obtain ⟨hf, hs63, hS, hr64⟩ := St.promote hS.p1
  obtain ⟨hf, hs65, hS, hr66⟩ := St.promote hS
  refine rr [0, 0, 0] hS ?_
  refine fun b67 => it fun w hS => lr ?_
  have hS := hS.nilSlR 176 10
  have hS := O_log_Log.c (x := (⟨({ a1 with Prog := (([] : List api_Instr) ++ a1.Prog), Links := (([] : List api_Link) ++ a1.Links) } : api_World), true, a8, a9, ([] : List log_done), false⟩ : log_Log)) (hr64.mono hs65) hr66 RepL.nil hS.p1
  cases h.some
  exact rt results38 rfl ⟨_, (hs63.trans hs65), b67, rfl, hS.d1.d1⟩
 refine jtr (pn 3 rfl (lr (RQ.ret ?_)))
 cases h.some
 exact rt results38 rfl ⟨rfl, hS.d0.d0⟩
def heap_New.f  : Option (heap_Heap) := some (⟨([] : List api_Message)⟩ : heap_Heap)
theorem heap_New.ok {r : heap_Heap} (h : heap_New.f = some r) (hS : St B w (l) hf) :
   Calls prog 115 #[] w (Ret fun v w => ∃ (b_1 : Nat), v = pV b_1 ∧ St B w (O_heap_Heap hf r b_1 :: l) hf) := by
 have h := Holds.of h
 refine en func115 rfl ntmps115 rfl (sr (pn 1 rfl (lnsr (rr [0, 0, 0, 0] hS ?_))))
 refine fun b2 => it fun w hS => lr ?_
 have hS := hS.nilSl E_api_Message 48
 have hS := O_heap_Heap.c (x := (⟨([] : List api_Message)⟩ : heap_Heap)) hS.p1
 cases h.some
 exact rt results115 rfl ⟨b2, rfl, hS⟩
def pend_fresh.f  : Option (heap_Heap) := ((heap_New.f).bind fun t4 => some t4)
theorem pend_fresh.ok {r : heap_Heap} (h : pend_fresh.f = some r) (hS : St B w (l) hf) :
   Calls prog 81 #[iV 0] w (Ret fun v w => ∃ (b_1 : Nat), v = .iface 203 (pV b_1) ∧ St B w (O_heap_Heap hf r b_1 :: l) hf) := by
 have h := Holds.of h
 refine en func81 rfl ntmps81 rfl (sr (pn 1 rfl (ln (RC.seq (sr (pn 1 rfl (ln (RC.block (sr (pn 2 rfl ?_))))))))))
 refine ln (jtr (cF (fun _ hg => heap_New.ok hg hS) call115 h rfl rfl rfl ?_))
 rintro t4 h _ w ⟨b6, rfl, hS⟩
 refine r0 2 rfl (lr (ir ?_))
 obtain rfl := h.some
 exact rt results81 rfl ⟨b6, rfl, hS⟩
def pend_New.f  : Option (pend_Pend × Int) := ((pend_fresh.f).bind fun t11 => some ((⟨t11⟩ : pend_Pend), 0))
theorem pend_New.ok {r : pend_Pend × Int} (h : pend_New.f = some r) (hS : St B w (l) hf) :
   Calls prog 39 #[iV 0] w (Ret fun v w => ∃ (b_1 : Nat), v = .tuple #[pV b_1, iV r.2] ∧ St B w (O_pend_Pend hf r.1 b_1 :: l) hf) := by
 have h := Holds.of h
 refine en func39 rfl ntmps39 rfl (sr (pn 2 rfl (lnsr (pn 1 rfl (cF (fun _ hg => pend_fresh.ok hg hS) call81 h rfl rfl rfl ?_)))))
 rintro t11 h _ w ⟨b13, rfl, hS⟩
 refine pn 1 rfl (ln (RC.seq (sr (pn 1 rfl (RL.s (Vl.bn false rfl rfl) rfl (ln (jfs (sr (rr [0, 0, 0, 0, 0] hS ?_)))))))))
 refine fun b14 => it fun w hS => ?_
 refine lr ?_
 have hS := O_pend_Pend.c (x := (⟨t11⟩ : pend_Pend)) hS
 cases h.some
 exact rt results39 rfl ⟨b14, rfl, hS⟩
def model_Starts.l2b (a1 : api_Model) : List api_Message × Int → Option ((List api_Message × Int) ⊕ (List api_Message))
 | (l90, x93) => (if x93 < (a1.Starts.length : Int) then (if 0 ≤ x93 then (if (l90.length + 1) * 56 ≤ 140737488355328 then some (.inl ((l90 ++ ([(⟨(⟨(nth a1.Starts x93).Time, (-1), x93⟩ : api_Key), (nth a1.Starts x93).To, (nth a1.Starts x93).Value, x93, false⟩ : api_Message)])), IntKind.i64.wrap (x93 + 1))) else none) else none) else some (.inr l90))
def model_Starts.l2 (a1 : api_Model) (s : List api_Message × Int) : Option (List api_Message) := loopR (model_Starts.l2b a1) s
def model_Starts.f (a1 : api_Model) : Option (List api_Message) := model_Starts.l2 a1 ([], 0)
theorem model_Starts.ok {a1 : api_Model} {A2 A5 A8 : Option Addr} {c3 c6 c9 : Nat} (hr4 : SlR (Rep.sl E_api_Instr.rep) hf A2 c3 a1.Progs) (hr7 : SlR E_api_Link.rep hf A5 c6 a1.Links) (hr10 : SlR E_api_Start.rep hf A8 c9 a1.Starts) {r : List api_Message} (h : model_Starts.f a1 = some r) (hS : St B w (l) hf) :
   Calls prog 40 #[.agg (C_api_Model a1 A2 c3 A5 c6 A8 c9).toArray] w (Ret fun v w => ∃ (A_1 : Option Addr) (c_2 : Nat), v = sV A_1 r c_2 ∧ St B w (OSf E_api_Message 48 (sV A_1 r c_2) r :: l) hf) := by
 have h := Holds.of h
 refine en func40 rfl ntmps40 rfl (sr (rr [0, 0] hS ?_))
 refine fun b71 => it fun w hS => lnsr (pn 1 rfl (ln (RC.seq (sr (rr [0, 1, 0, 0] hS ?_)))))
 refine it fun w hS => RL.nil ?_
 refine RQ.then_n (RC.block ?_)
 have hS := hS.nilSl E_api_Message 48
 refine fun a ha => lp h (fun (s : List api_Message × Int) a w => ∃ l90 x93, s = (l90, x93) ∧ ∃ A91 c92, Has 29 [(3, sV A91 l90 c92), (7, sV A8 a1.Starts c9), (8, iV (a1.Starts.length : Int)), (9, iV x93)] a ∧ St B w (OSf E_api_Message 48 (sV A91 l90 c92) l90 :: l) hf) ⟨_, _, rfl, _, _, ha.tE rfl, hS.d1⟩ ?_
 rintro G114 _ a w ⟨l90, x93, rfl, A91, c92, ha, hS⟩ h
 refine ro ha (sr (pn 1 rfl (ln (RC.seq ?_))))
 refine RC.iteP 10 rfl h (fun hc116 h => ?_) fun hc116 h => ?_
 next =>
  refine jt (sk (RC.seq (RC.block (sr (pn 1 rfl ?_)))))
  obtain ⟨hq124, h⟩ := h.req
  refine RL.s (Vl.indexAddr underlying24 sizeOf157 rfl rfl ((hr10.2.world hS.sub).adr hq124 hc116) hq124 hc116 rfl) rfl (RL.s (Vl.loadA isAgg157 sizeOf157 rfl rfl ((hr10.2.world hS.sub).cells hq124 hc116)) rfl (rr [0, 0, 1] hS ?_))
  refine fun b125 => it fun w hS => ln (RC.region (rr [0, 0, 1, 0, 0, 0, 1, 0, 1, 0, 0] hS ?_))
  refine it fun w hS => RL.e (OW.buildSlice (E := E_api_Message) (xs := [(⟨(⟨(nth a1.Starts x93).Time, (-1), x93⟩ : api_Key), (nth a1.Starts x93).To, (nth a1.Starts x93).Value, x93, false⟩ : api_Message)]) (cs := [iV ((nth a1.Starts x93).Time), iV (-1), iV x93, iV ((nth a1.Starts x93).To), iV ((nth a1.Starts x93).Value), iV x93, .bool false]) hS underlying39 zeroValue48 sizeOf48 (parts := [(0, .tmp 24)]) rfl rfl (by decide) (by decide) (by kernel_rfl) rfl) rfl rfl ?_
  rintro _ w ⟨b126, rfl, hS⟩
  obtain ⟨hq127, h⟩ := h.req
  refine RL.e (OW.append (E := E_api_Message) (xs := l90) (ys := [(⟨(⟨(nth a1.Starts x93).Time, (-1), x93⟩ : api_Key), (nth a1.Starts x93).To, (nth a1.Starts x93).Value, x93, false⟩ : api_Message)]) 2 hS rfl underlying39 type48 rfl rfl rfl rfl (by decide) rfl rfl rfl (hS.slW 0 rfl).2.2.flat (by simp only [maxLen, List.length_cons, List.length_nil] at *; omega) hq127 rfl) rfl rfl ?_
  rintro v130 w hS
  obtain ⟨A128, c129, rfl, _⟩ := hS.osShape 0 rfl
  have hS : St B w (_ :: _ :: _ :: l) hf := hS
  refine pn 1 rfl (RL.nil (RQ.inB_n (RQ.then_n (RC.region (pn 2 rfl (RL.nil ?_))))))
  exact fun a ha => ⟨_, h.some, _, _, rfl, _, _, ha.tE rfl, hS.d1.d1⟩
 refine jf (RC.exit (RQ.exitT ?_))
 have h := h.inrS
 refine RQ.exitT (RQ.inB_hit (tsr (pn 2 rfl (lr ?_))))
 obtain rfl := h.some
 exact rt results40 rfl ⟨A91, c92, rfl, hS⟩
def pend_Pend_none.f (a2 : pend_Pend) : Option (Unit) := some ()
theorem pend_Pend_none.ok {a2 : pend_Pend} {b1 : Nat} {r : Unit} (h : pend_Pend_none.f a2 = some r) (hS : St B w (O_pend_Pend hf a2 b1 :: l) hf) :
   Calls prog 93 #[pV b1] w (Ret fun v w => v = .bool false ∧ St B w (O_pend_Pend hf a2 b1 :: l) hf) := by
 have h := Holds.of h
 refine en func93 rfl ntmps93 rfl (sr (pn 1 rfl (lnsr (pn 1 rfl (RL.s (Vl.bn false rfl rfl) rfl (r0 4 rfl ?_))))))
 obtain ⟨b4, hS⟩ := O_pend_Pend.o hS
 refine rr [1] hS ?_
 refine it fun w hS => RL.sg (Vl.bn false rfl rfl) rfl rfl (pn 2 rfl (lr ?_))
 have hS := O_pend_Pend.c (x := a2) hS
 exact rt results93 rfl ⟨rfl, hS⟩
def heap_Heap_none.f (a2 : heap_Heap) : Option (Unit) := some ()
theorem heap_Heap_none.ok {a2 : heap_Heap} {b1 : Nat} {r : Unit} (h : heap_Heap_none.f a2 = some r) (hS : St B w (O_heap_Heap hf a2 b1 :: l) hf) :
   Calls prog 198 #[pV b1] w (Ret fun v w => v = .bool false ∧ St B w (O_heap_Heap hf a2 b1 :: l) hf) := by
 have h := Holds.of h
 refine en func198 rfl ntmps198 rfl (sr (pn 1 rfl (lnsr (pn 1 rfl (RL.s (Vl.bn false rfl rfl) rfl (r0 5 rfl ?_))))))
 obtain ⟨A5, c6, hS⟩ := O_heap_Heap.o hS
 refine rr [1] hS ?_
 refine it fun w hS => RL.sg (Vl.bn false rfl rfl) rfl rfl (pn 2 rfl (lr ?_))
 have hS := O_heap_Heap.c (x := a2) hS
 exact rt results198 rfl ⟨rfl, hS⟩
def heap_pile_api_Message_each.f (a4 : List api_Message) : Option (Unit) := some ()
theorem heap_pile_api_Message_each.ok {a4 : List api_Message} {b1 c3 : Nat} {A2 : Option Addr} {r : Unit} (h : heap_pile_api_Message_each.f a4 = some r) (hS : St B w (Cl b1 [sV A2 a4 c3, .func (.func 62) #[] #[]] 245 :: OSf E_api_Message 48 (sV A2 a4 c3) a4 :: l) hf) :
   Calls prog 202 #[pV b1] w (Ret fun v w => ∃ (b_1 : Nat), v = .func (.func 205) #[] #[pV b_1] ∧ St B w (Cl b_1 [pV b1] 319 :: Cl b1 [sV A2 a4 c3, .func (.func 62) #[] #[]] 245 :: OSf E_api_Message 48 (sV A2 a4 c3) a4 :: l) hf) := by
 have h := Holds.of h
 refine en func202 rfl ntmps202 rfl (sr (rr [0, 0] hS ?_))
 refine fun b6 => it fun w hS => lnsr (RL.s (Vl.makeFunc (fi := []) (ca := [.tmp 1]) rfl rfl) rfl (pn 1 rfl (lr ?_)))
 exact rt results202 rfl ⟨b6, rfl, hS⟩
def heap_Heap_find_round0.f (a5 a7 a9 a10 : Int) (a11 : api_Message) : Option ((Int) ⊕ (Unit)) := (if a11.Key.From = a5 then (if a11.Uid = a7 then some (.inl a10) else some (.inr (()))) else some (.inr (())))
theorem heap_Heap_find_round0.ok {a5 a7 a9 a10 : Int} {a11 : api_Message} {b1 b4 b6 b8 : Nat} {rc2 : Loop} (hr3 : RecF f199 0 27 [(4, pV b4), (5, pV b6), (6, pV b8)] rc2) {r : (Int) ⊕ (Unit)} (h : heap_Heap_find_round0.f a5 a7 a9 a10 a11 = some r) (hS : St B w (pts b1 (.loop rc2) :: Cl b4 [iV a5] 3 :: Cl b6 [iV a7] 3 :: Cl b8 [iV a9] 3 :: l) hf) :
   Yld prog b1 [iV a10, .agg (C_api_Message a11).toArray] w (Ret fun v w => match (generalizing := false) r with | .inl r_ => v = .bool false ∧ St B w (pts b1 (.loop (pd rc2 .ret)) :: Cl b4 [iV a5] 3 :: Cl b6 [iV a7] 3 :: Cl b8 [iV r_] 3 :: l) hf | .inr (r_) => v = .bool true ∧ St B w (pts b1 (.loop rc2) :: Cl b4 [iV a5] 3 :: Cl b6 [iV a7] 3 :: Cl b8 [iV a9] 3 :: l) hf) := by
 have h := Holds.of h
 refine Yld.of (psl := [13, 14]) hS hr3 rfl rfl rfl ?_
 show RC _ ⟨27, [], false⟩ _ _ [(14, .agg (C_api_Message a11).toArray), (13, iV a10), (4, pV b4), (5, pV b6), (6, pV b8)] w
 refine sr (pn 1 rfl (ln (RC.region (rr [0, 1] hS ?_))))
 refine fun b15 => it fun w hS => ln (RQ.bg hS.p1 hr3.state rfl fun w hS => RC.block (sr (rr [0, 0, 2, 3, 0, 0] hS ?_)))
 refine it fun w hS => RL.iteP 20 rfl h (fun hc16 h => ?_) fun hc16 h => ?_
 next =>
  refine rr [0, 2, 4, 0, 0] hS ?_
  refine it fun w hS => ln ?_
  refine RC.iteP 25 rfl h (fun hc17 h => ?_) fun hc17 h => ?_
  next =>
   refine jtr (rr [0, 5] hS ?_)
   refine it fun w hS => lr (RQ.inB_ret ?_)
   cases h.some
   exact RQ.rr hS fun w hS => ⟨rfl, hS.d1⟩
  refine jf (RC.skip (RQ.inB_n ?_))
  cases h.some
  exact RQ.rn hS hr3.state hr3.pending fun w hS => ⟨rfl, hS.d1⟩
 refine pn 5 rfl (ln (jf (RC.skip (RQ.inB_n ?_))))
 cases h.some
 exact RQ.rn hS hr3.state hr3.pending fun w hS => ⟨rfl, hS.d1⟩
def heap_pile_api_Message_each_1.l2b (a5 a7 a9 : Int) (a14 : List api_Message) : Int → Option ((Int) ⊕ ((Int) ⊕ (Unit)))
 | (x64) => (if x64 < (a14.length : Int) then (if 0 ≤ x64 then ((heap_Heap_find_round0.f a5 a7 a9 x64 (nth a14 x64)).bind fun t88 => match t88 with | .inl y90 => some (.inr (.inl y90)) | .inr (_) => some (.inl (IntKind.i64.wrap (x64 + 1)))) else none) else some (.inr (.inr (()))))
def heap_pile_api_Message_each_1.l2 (a5 a7 a9 : Int) (a14 : List api_Message) (s : Int) : Option ((Int) ⊕ (Unit)) := loopR (heap_pile_api_Message_each_1.l2b a5 a7 a9 a14) s
def heap_pile_api_Message_each_1.f (a5 a7 a9 : Int) (a14 : List api_Message) : Option ((Int) ⊕ (Unit)) := heap_pile_api_Message_each_1.l2 a5 a7 a9 a14 (0)
theorem heap_pile_api_Message_each_1.ok {a5 a7 a9 : Int} {a14 : List api_Message} {b1 b4 b6 b8 b10 b11 c13 : Nat} {rc2 : Loop} {A12 : Option Addr} (hr3 : RecF f199 0 27 [(4, pV b4), (5, pV b6), (6, pV b8)] rc2) {r : (Int) ⊕ (Unit)} (h : heap_pile_api_Message_each_1.f a5 a7 a9 a14 = some r) (hS : St B w (pts b1 (.loop rc2) :: Cl b4 [iV a5] 3 :: Cl b6 [iV a7] 3 :: Cl b8 [iV a9] 3 :: Cl b11 [sV A12 a14 c13, .func (.func 62) #[] #[]] 245 :: OSf E_api_Message 48 (sV A12 a14 c13) a14 :: Cl b10 [pV b11] 319 :: l) hf) :
   Calls prog 205 #[.func (.yield b1) #[] #[], pV b10] w (Ret fun v w => match (generalizing := false) r with | .inl r_ => v = .tuple #[] ∧ St B w (pts b1 (.loop (pd rc2 .ret)) :: Cl b4 [iV a5] 3 :: Cl b6 [iV a7] 3 :: Cl b8 [iV r_] 3 :: Cl b11 [sV A12 a14 c13, .func (.func 62) #[] #[]] 245 :: OSf E_api_Message 48 (sV A12 a14 c13) a14 :: Cl b10 [pV b11] 319 :: l) hf | .inr (r_) => v = .tuple #[] ∧ St B w (pts b1 (.loop rc2) :: Cl b4 [iV a5] 3 :: Cl b6 [iV a7] 3 :: Cl b8 [iV a9] 3 :: Cl b11 [sV A12 a14 c13, .func (.func 62) #[] #[]] 245 :: OSf E_api_Message 48 (sV A12 a14 c13) a14 :: Cl b10 [pV b11] 319 :: l) hf) := by
 have h := Holds.of h
 refine en func205 rfl ntmps205 rfl (sr (rr [7, 0, 0, 5, 0, 0] hS ?_))
 refine it fun w hS => ln (RC.block (fun a ha => lp h (fun (s : Int) a w => ∃ x64, s = (x64) ∧ Has 21 [(0, .func (.yield b1) #[] #[]), (8, sV A12 a14 c13), (9, iV (a14.length : Int)), (10, iV x64)] a ∧ St B w (OSf E_api_Message 48 (sV A12 a14 c13) a14 :: pts b1 (.loop rc2) :: Cl b4 [iV a5] 3 :: Cl b6 [iV a7] 3 :: Cl b8 [iV a9] 3 :: Cl b11 [sV A12 a14 c13, .func (.func 62) #[] #[]] 245 :: Cl b10 [pV b11] 319 :: l) hf) ⟨_, rfl, ha.tE rfl, hS.p5⟩ ?_))
 rintro G78 x64 a w ⟨_, rfl, ha, hS⟩ h
 refine ro ha (sr (pn 1 rfl (ln (RC.seq ?_))))
 refine RC.iteP 11 rfl h (fun hc80 h => ?_) fun hc80 h => ?_
 next =>
  refine jt (sk (RC.seq (RC.block (sr (pn 1 rfl ?_)))))
  obtain ⟨hq86, h⟩ := h.req
  refine RL.s (Vl.indexOwn 0 hS rfl underlying39 sizeOf48 rfl rfl hq86 hc80) rfl (RL.s (Vl.loadA isAgg48 sizeOf48 rfl rfl ((hS.slW 0 rfl).2.2.cells hq86 hc80)) rfl (rr [0, 0, 1] hS ?_))
  refine fun b87 => it fun w hS => lnsr (rr [0, 0, 1] hS ?_)
  refine it fun w hS => yc (fun _ hg89 => heap_Heap_find_round0.ok hr3 hg89 hS.p5.p5.p5.p5) rfl h rfl rfl rfl rfl ?_
  intro t88 h
  rcases t88 with y90 | _
  · rintro _ w ⟨rfl, hS⟩
    have hS : St B w (_ :: _ :: _ :: _ :: _ :: _ :: _ :: _ :: l) hf := hS
    refine pn 1 rfl (ln (jt (RC.ret (ir ?_))))
    have h := h.inrS
    refine RQ.ret (RQ.inB_ret ?_)
    cases h.some
    exact rt results205 rfl ⟨rfl, hS.d4.p5.p4.p4.p4.p4⟩
  · rintro _ w ⟨rfl, hS⟩
    have hS : St B w (_ :: _ :: _ :: _ :: _ :: _ :: _ :: _ :: l) hf := hS
    refine pn 1 rfl (ln (jf (RC.skip (RQ.inB_n (RQ.then_n (RC.region (pn 2 rfl (RL.nil ?_))))))))
    exact fun a ha => ⟨_, h.some, _, rfl, ha.tE rfl, hS.d4.p4⟩
 refine jf (RC.exit (RQ.exitT ?_))
 have h := h.inrS
 refine RQ.exitT (RQ.inB_hit ?_)
 cases h.some
 exact rtE results205 rfl ⟨rfl, hS.p5.p5.p5.p5.p5⟩
def heap_Heap_find.f (a2 : heap_Heap) (a3 a4 : Int) : Option (Int) := ((heap_pile_api_Message_each.f a2.p_l).bind fun _ => ((heap_pile_api_Message_each_1.f a3 a4 0 a2.p_l).bind fun t82 => match t82 with | .inl y84 => some y84 | .inr (_) => some (-1)))
theorem heap_Heap_find.ok {a2 : heap_Heap} {a3 a4 r : Int} {b1 : Nat} (h : heap_Heap_find.f a2 a3 a4 = some r) (hS : St B w (O_heap_Heap hf a2 b1 :: l) hf) :
   Calls prog 199 #[pV b1, iV a3, iV a4] w (Ret fun v w => v = iV r ∧ St B w (O_heap_Heap hf a2 b1 :: l) hf) := by
 have h := Holds.of h
 refine enM func199 rfl ntmps199 rfl (sr (rr [0, 0, 0] hS ?_))
 refine fun b48 b49 b50 => it fun w hS => ln (RC.seq (sr (r0 3 rfl ?_)))
 obtain ⟨A73, c74, hS⟩ := O_heap_Heap.o hS.p3
 refine cF (fun _ hg => heap_pile_api_Message_each.ok hg hS) call202 h rfl rfl rfl ?_
 rintro _ h _ w ⟨b77, rfl, hS⟩
 refine ln (RC.block ?_)
 obtain ⟨t82, hg83, h⟩ := h.bind
 refine RC.rf (args := fun b78 => #[.func (.yield b78) #[] #[], pV b77]) rfl call205 rfl hS (fun _ => by simp) (fun b78 d79 rc80 w hr81 hS => heap_pile_api_Message_each_1.ok (RecOK.to (M := 27) hr81 rfl rfl ⟨rfl, rfl, rfl, trivial⟩) hg83 hS.p2.p4.p4.p5.p6.p7.p6) ?_
 rcases t82 with y84 | _
 · rintro b78 d79 rc80 _ w hr81 ⟨rfl, hS⟩
   refine RE.r hS fun w hS => ir ?_
   have hS := O_heap_Heap.c (x := a2) hS.p4.p4
   obtain rfl := h.some
   exact rtM1 (vs := [iV y84]) results199 hS.p5 fun w hS => ⟨⟨⟨_, rfl, run_loadVar1 isAgg3 (hS.cell 3 rfl rfl)⟩, trivial⟩, ⟨rfl, hS.d1.d1.d1.d1⟩⟩
 · rintro b78 d79 rc80 _ w hr81 ⟨rfl, hS⟩
   refine RE.n hS hr81.state hr81.pending fun w hS => RQ.inB_n (tsr (rr [3] hS ?_))
   refine it fun w hS => lr ?_
   have hS := O_heap_Heap.c (x := a2) hS.p4.p4
   cases h.some
   exact rtM1 (vs := [iV (-1)]) results199 hS.p5 fun w hS => ⟨⟨⟨_, rfl, run_loadVar1 isAgg3 (hS.cell 3 rfl rfl)⟩, trivial⟩, ⟨rfl, hS.d1.d1.d1.d1⟩⟩
def cmp_isNaN_int64.f (a1 : Int) : Option (Bool) := some (!decide (a1 = a1))
theorem cmp_isNaN_int64.ok {a1 : Int} {r : Bool} (h : cmp_isNaN_int64.f a1 = some r) (hS : St B w (l) hf) :
   Calls prog 132 #[iV a1] w (Ret fun v w => v = .bool r ∧ St B w (l) hf) := by
 have h := Holds.of h
 refine en func132 rfl ntmps132 rfl (sr (pn 1 rfl (lnsr (pn 4 rfl (lr ?_)))))
 cases h.some
 exact rt results132 rfl ⟨rfl, hS⟩
def cmp_Compare_int64.f (a1 a2 : Int) : Option (Int) := ((cmp_isNaN_int64.f a1).bind fun t16 => ((cmp_isNaN_int64.f a2).bind fun t18 => (if t16 = true then (if t18 = true then some 0 else some (-1)) else (if t18 = true then some 1 else (if a1 < a2 then some (-1) else (if a2 < a1 then some 1 else some 0))))))
theorem cmp_Compare_int64.ok {a1 a2 r : Int} (h : cmp_Compare_int64.f a1 a2 = some r) (hS : St B w (l) hf) :
   Calls prog 126 #[iV a1, iV a2] w (Ret fun v w => v = iV r ∧ St B w (l) hf) := by
 have h := Holds.of h
 refine en func126 rfl ntmps126 rfl (sr (pn 1 rfl (lnsr (pn 1 rfl (cF (fun _ hg => cmp_isNaN_int64.ok hg hS) call132 h rfl rfl rfl ?_)))))
 rintro t16 h _ w ⟨rfl, hS⟩
 refine pn 1 rfl (lnsr (pn 1 rfl (cF (fun _ hg => cmp_isNaN_int64.ok hg hS) call132 h rfl rfl rfl ?_)))
 rintro t18 h _ w ⟨rfl, hS⟩
 refine pn 1 rfl (ln (RC.seq (sr (pn 1 rfl (ln ?_)))))
 refine RC.iteB 11 rfl h (fun hc22 h => ?_) fun hc22 h => ?_
 next =>
  refine jt (RC.seq (sr (pn 1 rfl (ln ?_))))
  refine RC.iteB 12 rfl h (fun hc23 h => ?_) fun hc23 h => ?_
  next =>
   refine jtr (pn 1 rfl (lr (RQ.ret (RQ.ret ?_))))
   obtain rfl := h.some
   exact rt results126 rfl ⟨rfl, hS⟩
  refine jfs (sr (pn 1 rfl (lr (RQ.ret ?_))))
  cases h.some
  exact rt results126 rfl ⟨rfl, hS⟩
 refine jfs (RC.seq (sr (pn 1 rfl (ln ?_))))
 refine RC.iteB 13 rfl h (fun hc25 h => ?_) fun hc25 h => ?_
 next =>
  refine jtr (pn 1 rfl (lr (RQ.ret ?_)))
  obtain rfl := h.some
  exact rt results126 rfl ⟨rfl, hS⟩
 refine jfs (RC.seq (sr (pn 3 rfl (ln ?_))))
 refine RC.iteP 16 rfl h (fun hc27 h => ?_) fun hc27 h => ?_
 next =>
  refine jtr (pn 1 rfl (lr (RQ.ret ?_)))
  cases h.some
  exact rt results126 rfl ⟨rfl, hS⟩
 refine jfs (RC.seq (sr (pn 3 rfl (ln ?_))))
 refine RC.iteP 19 rfl h (fun hc28 h => ?_) fun hc28 h => ?_
 next =>
  refine jtr (pn 1 rfl (lr (RQ.ret ?_)))
  obtain rfl := h.some
  exact rt results126 rfl ⟨rfl, hS⟩
 refine jfs (sr (pn 1 rfl (lr ?_)))
 obtain rfl := h.some
 exact rt results126 rfl ⟨rfl, hS⟩
def cmp_isNaN_int.f (a1 : Int) : Option (Bool) := some (!decide (a1 = a1))
theorem cmp_isNaN_int.ok {a1 : Int} {r : Bool} (h : cmp_isNaN_int.f a1 = some r) (hS : St B w (l) hf) :
   Calls prog 127 #[iV a1] w (Ret fun v w => v = .bool r ∧ St B w (l) hf) := by
 have h := Holds.of h
 refine en func127 rfl ntmps127 rfl (sr (pn 1 rfl (lnsr (pn 4 rfl (lr ?_)))))
 cases h.some
 exact rt results127 rfl ⟨rfl, hS⟩
def cmp_Compare_int.f (a1 a2 : Int) : Option (Int) := ((cmp_isNaN_int.f a1).bind fun t16 => ((cmp_isNaN_int.f a2).bind fun t18 => (if t16 = true then (if t18 = true then some 0 else some (-1)) else (if t18 = true then some 1 else (if a1 < a2 then some (-1) else (if a2 < a1 then some 1 else some 0))))))
theorem cmp_Compare_int.ok {a1 a2 r : Int} (h : cmp_Compare_int.f a1 a2 = some r) (hS : St B w (l) hf) :
   Calls prog 112 #[iV a1, iV a2] w (Ret fun v w => v = iV r ∧ St B w (l) hf) := by
 have h := Holds.of h
 refine en func112 rfl ntmps112 rfl (sr (pn 1 rfl (lnsr (pn 1 rfl (cF (fun _ hg => cmp_isNaN_int.ok hg hS) call127 h rfl rfl rfl ?_)))))
 rintro t16 h _ w ⟨rfl, hS⟩
 refine pn 1 rfl (lnsr (pn 1 rfl (cF (fun _ hg => cmp_isNaN_int.ok hg hS) call127 h rfl rfl rfl ?_)))
 rintro t18 h _ w ⟨rfl, hS⟩
 refine pn 1 rfl (ln (RC.seq (sr (pn 1 rfl (ln ?_)))))
 refine RC.iteB 11 rfl h (fun hc22 h => ?_) fun hc22 h => ?_
 next =>
  refine jt (RC.seq (sr (pn 1 rfl (ln ?_))))
  refine RC.iteB 12 rfl h (fun hc23 h => ?_) fun hc23 h => ?_
  next =>
   refine jtr (pn 1 rfl (lr (RQ.ret (RQ.ret ?_))))
   obtain rfl := h.some
   exact rt results112 rfl ⟨rfl, hS⟩
  refine jfs (sr (pn 1 rfl (lr (RQ.ret ?_))))
  cases h.some
  exact rt results112 rfl ⟨rfl, hS⟩
 refine jfs (RC.seq (sr (pn 1 rfl (ln ?_))))
 refine RC.iteB 13 rfl h (fun hc25 h => ?_) fun hc25 h => ?_
 next =>
  refine jtr (pn 1 rfl (lr (RQ.ret ?_)))
  obtain rfl := h.some
  exact rt results112 rfl ⟨rfl, hS⟩
 refine jfs (RC.seq (sr (pn 3 rfl (ln ?_))))
 refine RC.iteP 16 rfl h (fun hc27 h => ?_) fun hc27 h => ?_
 next =>
  refine jtr (pn 1 rfl (lr (RQ.ret ?_)))
  cases h.some
  exact rt results112 rfl ⟨rfl, hS⟩
 refine jfs (RC.seq (sr (pn 3 rfl (ln ?_))))
 refine RC.iteP 19 rfl h (fun hc28 h => ?_) fun hc28 h => ?_
 next =>
  refine jtr (pn 1 rfl (lr (RQ.ret ?_)))
  obtain rfl := h.some
  exact rt results112 rfl ⟨rfl, hS⟩
 refine jfs (sr (pn 1 rfl (lr ?_)))
 obtain rfl := h.some
 exact rt results112 rfl ⟨rfl, hS⟩
def cmp_Or_int.l2b (a1 : List Int) : Int → Option ((Int) ⊕ (Int))
 | (x30) => (if x30 < (a1.length : Int) then (if 0 ≤ x30 then (if nth a1 x30 = 0 then some (.inl (IntKind.i64.wrap (x30 + 1))) else some (.inr (nth a1 x30))) else none) else some (.inr 0))
def cmp_Or_int.l2 (a1 : List Int) (s : Int) : Option (Int) := loopR (cmp_Or_int.l2b a1) s
def cmp_Or_int.f (a1 : List Int) : Option (Int) := cmp_Or_int.l2 a1 (0)
theorem cmp_Or_int.ok {a1 : List Int} {A2 : Option Addr} {c3 : Nat} (hr4 : SlR ((FI .i64).rep) hf A2 c3 a1) {r : Int} (h : cmp_Or_int.f a1 = some r) (hS : St B w (l) hf) :
   Calls prog 110 #[sV A2 a1 c3] w (Ret fun v w => v = iV r ∧ St B w (l) hf) := by
 have h := Holds.of h
 refine en func110 rfl ntmps110 rfl (sr (pn 1 rfl (lnsr (pn 1 rfl (ln (RC.seq (sr (r0 3 rfl (RL.nil ?_)))))))))
 refine RQ.then_n (RC.block (fun a ha => lp h (fun (s : Int) a w => ∃ x30, s = (x30) ∧ Has 18 [(3, iV 0), (6, sV A2 a1 c3), (7, iV (a1.length : Int)), (8, iV x30)] a ∧ St B w (l) hf) ⟨_, rfl, ha.tE rfl, hS⟩ ?_))
 rintro G38 x30 a w ⟨_, rfl, ha, hS⟩ h
 refine ro ha (sr (pn 1 rfl (ln (RC.seq ?_))))
 refine RC.iteP 9 rfl h (fun hc40 h => ?_) fun hc40 h => ?_
 next =>
  refine jt (sk (RC.seq (RC.block (sr ?_))))
  obtain ⟨hq43, h⟩ := h.req
  refine RL.s (Vl.indexAddr underlying37 sizeOf3 rfl rfl ((hr4.2.world hS.sub).adr hq43 hc40) hq43 hc40 rfl) rfl (RL.s (Vl.load isAgg3 rfl ((hr4.2.world hS.sub).cell (j := 0) hq43 hc40 rfl)) rfl (pn 1 rfl (lnsr (pn 3 rfl (ln ?_)))))
  refine RC.iteN 14 rfl h (fun hc44 h => ?_) fun hc44 h => ?_
  next =>
   refine jf (RC.skip (RQ.inB_n (RQ.then_n (RC.region (pn 2 rfl (RL.nil ?_))))))
   exact fun a ha => ⟨_, h.some, _, rfl, ha.tE rfl, hS⟩
  refine jtr (pn 2 rfl (lr (ir ?_)))
  have h := h.inrS
  refine RQ.ret (ir ?_)
  cases h.some
  exact rt results110 rfl ⟨rfl, hS⟩
 refine jf (RC.exit (RQ.exitT ?_))
 have h := h.inrS
 refine RQ.exitT (RQ.inB_hit (tsr (pn 2 rfl (lr ?_))))
 obtain rfl := h.some
 exact rt results110 rfl ⟨rfl, hS⟩
def event_Compare.f (a1 a2 : api_Key) : Option (Int) := (if a1 = a2 then some 0 else ((cmp_Compare_int64.f a1.Time a2.Time).bind fun t24 => ((cmp_Compare_int.f a1.From a2.From).bind fun t26 => ((cmp_Compare_int.f a1.Seq a2.Seq).bind fun t28 => ((cmp_Or_int.f ([t24, t26, t28] : List Int)).bind fun t35 => some t35)))))
theorem event_Compare.ok {a1 a2 : api_Key} {r : Int} (h : event_Compare.f a1 a2 = some r) (hS : St B w (l) hf) :
   Calls prog 111 #[.agg (C_api_Key a1).toArray, .agg (C_api_Key a2).toArray] w (Ret fun v w => v = iV r ∧ St B w (l) hf) := by
 have h := Holds.of h
 refine en func111 rfl ntmps111 rfl (sr (rr [0, 0, 0] hS ?_))
 refine fun b20 b21 => it fun w hS => ln (RC.seq (sr (rr [2, 1] hS ?_)))
 refine it fun w hS => RL.s (Vl.eqlS (run_eql_api_Key _ _ a1 a2) rfl rfl) rfl (ln ?_)
 refine RC.iteP 7 rfl h (fun hc23 h => ?_) fun hc23 h => ?_
 next =>
  refine jtr (pn 1 rfl (lr (RQ.ret ?_)))
  obtain rfl := h.some
  exact rt results111 rfl ⟨rfl, hS.d0.d0⟩
 refine jfs (RC.seq (dr [0, 4, 6, 10, 15, 19, 21, 25, 30, 34, 36, 40, 14, 29, 44, 47, 50, 53] [14, 15, 16, 17] hS fun w hS => rq [0, 2, 0, 1, 0, 2, 0, 1, 0, 2, 0, 1] hS ?_))
 refine it ?_
 obtain ⟨t24, hg25, h⟩ := h.bind
 have hc := cmp_Compare_int64.ok hg25 hS
 refine RP.e 4 rfl (OW.callF (ls := [.tmp 9, .tmp 11]) rfl call126 hc) rfl rfl ?_
 rintro _ w ⟨rfl, hS⟩
 refine ⟨kp ⟨fun _ => hS, trivial⟩, ?_⟩
 obtain ⟨t26, hg27, h⟩ := h.bind
 have hc := cmp_Compare_int.ok hg27 hS
 refine RP.e 9 rfl (OW.callF (ls := [.tmp 14, .tmp 16]) rfl call112 hc) rfl rfl ?_
 rintro _ w ⟨rfl, hS⟩
 refine ⟨kp ⟨fun _ => hS, trivial⟩, ?_⟩
 obtain ⟨t28, hg29, h⟩ := h.bind
 have hc := cmp_Compare_int.ok hg29 hS
 refine RP.e 14 rfl (OW.callF (ls := [.tmp 19, .tmp 21]) rfl call112 hc) rfl rfl ?_
 rintro _ w ⟨rfl, hS⟩
 refine ⟨kp ⟨(by intro hx; cases hx), trivial⟩, ?_⟩
 refine RP.e 15 rfl (OW.buildSlice (E := (FI .i64)) (xs := ([t24, t26, t28] : List Int)) (cs := [iV t24, iV t26, iV t28]) hS underlying37 zeroValue3 sizeOf3 (parts := [(0, .tmp 12), (1, .tmp 17), (2, .tmp 22)]) rfl rfl (by decide) (by decide) (by kernel_rfl) rfl) rfl rfl ?_
 rintro _ w ⟨b30, rfl, hS⟩
 refine ⟨kp ⟨(by intro hx; cases hx), trivial⟩, ?_⟩
 obtain ⟨hf34, hs32, hS, hr31, hb33⟩ := St.lendSl hS
 obtain ⟨t35, hg36, h⟩ := h.bind
 have hc := cmp_Or_int.ok hr31 hg36 hS
 refine RP.e 16 rfl (OW.callF (ls := [.tmp 23]) rfl call110 hc) rfl rfl ?_
 rintro _ w ⟨rfl, hS⟩
 have hS := hb33 _ _ hS
 have hS : St B w (_ :: _ :: _ :: l) hf := hS
 refine ⟨kp ⟨(by intro hx; cases hx), trivial⟩, ?_⟩
 refine rq [0] hS.d0 ?_
 refine it (RP.nil (tr ?_))
 obtain rfl := h.some
 exact rt results111 rfl ⟨rfl, hS.d0.d0.d0⟩
def event_order.f (a1 a2 : api_Message) : Option (Int) := ((event_Compare.f a1.Key a2.Key).bind fun t18 => ((cmp_Compare_int.f a1.Uid a2.Uid).bind fun t20 => ((cmp_Or_int.f ([t18, t20] : List Int)).bind fun t27 => some t27)))
theorem event_order.ok {a1 a2 : api_Message} {r : Int} (h : event_order.f a1 a2 = some r) (hS : St B w (l) hf) :
   Calls prog 76 #[.agg (C_api_Message a1).toArray, .agg (C_api_Message a2).toArray] w (Ret fun v w => v = iV r ∧ St B w (l) hf) := by
 have h := Holds.of h
 refine en func76 rfl ntmps76 rfl (sr (rr [0, 0, 0] hS ?_))
 refine fun b16 b17 => it fun w hS => ln (RC.seq (dr [0, 4, 6, 10, 15, 19, 21, 25, 14, 29, 32, 35, 38] [9, 10, 11, 12] hS fun w hS => rq [0, 2, 0, 1, 0, 2, 0, 1] hS ?_))
 refine it ?_
 obtain ⟨t18, hg19, h⟩ := h.bind
 have hc := event_Compare.ok hg19 hS
 refine RP.e 4 rfl (OW.callF (ls := [.tmp 6, .tmp 8]) rfl call111 hc) rfl rfl ?_
 rintro _ w ⟨rfl, hS⟩
 refine ⟨kp ⟨fun _ => hS, trivial⟩, ?_⟩
 obtain ⟨t20, hg21, h⟩ := h.bind
 have hc := cmp_Compare_int.ok hg21 hS
 refine RP.e 9 rfl (OW.callF (ls := [.tmp 11, .tmp 13]) rfl call112 hc) rfl rfl ?_
 rintro _ w ⟨rfl, hS⟩
 refine ⟨kp ⟨(by intro hx; cases hx), trivial⟩, ?_⟩
 refine RP.e 10 rfl (OW.buildSlice (E := (FI .i64)) (xs := ([t18, t20] : List Int)) (cs := [iV t18, iV t20]) hS underlying37 zeroValue3 sizeOf3 (parts := [(0, .tmp 9), (1, .tmp 14)]) rfl rfl (by decide) (by decide) (by kernel_rfl) rfl) rfl rfl ?_
 rintro _ w ⟨b22, rfl, hS⟩
 refine ⟨kp ⟨(by intro hx; cases hx), trivial⟩, ?_⟩
 obtain ⟨hf26, hs24, hS, hr23, hb25⟩ := St.lendSl hS
 obtain ⟨t27, hg28, h⟩ := h.bind
 have hc := cmp_Or_int.ok hr23 hg28 hS
 refine RP.e 11 rfl (OW.callF (ls := [.tmp 15]) rfl call110 hc) rfl rfl ?_
 rintro _ w ⟨rfl, hS⟩
 have hS := hb25 _ _ hS
 have hS : St B w (_ :: _ :: _ :: l) hf := hS
 refine ⟨kp ⟨(by intro hx; cases hx), trivial⟩, ?_⟩
 refine rq [0] hS.d0 ?_
 refine it (RP.nil (tr ?_))
 obtain rfl := h.some
 exact rt results76 rfl ⟨rfl, hS.d0.d0.d0⟩
def event_Before.f (a1 a2 : api_Message) : Option (Bool) := ((event_order.f a1 a2).bind fun t9 => some (decide (t9 < 0)))
theorem event_Before.ok {a1 a2 : api_Message} {r : Bool} (h : event_Before.f a1 a2 = some r) (hS : St B w (l) hf) :
   Calls prog 62 #[.agg (C_api_Message a1).toArray, .agg (C_api_Message a2).toArray] w (Ret fun v w => v = .bool r ∧ St B w (l) hf) := by
 have h := Holds.of h
 refine en func62 rfl ntmps62 rfl (sr (rr [0, 0, 0] hS ?_))
 refine fun b7 b8 => it fun w hS => lnsr (rr [2, 1] hS ?_)
 refine it fun w hS => cF (fun _ hg => event_order.ok hg hS) call76 h rfl rfl rfl ?_
 rintro t9 h _ w ⟨rfl, hS⟩
 refine pn 2 rfl (lr ?_)
 cases h.some
 exact rt results62 rfl ⟨rfl, hS.d0.d0⟩
def heap_pile_api_Message_up.l2b : List api_Message × Int → Option ((List api_Message × Int) ⊕ (List api_Message))
 | (l99, x102) => (if 0 < x102 then (if 0 ≤ x102 ∧ x102 < (l99.length : Int) then (if 0 ≤ IntKind.i64.wrap (Int.tdiv (IntKind.i64.wrap (x102 - 1)) 2) ∧ IntKind.i64.wrap (Int.tdiv (IntKind.i64.wrap (x102 - 1)) 2) < (l99.length : Int) then ((event_Before.f (nth l99 x102) (nth l99 (IntKind.i64.wrap (Int.tdiv (IntKind.i64.wrap (x102 - 1)) 2)))).bind fun t140 => (if t140 = true then (if IntKind.i64.wrap (Int.tdiv (IntKind.i64.wrap (x102 - 1)) 2) < ((setL l99 x102 (nth l99 (IntKind.i64.wrap (Int.tdiv (IntKind.i64.wrap (x102 - 1)) 2)))).length : Int) then some (.inl ((setL (setL l99 x102 (nth l99 (IntKind.i64.wrap (Int.tdiv (IntKind.i64.wrap (x102 - 1)) 2)))) (IntKind.i64.wrap (Int.tdiv (IntKind.i64.wrap (x102 - 1)) 2)) (nth l99 x102)), IntKind.i64.wrap (Int.tdiv (IntKind.i64.wrap (x102 - 1)) 2))) else none) else some (.inr l99))) else none) else none) else some (.inr l99))
def heap_pile_api_Message_up.l2 (s : List api_Message × Int) : Option (List api_Message) := loopR (heap_pile_api_Message_up.l2b) s
def heap_pile_api_Message_up.f (a4 : List api_Message) (a5 : Int) : Option (List api_Message) := heap_pile_api_Message_up.l2 (a4, a5)
theorem heap_pile_api_Message_up.ok {a4 r : List api_Message} {a5 : Int} {b1 c3 : Nat} {A2 : Option Addr} (h : heap_pile_api_Message_up.f a4 a5 = some r) (hS : St B w (Cl b1 [sV A2 a4 c3, .func (.func 62) #[] #[]] 245 :: OSf E_api_Message 48 (sV A2 a4 c3) a4 :: l) hf) :
   Calls prog 204 #[pV b1, iV a5] w (Ret fun v w => ∃ (A_1 : Option Addr) (c_2 : Nat), v = .tuple #[] ∧ St B w (OSf E_api_Message 48 (sV A_1 r c_2) r :: Cl b1 [sV A_1 r c_2, .func (.func 62) #[] #[]] 245 :: l) hf) := by
 have h := Holds.of h
 refine en func204 rfl ntmps204 rfl (RC.block (fun a ha => lp h (fun (s : List api_Message × Int) a w => ∃ l99 x102, s = (l99, x102) ∧ ∃ A100 c101, Has 57 [(0, pV b1), (1, iV x102)] a ∧ St B w (OSf E_api_Message 48 (sV A100 l99 c101) l99 :: Cl b1 [sV A100 l99 c101, .func (.func 62) #[] #[]] 245 :: l) hf) ⟨_, _, rfl, _, _, ha.tE rfl, hS.p1⟩ ?_))
 rintro G126 _ a w ⟨l99, x102, rfl, A100, c101, ha, hS⟩ h
 refine ro ha (RC.seq (sr (pn 2 rfl (ln ?_))))
 refine RC.iteP 6 rfl h (fun hc128 h => ?_) fun hc128 h => ?_
 next =>
  refine jt (sk (RC.block (sr (pn 2 rfl (RL.s (Vl.quo rfl rfl (by decide)) rfl (pn 1 rfl (ln (RC.seq (RC.seq (dr [0, 3, 6, 10, 12, 15, 18, 22, 24, 28, 31, 33, 36, 39, 43, 47, 50, 53, 56, 59] [18, 19] hS fun w hS => rq [0, 0, 0, 2, 0, 0, 0, 2, 0] hS ?_))))))))))
  refine it ?_
  obtain ⟨⟨hq136, hq137⟩, h⟩ := h.req
  refine RP.s 0 9 rfl rfl hS (fun w hS => Vl.indexOwn 0 hS rfl underlying39 sizeOf48 rfl rfl hq136 hq137) rfl (RP.s 0 10 rfl rfl hS (fun w hS => Vl.loadA isAgg48 sizeOf48 rfl rfl ((hS.slW 0 rfl).2.2.cells hq136 hq137)) rfl (rq [0, 0, 0, 2, 0] hS ?_))
  refine it ?_
  obtain ⟨⟨hq138, hq139⟩, h⟩ := h.req
  refine RP.v1 16 rfl (Vl.indexOwn 0 hS rfl underlying39 sizeOf48 rfl rfl hq138 hq139) rfl rfl (RP.v1 17 rfl (Vl.loadA isAgg48 sizeOf48 rfl rfl ((hS.slW 0 rfl).2.2.cells hq138 hq139)) rfl rfl ?_)
  obtain ⟨t140, hg141, h⟩ := h.bind
  have hc := event_Before.ok hg141 hS
  refine RP.e 18 rfl (OW.call (ls := [.tmp 20, .tmp 27]) rfl rfl call62 rfl hc) rfl rfl ?_
  rintro _ w ⟨rfl, hS⟩
  refine ⟨kp ⟨(by intro hx; cases hx), trivial⟩, ?_⟩
  refine rq [0] hS ?_
  refine it (RP.nil (RQ.then_n ?_))
  refine RC.iteM 29 rfl h (fun hc142 h => ?_) fun hc142 h => ?_
  next =>
   refine jfs (RC.seq (dr [0, 3, 6, 10, 12, 15, 18, 21, 25, 27, 30, 33, 36, 40, 42, 46, 49, 51, 54, 57, 61, 65, 68, 71, 74, 77, 80, 83] [24, 25, 26, 27] hS fun w hS => rq [0, 0, 0, 2, 0, 0, 0, 0, 2, 0, 0, 0, 0, 2, 0] hS ?_))
   refine it (RP.s 0 15 rfl rfl hS (fun w hS => Vl.indexOwn 0 hS rfl underlying39 sizeOf48 rfl rfl hq138 hq139) rfl (RP.s 0 16 rfl rfl hS (fun w hS => Vl.loadA isAgg48 sizeOf48 rfl rfl ((hS.slW 0 rfl).2.2.cells hq138 hq139)) rfl (rq [0, 0, 0, 2, 0] hS ?_)))
   refine it (RP.v1 22 rfl (Vl.indexOwn 0 hS rfl underlying39 sizeOf48 rfl rfl hq136 hq137) rfl rfl (RP.v1 23 rfl (Vl.loadA isAgg48 sizeOf48 rfl rfl ((hS.slW 0 rfl).2.2.cells hq136 hq137)) rfl rfl (RP.v1 24 rfl (Vl.indexOwn 0 hS rfl underlying39 sizeOf48 rfl rfl hq136 hq137) rfl rfl (RP.e0 25 rfl (OW.storeOwn (E := E_api_Message) (off := 0) (j := x102) (x' := nth l99 (IntKind.i64.wrap (Int.tdiv (IntKind.i64.wrap (x102 - 1)) 2))) (vs := (C_api_Message (nth l99 (IntKind.i64.wrap (Int.tdiv (IntKind.i64.wrap (x102 - 1)) 2))))) 0 hS rfl rfl rfl rfl sizeOf48 rfl (Nat.succ_pos _) hq136 hq137 (Nat.le_of_ble_eq_true rfl) rfl rfl) rfl ?_))))
   rintro _ w ⟨rfl, hS⟩
   have he143 := (hS.osN 0 rfl).1
   have hS : St B w (_ :: _ :: l) hf := (congrArg (fun k_ : Nat => St B w (OSf E_api_Message 48 (.slice A100 k_ c101) (setL l99 x102 (nth l99 (IntKind.i64.wrap (Int.tdiv (IntKind.i64.wrap (x102 - 1)) 2)))) :: Cl b1 [.slice A100 k_ c101, .func (.func 62) #[] #[]] 245 :: l) hf) he143).mp hS
   refine ⟨kp ⟨(by intro hx; cases hx), trivial⟩, ?_⟩
   refine RP.re 17 rfl (congrArg (fun k_ : Nat => (.slice A100 k_ c101 : Value)) he143) (RP.re 24 rfl (congrArg (fun k_ : Nat => (.slice A100 k_ c101 : Value)) he143) (RP.re 33 rfl (congrArg (fun k_ : Nat => (.slice A100 k_ c101 : Value)) he143) (RP.re 38 rfl (congrArg (fun k_ : Nat => (.slice A100 k_ c101 : Value)) he143) (RP.re 43 rfl (congrArg (fun k_ : Nat => (.slice A100 k_ c101 : Value)) he143) (RP.re 50 rfl (congrArg (fun k_ : Nat => (.slice A100 k_ c101 : Value)) he143) ?_)))))
   obtain ⟨hq144, h⟩ := h.req
   refine RP.v1 26 rfl (Vl.indexOwn 0 hS rfl underlying39 sizeOf48 rfl rfl hq138 hq144) rfl rfl (RP.e0 27 rfl (OW.storeOwn (E := E_api_Message) (off := 0) (j := IntKind.i64.wrap (Int.tdiv (IntKind.i64.wrap (x102 - 1)) 2)) (x' := nth l99 x102) (vs := (C_api_Message (nth l99 x102))) 0 hS rfl rfl rfl rfl sizeOf48 rfl (Nat.succ_pos _) hq138 hq144 (Nat.le_of_ble_eq_true rfl) rfl rfl) rfl ?_)
   rintro _ w ⟨rfl, hS⟩
   have he145 := (hS.osN 0 rfl).1
   have hS : St B w (_ :: _ :: l) hf := (congrArg (fun k_ : Nat => St B w (OSf E_api_Message 48 (.slice A100 k_ c101) (setL (setL l99 x102 (nth l99 (IntKind.i64.wrap (Int.tdiv (IntKind.i64.wrap (x102 - 1)) 2)))) (IntKind.i64.wrap (Int.tdiv (IntKind.i64.wrap (x102 - 1)) 2)) (nth l99 x102)) :: Cl b1 [.slice A100 k_ c101, .func (.func 62) #[] #[]] 245 :: l) hf) he145).mp hS
   refine ⟨kp ⟨(by intro hx; cases hx), trivial⟩, ?_⟩
   refine RP.re 17 rfl (congrArg (fun k_ : Nat => (.slice A100 k_ c101 : Value)) he145) (RP.re 24 rfl (congrArg (fun k_ : Nat => (.slice A100 k_ c101 : Value)) he145) (RP.re 33 rfl (congrArg (fun k_ : Nat => (.slice A100 k_ c101 : Value)) he145) (RP.re 38 rfl (congrArg (fun k_ : Nat => (.slice A100 k_ c101 : Value)) he145) (RP.re 43 rfl (congrArg (fun k_ : Nat => (.slice A100 k_ c101 : Value)) he145) (RP.re 50 rfl (congrArg (fun k_ : Nat => (.slice A100 k_ c101 : Value)) he145) (RP.nil (RQ.then_n (RC.region (pn 2 rfl (RL.nil (RQ.inB_n ?_)))))))))))
   exact fun a ha => ⟨_, h.some, _, _, rfl, _, _, ha.tE rfl, hS⟩
  refine jt (RC.ret (RQ.ret (RQ.inB_ret ?_)))
  have h := h.inrS
  refine RQ.ret (RQ.inB_ret ?_)
  obtain rfl := h.some
  exact rt results204 rfl ⟨A100, c101, rfl, hS⟩
 refine jf (RC.exit (RQ.exitT ?_))
 have h := h.inrS
 refine RQ.exitT (RQ.inB_hit ?_)
 obtain rfl := h.some
 exact rtE results204 rfl ⟨A100, c101, rfl, hS⟩
def heap_pile_api_Message_push.f (a4 : List api_Message) (a5 : api_Message) : Option (List api_Message) := (if (a4.length + 1) * 56 ≤ 140737488355328 then ((heap_pile_api_Message_up.f (a4 ++ ([a5])) (IntKind.i64.wrap (((a4 ++ ([a5])).length : Int) - 1))).bind fun t34 => some t34) else none)
theorem heap_pile_api_Message_push.ok {a4 r : List api_Message} {a5 : api_Message} {b1 c3 : Nat} {A2 : Option Addr} (h : heap_pile_api_Message_push.f a4 a5 = some r) (hS : St B w (Cl b1 [sV A2 a4 c3, .func (.func 62) #[] #[]] 245 :: OSf E_api_Message 48 (sV A2 a4 c3) a4 :: l) hf) :
   Calls prog 201 #[pV b1, .agg (C_api_Message a5).toArray] w (Ret fun v w => ∃ (A_1 : Option Addr) (c_2 : Nat), v = .tuple #[] ∧ St B w (OSf E_api_Message 48 (sV A_1 r c_2) r :: Cl b1 [sV A_1 r c_2, .func (.func 62) #[] #[]] 245 :: l) hf) := by
 have h := Holds.of h
 refine en func201 rfl ntmps201 rfl (sr (rr [0] hS ?_))
 refine fun b23 => it fun w hS => ln (RC.seq (dr [0, 3, 6, 9, 13, 17, 20, 23, 26, 29, 32] [7, 8, 9, 10] hS fun w hS => rq [0, 0, 0, 0, 2, 1] hS ?_))
 refine it (RP.e 6 rfl (OW.buildSlice (E := E_api_Message) (xs := [a5]) (cs := (C_api_Message a5)) hS underlying39 zeroValue48 sizeOf48 (parts := [(0, .tmp 9)]) rfl rfl (by decide) (by decide) (by kernel_rfl) rfl) rfl rfl ?_)
 rintro _ w ⟨b29, rfl, hS⟩
 refine ⟨kp ⟨fun _ => hS.d0, trivial⟩, ?_⟩
 obtain ⟨hq30, h⟩ := h.req
 refine RP.e 7 rfl (OW.append (E := E_api_Message) (xs := a4) (ys := [a5]) 3 hS rfl underlying39 type48 rfl rfl rfl rfl (by decide) rfl rfl rfl (hS.slW 0 rfl).2.2.flat (by simp only [maxLen, List.length_cons, List.length_nil] at *; omega) hq30 rfl) rfl rfl ?_
 rintro v33 w hS
 obtain ⟨A31, c32, rfl, _⟩ := hS.osShape 0 rfl
 have hS : St B w (_ :: _ :: _ :: _ :: l) hf := hS
 refine ⟨kp ⟨(by intro hx; cases hx), trivial⟩, ?_⟩
 refine RP.v1 8 rfl (Vl.nilCheck rfl) rfl rfl (RP.v1 9 rfl (Vl.fa 0 underlying243 rfl sizeOf39 rfl rfl) rfl rfl (RP.e0 10 rfl (OW.store (vs := [.slice A31 (a4 ++ ([a5])).length c32]) 3 hS rfl rfl rfl rfl sizeOf39 rfl rfl rfl rfl) rfl ?_))
 rintro _ w ⟨rfl, hS⟩
 have hS : St B w (_ :: _ :: _ :: Cl _ [_, _] _ :: l) hf := hS
 refine ⟨kp ⟨(by intro hx; cases hx), trivial⟩, ?_⟩
 refine RP.nil (RQ.then_n (RC.region (rr [0, 0, 0, 0, 4, 0, 0] hS ?_)))
 refine it fun w hS => cF (fun _ hg => heap_pile_api_Message_up.ok hg hS.p3) call204 h rfl rfl rfl ?_
 rintro t34 h _ w ⟨A36, c37, rfl, hS⟩
 refine RL.nil ?_
 obtain rfl := h.some
 exact rtE results201 rfl ⟨A36, c37, rfl, hS.d2.d2⟩
def heap_Heap_Push.f (a2 : heap_Heap) (a3 : api_Message) : Option (Int × heap_Heap) := ((heap_Heap_none.f a2).bind fun _ => ((heap_Heap_find.f a2 a3.Key.From a3.Uid).bind fun t54 => (if 0 ≤ t54 then some (8, a2) else (if 16384 ≤ (a2.p_l.length : Int) then some (9, a2) else ((heap_pile_api_Message_push.f a2.p_l a3).bind fun t60 => some (0, (⟨t60⟩ : heap_Heap)))))))
theorem heap_Heap_Push.ok {a2 : heap_Heap} {a3 : api_Message} {b1 : Nat} {r : Int × heap_Heap} (h : heap_Heap_Push.f a2 a3 = some r) (hS : St B w (O_heap_Heap hf a2 b1 :: l) hf) :
   Calls prog 197 #[pV b1, .agg (C_api_Message a3).toArray] w (Ret fun v w => v = iV r.1 ∧ St B w (O_heap_Heap hf r.2 b1 :: l) hf) := by
 have h := Holds.of h
 refine en func197 rfl ntmps197 rfl (sr (rr [0, 0] hS ?_))
 refine fun b35 => it fun w hS => ln (RC.seq (RC.block (sr (pn 1 rfl (cF (fun _ hg => heap_Heap_none.ok hg hS.p1) call198 h rfl rfl rfl ?_)))))
 rintro _ h _ w ⟨rfl, hS⟩
 refine pn 1 rfl (ln (jf (sr (rr [0, 0, 0, 2, 0, 2] hS ?_))))
 refine it fun w hS => cF (fun _ hg => heap_Heap_find.ok hg hS) call199 h rfl rfl rfl ?_
 rintro t54 h _ w ⟨rfl, hS⟩
 refine pn 2 rfl (ln ?_)
 refine RC.iteP 8 rfl h (fun hc56 h => ?_) fun hc56 h => ?_
 next =>
  refine jtr (pn 1 rfl (lr (ir ?_)))
  cases h.some
  exact rt results197 rfl ⟨rfl, hS.d1⟩
 refine jf (sr (r0 4 rfl ?_))
 obtain ⟨A57, c58, hS⟩ := O_heap_Heap.o hS
 refine rr [1, 0, 0, 0] hS ?_
 refine it fun w hS => ln ?_
 refine RC.iteP 17 rfl h (fun hc59 h => ?_) fun hc59 h => ?_
 next =>
  refine jtr (pn 1 rfl (lr (ir ?_)))
  have hS := O_heap_Heap.c (x := a2) hS
  cases h.some
  exact rt results197 rfl ⟨rfl, hS.d1⟩
 refine jf (RC.skip (RQ.inB_n (RQ.then_n (RC.seq (dr [0, 3, 6, 11, 14] [3, 4] hS fun w hS => rq [0, 0, 0, 3] hS ?_)))))
 refine it ?_
 obtain ⟨t60, hg61, h⟩ := h.bind
 have hc := heap_pile_api_Message_push.ok hg61 hS
 refine RP.e 4 rfl (OW.callF (ls := [.tmp 27, .tmp 28]) rfl call201 hc) rfl rfl ?_
 rintro _ w ⟨A62, c63, rfl, hS⟩
 refine ⟨kp ⟨(by intro hx; cases hx), trivial⟩, ?_⟩
 refine RP.nil (tsr (pn 1 rfl (lr ?_)))
 have hS := O_heap_Heap.c (x := (⟨t60⟩ : heap_Heap)) hS.p1
 cases h.some
 exact rt results197 rfl ⟨rfl, hS.d1⟩
def pend_Pend_Push.f (a2 : pend_Pend) (a3 : api_Message) : Option (Int × pend_Pend) := ((pend_Pend_none.f a2).bind fun _ => ((heap_Heap_Push.f a2.q a3).bind fun (y24, y25) => some (y24, (⟨y25⟩ : pend_Pend))))
theorem pend_Pend_Push.ok {a2 : pend_Pend} {a3 : api_Message} {b1 : Nat} {r : Int × pend_Pend} (h : pend_Pend_Push.f a2 a3 = some r) (hS : St B w (O_pend_Pend hf a2 b1 :: l) hf) :
   Calls prog 82 #[pV b1, .agg (C_api_Message a3).toArray] w (Ret fun v w => v = iV r.1 ∧ St B w (O_pend_Pend hf r.2 b1 :: l) hf) := by
 have h := Holds.of h
 refine en func82 rfl ntmps82 rfl (sr (rr [0, 0] hS ?_))
 refine fun b16 => it fun w hS => ln (RC.seq (sr (pn 1 rfl (cF (fun _ hg => pend_Pend_none.ok hg hS.p1) call93 h rfl rfl rfl ?_))))
 rintro _ h _ w ⟨rfl, hS⟩
 refine ln (jfs (RC.seq ?_))
 obtain ⟨b21, hS⟩ := O_pend_Pend.o hS
 refine dr [0, 3, 6, 10, 14, 17, 20] [5, 6] hS fun w hS => rq [0, 0, 0, 1, 3] hS ?_
 refine it ?_
 obtain ⟨t22, hg23, h⟩ := h.bind
 have hc := heap_Heap_Push.ok hg23 hS.p1
 obtain ⟨y24, y25⟩ := t22
 refine RP.e 5 rfl (OW.invoke (F := 197) (u' := pV b21) (ls := [.tmp 11]) rfl rfl (fun w => by kernel_rfl) call197 rfl hc) rfl rfl ?_
 rintro _ w ⟨rfl, hS⟩
 refine ⟨kp ⟨(by intro hx; cases hx), trivial⟩, ?_⟩
 refine RP.v1 6 rfl (Vl.assign rfl) rfl rfl (RP.nil (tr ?_))
 have hS := O_pend_Pend.c (x := (⟨y25⟩ : pend_Pend)) hS.p1
 cases h.some
 exact rt results82 rfl ⟨rfl, hS.d1⟩
def lane_of.f (a1 : api_Message) : Option (lane_sending) := some (⟨a1.Key.From, a1.Uid⟩ : lane_sending)
theorem lane_of.ok {a1 : api_Message} {r : lane_sending} (h : lane_of.f a1 = some r) (hS : St B w (l) hf) :
   Calls prog 56 #[.agg (C_api_Message a1).toArray] w (Ret fun v w => v = .agg #[iV r.from_, iV r.uid] ∧ St B w (l) hf) := by
 have h := Holds.of h
 refine en func56 rfl ntmps56 rfl (sr (rr [0, 0] hS ?_))
 refine fun b4 b5 => it fun w hS => lnsr (rr [0, 0, 2, 0, 2, 0, 1] hS ?_)
 refine it fun w hS => lr ?_
 cases h.some
 refine rz [0] results56 hS ?_
 exact it ⟨rfl, hS.d0.d0⟩
def lane_Lane_hold.f (a2 : lane_Lane) (a3 : api_Message) : Option (lane_Lane) := ((pend_Pend_Push.f a2.wait a3).bind fun (y57, y58) => (if y57 = 0 then ((lane_of.f a3).bind fun t60 => some ({ a2 with wait := y58, held := (mset a2.held t60 true) } : lane_Lane)) else some ({ a2 with wait := y58 } : lane_Lane)))
theorem lane_Lane_hold.ok {a2 r : lane_Lane} {a3 : api_Message} {b1 : Nat} (h : lane_Lane_hold.f a2 a3 = some r) (hS : St B w (O_lane_Lane hf a2 b1 :: l) hf) :
   Calls prog 41 #[pV b1, .agg (C_api_Message a3).toArray] w (Ret fun v w => v = .tuple #[] ∧ St B w (O_lane_Lane hf r b1 :: l) hf) := by
 have h := Holds.of h
 refine en func41 rfl ntmps41 rfl (sr (rr [0] hS ?_))
 refine fun b34 => it fun w hS => ln (RC.seq ?_)
 obtain ⟨A35, c36, A38, c39, A41, c42, A44, c45, b47, b48, A49, c50, A51, c52, b53, b54, hr37, hr40, hr43, hr46, hS⟩ := O_lane_Lane.o hS.p1
 refine dr [0, 3, 6, 10, 14, 17, 20] [5, 6] hS fun w hS => rq [0, 0, 0, 1, 8] hS ?_
 refine it ?_
 obtain ⟨t55, hg56, h⟩ := h.bind
 have hc := pend_Pend_Push.ok hg56 hS.p2
 obtain ⟨y57, y58⟩ := t55
 refine RP.e 5 rfl (OW.callF (ls := [.tmp 7, .tmp 8]) rfl call82 hc) rfl rfl ?_
 rintro _ w ⟨rfl, hS⟩
 refine ⟨kp ⟨(by intro hx; cases hx), trivial⟩, ?_⟩
 refine RP.v1 6 rfl (Vl.int rfl rfl rfl) rfl rfl (RP.nil (RQ.then_n ?_))
 refine RC.iteP 10 rfl h (fun hc59 h => ?_) fun hc59 h => ?_
 next =>
  refine jt (dr [0, 3, 6, 10, 14, 17, 20] [6] hS fun w hS => rq [0, 0, 0, 2, 8] hS ?_)
  refine it ?_
  obtain ⟨t60, hg61, h⟩ := h.bind
  have hc := lane_of.ok hg61 hS
  refine RP.e 5 rfl (OW.callF (ls := [.tmp 15]) rfl call56 hc) rfl rfl ?_
  rintro _ w ⟨rfl, hS⟩
  refine ⟨kp ⟨fun _ => hS, trivial⟩, ?_⟩
  refine RP.e0 6 rfl (OW.mapUpdF (k := t60) (v := true) 6 hS rfl keyok_lane_sending underlying55 rfl rfl rfl rfl) rfl ?_
  rintro _ w ⟨rfl, hS⟩
  have hS : St B w (_ :: _ :: _ :: _ :: _ :: _ :: _ :: _ :: l) hf := hS
  refine ⟨kp ⟨(by intro hx; cases hx), trivial⟩, ?_⟩
  refine RP.nil ?_
  have hS := O_lane_Lane.c (x := ({ a2 with wait := y58, held := (mset a2.held t60 true) } : lane_Lane)) hr37 hr40 hr43 hr46 hS.p6.p6.p6.p4.p6.p6
  cases h.some
  exact rtE results41 rfl ⟨rfl, hS.d1⟩
 refine jf (RC.skip ?_)
 have hS := O_lane_Lane.c (x := ({ a2 with wait := y58 } : lane_Lane)) hr37 hr40 hr43 hr46 hS.p2.p2
 cases h.some
 exact rtE results41 rfl ⟨rfl, hS.d1⟩
def lane_New.j20 (x1039 : Int) (y1063 : lane_Lane) : Option ((lane_Lane × Int) ⊕ ((Int) ⊕ (lane_Lane × Int))) := some (.inl (y1063, IntKind.i64.wrap (x1039 + 1)))
def lane_New.l19b (a11 : Int) (t1019 : List api_Message) : lane_Lane × Int → Option ((lane_Lane × Int) ⊕ ((Int) ⊕ (lane_Lane × Int)))
 | (y1038, x1039) => (if x1039 < (t1019.length : Int) then (if 0 ≤ x1039 then (if (nth t1019 x1039).To = a11 then ((lane_Lane_hold.f y1038 (nth t1019 x1039)).bind fun t1067 => lane_New.j20 x1039 t1067) else lane_New.j20 x1039 y1038) else none) else some (.inr (.inr ((y1038, 0)))))
def lane_New.l19 (a11 : Int) (t1019 : List api_Message) (s : lane_Lane × Int) : Option ((Int) ⊕ (lane_Lane × Int)) := loopR (lane_New.l19b a11 t1019) s
def lane_New.j12 (a1 : api_Model) (a11 : Int) (a12 : api_Caps) (y586 : api_World) (l864 : List Int) : Option ((Int) ⊕ (lane_Lane × Int)) := (if (([] : List api_Link).length + a1.Links.length) * 32 ≤ 140737488355328 then ((log_New.f y586 (⟨(⟨0, 0, 0, 0, 0, 0, 0, 0⟩ : Arr8xInti64), 0, 0⟩ : api_State) 4).bind fun t935 => match t935 with | .inl _ => none | .inr ((y937, y938)) => ((pend_New.f).bind fun (y951, y952) => ((model_Starts.f a1).bind fun t1019 => lane_New.l19 a11 t1019 ((⟨({ a1 with Links := (([] : List api_Link) ++ a1.Links) } : api_Model), a11, a12, l864, y937, y951, ([] : List lane_open), ([] : List api_Message), ([] : List (lane_sending × Int)), ([] : List (lane_sending × Bool)), 0, (⟨2, 4, 0, 1000, 0⟩ : api_Setting), (⟨0, 0, 0, 0⟩ : api_Stats)⟩ : lane_Lane), 0)))) else none)
def lane_New.f (a1 : api_Model) (a11 : Int) (a12 : api_Caps) : Option ((Int) ⊕ (lane_Lane × Int)) := ((model_World.f a1 a11).bind fun (y586, y587) => (if y587 = 0 then (if a12.Link < 1 then some (.inl 1) else (if 1024 < a12.Link then some (.inl 1) else (if (if a12.Log < a12.Wait then a12.Log else a12.Wait) < 1 then some (.inl 1) else (if 4096 < (if a12.Wait < a12.Log then a12.Log else a12.Wait) then some (.inl 1) else ((model_Ways.f a1 a11).bind fun t1069 => ((tune_First.f).bind fun _ => lane_New.j12 a1 a11 a12 y586 t1069)))))) else some (.inl y587)))
theorem lane_New.ok {a1 : api_Model} {a11 : Int} {a12 : api_Caps} {A2 A5 A8 : Option Addr} {c3 c6 c9 : Nat} (hr4 : SlR (Rep.sl E_api_Instr.rep) hf A2 c3 a1.Progs) (hr7 : SlR E_api_Link.rep hf A5 c6 a1.Links) (hr10 : SlR E_api_Start.rep hf A8 c9 a1.Starts) (hG0 : GlobAt hf 0 (.iface 215 (.agg #[.pointer (some ⟨1, 108, none⟩)]))) {r : (Int) ⊕ (lane_Lane × Int)} (h : lane_New.f a1 a11 a12 = some r) (hS : St B w (l) hf) :
   Calls prog 8 #[.agg (C_api_Model a1 A2 c3 A5 c6 A8 c9).toArray, iV a11, .agg (C_api_Caps a12).toArray] w (Ret fun v w => match (generalizing := false) r with | .inl r_ => v = .tuple #[.pointer none, iV r_] ∧ St B w (l) hf | .inr (r_) => ∃ hf_ : Hp, Sub hf hf_ ∧ ∃ (b_1 : Nat), v = .tuple #[pV b_1, iV r_.2] ∧ St B w (O_lane_Lane hf_ r_.1 b_1 :: l) hf_) := by
 have h := Holds.of h
 refine en func8 rfl ntmps8 rfl (sr (rr [0, 0, 0, 0] hS ?_))
 refine fun b573 b574 => it fun w hS => lnsr (rr [2, 0] hS ?_)
 refine it fun w hS => cF (fun _ hg => model_World.ok hr4 hr7 hr10 hG0 hg hS) call35 h rfl rfl rfl ?_
 rintro ⟨y586, y587⟩ h _ w ⟨A588, c589, A590, c591, rfl, hS⟩
 refine rr [0, 0, 0, 0, 1, 0] hS ?_
 refine fun b592 => it fun w hS => ln (RC.seq (sr (pn 2 rfl (ln ?_))))
 refine RC.iteN 20 rfl h (fun hc594 h => ?_) fun hc594 h => ?_
 next =>
  refine jfs (RC.seq (sr (rr [0, 4, 0, 0] hS ?_)))
  refine it fun w hS => RL.iteP 25 rfl h (fun hc599 h => ?_) fun hc599 h => ?_
  next =>
   refine pn 20 rfl (ln (jtr (pn 2 rfl (lr (RQ.ret ?_)))))
   cases h.some
   exact rt results8 rfl ⟨rfl, hS.d0.d0.d0.d0.d0⟩
  refine rr [0, 4, 0, 0, 0] hS ?_
  refine it fun w hS => RL.iteP 30 rfl h (fun hc600 h => ?_) fun hc600 h => ?_
  next =>
   refine pn 15 rfl (ln (jtr (pn 2 rfl (lr (RQ.ret ?_)))))
   cases h.some
   exact rt results8 rfl ⟨rfl, hS.d0.d0.d0.d0.d0⟩
  refine rr [0, 4, 0, 4] hS ?_
  refine it fun w hS => RL.sg (Vl.min2 rfl rfl) rfl rfl (pn 3 rfl ?_)
  refine RL.iteP 38 rfl h (fun hc601 h => ?_) fun hc601 h => ?_
  next =>
   refine pn 7 rfl (ln (jtr (pn 2 rfl (lr (RQ.ret ?_)))))
   cases h.some
   exact rt results8 rfl ⟨rfl, hS.d0.d0.d0.d0.d0⟩
  refine rr [0, 4, 0, 4] hS ?_
  refine it fun w hS => RL.sg (Vl.max2 rfl rfl) rfl rfl (pn 2 rfl (ln ?_))
  refine RC.iteP 45 rfl h (fun hc602 h => ?_) fun hc602 h => ?_
  next =>
   refine jtr (pn 2 rfl (lr (RQ.ret ?_)))
   cases h.some
   exact rt results8 rfl ⟨rfl, hS.d0.d0.d0.d0.d0⟩
  refine jfs (RC.seq (RC.planS (.early 0 0 (.pure 1 (.early 2 0 (.early 3 0 (.pure 4 (.fork3 5 6 7 (.fork3 6 7 8 (.fork 7 8 (.last 8 (.last 9 (.last 10 (.last 11 .nil)))) (.last 7 (.last 9 (.last 10 (.last 11 .nil))))) (.fork 6 8 (.last 8 (.last 9 (.last 10 (.last 11 .nil)))) (.last 6 (.last 9 (.last 10 (.last 11 .nil))))) (.fork 6 7 (.last 7 (.last 9 (.last 10 (.last 11 .nil)))) (.last 6 (.last 9 (.last 10 (.last 11 .nil)))))) (.fork 5 7 (.fork 7 8 (.last 8 (.last 9 (.last 10 (.last 11 .nil)))) (.last 7 (.last 9 (.last 10 (.last 11 .nil))))) (.last 5 (.last 8 (.last 9 (.last 10 (.last 11 .nil)))))) (.fork 5 6 (.fork 6 8 (.last 8 (.last 9 (.last 10 (.last 11 .nil)))) (.last 6 (.last 9 (.last 10 (.last 11 .nil))))) (.last 5 (.last 8 (.last 9 (.last 10 (.last 11 .nil)))))))))))) [9, 10, 11] hS (fun w hS => hS) follows rfl (by kernel_rfl) (NoTmp.then NoTmp.body) fun w hS => rq [5, 0, 4, 5, 0] hS ?_))
  refine it ?_
  refine RP.fj (fun (s : List Int) env w => ∃ l864, s = (l864) ∧ Holds (· = r) (lane_New.j12 a1 a11 a12 y586 l864) ∧ ∃ A865 c866 b867 b868, Ev env [(1, iV a11), (3, pV b573), (8, pV b592), (46, .agg (C_api_Model a1 A2 c3 A5 c6 A8 c9).toArray), (47, iV a11), (48, .agg (C_api_Caps a12).toArray), (51, sV A865 l864 c866), (52, .map (some b867)), (53, .map (some b868)), (54, .agg #[iV 2, iV 4, iV 0, iV 1000, iV 0])] ∧ St B w (OSf E_api_Instr 269 (sV A588 y586.Prog c589) y586.Prog :: OSf E_api_Link 144 (sV A590 y586.Links c591) y586.Links :: OSf (FI .i64) 3 (sV A865 l864 c866) l864 :: Cl b592 (C_api_World y586 A588 c589 A590 c591) 91 :: Cl b573 (C_api_Model a1 A2 c3 A5 c6 A8 c9) 27 :: MapF kv_lane_sending (Value.int .i64) b867 ([] : List (lane_sending × Int)) :: MapF kv_lane_sending Value.bool b868 ([] : List (lane_sending × Bool)) :: Cl b574 (C_api_Caps a12) 33 :: l) hf) (.last 9 (.last 10 (.last 11 .nil))) ?_ fun hk => ?_
  · rintro l864 env w ⟨_, rfl, h, A865, c866, b867, b868, ha, hS⟩
    refine RP.to ha (rq [0] hS.d2.d4.d4.p4.p2.p2.p3 ?_)
    refine it ?_
    obtain ⟨hf, hs869, hS, hr870⟩ := St.promote hS.p2
    refine RP.e 10 rfl (OW.box (cs := [sV A2 a1.Progs c3, sV A5 a1.Links c6, sV A8 a1.Starts c9, .int .u64 a1.Seed, iV a1.End, iV a1.Budget, iV a11, iV a12.Link, iV a12.Wait, iV a12.Log, sV A865 l864 c866, .pointer none, .pointer none, .slice none 0 0, .slice none 0 0, .map (some b867), .map (some b868), iV 0, iV 2, iV 4, iV 0, iV 1000, iV 0, iV 0, iV 0, iV 0, iV 0]) hS rfl rfl) rfl rfl ?_
    rintro _ w ⟨b871, rfl, hS⟩
    refine ⟨kp ⟨(by intro hx; cases hx), trivial⟩, ?_⟩
    refine rq [0] (St.down hS.d0.d4.d4.p4.p2.p2.p3 hs869) ?_
    refine it (RP.nil (tsr (rr [0, 0, 5] hS ?_)))
    refine it fun w hS => ?_
    obtain ⟨hq876, h⟩ := h.req
    have hS := hS.nilSl E_api_Link 144
    refine RL.e (OW.appendV (E := E_api_Link) (xs := ([] : List api_Link)) (ys := a1.Links) 0 hS rfl underlying23 type144 rfl rfl rfl rfl (by decide) (by decide) rfl rfl ((hr7.mono hs869).2.world hS.sub) hq876 rfl) rfl rfl ?_
    rintro v879 w hS
    obtain ⟨A877, c878, rfl, _⟩ := hS.osShape 0 rfl
    have hS : St B w (_ :: _ :: _ :: _ :: _ :: _ :: _ :: _ :: _ :: l) hf := hS
    refine rr [0, 0, 0, 2] hS ?_
    refine it fun w hS => ln (RC.seq (dk [0, 4, 6, 9, 12, 15, 18, 22, 26, 27, 30, 33, 38, 41, 44] [12, 13, 14] hS (fun w hS => hS.d2.d2) fun w hS => rq [0, 3, 0, 0, 0, 0, 0, 2] hS.d2.d2 ?_))
    refine it ?_
    obtain ⟨hf, hs931, hS, hr932⟩ := St.promote hS.p2
    have hS : St B w (_ :: _ :: _ :: _ :: _ :: _ :: _ :: _ :: l) hf := hS
    obtain ⟨hf, hs933, hS, hr934⟩ := St.promote hS.p2
    have hS : St B w (_ :: _ :: _ :: _ :: _ :: _ :: _ :: l) hf := hS
    obtain ⟨t935, hg936, h⟩ := h.bind
    have hc := log_New.ok (hr932.mono hs933) hr934 hg936 hS
    rcases t935 with _ | ⟨y937, y938⟩
    · exact h.none
    refine RP.e 8 rfl (OW.callF (ls := [.tmp 66, .tmp 67, .tmp 72]) rfl call38 hc) rfl rfl ?_
    rintro _ w ⟨hf, hs940, b939, rfl, hS⟩
    refine ⟨kp ⟨fun _ => (St.down hS.d0 ((hs931.trans hs933).trans hs940)), trivial⟩, ?_⟩
    refine rq [0, 0, 0, 0, 0] (St.down hS.d0 ((hs931.trans hs933).trans hs940)) ?_
    refine it (RP.e0 14 rfl (OW.store (vs := [pV b939]) 2 hS rfl rfl rfl rfl sizeOf51 rfl rfl rfl rfl) rfl ?_)
    rintro _ w ⟨rfl, hS⟩
    have hS : St B w (_ :: _ :: Cl _ [_, _, _, _, _, _, _, _, _, _, _, _, _, _, _, _, _, _, _, _, _, _, _, _, _, _, _] _ :: _ :: _ :: _ :: _ :: _ :: l) hf := hS
    refine ⟨kp ⟨(by intro hx; cases hx), trivial⟩, ?_⟩
    refine RP.nil (tsr (rr [0, 0, 0, 0, 0, 3] hS ?_))
    refine it fun w hS => cF (fun _ hg => pend_New.ok hg hS) call39 h rfl rfl rfl ?_
    rintro ⟨y951, y952⟩ h _ w ⟨b953, rfl, hS⟩
    refine rr [0, 0, 0, 0, 0, 4] hS ?_
    refine it fun w hS => ln (RC.seq (sr (rr [6] hS ?_)))
    refine it fun w hS => cF (fun _ hg => model_Starts.ok ((((hr4.mono hs869).mono hs931).mono hs933).mono hs940) ((((hr7.mono hs869).mono hs931).mono hs933).mono hs940) ((((hr10.mono hs869).mono hs931).mono hs933).mono hs940) hg hS) call40 h rfl rfl rfl ?_
    rintro t1019 h _ w ⟨A1021, c1022, rfl, hS⟩
    refine r0 2 rfl (ln (RC.block ?_))
    obtain ⟨hf, hs1023, hS, hr1024⟩ := St.promote hS.p3
    have hS := O_pend_Pend.l hs1023 hS.p1
    have hS := O_log_Log.l hs1023 hS.p2
    have hS := hS.nilSl E_lane_open 116
    have hS := hS.nilSl E_api_Message 48
    have hS := O_lane_Lane.c (x := (⟨({ a1 with Links := (([] : List api_Link) ++ a1.Links) } : api_Model), a11, a12, l864, y937, y951, ([] : List lane_open), ([] : List api_Message), ([] : List (lane_sending × Int)), ([] : List (lane_sending × Bool)), 0, (⟨2, 4, 0, 1000, 0⟩ : api_Setting), (⟨0, 0, 0, 0⟩ : api_Stats)⟩ : lane_Lane)) (((((hr4.mono hs869).mono hs931).mono hs933).mono hs940).mono hs1023) hr1024 (((((hr10.mono hs869).mono hs931).mono hs933).mono hs940).mono hs1023) ((((hr870.mono hs931).mono hs933).mono hs940).mono hs1023) hS.p9.p9.p2.p3.p5.p5.p7
    refine fun a ha => lp h (fun (s : lane_Lane × Int) a w => ∃ y1038 x1039, s = (y1038, x1039) ∧ Has 106 [(1, iV a11), (10, pV b871), (91, sV A1021 t1019 c1022), (92, iV (t1019.length : Int)), (93, iV x1039)] a ∧ St B w (OSf E_api_Message 48 (sV A1021 t1019 c1022) t1019 :: O_lane_Lane hf y1038 b871 :: l) hf) ⟨_, _, rfl, ha.tE rfl, hS.d2.d2.d2.p1⟩ ?_
    rintro G1055 _ a w ⟨y1038, x1039, rfl, ha, hS⟩ h
    refine ro ha (sr (pn 1 rfl (ln (RC.seq ?_))))
    refine RC.iteP 94 rfl h (fun hc1057 h => ?_) fun hc1057 h => ?_
    next =>
     refine jt (sk ?_)
     refine RC.join (fun (s : lane_Lane) a w => ∃ y1063, s = (y1063) ∧ Holds (Sum.elim G1055 (· = r)) (lane_New.j20 x1039 y1063) ∧ Has 106 [(1, iV a11), (10, pV b871), (91, sV A1021 t1019 c1022), (92, iV (t1019.length : Int)), (93, iV x1039)] a ∧ St B w (OSf E_api_Message 48 (sV A1021 t1019 c1022) t1019 :: O_lane_Lane hf y1063 b871 :: l) hf) ?_ ?_
     · rintro y1063 a w ⟨_, rfl, h, ha, hS⟩
       refine ro ha (RC.region (pn 2 rfl (RL.nil ?_)))
       exact fun a ha => ⟨_, h.some, _, _, rfl, ha.tE rfl, hS⟩
     refine RC.block (sr ?_)
     obtain ⟨hq1064, h⟩ := h.req
     refine RL.s (Vl.indexOwn 0 hS rfl underlying39 sizeOf48 rfl rfl hq1064 hc1057) rfl (RL.s (Vl.loadA isAgg48 sizeOf48 rfl rfl ((hS.slW 0 rfl).2.2.cells hq1064 hc1057)) rfl (rr [0, 1] hS ?_))
     refine fun b1065 => it fun w hS => lnsr (rr [0, 1, 0, 0] hS ?_)
     refine it fun w hS => ln ?_
     refine RC.iteP 100 rfl h (fun hc1066 h => ?_) fun hc1066 h => ?_
     next =>
      refine jt (RC.region (rr [0, 1] hS ?_))
      refine it fun w hS => cF (fun _ hg => lane_Lane_hold.ok hg hS.p2) call41 h rfl rfl rfl ?_
      rintro t1067 h _ w ⟨rfl, hS⟩
      refine RL.nil (RQ.inB_n ?_)
      exact fun a ha => ⟨_, _, rfl, h, ha.tE rfl, hS.d1.p1⟩
     refine jf (RC.skip (RQ.inB_n ?_))
     exact fun a ha => ⟨_, _, rfl, h, ha.tE rfl, hS.d0⟩
    refine jf (RC.exit (RQ.exitT ?_))
    have h := h.inrS
    refine RQ.exitT (RQ.inB_hit (tsr (pn 3 rfl (lr ?_))))
    cases h.some
    exact rt results8 rfl ⟨_, ((((hs869.trans hs931).trans hs933).trans hs940).trans hs1023), b871, rfl, hS.d0⟩
  refine RP.fork3 ?_ ?_ ?_
  · obtain ⟨t1069, hg1070, h⟩ := h.bind
    have hc := model_Ways.ok hr4 hr7 hr10 hg1070 hS
    refine RPW.e 5 rfl (OW.callF (ls := [.tmp 49, .tmp 50]) rfl call36 hc) rfl rfl ?_
    rintro _ w ⟨A1071, c1072, rfl, hS⟩
    refine ⟨kp ⟨fun _ => hS.d0, trivial⟩, ?_⟩
    refine RP.fork3 ?_ ?_ ?_
    · refine RPW.e 6 rfl (OW.makeMapF (kv := kv_lane_sending) (vv := (Value.int .i64)) hS) rfl rfl ?_
      rintro _ w ⟨b1073, rfl, hS⟩
      refine ⟨kp ⟨fun _ => hS.d0.d0, trivial⟩, ?_⟩
      refine RP.fork ?_ ?_
      · refine RPW.e 7 rfl (OW.makeMapF (kv := kv_lane_sending) (vv := Value.bool) hS) rfl rfl ?_
        rintro _ w ⟨b1074, rfl, hS⟩
        refine ⟨kp ⟨fun _ => hS.d0.d0.d0, trivial⟩, ?_⟩
        obtain ⟨t1075, hg1076, h⟩ := h.bind
        have hc := tune_First.ok hg1076 hS
        refine RP.e 8 rfl (OW.callF (ls := []) rfl call37 hc) rfl rfl ?_
        rintro _ w ⟨rfl, hS⟩
        refine ⟨kp ⟨fun _ => hS.d0.d0.d0, trivial⟩, ?_⟩
        exact hk _ _ _ ⟨_, rfl, h, _, _, _, _, ⟨rfl, rfl, rfl, rfl, rfl, rfl, rfl, rfl, rfl, rfl, trivial⟩, hS.p1.p7.p4.p4.p6.p6⟩
      · obtain ⟨t1077, hg1078, h⟩ := h.bind
        have hc := tune_First.ok hg1078 hS
        refine RPW.e 8 rfl (OW.callF (ls := []) rfl call37 hc) rfl rfl ?_
        rintro _ w ⟨rfl, hS⟩
        refine ⟨kp ⟨fun _ => hS.d0.d0, trivial⟩, ?_⟩
        refine RP.e 7 rfl (OW.makeMapF (kv := kv_lane_sending) (vv := Value.bool) hS) rfl rfl ?_
        rintro _ w ⟨b1079, rfl, hS⟩
        refine ⟨kp ⟨fun _ => hS.d0.d0.d0, trivial⟩, ?_⟩
        exact hk _ _ _ ⟨_, rfl, h, _, _, _, _, ⟨rfl, rfl, rfl, rfl, rfl, rfl, rfl, rfl, rfl, rfl, trivial⟩, hS.p1.p7.p4.p4.p6.p6⟩
    · refine RPW.e 7 rfl (OW.makeMapF (kv := kv_lane_sending) (vv := Value.bool) hS) rfl rfl ?_
      rintro _ w ⟨b1080, rfl, hS⟩
      refine ⟨kp ⟨fun _ => hS.d0.d0, trivial⟩, ?_⟩
      refine RP.fork ?_ ?_
      · refine RPW.e 6 rfl (OW.makeMapF (kv := kv_lane_sending) (vv := (Value.int .i64)) hS) rfl rfl ?_
        rintro _ w ⟨b1081, rfl, hS⟩
        refine ⟨kp ⟨fun _ => hS.d0.d0.d0, trivial⟩, ?_⟩
        obtain ⟨t1082, hg1083, h⟩ := h.bind
        have hc := tune_First.ok hg1083 hS
        refine RP.e 8 rfl (OW.callF (ls := []) rfl call37 hc) rfl rfl ?_
        rintro _ w ⟨rfl, hS⟩
        refine ⟨kp ⟨fun _ => hS.d0.d0.d0, trivial⟩, ?_⟩
        exact hk _ _ _ ⟨_, rfl, h, _, _, _, _, ⟨rfl, rfl, rfl, rfl, rfl, rfl, rfl, rfl, rfl, rfl, trivial⟩, hS.p7.p4.p4.p6.p6⟩
      · obtain ⟨t1084, hg1085, h⟩ := h.bind
        have hc := tune_First.ok hg1085 hS
        refine RPW.e 8 rfl (OW.callF (ls := []) rfl call37 hc) rfl rfl ?_
        rintro _ w ⟨rfl, hS⟩
        refine ⟨kp ⟨fun _ => hS.d0.d0, trivial⟩, ?_⟩
        refine RP.e 6 rfl (OW.makeMapF (kv := kv_lane_sending) (vv := (Value.int .i64)) hS) rfl rfl ?_
        rintro _ w ⟨b1086, rfl, hS⟩
        refine ⟨kp ⟨fun _ => hS.d0.d0.d0, trivial⟩, ?_⟩
        exact hk _ _ _ ⟨_, rfl, h, _, _, _, _, ⟨rfl, rfl, rfl, rfl, rfl, rfl, rfl, rfl, rfl, rfl, trivial⟩, hS.p7.p4.p4.p6.p6⟩
    · obtain ⟨t1087, hg1088, h⟩ := h.bind
      have hc := tune_First.ok hg1088 hS
      refine RPW.e 8 rfl (OW.callF (ls := []) rfl call37 hc) rfl rfl ?_
      rintro _ w ⟨rfl, hS⟩
      refine ⟨kp ⟨fun _ => hS.d0, trivial⟩, ?_⟩
      refine RP.fork ?_ ?_
      · refine RPW.e 6 rfl (OW.makeMapF (kv := kv_lane_sending) (vv := (Value.int .i64)) hS) rfl rfl ?_
        rintro _ w ⟨b1089, rfl, hS⟩
        refine ⟨kp ⟨fun _ => hS.d0.d0, trivial⟩, ?_⟩
        refine RP.e 7 rfl (OW.makeMapF (kv := kv_lane_sending) (vv := Value.bool) hS) rfl rfl ?_
        rintro _ w ⟨b1090, rfl, hS⟩
        refine ⟨kp ⟨fun _ => hS.d0.d0.d0, trivial⟩, ?_⟩
        exact hk _ _ _ ⟨_, rfl, h, _, _, _, _, ⟨rfl, rfl, rfl, rfl, rfl, rfl, rfl, rfl, rfl, rfl, trivial⟩, hS.p1.p7.p4.p4.p6.p6⟩
      · refine RPW.e 7 rfl (OW.makeMapF (kv := kv_lane_sending) (vv := Value.bool) hS) rfl rfl ?_
        rintro _ w ⟨b1091, rfl, hS⟩
        refine ⟨kp ⟨fun _ => hS.d0.d0, trivial⟩, ?_⟩
        refine RP.e 6 rfl (OW.makeMapF (kv := kv_lane_sending) (vv := (Value.int .i64)) hS) rfl rfl ?_
        rintro _ w ⟨b1092, rfl, hS⟩
        refine ⟨kp ⟨fun _ => hS.d0.d0.d0, trivial⟩, ?_⟩
        exact hk _ _ _ ⟨_, rfl, h, _, _, _, _, ⟨rfl, rfl, rfl, rfl, rfl, rfl, rfl, rfl, rfl, rfl, trivial⟩, hS.p7.p4.p4.p6.p6⟩
  · refine RPW.e 6 rfl (OW.makeMapF (kv := kv_lane_sending) (vv := (Value.int .i64)) hS) rfl rfl ?_
    rintro _ w ⟨b1093, rfl, hS⟩
    refine ⟨kp ⟨fun _ => hS.d0, trivial⟩, ?_⟩
    refine RP.fork ?_ ?_
    · obtain ⟨t1094, hg1095, h⟩ := h.bind
      have hc := model_Ways.ok hr4 hr7 hr10 hg1095 hS
      refine RPW.e 5 rfl (OW.callF (ls := [.tmp 49, .tmp 50]) rfl call36 hc) rfl rfl ?_
      rintro _ w ⟨A1096, c1097, rfl, hS⟩
      refine ⟨kp ⟨fun _ => hS.d0.d0, trivial⟩, ?_⟩
      refine RP.fork ?_ ?_
      · refine RPW.e 7 rfl (OW.makeMapF (kv := kv_lane_sending) (vv := Value.bool) hS) rfl rfl ?_
        rintro _ w ⟨b1098, rfl, hS⟩
        refine ⟨kp ⟨fun _ => hS.d0.d0.d0, trivial⟩, ?_⟩
        obtain ⟨t1099, hg1100, h⟩ := h.bind
        have hc := tune_First.ok hg1100 hS
        refine RP.e 8 rfl (OW.callF (ls := []) rfl call37 hc) rfl rfl ?_
        rintro _ w ⟨rfl, hS⟩
        refine ⟨kp ⟨fun _ => hS.d0.d0.d0, trivial⟩, ?_⟩
        exact hk _ _ _ ⟨_, rfl, h, _, _, _, _, ⟨rfl, rfl, rfl, rfl, rfl, rfl, rfl, rfl, rfl, rfl, trivial⟩, hS.p2.p7.p4.p4.p6.p6⟩
      · obtain ⟨t1101, hg1102, h⟩ := h.bind
        have hc := tune_First.ok hg1102 hS
        refine RPW.e 8 rfl (OW.callF (ls := []) rfl call37 hc) rfl rfl ?_
        rintro _ w ⟨rfl, hS⟩
        refine ⟨kp ⟨fun _ => hS.d0.d0, trivial⟩, ?_⟩
        refine RP.e 7 rfl (OW.makeMapF (kv := kv_lane_sending) (vv := Value.bool) hS) rfl rfl ?_
        rintro _ w ⟨b1103, rfl, hS⟩
        refine ⟨kp ⟨fun _ => hS.d0.d0.d0, trivial⟩, ?_⟩
        exact hk _ _ _ ⟨_, rfl, h, _, _, _, _, ⟨rfl, rfl, rfl, rfl, rfl, rfl, rfl, rfl, rfl, rfl, trivial⟩, hS.p2.p7.p4.p4.p6.p6⟩
    · refine RPW.e 7 rfl (OW.makeMapF (kv := kv_lane_sending) (vv := Value.bool) hS) rfl rfl ?_
      rintro _ w ⟨b1104, rfl, hS⟩
      refine ⟨kp ⟨fun _ => hS.d0.d0, trivial⟩, ?_⟩
      obtain ⟨t1105, hg1106, h⟩ := h.bind
      have hc := model_Ways.ok hr4 hr7 hr10 hg1106 hS
      refine RP.e 5 rfl (OW.callF (ls := [.tmp 49, .tmp 50]) rfl call36 hc) rfl rfl ?_
      rintro _ w ⟨A1107, c1108, rfl, hS⟩
      refine ⟨kp ⟨fun _ => hS.d0.d0.d0, trivial⟩, ?_⟩
      obtain ⟨t1109, hg1110, h⟩ := h.bind
      have hc := tune_First.ok hg1110 hS
      refine RP.e 8 rfl (OW.callF (ls := []) rfl call37 hc) rfl rfl ?_
      rintro _ w ⟨rfl, hS⟩
      refine ⟨kp ⟨fun _ => hS.d0.d0.d0, trivial⟩, ?_⟩
      exact hk _ _ _ ⟨_, rfl, h, _, _, _, _, ⟨rfl, rfl, rfl, rfl, rfl, rfl, rfl, rfl, rfl, rfl, trivial⟩, hS.p2.p7.p4.p3.p6.p6⟩
  · refine RPW.e 7 rfl (OW.makeMapF (kv := kv_lane_sending) (vv := Value.bool) hS) rfl rfl ?_
    rintro _ w ⟨b1111, rfl, hS⟩
    refine ⟨kp ⟨fun _ => hS.d0, trivial⟩, ?_⟩
    refine RP.fork ?_ ?_
    · obtain ⟨t1112, hg1113, h⟩ := h.bind
      have hc := model_Ways.ok hr4 hr7 hr10 hg1113 hS
      refine RPW.e 5 rfl (OW.callF (ls := [.tmp 49, .tmp 50]) rfl call36 hc) rfl rfl ?_
      rintro _ w ⟨A1114, c1115, rfl, hS⟩
      refine ⟨kp ⟨fun _ => hS.d0.d0, trivial⟩, ?_⟩
      refine RP.fork ?_ ?_
      · refine RPW.e 6 rfl (OW.makeMapF (kv := kv_lane_sending) (vv := (Value.int .i64)) hS) rfl rfl ?_
        rintro _ w ⟨b1116, rfl, hS⟩
        refine ⟨kp ⟨fun _ => hS.d0.d0.d0, trivial⟩, ?_⟩
        obtain ⟨t1117, hg1118, h⟩ := h.bind
        have hc := tune_First.ok hg1118 hS
        refine RP.e 8 rfl (OW.callF (ls := []) rfl call37 hc) rfl rfl ?_
        rintro _ w ⟨rfl, hS⟩
        refine ⟨kp ⟨fun _ => hS.d0.d0.d0, trivial⟩, ?_⟩
        exact hk _ _ _ ⟨_, rfl, h, _, _, _, _, ⟨rfl, rfl, rfl, rfl, rfl, rfl, rfl, rfl, rfl, rfl, trivial⟩, hS.p7.p4.p3.p6.p6⟩
      · obtain ⟨t1119, hg1120, h⟩ := h.bind
        have hc := tune_First.ok hg1120 hS
        refine RPW.e 8 rfl (OW.callF (ls := []) rfl call37 hc) rfl rfl ?_
        rintro _ w ⟨rfl, hS⟩
        refine ⟨kp ⟨fun _ => hS.d0.d0, trivial⟩, ?_⟩
        refine RP.e 6 rfl (OW.makeMapF (kv := kv_lane_sending) (vv := (Value.int .i64)) hS) rfl rfl ?_
        rintro _ w ⟨b1121, rfl, hS⟩
        refine ⟨kp ⟨fun _ => hS.d0.d0.d0, trivial⟩, ?_⟩
        exact hk _ _ _ ⟨_, rfl, h, _, _, _, _, ⟨rfl, rfl, rfl, rfl, rfl, rfl, rfl, rfl, rfl, rfl, trivial⟩, hS.p7.p4.p3.p6.p6⟩
    · refine RPW.e 6 rfl (OW.makeMapF (kv := kv_lane_sending) (vv := (Value.int .i64)) hS) rfl rfl ?_
      rintro _ w ⟨b1122, rfl, hS⟩
      refine ⟨kp ⟨fun _ => hS.d0.d0, trivial⟩, ?_⟩
      obtain ⟨t1123, hg1124, h⟩ := h.bind
      have hc := model_Ways.ok hr4 hr7 hr10 hg1124 hS
      refine RP.e 5 rfl (OW.callF (ls := [.tmp 49, .tmp 50]) rfl call36 hc) rfl rfl ?_
      rintro _ w ⟨A1125, c1126, rfl, hS⟩
      refine ⟨kp ⟨fun _ => hS.d0.d0.d0, trivial⟩, ?_⟩
      obtain ⟨t1127, hg1128, h⟩ := h.bind
      have hc := tune_First.ok hg1128 hS
      refine RP.e 8 rfl (OW.callF (ls := []) rfl call37 hc) rfl rfl ?_
      rintro _ w ⟨rfl, hS⟩
      refine ⟨kp ⟨fun _ => hS.d0.d0.d0, trivial⟩, ?_⟩
      exact hk _ _ _ ⟨_, rfl, h, _, _, _, _, ⟨rfl, rfl, rfl, rfl, rfl, rfl, rfl, rfl, rfl, rfl, trivial⟩, hS.p7.p4.p2.p6.p6⟩
 refine jtr (pn 3 rfl (lr (RQ.ret ?_)))
 cases h.some
 exact rt results8 rfl ⟨rfl, hS.d0.d0.d0.d0.d0⟩
def vtime_Least.l2b (a1 : List Int) : Int × Int → Option ((Int × Int) ⊕ (Int))
 | (x26, x27) => (if x27 < (a1.length : Int) then (if 0 ≤ x27 then some (.inl ((if nth a1 x27 < x26 then nth a1 x27 else x26), IntKind.i64.wrap (x27 + 1))) else none) else some (.inr x26))
def vtime_Least.l2 (a1 : List Int) (s : Int × Int) : Option (Int) := loopR (vtime_Least.l2b a1) s
def vtime_Least.f (a1 : List Int) : Option (Int) := vtime_Least.l2 a1 (4611686018427387904, 0)
theorem vtime_Least.ok {a1 : List Int} {A2 : Option Addr} {c3 : Nat} (hr4 : SlR ((FI .i64).rep) hf A2 c3 a1) {r : Int} (h : vtime_Least.f a1 = some r) (hS : St B w (l) hf) :
   Calls prog 66 #[sV A2 a1 c3] w (Ret fun v w => v = iV r ∧ St B w (l) hf) := by
 have h := Holds.of h
 refine en func66 rfl ntmps66 rfl (sr (pn 1 rfl (lnsr (pn 1 rfl (ln (RC.seq (sr (r0 3 rfl (RL.nil ?_)))))))))
 refine RQ.then_n (RC.block (fun a ha => lp h (fun (s : Int × Int) a w => ∃ x26 x27, s = (x26, x27) ∧ Has 17 [(3, iV x26), (6, sV A2 a1 c3), (7, iV (a1.length : Int)), (8, iV x27)] a ∧ St B w (l) hf) ⟨_, _, rfl, ha.tE rfl, hS⟩ ?_))
 rintro G34 _ a w ⟨x26, x27, rfl, ha, hS⟩ h
 refine ro ha (sr (pn 1 rfl (ln (RC.seq ?_))))
 refine RC.iteP 9 rfl h (fun hc36 h => ?_) fun hc36 h => ?_
 next =>
  refine jt (sk (RC.seq (RC.block (sr ?_))))
  obtain ⟨hq38, h⟩ := h.req
  refine RL.s (Vl.indexAddr underlying192 sizeOf2 rfl rfl ((hr4.2.world hS.sub).adr hq38 hc36) hq38 hc36 rfl) rfl (RL.s (Vl.load isAgg2 rfl ((hr4.2.world hS.sub).cell (j := 0) hq38 hc36 rfl)) rfl (pn 1 rfl (ln (RC.region (pn 2 rfl (RL.s (Vl.min2 rfl rfl) rfl (pn 1 rfl (RL.nil (RQ.inB_n (RQ.then_n (RC.region (pn 2 rfl (RL.nil ?_)))))))))))))
  exact fun a ha => ⟨_, h.some, _, _, rfl, ha.tE rfl, hS⟩
 refine jf (RC.exit (RQ.exitT ?_))
 have h := h.inrS
 refine RQ.exitT (RQ.inB_hit (tsr (pn 2 rfl (lr ?_))))
 obtain rfl := h.some
 exact rt results66 rfl ⟨rfl, hS⟩
def lane_Lane_none.f (a2 : lane_Lane) : Option (Unit) := some ()
theorem lane_Lane_none.ok {a2 : lane_Lane} {b1 : Nat} {r : Unit} (h : lane_Lane_none.f a2 = some r) (hS : St B w (O_lane_Lane hf a2 b1 :: l) hf) :
   Calls prog 45 #[pV b1] w (Ret fun v w => v = .bool false ∧ St B w (O_lane_Lane hf a2 b1 :: l) hf) := by
 have h := Holds.of h
 refine en func45 rfl ntmps45 rfl (sr (pn 1 rfl (lnsr (pn 1 rfl (RL.s (Vl.bn false rfl rfl) rfl (r0 4 rfl ?_))))))
 obtain ⟨A23, c24, A26, c27, A29, c30, A32, c33, b35, b36, A37, c38, A39, c40, b41, b42, hr25, hr28, hr31, hr34, hS⟩ := O_lane_Lane.o hS
 refine rr [1] hS ?_
 refine it fun w hS => RL.sg (Vl.bn false rfl rfl) rfl rfl (pn 2 rfl (lr ?_))
 have hS := O_lane_Lane.c (x := a2) hr25 hr28 hr31 hr34 hS
 exact rt results45 rfl ⟨rfl, hS⟩
def heap_Heap_First.f (a2 : heap_Heap) : Option (api_Message × Int) := ((heap_Heap_none.f a2).bind fun _ => (if (a2.p_l.length : Int) = 0 then some ((⟨(⟨0, 0, 0⟩ : api_Key), 0, 0, 0, false⟩ : api_Message), 6) else (if 0 < (a2.p_l.length : Int) then some (nth a2.p_l 0, 0) else none)))
theorem heap_Heap_First.ok {a2 : heap_Heap} {b1 : Nat} {r : api_Message × Int} (h : heap_Heap_First.f a2 = some r) (hS : St B w (O_heap_Heap hf a2 b1 :: l) hf) :
   Calls prog 194 #[pV b1] w (Ret fun v w => v = .tuple #[.agg (C_api_Message r.1).toArray, iV r.2] ∧ St B w (O_heap_Heap hf a2 b1 :: l) hf) := by
 have h := Holds.of h
 refine en func194 rfl ntmps194 rfl (sr (rr [0, 0] hS ?_))
 refine fun b21 => it fun w hS => ln (RC.seq (RC.block (sr (pn 1 rfl (cF (fun _ hg => heap_Heap_none.ok hg hS.p1) call198 h rfl rfl rfl ?_)))))
 rintro _ h _ w ⟨rfl, hS⟩
 refine pn 1 rfl (ln (jf (sr (r0 4 rfl ?_))))
 obtain ⟨A33, c34, hS⟩ := O_heap_Heap.o hS
 refine rr [1, 0, 0, 0] hS ?_
 refine it fun w hS => ln ?_
 refine RC.iteP 8 rfl h (fun hc35 h => ?_) fun hc35 h => ?_
 next =>
  refine jtr (rr [0, 3, 0] hS ?_)
  refine it fun w hS => lr (ir ?_)
  have hS := O_heap_Heap.c (x := a2) hS
  cases h.some
  refine rz [1] results194 hS ?_
  exact it ⟨rfl, hS.d1⟩
 refine jf (RC.skip (RQ.inB_n (tsr (rr [0, 0, 0, 0, 1] hS ?_))))
 refine it fun w hS => ?_
 obtain ⟨hq36, h⟩ := h.req
 refine RL.s (Vl.indexOwn 1 hS rfl underlying39 sizeOf48 rfl rfl (by decide) hq36) rfl (RL.s (Vl.loadA isAgg48 sizeOf48 rfl rfl ((hS.slW 1 rfl).2.2.cells (by decide) hq36)) rfl (rr [3, 0] hS ?_))
 refine it fun w hS => lr ?_
 have hS := O_heap_Heap.c (x := a2) hS
 cases h.some
 refine rz [1] results194 hS ?_
 exact it ⟨rfl, hS.d1⟩
def pend_Pend_First.f (a2 : pend_Pend) : Option (api_Message × Int) := ((pend_Pend_none.f a2).bind fun _ => ((heap_Heap_First.f a2.q).bind fun (y23, y24) => some (y23, y24)))
theorem pend_Pend_First.ok {a2 : pend_Pend} {b1 : Nat} {r : api_Message × Int} (h : pend_Pend_First.f a2 = some r) (hS : St B w (O_pend_Pend hf a2 b1 :: l) hf) :
   Calls prog 63 #[pV b1] w (Ret fun v w => v = .tuple #[.agg (C_api_Message r.1).toArray, iV r.2] ∧ St B w (O_pend_Pend hf a2 b1 :: l) hf) := by
 have h := Holds.of h
 refine en func63 rfl ntmps63 rfl (sr (rr [0, 0] hS ?_))
 refine fun b15 => it fun w hS => ln (RC.seq (sr (pn 1 rfl (cF (fun _ hg => pend_Pend_none.ok hg hS.p1) call93 h rfl rfl rfl ?_))))
 rintro _ h _ w ⟨rfl, hS⟩
 refine ln (jfs (sr (r0 3 rfl ?_)))
 obtain ⟨b20, hS⟩ := O_pend_Pend.o hS
 refine rr [1] hS ?_
 refine it fun w hS => ?_
 obtain ⟨t21, hg22, h⟩ := h.bind
 have hc := heap_Heap_First.ok hg22 hS.p1
 obtain ⟨y23, y24⟩ := t21
 refine RL.e (OW.invoke (F := 194) (u' := pV b20) (ls := []) rfl rfl (fun w => by kernel_rfl) call194 rfl hc) rfl rfl ?_
 rintro _ w ⟨rfl, hS⟩
 refine rr [0, 0, 3, 0] hS ?_
 refine it fun w hS => lr ?_
 have hS := O_pend_Pend.c (x := a2) hS.p1
 cases h.some
 refine rz [1] results63 hS ?_
 exact it ⟨rfl, hS.d1⟩
def log_Log_none.f (a2 : log_Log) : Option (Bool) := some (!a2.made)
theorem log_Log_none.ok {a2 : log_Log} {b1 : Nat} {r : Bool} (h : log_Log_none.f a2 = some r) (hS : St B w (O_log_Log hf a2 b1 :: l) hf) :
   Calls prog 94 #[pV b1] w (Ret fun v w => v = .bool r ∧ St B w (O_log_Log hf a2 b1 :: l) hf) := by
 have h := Holds.of h
 refine en func94 rfl ntmps94 rfl (sr (pn 1 rfl (lnsr (pn 1 rfl (RL.s (Vl.bn false rfl rfl) rfl (r0 4 rfl ?_))))))
 obtain ⟨A13, c14, A16, c17, A19, c20, cs21, hr15, hr18, hx22, hS⟩ := O_log_Log.o hS
 refine rr [1, 0, 0, 0] hS ?_
 refine it fun w hS => lr ?_
 have hS := O_log_Log.c (x := a2) hr15 hr18 hx22 hS
 cases h.some
 exact rt results94 rfl ⟨rfl, hS⟩
def log_Log_Stuck.f (a2 : log_Log) : Option (Bool) := ((log_Log_none.f a2).bind fun t16 => (if t16 = true then some false else some a2.stuck))
theorem log_Log_Stuck.ok {a2 : log_Log} {b1 : Nat} {r : Bool} (h : log_Log_Stuck.f a2 = some r) (hS : St B w (O_log_Log hf a2 b1 :: l) hf) :
   Calls prog 67 #[pV b1] w (Ret fun v w => v = .bool r ∧ St B w (O_log_Log hf a2 b1 :: l) hf) := by
 have h := Holds.of h
 refine en func67 rfl ntmps67 rfl (sr (pn 1 rfl (lnsr (pn 1 rfl (cF (fun _ hg => log_Log_none.ok hg hS) call94 h rfl rfl rfl ?_)))))
 rintro t16 h _ w ⟨rfl, hS⟩
 refine pn 2 rfl ?_
 refine RL.iteM 6 rfl h (fun hc18 h => ?_) fun hc18 h => ?_
 next =>
  refine pn 6 rfl (lr ?_)
  obtain rfl := h.some
  exact rt results67 rfl ⟨rfl, hS⟩
 refine r0 3 rfl ?_
 obtain ⟨A19, c20, A22, c23, A25, c26, cs27, hr21, hr24, hx28, hS⟩ := O_log_Log.o hS
 refine rr [1, 0, 0] hS ?_
 refine it fun w hS => lr ?_
 have hS := O_log_Log.c (x := a2) hr21 hr24 hx28 hS
 cases h.some
 exact rt results67 rfl ⟨rfl, hS⟩
def lane_Lane_Local.l4b (a2 : lane_Lane) : Int × Int → Option ((Int × Int) ⊕ (Int))
 | (x381, x382) => (if x382 < (a2.open_.length : Int) then (if 0 ≤ x382 then ((vtime_Least.f ([x381, (((nth a2.open_ x382).m).Key).Time] : List Int)).bind fun t432 => some (.inl (t432, IntKind.i64.wrap (x382 + 1)))) else none) else some (.inr x381))
def lane_Lane_Local.l4 (a2 : lane_Lane) (s : Int × Int) : Option (Int) := loopR (lane_Lane_Local.l4b a2) s
def lane_Lane_Local.j3 (a2 : lane_Lane) (x318 : Int) : Option (Int) := lane_Lane_Local.l4 a2 (x318, 0)
def lane_Lane_Local.f (a2 : lane_Lane) : Option (Int) := ((vtime_Least.f ([])).bind fun t251 => ((lane_Lane_none.f a2).bind fun _ => ((pend_Pend_First.f a2.wait).bind fun (y481, y482) => (if y482 = 0 then ((log_Log_Stuck.f a2.log).bind fun t485 => (if t485 = true then lane_Lane_Local.j3 a2 t251 else ((vtime_Least.f ([y481.Key.Time] : List Int)).bind fun t493 => lane_Lane_Local.j3 a2 t493))) else lane_Lane_Local.j3 a2 t251))))
theorem lane_Lane_Local.ok {a2 : lane_Lane} {b1 : Nat} {r : Int} (h : lane_Lane_Local.f a2 = some r) (hS : St B w (O_lane_Lane hf a2 b1 :: l) hf) :
   Calls prog 20 #[pV b1] w (Ret fun v w => v = iV r ∧ St B w (O_lane_Lane hf a2 b1 :: l) hf) := by
 have h := Holds.of h
 refine en func20 rfl ntmps20 rfl (sr (pn 1 rfl (lnsr (cF (fun _ hg => vtime_Least.ok (SlR.nil (A := none) (c := 0)) hg hS) call66 h rfl rfl rfl ?_))))
 rintro t251 h _ w ⟨rfl, hS⟩
 refine pn 1 rfl (ln (RC.seq (sr (pn 1 rfl (cF (fun _ hg => lane_Lane_none.ok hg hS) call45 h rfl rfl rfl ?_)))))
 rintro _ h _ w ⟨rfl, hS⟩
 refine ln (jfs ?_)
 refine RC.join (fun (s : Int) a w => ∃ x318, s = (x318) ∧ Holds (· = r) (lane_Lane_Local.j3 a2 x318) ∧ Has 53 [(0, pV b1), (3, iV x318)] a ∧ St B w (O_lane_Lane hf a2 b1 :: l) hf) ?_ ?_
 · rintro x318 a w ⟨_, rfl, h, ha, hS⟩
   refine ro ha (RC.seq (sr (r0 3 rfl ?_)))
   obtain ⟨A339, c340, A342, c343, A345, c346, A348, c349, b351, b352, A353, c354, A355, c356, b357, b358, hr341, hr344, hr347, hr350, hS⟩ := O_lane_Lane.o hS
   refine rr [1, 0, 0] hS ?_
   refine it fun w hS => ln (RC.block (fun a ha => lp h (fun (s : Int × Int) a w => ∃ x381 x382, s = (x381, x382) ∧ Has 53 [(3, iV x381), (38, sV A353 a2.open_ c354), (39, iV (a2.open_.length : Int)), (40, iV x382)] a ∧ St B w (OSf E_lane_open 116 (sV A353 a2.open_ c354) a2.open_ :: OSf E_api_Message 48 (sV A355 a2.orphans c356) a2.orphans :: Cl b1 (C_lane_Lane a2 A339 c340 A342 c343 A345 c346 A348 c349 b351 b352 A353 c354 A355 c356 b357 b358) 61 :: O_log_Log hf a2.log b351 :: O_pend_Pend hf a2.wait b352 :: MapF kv_lane_sending (Value.int .i64) b357 a2.early :: MapF kv_lane_sending Value.bool b358 a2.held :: l) hf) ⟨_, _, rfl, ha.tE rfl, hS.p4.p4⟩ ?_))
   rintro G409 _ a w ⟨x381, x382, rfl, ha, hS⟩ h
   refine ro ha (sr (pn 1 rfl (ln (RC.seq ?_))))
   refine RC.iteP 41 rfl h (fun hc411 h => ?_) fun hc411 h => ?_
   next =>
    refine jt (sk (RC.seq (RC.block (sr ?_))))
    obtain ⟨hq425, h⟩ := h.req
    refine RL.s (Vl.indexOwn 0 hS rfl underlying53 sizeOf116 rfl rfl hq425 hc411) rfl (RL.s (Vl.loadA isAgg116 sizeOf116 rfl rfl ((hS.slW 0 rfl).2.2.cells hq425 hc411)) rfl (rr [0, 1] hS ?_))
    refine fun b426 => it fun w hS => ln (RC.region (rr [0, 0, 0, 0, 1] hS ?_))
    refine it fun w hS => RL.e (OW.buildSlice (E := (FI .i64)) (xs := ([x381, (((nth a2.open_ x382).m).Key).Time] : List Int)) (cs := [iV x381, iV ((((nth a2.open_ x382).m).Key).Time)]) hS underlying192 zeroValue2 sizeOf2 (parts := [(0, .tmp 44), (1, .tmp 48)]) rfl rfl (by decide) (by decide) (by kernel_rfl) rfl) rfl rfl ?_
    rintro _ w ⟨b427, rfl, hS⟩
    obtain ⟨hf431, hs429, hS, hr428, hb430⟩ := St.lendSl hS
    obtain ⟨t432, hg433, h⟩ := h.bind
    have hc := vtime_Least.ok hr428 hg433 hS
    refine RL.e (OW.callF (ls := [.tmp 49]) rfl call66 hc) rfl rfl ?_
    rintro _ w ⟨rfl, hS⟩
    have hS := hb430 _ _ hS
    have hS : St B w (_ :: _ :: _ :: _ :: _ :: _ :: _ :: _ :: _ :: l) hf := hS
    refine pn 1 rfl (RL.nil (RQ.inB_n (RQ.then_n (RC.region (pn 2 rfl (RL.nil ?_))))))
    exact fun a ha => ⟨_, h.some, _, _, rfl, ha.tE rfl, hS.d0.d0⟩
   refine jf (RC.exit (RQ.exitT ?_))
   have h := h.inrS
   refine RQ.exitT (RQ.inB_hit (tsr (pn 2 rfl (lr ?_))))
   have hS := O_lane_Lane.c (x := a2) hr341 hr344 hr347 hr350 hS.p4.p4.p4
   obtain rfl := h.some
   exact rt results20 rfl ⟨rfl, hS⟩
 refine sr (r0 3 rfl ?_)
 obtain ⟨A459, c460, A462, c463, A465, c466, A468, c469, b471, b472, A473, c474, A475, c476, b477, b478, hr461, hr464, hr467, hr470, hS⟩ := O_lane_Lane.o hS
 refine rr [1] hS ?_
 refine it fun w hS => cF (fun _ hg => pend_Pend_First.ok hg hS.p2) call63 h rfl rfl rfl ?_
 rintro ⟨y481, y482⟩ h _ w ⟨rfl, hS⟩
 refine rr [0, 0, 0, 0, 1, 0] hS ?_
 refine fun b483 => it fun w hS => lnsr (pn 3 rfl ?_)
 refine RL.iteP 22 rfl h (fun hc484 h => ?_) fun hc484 h => ?_
 next =>
  refine rr [0, 0, 0, 3] hS ?_
  refine it fun w hS => cF (fun _ hg => log_Log_Stuck.ok hg hS.p3) call67 h rfl rfl rfl ?_
  rintro t485 h _ w ⟨rfl, hS⟩
  refine pn 2 rfl (ln ?_)
  refine RC.iteM 29 rfl h (fun hc487 h => ?_) fun hc487 h => ?_
  next =>
   refine jf (RC.skip ?_)
   have hS := O_lane_Lane.c (x := a2) hr461 hr464 hr467 hr470 hS.p7.p7.p7.p7.p6.p5.p7
   exact fun a ha => ⟨_, _, rfl, h, ha.tE rfl, hS.d1⟩
  refine jt (RC.region (rr [0, 0, 2] hS ?_))
  refine it fun w hS => RL.e (OW.buildSlice (E := (FI .i64)) (xs := ([y481.Key.Time] : List Int)) (cs := [iV y481.Key.Time]) hS underlying192 zeroValue2 sizeOf2 (parts := [(0, .tmp 32)]) rfl rfl (by decide) (by decide) (by kernel_rfl) rfl) rfl rfl ?_
  rintro _ w ⟨b488, rfl, hS⟩
  obtain ⟨hf492, hs490, hS, hr489, hb491⟩ := St.lendSl hS
  obtain ⟨t493, hg494, h⟩ := h.bind
  have hc := vtime_Least.ok hr489 hg494 hS
  refine RL.e (OW.callF (ls := [.tmp 33]) rfl call66 hc) rfl rfl ?_
  rintro _ w ⟨rfl, hS⟩
  have hS := hb491 _ _ hS
  have hS : St B w (_ :: _ :: _ :: _ :: _ :: _ :: _ :: _ :: _ :: l) hf := hS
  refine pn 1 rfl (RL.nil ?_)
  have hS := O_lane_Lane.c (x := a2) hr461 hr464 hr467 hr470 hS.p8.p8.p8.p8.p7.p6.p8
  exact fun a ha => ⟨_, _, rfl, h, ha.tE rfl, hS.d1.d1⟩
 refine pn 7 rfl (ln (jf (RC.skip ?_)))
 have hS := O_lane_Lane.c (x := a2) hr461 hr464 hr467 hr470 hS.p7.p7.p7.p7.p5.p7.p7
 exact fun a ha => ⟨_, _, rfl, h, ha.tE rfl, hS.d1⟩
def isochronlaw17vawake.f  : Option (Bool) := ((lane_New.f (⟨[([] : List api_Instr)], [], [], 0, 0, 0⟩ : api_Model) 0 (⟨1, 1, 1⟩ : api_Caps)).bind fun t43 => match t43 with | .inl y45 => some false | .inr ((y46, y47)) => (if y47 = 0 then ((lane_Lane_Local.f y46).bind fun t51 => some (decide (t51 = 4611686018427387904))) else some false))
theorem isochronlaw17vawake.ok (hG0 : GlobAt hf 0 (.iface 215 (.agg #[.pointer (some ⟨1, 108, none⟩)]))) {r : Bool} (h : isochronlaw17vawake.f = some r) (hS : St B w (l) hf) :
   Calls prog 11 #[] w (Ret fun v w => v = .bool r ∧ St B w (l) hf) := by
 have h := Holds.of h
 refine en func11 rfl ntmps11 rfl (sr (pn 1 rfl (lnsr ?_)))
 have hx40 : RepL (Rep.sl E_api_Instr.rep) hf [.slice none 0 0] [([] : List api_Instr)] := (RepL.cons (c := [.slice none 0 0]) (r := []) ⟨none, 0, rfl, SlR.nil⟩ RepL.nil)
 refine RL.e (OW.buildSliceR (sz := 1) (cs := [.slice none 0 0]) hS underlying22 zeroValue89 sizeOf89 (parts := [(0, .const (.slice none 0 0))]) rfl rfl (by decide) (by decide) (by kernel_rfl)) rfl rfl ?_
 rintro _ w ⟨b39, rfl, hS⟩
 refine r0 2 rfl ?_
 obtain ⟨hf, hs41, hS, hr42⟩ := St.promoteR (Rep.sl_ok E_api_Instr.rep) hS rfl hx40
 obtain ⟨t43, hg44, h⟩ := h.bind
 have hc := lane_New.ok (a1 := (⟨[([] : List api_Instr)], [], [], 0, 0, 0⟩ : api_Model)) hr42 (SlR.nil (A := none) (c := 0)) (SlR.nil (A := none) (c := 0)) (hG0.mono hs41) hg44 hS
 rcases t43 with y45 | ⟨y46, y47⟩
 · refine RL.e (OW.callF (ls := [.tmp 5, .const (iV 0), .tmp 6]) rfl call8 hc) rfl rfl ?_
   rintro _ w ⟨rfl, hS⟩
   refine pn 5 rfl (lnsr (pn 1 rfl (RL.s (Vl.bn false rfl rfl) rfl (pn 10 rfl (lr ?_)))))
   obtain rfl := h.some
   exact rt results11 rfl ⟨rfl, (hS).down hs41⟩
 refine RL.e (OW.callF (ls := [.tmp 5, .const (iV 0), .tmp 6]) rfl call8 hc) rfl rfl ?_
 rintro _ w ⟨hf, hs49, b48, rfl, hS⟩
 refine pn 5 rfl (lnsr (pn 1 rfl (RL.s (Vl.bn true rfl rfl) rfl (pn 5 rfl ?_))))
 refine RL.iteP 16 rfl h (fun hc50 h => ?_) fun hc50 h => ?_
 next =>
  refine pn 1 rfl (cF (fun _ hg => lane_Lane_Local.ok hg hS) call20 h rfl rfl rfl ?_)
  rintro t51 h _ w ⟨rfl, hS⟩
  refine pn 3 rfl (lr ?_)
  cases h.some
  exact rt results11 rfl ⟨rfl, (hS.d0).down (hs41.trans hs49)⟩
 refine pn 5 rfl (lr ?_)
 obtain rfl := h.some
 exact rt results11 rfl ⟨rfl, (hS.d0).down (hs41.trans hs49)⟩
def event_Twin.f (a1 : api_Message) : Option (api_Message) := some ({ a1 with Anti := !a1.Anti } : api_Message)
theorem event_Twin.ok {a1 r : api_Message} (h : event_Twin.f a1 = some r) (hS : St B w (l) hf) :
   Calls prog 28 #[.agg (C_api_Message a1).toArray] w (Ret fun v w => v = .agg (C_api_Message r).toArray ∧ St B w (l) hf) := by
 have h := Holds.of h
 refine en func28 rfl ntmps28 rfl (sr (rr [0, 0] hS ?_))
 refine fun b4 b5 => it fun w hS => lnsr (rr [0, 2, 0, 0, 2] hS ?_)
 refine it fun w hS => lnsr (rr [2, 1] hS ?_)
 refine it fun w hS => ln ?_
 refine RC.ret ?_
 cases h.some
 refine rz [0] results28 hS ?_
 exact it ⟨rfl, hS.d0.d0⟩
def slices_Clone_api_Message_api_Message_2.f (a1 : List api_Message) : Option (Unit) := some ()
theorem slices_Clone_api_Message_api_Message_2.ok {a1 : List api_Message} {c3 : Nat} (hr4 : SlR E_api_Message.rep hf none c3 a1) {r : Unit} (h : slices_Clone_api_Message_api_Message_2.f a1 = some r) (hS : St B w (l) hf) :
   Calls prog 108 #[sV none a1 c3] w (Ret fun v w => v = .slice none 0 0 ∧ St B w (l) hf) := by
 have h := Holds.of h
 refine en func108 rfl ntmps108 rfl (sr (pn 1 rfl (ln (RC.seq (sr (pn 1 rfl (RL.s (Vl.bn true rfl rfl) rfl (ln (jtr ?_)))))))))
 refine pn 1 rfl (lr (RQ.ret ?_))
 exact rt results108 rfl ⟨rfl, hS⟩
def slices_Clone_api_Message_api_Message_3.f (a1 : List api_Message) : Option (List api_Message) := (if (([] : List api_Message).length + a1.length) * 56 ≤ 140737488355328 then some (([] : List api_Message) ++ a1) else none)
theorem slices_Clone_api_Message_api_Message_3.ok {a1 : List api_Message} {A2 : Addr} {c3 : Nat} (hr4 : SlR E_api_Message.rep hf (some A2) c3 a1) {r : List api_Message} (h : slices_Clone_api_Message_api_Message_3.f a1 = some r) (hS : St B w (l) hf) :
   Calls prog 108 #[.slice (some A2) a1.length c3] w (Ret fun v w => ∃ (A_1 : Option Addr) (c_2 : Nat), v = sV A_1 r c_2 ∧ St B w (OSf E_api_Message 48 (sV A_1 r c_2) r :: l) hf) := by
 have h := Holds.of h
 refine en func108 rfl ntmps108 rfl (sr (pn 1 rfl (ln (RC.seq (sr (pn 1 rfl (RL.s (Vl.bn false rfl rfl) rfl (ln (jfs ?_)))))))))
 refine sr (RL.e (OW.build0 (E := E_api_Message) hS underlying39 zeroValue48 sizeOf48) rfl rfl ?_)
 rintro _ w ⟨b12, rfl, hS⟩
 refine pn 1 rfl ?_
 obtain ⟨hq13, h⟩ := h.req
 refine RL.e (OW.appendV (E := E_api_Message) (xs := ([] : List api_Message)) (ys := a1) 0 hS rfl underlying39 type48 rfl rfl rfl rfl (by decide) (by decide) rfl rfl (hr4.2.world hS.sub) hq13 rfl) rfl rfl ?_
 rintro v16 w hS
 obtain ⟨A14, c15, rfl, _⟩ := hS.osShape 0 rfl
 have hS : St B w (_ :: l) hf := hS
 refine pn 1 rfl (lr ?_)
 cases h.some
 exact rt results108 rfl ⟨A14, c15, rfl, hS⟩
def slices_Clone_api_Message_api_Message.f (a5 : List api_Message) : Option (List api_Message) := slices_Clone_api_Message_api_Message_3.f a5
theorem slices_Clone_api_Message_api_Message.ok {a5 : List api_Message} {A6 : Option Addr} {c7 : Nat} (hr8 : SlR E_api_Message.rep hf A6 c7 a5) {r : List api_Message} (h : slices_Clone_api_Message_api_Message.f a5 = some r) (hS : St B w (l) hf) :
   Calls prog 108 #[sV A6 a5 c7] w (Ret fun v w => ∃ (A_1 : Option Addr) (c_2 : Nat), v = sV A_1 r c_2 ∧ St B w (OSf E_api_Message 48 (sV A_1 r c_2) r :: l) hf) := by
 cases A6 with
 | some b => exact slices_Clone_api_Message_api_Message_3.ok hr8 h hS
 | none =>
   have e : a5 = [] := by
     cases a5 with
     | nil => rfl
     | cons x xs => have := (hr8.2 0 (Nat.succ_pos _)).1; cases this
   subst e
   have e : r = [] := by
     unfold slices_Clone_api_Message_api_Message.f slices_Clone_api_Message_api_Message_3.f at h
     simp at h
     first | exact h | exact h.symm
   subst e
   refine (slices_Clone_api_Message_api_Message_2.ok hr8 (r := ()) rfl hS).mono fun e w he => ?_
   cases e with
   | returned v => obtain ⟨rfl, hS⟩ := he; exact ⟨none, 0, rfl, hS.nilSl E_api_Message 48⟩
   | panicked c => exact he.elim
   | outgrown => exact he.elim
def slices_insertionSortCmpFunc_api_Message.l14b (a4 x612 : Int) : List api_Message × Int → Option ((List api_Message × Int) ⊕ ((List api_Message × Int) ⊕ (List api_Message)))
 | (l865, x866) => (if a4 < x866 then (if 0 ≤ x866 ∧ x866 < (l865.length : Int) then (if 0 ≤ IntKind.i64.wrap (x866 - 1) ∧ IntKind.i64.wrap (x866 - 1) < (l865.length : Int) then ((event_order.f (nth l865 x866) (nth l865 (IntKind.i64.wrap (x866 - 1)))).bind fun t905 => (if t905 < 0 then (if IntKind.i64.wrap (x866 - 1) < ((setL l865 x866 (nth l865 (IntKind.i64.wrap (x866 - 1)))).length : Int) then some (.inl ((setL (setL l865 x866 (nth l865 (IntKind.i64.wrap (x866 - 1)))) (IntKind.i64.wrap (x866 - 1)) (nth l865 x866)), IntKind.i64.wrap (x866 - 1))) else none) else some (.inr (.inl (l865, IntKind.i64.wrap (x612 + 1)))))) else none) else none) else some (.inr (.inl (l865, IntKind.i64.wrap (x612 + 1)))))
def slices_insertionSortCmpFunc_api_Message.l14 (a4 x612 : Int) (s : List api_Message × Int) : Option ((List api_Message × Int) ⊕ (List api_Message)) := loopR (slices_insertionSortCmpFunc_api_Message.l14b a4 x612) s
def slices_insertionSortCmpFunc_api_Message.l12b (a3 : List api_Message) (a4 a5 : Int) : List api_Message × Int → Option ((List api_Message × Int) ⊕ (List api_Message))
 | (l611, x612) => (if x612 < a5 then slices_insertionSortCmpFunc_api_Message.l14 a4 x612 (l611, x612) else (Option.map Sum.inr (if l611.length = a3.length then some l611 else none)))
def slices_insertionSortCmpFunc_api_Message.l12 (a3 : List api_Message) (a4 a5 : Int) (s : List api_Message × Int) : Option (List api_Message) := loopR (slices_insertionSortCmpFunc_api_Message.l12b a3 a4 a5) s
def slices_insertionSortCmpFunc_api_Message.f (a3 : List api_Message) (a4 a5 : Int) : Option (List api_Message) := slices_insertionSortCmpFunc_api_Message.l12 a3 a4 a5 (a3, IntKind.i64.wrap (a4 + 1))
theorem slices_insertionSortCmpFunc_api_Message.ok {a3 r : List api_Message} {a4 a5 : Int} {A1 : Option Addr} {c2 : Nat} (h : slices_insertionSortCmpFunc_api_Message.f a3 a4 a5 = some r) (hS : St B w (OSf E_api_Message 48 (sV A1 a3 c2) a3 :: l) hf) :
   Calls prog 130 #[sV A1 a3 c2, iV a4, iV a5, .func (.func 76) #[] #[]] w (Ret fun v w => v = .tuple #[] ∧ St B w (OSf E_api_Message 48 (sV A1 a3 c2) r :: l) hf) := by
 have h := Holds.of h
 refine en func130 rfl ntmps130 rfl (sr (pn 3 rfl (ln (RC.block (fun a ha => lp h (fun (s : List api_Message × Int) a w => ∃ l611 x612, s = (l611, x612) ∧ Has 53 [(0, sV A1 l611 c2), (1, iV a4), (2, iV a5), (3, .func (.func 76) #[] #[]), (8, iV x612)] a ∧ St B w (OSf E_api_Message 48 (sV A1 l611 c2) l611 :: l) hf) ⟨_, _, rfl, ha.tE rfl, hS⟩ ?_)))))
 rintro G764 _ a w ⟨l611, x612, rfl, ha, hS⟩ h
 refine ro ha (RC.seq (sr (pn 3 rfl (ln ?_))))
 refine RC.iteP 14 rfl h (fun hc766 h => ?_) fun hc766 h => ?_
 next =>
  refine jt (sk (RC.seq (RC.block (sr (pn 2 rfl (ln (RC.block (fun a ha => lp h (fun (s : List api_Message × Int) a w => ∃ l865 x866, s = (l865, x866) ∧ Has 53 [(0, sV A1 l865 c2), (1, iV a4), (2, iV a5), (3, .func (.func 76) #[] #[]), (8, iV x612), (9, iV x866)] a ∧ St B w (OSf E_api_Message 48 (sV A1 l865 c2) l865 :: l) hf) ⟨_, _, rfl, ha.tE rfl, hS⟩ ?_))))))))
  rintro G891 _ a w ⟨l865, x866, rfl, ha, hS⟩ h
  refine ro ha (RC.seq (RC.seq (dr [0, 3, 6, 9, 12, 15, 18, 22, 25, 27, 32, 35, 38, 41, 44, 47, 50] [14, 15, 16] hS fun w hS => pp 4 rfl ?_)))
  refine RP.iteP 21 rfl h (fun hc900 h => ?_) fun hc900 h => ?_
  next =>
   refine pp 3 rfl ?_
   obtain ⟨⟨hq901, hq902⟩, h⟩ := h.req
   refine RP.sg 0 7 rfl rfl hS (fun w hS => Vl.indexOwn 0 hS rfl underlying39 sizeOf48 rfl rfl hq901 hq902) rfl rfl (RP.sg 0 8 rfl rfl hS (fun w hS => Vl.loadA isAgg48 sizeOf48 rfl rfl ((hS.slW 0 rfl).2.2.cells hq901 hq902)) rfl rfl (rq [0, 0, 0] hS ?_))
   refine it ?_
   obtain ⟨⟨hq903, hq904⟩, h⟩ := h.req
   refine RP.v1 12 rfl (Vl.indexOwn 0 hS rfl underlying39 sizeOf48 rfl rfl hq903 hq904) rfl rfl (RP.v1 13 rfl (Vl.loadA isAgg48 sizeOf48 rfl rfl ((hS.slW 0 rfl).2.2.cells hq903 hq904)) rfl rfl ?_)
   obtain ⟨t905, hg906, h⟩ := h.bind
   have hc := event_order.ok hg906 hS
   refine RP.e 14 rfl (OW.call (ls := [.tmp 26, .tmp 31]) rfl rfl call76 rfl hc) rfl rfl ?_
   rintro _ w ⟨rfl, hS⟩
   refine ⟨kp ⟨(by intro hx; cases hx), trivial⟩, ?_⟩
   refine rq [0, 0] hS ?_
   refine it (RP.nil (RQ.then_n ?_))
   refine RC.iteP 34 rfl h (fun hc907 h => ?_) fun hc907 h => ?_
   next =>
    refine jt (sk (RC.seq (RC.block (dr [0, 3, 6, 9, 12, 15, 18, 21, 25, 28, 30, 35, 38, 41, 44, 47, 50, 53] [14, 15, 16, 17] hS fun w hS => pp 8 rfl (RP.s 0 8 rfl rfl hS (fun w hS => Vl.indexOwn 0 hS rfl underlying39 sizeOf48 rfl rfl hq903 hq904) rfl (RP.s 0 9 rfl rfl hS (fun w hS => Vl.loadA isAgg48 sizeOf48 rfl rfl ((hS.slW 0 rfl).2.2.cells hq903 hq904)) rfl (rq [0, 0] hS ?_)))))))
    refine it (RP.v1 12 rfl (Vl.indexOwn 0 hS rfl underlying39 sizeOf48 rfl rfl hq901 hq902) rfl rfl (RP.v1 13 rfl (Vl.loadA isAgg48 sizeOf48 rfl rfl ((hS.slW 0 rfl).2.2.cells hq901 hq902)) rfl rfl (RP.v1 14 rfl (Vl.indexOwn 0 hS rfl underlying39 sizeOf48 rfl rfl hq901 hq902) rfl rfl (RP.e0 15 rfl (OW.storeOwn (E := E_api_Message) (off := 0) (j := x866) (x' := nth l865 (IntKind.i64.wrap (x866 - 1))) (vs := (C_api_Message (nth l865 (IntKind.i64.wrap (x866 - 1))))) 0 hS rfl rfl rfl rfl sizeOf48 rfl (Nat.succ_pos _) hq901 hq902 (Nat.le_of_ble_eq_true rfl) rfl rfl) rfl ?_))))
    rintro _ w ⟨rfl, hS⟩
    have he911 := (hS.osN 0 rfl).1
    have hS : St B w (_ :: l) hf := (congrArg (fun k_ : Nat => St B w (OSf E_api_Message 48 (.slice A1 k_ c2) (setL l865 x866 (nth l865 (IntKind.i64.wrap (x866 - 1)))) :: l) hf) he911).mp hS
    refine ⟨kp ⟨(by intro hx; cases hx), trivial⟩, ?_⟩
    refine RP.re 0 rfl (congrArg (fun k_ : Nat => (.slice A1 k_ c2 : Value)) he911) (RP.re 23 rfl (congrArg (fun k_ : Nat => (.slice A1 k_ c2 : Value)) he911) (RP.re 27 rfl (congrArg (fun k_ : Nat => (.slice A1 k_ c2 : Value)) he911) (RP.re 37 rfl (congrArg (fun k_ : Nat => (.slice A1 k_ c2 : Value)) he911) (RP.re 39 rfl (congrArg (fun k_ : Nat => (.slice A1 k_ c2 : Value)) he911) (RP.re 42 rfl (congrArg (fun k_ : Nat => (.slice A1 k_ c2 : Value)) he911) (RP.re 47 rfl (congrArg (fun k_ : Nat => (.slice A1 k_ c2 : Value)) he911) ?_))))))
    obtain ⟨hq912, h⟩ := h.req
    refine RP.v1 16 rfl (Vl.indexOwn 0 hS rfl underlying39 sizeOf48 rfl rfl hq903 hq912) rfl rfl (RP.e0 17 rfl (OW.storeOwn (E := E_api_Message) (off := 0) (j := IntKind.i64.wrap (x866 - 1)) (x' := nth l865 x866) (vs := (C_api_Message (nth l865 x866))) 0 hS rfl rfl rfl rfl sizeOf48 rfl (Nat.succ_pos _) hq903 hq912 (Nat.le_of_ble_eq_true rfl) rfl rfl) rfl ?_)
    rintro _ w ⟨rfl, hS⟩
    have he913 := (hS.osN 0 rfl).1
    have hS : St B w (_ :: l) hf := (congrArg (fun k_ : Nat => St B w (OSf E_api_Message 48 (.slice A1 k_ c2) (setL (setL l865 x866 (nth l865 (IntKind.i64.wrap (x866 - 1)))) (IntKind.i64.wrap (x866 - 1)) (nth l865 x866)) :: l) hf) he913).mp hS
    refine ⟨kp ⟨(by intro hx; cases hx), trivial⟩, ?_⟩
    refine RP.re 0 rfl (congrArg (fun k_ : Nat => (.slice A1 k_ c2 : Value)) he913) (RP.re 23 rfl (congrArg (fun k_ : Nat => (.slice A1 k_ c2 : Value)) he913) (RP.re 27 rfl (congrArg (fun k_ : Nat => (.slice A1 k_ c2 : Value)) he913) (RP.re 37 rfl (congrArg (fun k_ : Nat => (.slice A1 k_ c2 : Value)) he913) (RP.re 39 rfl (congrArg (fun k_ : Nat => (.slice A1 k_ c2 : Value)) he913) (RP.re 42 rfl (congrArg (fun k_ : Nat => (.slice A1 k_ c2 : Value)) he913) (RP.re 47 rfl (congrArg (fun k_ : Nat => (.slice A1 k_ c2 : Value)) he913) (RP.nil (RQ.inB_n (RQ.then_n (RC.region (pn 3 rfl (RL.nil ?_))))))))))))
    exact fun a ha => ⟨_, h.some, _, _, rfl, ha.tE rfl, hS⟩
   refine jf (RC.exit (RQ.exitT ?_))
   have h := h.inrS
   refine RQ.exitT (RQ.inB_hit (RQ.inB_n (RQ.then_n (RC.region (pn 3 rfl (RL.nil ?_))))))
   exact fun a ha => ⟨_, h.some, _, _, rfl, ha.tE rfl, hS⟩
  refine rq [0, 0, 0, 0, 0, 0, 0, 0, 0, 0, 0, 0, 0] hS ?_
  refine it (RP.nil (RQ.then_n (jf (RC.exit (RQ.exitT ?_)))))
  have h := h.inrS
  refine RQ.exitT (RQ.inB_hit (RQ.inB_n (RQ.then_n (RC.region (pn 3 rfl (RL.nil ?_))))))
  exact fun a ha => ⟨_, h.some, _, _, rfl, ha.tE rfl, hS⟩
 refine jf (RC.exit (RQ.exitT ?_))
 have h := h.inr
 refine RQ.exitT (RQ.inB_hit ?_)
 obtain ⟨hq914, h⟩ := h.req
 have hS : St B w (_ :: l) hf := (congrArg (fun k_ : Nat => St B w (OSf E_api_Message 48 (.slice A1 k_ c2) l611 :: l) hf) hq914).mp hS
 obtain rfl := h.some
 exact rtE results130 rfl ⟨rfl, hS⟩
def slices_swapRangeCmpFunc_api_Message.l2b (a3 : List api_Message) (a4 a5 a6 : Int) : List api_Message × Int → Option ((List api_Message × Int) ⊕ (List api_Message))
 | (l80, x81) => (if x81 < a6 then (if 0 ≤ IntKind.i64.wrap (a5 + x81) ∧ IntKind.i64.wrap (a5 + x81) < (l80.length : Int) then (if 0 ≤ IntKind.i64.wrap (a4 + x81) ∧ IntKind.i64.wrap (a4 + x81) < (l80.length : Int) then (if IntKind.i64.wrap (a5 + x81) < ((setL l80 (IntKind.i64.wrap (a4 + x81)) (nth l80 (IntKind.i64.wrap (a5 + x81)))).length : Int) then some (.inl ((setL (setL l80 (IntKind.i64.wrap (a4 + x81)) (nth l80 (IntKind.i64.wrap (a5 + x81)))) (IntKind.i64.wrap (a5 + x81)) (nth l80 (IntKind.i64.wrap (a4 + x81)))), IntKind.i64.wrap (x81 + 1))) else none) else none) else none) else (Option.map Sum.inr (if l80.length = a3.length then some l80 else none)))
def slices_swapRangeCmpFunc_api_Message.l2 (a3 : List api_Message) (a4 a5 a6 : Int) (s : List api_Message × Int) : Option (List api_Message) := loopR (slices_swapRangeCmpFunc_api_Message.l2b a3 a4 a5 a6) s
def slices_swapRangeCmpFunc_api_Message.f (a3 : List api_Message) (a4 a5 a6 : Int) : Option (List api_Message) := slices_swapRangeCmpFunc_api_Message.l2 a3 a4 a5 a6 (a3, 0)
theorem slices_swapRangeCmpFunc_api_Message.ok {a3 r : List api_Message} {a4 a5 a6 : Int} {A1 : Option Addr} {c2 : Nat} (h : slices_swapRangeCmpFunc_api_Message.f a3 a4 a5 a6 = some r) (hS : St B w (OSf E_api_Message 48 (sV A1 a3 c2) a3 :: l) hf) :
   Calls prog 156 #[sV A1 a3 c2, iV a4, iV a5, iV a6, .func (.func 76) #[] #[]] w (Ret fun v w => v = .tuple #[] ∧ St B w (OSf E_api_Message 48 (sV A1 a3 c2) r :: l) hf) := by
 have h := Holds.of h
 refine en func156 rfl ntmps156 rfl (sr (pn 1 rfl (ln (RC.block (fun a ha => lp h (fun (s : List api_Message × Int) a w => ∃ l80 x81, s = (l80, x81) ∧ Has 38 [(0, sV A1 l80 c2), (1, iV a4), (2, iV a5), (3, iV a6), (10, iV x81)] a ∧ St B w (OSf E_api_Message 48 (sV A1 l80 c2) l80 :: l) hf) ⟨_, _, rfl, ha.tE rfl, hS⟩ ?_)))))
 rintro G100 _ a w ⟨l80, x81, rfl, ha, hS⟩ h
 refine ro ha (RC.seq (sr (pn 3 rfl (ln ?_))))
 refine RC.iteP 13 rfl h (fun hc102 h => ?_) fun hc102 h => ?_
 next =>
  refine jt (sk (RC.seq (RC.block (dr [0, 3, 6, 9, 12, 15, 18, 21, 24, 27, 30, 33, 37, 40, 42, 45, 50, 53, 56, 59, 62, 65, 68, 71] [20, 21, 22, 23] hS fun w hS => pp 12 rfl ?_))))
  obtain ⟨⟨hq110, hq111⟩, h⟩ := h.req
  refine RP.s 0 12 rfl rfl hS (fun w hS => Vl.indexOwn 0 hS rfl underlying39 sizeOf48 rfl rfl hq110 hq111) rfl (RP.s 0 13 rfl rfl hS (fun w hS => Vl.loadA isAgg48 sizeOf48 rfl rfl ((hS.slW 0 rfl).2.2.cells hq110 hq111)) rfl (rq [0, 0, 0, 0] hS ?_))
  refine it ?_
  obtain ⟨⟨hq112, hq113⟩, h⟩ := h.req
  refine RP.v1 18 rfl (Vl.indexOwn 0 hS rfl underlying39 sizeOf48 rfl rfl hq112 hq113) rfl rfl (RP.v1 19 rfl (Vl.loadA isAgg48 sizeOf48 rfl rfl ((hS.slW 0 rfl).2.2.cells hq112 hq113)) rfl rfl (RP.v1 20 rfl (Vl.indexOwn 0 hS rfl underlying39 sizeOf48 rfl rfl hq112 hq113) rfl rfl (RP.e0 21 rfl (OW.storeOwn (E := E_api_Message) (off := 0) (j := IntKind.i64.wrap (a4 + x81)) (x' := nth l80 (IntKind.i64.wrap (a5 + x81))) (vs := (C_api_Message (nth l80 (IntKind.i64.wrap (a5 + x81))))) 0 hS rfl rfl rfl rfl sizeOf48 rfl (Nat.succ_pos _) hq112 hq113 (Nat.le_of_ble_eq_true rfl) rfl rfl) rfl ?_)))
  rintro _ w ⟨rfl, hS⟩
  have he114 := (hS.osN 0 rfl).1
  have hS : St B w (_ :: l) hf := (congrArg (fun k_ : Nat => St B w (OSf E_api_Message 48 (.slice A1 k_ c2) (setL l80 (IntKind.i64.wrap (a4 + x81)) (nth l80 (IntKind.i64.wrap (a5 + x81)))) :: l) hf) he114).mp hS
  refine ⟨kp ⟨(by intro hx; cases hx), trivial⟩, ?_⟩
  refine RP.re 0 rfl (congrArg (fun k_ : Nat => (.slice A1 k_ c2 : Value)) he114) (RP.re 16 rfl (congrArg (fun k_ : Nat => (.slice A1 k_ c2 : Value)) he114) (RP.re 20 rfl (congrArg (fun k_ : Nat => (.slice A1 k_ c2 : Value)) he114) (RP.re 24 rfl (congrArg (fun k_ : Nat => (.slice A1 k_ c2 : Value)) he114) (RP.re 30 rfl (congrArg (fun k_ : Nat => (.slice A1 k_ c2 : Value)) he114) ?_))))
  obtain ⟨hq115, h⟩ := h.req
  refine RP.v1 22 rfl (Vl.indexOwn 0 hS rfl underlying39 sizeOf48 rfl rfl hq110 hq115) rfl rfl (RP.e0 23 rfl (OW.storeOwn (E := E_api_Message) (off := 0) (j := IntKind.i64.wrap (a5 + x81)) (x' := nth l80 (IntKind.i64.wrap (a4 + x81))) (vs := (C_api_Message (nth l80 (IntKind.i64.wrap (a4 + x81))))) 0 hS rfl rfl rfl rfl sizeOf48 rfl (Nat.succ_pos _) hq110 hq115 (Nat.le_of_ble_eq_true rfl) rfl rfl) rfl ?_)
  rintro _ w ⟨rfl, hS⟩
  have he116 := (hS.osN 0 rfl).1
  have hS : St B w (_ :: l) hf := (congrArg (fun k_ : Nat => St B w (OSf E_api_Message 48 (.slice A1 k_ c2) (setL (setL l80 (IntKind.i64.wrap (a4 + x81)) (nth l80 (IntKind.i64.wrap (a5 + x81)))) (IntKind.i64.wrap (a5 + x81)) (nth l80 (IntKind.i64.wrap (a4 + x81)))) :: l) hf) he116).mp hS
  refine ⟨kp ⟨(by intro hx; cases hx), trivial⟩, ?_⟩
  refine RP.re 0 rfl (congrArg (fun k_ : Nat => (.slice A1 k_ c2 : Value)) he116) (RP.re 16 rfl (congrArg (fun k_ : Nat => (.slice A1 k_ c2 : Value)) he116) (RP.re 20 rfl (congrArg (fun k_ : Nat => (.slice A1 k_ c2 : Value)) he116) (RP.re 24 rfl (congrArg (fun k_ : Nat => (.slice A1 k_ c2 : Value)) he116) (RP.re 30 rfl (congrArg (fun k_ : Nat => (.slice A1 k_ c2 : Value)) he116) (RP.nil (RQ.inB_n (RQ.then_n (RC.region (pn 3 rfl (RL.nil ?_))))))))))
  exact fun a ha => ⟨_, h.some, _, _, rfl, ha.tE rfl, hS⟩
 refine jf (RC.exit (RQ.exitT ?_))
 have h := h.inr
 refine RQ.exitT (RQ.inB_hit ?_)
 obtain ⟨hq117, h⟩ := h.req
 have hS : St B w (_ :: l) hf := (congrArg (fun k_ : Nat => St B w (OSf E_api_Message 48 (.slice A1 k_ c2) l80 :: l) hf) hq117).mp hS
 obtain rfl := h.some
 exact rtE results156 rfl ⟨rfl, hS⟩
def slices_rotateCmpFunc_api_Message.l4b (a3 : List api_Message) (a5 : Int) : List api_Message × Int × Int → Option ((List api_Message × Int × Int) ⊕ (List api_Message))
 | (l133, x134, x135) => (if x134 = x135 then (Option.map Sum.inr ((slices_swapRangeCmpFunc_api_Message.f l133 (IntKind.i64.wrap (a5 - x134)) a5 x134).bind fun t151 => (if t151.length = a3.length then some t151 else none))) else (if x135 < x134 then ((slices_swapRangeCmpFunc_api_Message.f l133 (IntKind.i64.wrap (a5 - x134)) a5 x135).bind fun t156 => some (.inl (t156, IntKind.i64.wrap (x134 - x135), x135))) else ((slices_swapRangeCmpFunc_api_Message.f l133 (IntKind.i64.wrap (a5 - x134)) (IntKind.i64.wrap ((IntKind.i64.wrap (a5 + x135)) - x134)) x134).bind fun t159 => some (.inl (t159, x134, IntKind.i64.wrap (x135 - x134))))))
def slices_rotateCmpFunc_api_Message.l4 (a3 : List api_Message) (a5 : Int) (s : List api_Message × Int × Int) : Option (List api_Message) := loopR (slices_rotateCmpFunc_api_Message.l4b a3 a5) s
def slices_rotateCmpFunc_api_Message.f (a3 : List api_Message) (a4 a5 a6 : Int) : Option (List api_Message) := slices_rotateCmpFunc_api_Message.l4 a3 a5 (a3, IntKind.i64.wrap (a5 - a4), IntKind.i64.wrap (a6 - a5))
theorem slices_rotateCmpFunc_api_Message.ok {a3 r : List api_Message} {a4 a5 a6 : Int} {A1 : Option Addr} {c2 : Nat} (h : slices_rotateCmpFunc_api_Message.f a3 a4 a5 a6 = some r) (hS : St B w (OSf E_api_Message 48 (sV A1 a3 c2) a3 :: l) hf) :
   Calls prog 136 #[sV A1 a3 c2, iV a4, iV a5, iV a6, .func (.func 76) #[] #[]] w (Ret fun v w => v = .tuple #[] ∧ St B w (OSf E_api_Message 48 (sV A1 a3 c2) r :: l) hf) := by
 have h := Holds.of h
 refine en func136 rfl ntmps136 rfl (sr (pn 4 rfl (lnsr (pn 4 rfl (ln (RC.seq (RC.block (fun a ha => lp h (fun (s : List api_Message × Int × Int) a w => ∃ l133 x134 x135, s = (l133, x134, x135) ∧ Has 58 [(0, sV A1 l133 c2), (2, iV a5), (4, .func (.func 76) #[] #[]), (10, iV x134), (11, iV x135)] a ∧ St B w (OSf E_api_Message 48 (sV A1 l133 c2) l133 :: l) hf) ⟨_, _, _, rfl, ha.tE rfl, hS⟩ ?_))))))))
 rintro G148 _ a w ⟨l133, x134, x135, rfl, ha, hS⟩ h
 refine ro ha (RC.seq (sr (pn 3 rfl (ln ?_))))
 refine RC.iteN 20 rfl h (fun hc150 h => ?_) fun hc150 h => ?_
 next =>
  refine jf (RC.exit (RQ.exitT ?_))
  have h := h.inr
  refine RQ.exitT (RQ.inB_hit (RQ.then_n (RC.region (pn 7 rfl ?_))))
  obtain ⟨t151, hg152, h⟩ := h.bind
  have hc := slices_swapRangeCmpFunc_api_Message.ok hg152 hS
  refine RL.e (OW.callF (ls := [.tmp 50, .tmp 53, .tmp 54, .tmp 55, .tmp 56]) rfl call156 hc) rfl rfl ?_
  rintro _ w ⟨rfl, hS⟩
  have he153 := (hS.osN 0 rfl).1
  have hS : St B w (_ :: l) hf := (congrArg (fun k_ : Nat => St B w (OSf E_api_Message 48 (.slice A1 k_ c2) t151 :: l) hf) he153).mp hS
  refine RL.re 0 rfl (congrArg (fun k_ : Nat => (.slice A1 k_ c2 : Value)) he153) (RL.re 50 rfl (congrArg (fun k_ : Nat => (.slice A1 k_ c2 : Value)) he153) (RL.nil ?_))
  obtain ⟨hq154, h⟩ := h.req
  have hS : St B w (_ :: l) hf := (congrArg (fun k_ : Nat => St B w (OSf E_api_Message 48 (.slice A1 k_ c2) t151 :: l) hf) hq154).mp hS
  obtain rfl := h.some
  exact rtE results136 rfl ⟨rfl, hS⟩
 refine jt (sk (RC.block (sr (pn 3 rfl (ln ?_)))))
 refine RC.iteP 23 rfl h (fun hc155 h => ?_) fun hc155 h => ?_
 next =>
  refine jtr (pn 7 rfl ?_)
  obtain ⟨t156, hg157, h⟩ := h.bind
  have hc := slices_swapRangeCmpFunc_api_Message.ok hg157 hS
  refine RL.e (OW.callF (ls := [.tmp 24, .tmp 27, .tmp 28, .tmp 29, .tmp 30]) rfl call156 hc) rfl rfl ?_
  rintro _ w ⟨rfl, hS⟩
  have he158 := (hS.osN 0 rfl).1
  have hS : St B w (_ :: l) hf := (congrArg (fun k_ : Nat => St B w (OSf E_api_Message 48 (.slice A1 k_ c2) t156 :: l) hf) he158).mp hS
  refine RL.re 0 rfl (congrArg (fun k_ : Nat => (.slice A1 k_ c2 : Value)) he158) (RL.re 24 rfl (congrArg (fun k_ : Nat => (.slice A1 k_ c2 : Value)) he158) (ln (RC.region (pn 4 rfl (RL.nil (RQ.inB_n ?_))))))
  exact fun a ha => ⟨_, h.some, _, _, _, rfl, ha.tE rfl, hS⟩
 refine jf (sr (pn 11 rfl ?_))
 obtain ⟨t159, hg160, h⟩ := h.bind
 have hc := slices_swapRangeCmpFunc_api_Message.ok hg160 hS
 refine RL.e (OW.callF (ls := [.tmp 35, .tmp 38, .tmp 43, .tmp 44, .tmp 45]) rfl call156 hc) rfl rfl ?_
 rintro _ w ⟨rfl, hS⟩
 have he161 := (hS.osN 0 rfl).1
 have hS : St B w (_ :: l) hf := (congrArg (fun k_ : Nat => St B w (OSf E_api_Message 48 (.slice A1 k_ c2) t159 :: l) hf) he161).mp hS
 refine RL.re 0 rfl (congrArg (fun k_ : Nat => (.slice A1 k_ c2 : Value)) he161) (RL.re 35 rfl (congrArg (fun k_ : Nat => (.slice A1 k_ c2 : Value)) he161) (ln (RC.region (pn 4 rfl (RL.nil (RQ.inB_n ?_))))))
 exact fun a ha => ⟨_, h.some, _, _, _, rfl, ha.tE rfl, hS⟩
end
end Go.Proofs.Gx
