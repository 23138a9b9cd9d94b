/-
  The walks of functions, each with what it computes: printed by wip/gx.py.
-/
import Derived.Test.YtpheghebfodiiaaGreatDoorW0
set_option linter.unusedVariables false
set_option linter.unusedSimpArgs false
set_option maxRecDepth 100000
set_option maxHeartbeats 4000000
namespace Go.Proofs.Gx
open Go.Sl Tryz
variable {B : Base} {w : World} {l : List HProp} {hf : Hp}
noncomputable section
def model_rules.f  : Option (Unit) := some ()
theorem model_rules.ok {r : Unit} (h : model_rules.f = some r) (hS : St B w (l) hf) :
    Calls prog 23 #[] w (Ret fun v w => v = .agg #[.func (.func 44) #[] #[], .func (.func 45) #[] #[], .func (.func 46) #[] #[], .func (.func 47) #[] #[]] ∧ St B w (l) hf) := by
  have h := Holds.of h
  refine en func23 rfl ntmps23 rfl (sr (rr [0] hS ?_))
  refine fun b2 => it fun w hS => lnsr (r0 4 rfl (RL.s (Vl.build (v := .agg #[.func (.func 44) #[] #[], .func (.func 45) #[] #[], .func (.func 46) #[] #[], .func (.func 47) #[] #[]]) (parts := [(0, .tmp 1), (1, .tmp 2), (2, .tmp 3), (3, .tmp 4)]) rfl (by kernel_rfl)) rfl (rr [1] hS ?_)))
  refine it fun w hS => lr ?_
  have e := h.some
  refine rz [0] results23 hS ?_
  exact it ⟨rfl, hS.d0⟩
def vtime_Valid.f (a1 : Int) : Option (Bool) := (if 0 ≤ a1 then some (decide (a1 ≤ 4611686018427387903)) else some false)
theorem vtime_Valid.ok {a1 : Int} {r : Bool} (h : vtime_Valid.f a1 = some r) (hS : St B w (l) hf) :
    Calls prog 81 #[iV a1] w (Ret fun v w => v = .bool r ∧ St B w (l) hf) := by
  have h := Holds.of h
  refine en func81 rfl ntmps81 rfl (sr (pn 1 rfl (lnsr (pn 3 rfl ?_))))
  refine RL.iteP 5 rfl h (fun hc3 h => ?_) fun hc3 h => ?_
  next =>
   refine pn 4 rfl (lr ?_)
   cases h.some
   exact rt results81 rfl ⟨rfl, hS⟩
  refine pn 4 rfl (lr ?_)
  obtain rfl := h.some
  exact rt results81 rfl ⟨rfl, hS⟩
def model_sizes.f (a1 : api_Model) : Option ((Int) ⊕ (Unit)) := (if (a1.Progs.length : Int) < 1 then some (.inl 1) else (if 16 < (a1.Progs.length : Int) then some (.inl 1) else ((vtime_Valid.f a1.End).bind fun t22 => (if t22 = true then (if a1.Budget < 0 then some (.inl 1) else (if 4096 < a1.Budget then some (.inl 1) else some (.inr (())))) else some (.inl 1)))))
theorem model_sizes.ok {a1 : api_Model} {A2 A5 A8 : Option Addr} {c3 c6 c9 : Nat} (hr4 : SlR (Rep.sl E_api_Instr.rep) hf A2 c3 a1.Progs) (hr7 : SlR E_api_Link.rep hf A5 c6 a1.Links) (hr10 : SlR E_api_Start.rep hf A8 c9 a1.Starts) {r : (Int) ⊕ (Unit)} (h : model_sizes.f a1 = some r) (hS : St B w (l) hf) :
    Calls prog 44 #[.agg (C_api_Model a1 A2 c3 A5 c6 A8 c9).toArray] w (Ret fun v w => match (generalizing := false) r with | .inl r_ => v = .iface 31 (iV r_) ∧ St B w (l) hf | .inr (r_) => v = .nilIface ∧ St B w (l) hf) := by
  have h := Holds.of h
  refine en func44 rfl ntmps44 rfl (sr (rr [0, 0] hS ?_))
  refine fun b19 => it fun w hS => ln (RC.seq (sr (rr [0, 1, 0, 0, 0] hS ?_)))
  refine it fun w hS => RL.iteP 7 rfl h (fun hc20 h => ?_) fun hc20 h => ?_
  next =>
   refine pn 21 rfl (ln (jtr (r0 2 rfl (lr (RQ.ret ?_)))))
   cases h.some
   exact rt results44 rfl ⟨rfl, hS.d0⟩
  refine rr [0, 1, 0, 0, 0, 0] hS ?_
  refine it fun w hS => RL.iteP 13 rfl h (fun hc21 h => ?_) fun hc21 h => ?_
  next =>
   refine pn 15 rfl (ln (jtr (r0 2 rfl (lr (RQ.ret ?_)))))
   cases h.some
   exact rt results44 rfl ⟨rfl, hS.d0⟩
  refine rr [0, 1] hS ?_
  refine it fun w hS => cF (fun _ hg => vtime_Valid.ok hg hS) call81 h rfl rfl rfl ?_
  rintro t22 h _ w ⟨rfl, hS⟩
  refine pn 3 rfl ?_
  refine RL.iteM 19 rfl h (fun hc24 h => ?_) fun hc24 h => ?_
  next =>
   refine rr [0, 1, 0, 0, 0] hS ?_
   refine it fun w hS => RL.iteP 24 rfl h (fun hc25 h => ?_) fun hc25 h => ?_
   next =>
    refine pn 4 rfl (ln (jtr (r0 2 rfl (lr (RQ.ret ?_)))))
    cases h.some
    exact rt results44 rfl ⟨rfl, hS.d0⟩
   refine rr [0, 1, 0, 0] hS ?_
   refine it fun w hS => ln ?_
   refine RC.iteP 28 rfl h (fun hc26 h => ?_) fun hc26 h => ?_
   next =>
    refine jtr (r0 2 rfl (lr (RQ.ret ?_)))
    cases h.some
    exact rt results44 rfl ⟨rfl, hS.d0⟩
   refine jfs (sr (pn 1 rfl (lr ?_)))
   cases h.some
   exact rt results44 rfl ⟨rfl, hS.d0⟩
  refine pn 9 rfl (ln (jtr (r0 2 rfl (lr (RQ.ret ?_)))))
  cases h.some
  exact rt results44 rfl ⟨rfl, hS.d0⟩
def errors_as.f (a1 : Int) (a3 : model_flaw) : Option (Bool) := some false
theorem errors_as.ok {a1 : Int} {a3 : model_flaw} {b2 b4 : Nat} {r : Bool} (h : errors_as.f a1 a3 = some r) (hS : St B w (Cl b2 [iV a3.at_, iV a3.why] 83 :: Cl b4 [pV b2] 87 :: l) hf) :
    Calls prog 51 #[.iface 31 (iV a1), .iface 87 (pV b2), .agg #[.pointer (some ⟨1, 87, none⟩), pV b4, .int .u64 150], .iface 192 (.agg #[.pointer (some ⟨1, 83, none⟩)])] w (Ret fun v w => v = .bool r ∧ St B w (Cl b2 [iV a3.at_, iV a3.why] 83 :: Cl b4 [pV b2] 87 :: l) hf) := by
  have h := Holds.of h
  refine en func51 rfl ntmps51 rfl (sr (rr [0, 0] hS ?_))
  refine fun b6 => it fun w hS => ln (RC.block (RC.unroll (RQ.round (RC.block (RC.seq (sr (pn 1 rfl (RL.s (Vl.eX [.tmp 16] (.iface 192 (.agg #[.pointer (some ⟨1, 31, none⟩)])) Ex1 func52 rfl) rfl (pn 1 rfl ?_)))))))))
  refine RL.s (Vl.iX [.tmp 18] (.bool false) (.agg #[.pointer (some ⟨1, 31, none⟩)]) Ex2 func238 rfl rfl) rfl (ln (jfs (RC.seq (sr (pn 1 rfl (tno underlying196 rfl rfl (pn 5 rfl (lnsr ?_))))))))
  refine pn 6 rfl (ln (jfs (sr (pn 1 rfl (ln (RC.block (sr (tno underlying199 rfl rfl (pn 2 rfl ?_)))))))))
  refine ln (jf (sr (tno underlying200 rfl rfl (pn 2 rfl (ln (jf (sr (pn 1 rfl (ln (RC.seq ?_))))))))))
  refine RC.region (pn 1 rfl (lr (RQ.inB_ret (ir (RQ.inB_ret ?_)))))
  obtain rfl := h.some
  exact rt results51 rfl ⟨rfl, hS.d0⟩
def errors_As.f (a1 : Int) (a3 : model_flaw) : Option (Bool) := ((errors_as.f a1 a3).bind fun t10 => some t10)
theorem errors_As.ok {a1 : Int} {a3 : model_flaw} {b2 : Nat} (hG0 : GlobAt hf 0 (.iface 192 (.agg #[.pointer (some ⟨1, 85, none⟩)]))) {r : Bool} (h : errors_As.f a1 a3 = some r) (hS : St B w (Cl b2 [iV a3.at_, iV a3.why] 83 :: l) hf) :
    Calls prog 24 #[.iface 31 (iV a1), .iface 87 (pV b2)] w (Ret fun v w => v = .bool r ∧ St B w (Cl b2 [iV a3.at_, iV a3.why] 83 :: l) hf) := by
  have h := Holds.of h
  refine en func24 rfl ntmps24 rfl (sr (pn 1 rfl (ln (RC.seq (sr (pn 1 rfl (RL.s (Vl.bn false rfl rfl) rfl (ln (jfs ?_)))))))))
  refine RC.seq (sr (pn 1 rfl (RL.s (Vl.bn false rfl rfl) rfl (ln (jfs (sr (pn 1 rfl (RL.e (OW.externNew (ls := [.tmp 13]) (cs := [pV b2]) (T := 87) (v := fun b => .agg #[.pointer (some ⟨1, 87, none⟩), pV b, .int .u64 150]) hS rfl func48 (by kernel_rfl) (by kernel_rfl) (by kernel_rfl) (e := fun args => Extern.ReflectliteValue.unpack (args.getD 0 (.tuple #[]))) (by kernel_rfl) (fun w => by kernel_rfl)) rfl rfl ?_))))))))
  rintro _ w ⟨b8, rfl, hS⟩
  refine rr [0, 1] hS ?_
  refine fun b9 => it fun w hS => lnsr (rr [1] hS ?_)
  refine it fun w hS => RL.s (Vl.eX [.tmp 15] (.iface 192 (.agg #[.pointer (some ⟨1, 87, none⟩)])) Ex3 func49 rfl) rfl (pn 1 rfl (ln (RC.seq (sr (pn 1 rfl (RL.s (Vl.iX [] (.int .u8 22) (.pointer (some ⟨1, 87, none⟩)) Ex4 func218 rfl rfl) rfl (rr [0, 0, 1] hS ?_)))))))
  refine it fun w hS => ?_
  refine RL.sg (Vl.externAt (ls := [.tmp 21]) (v := .bool false) rfl func50 (by kernel_rfl) (by kernel_rfl) (by kernel_rfl) (e := Extern.ReflectliteValue.method (Extern.ReflectliteValue.valueError "reflectlite.Value.IsNil" 0) Extern.ReflectliteValue.isNil) (by kernel_rfl) (run_isNil (n := 150) (a := ⟨b8, 0, none⟩) (fun w => by kernel_rfl) underlying87 rfl (hS.cell 1 rfl rfl))) rfl rfl (pn 1 rfl (ln (jfs (sr (pn 1 rfl (RL.s (Vl.iX [] (.iface 192 (.agg #[.pointer (some ⟨1, 83, none⟩)])) (.agg #[.pointer (some ⟨1, 87, none⟩)]) Ex5 func240 rfl rfl) rfl (pn 1 rfl (ln (RC.seq (RC.seq ?_))))))))))
  refine RC.region (pn 1 rfl (RL.s (Vl.iX [] (.int .u8 25) (.pointer (some ⟨1, 83, none⟩)) Ex4 func218 rfl rfl) rfl (pn 3 rfl (RL.sg (Vl.load isAgg137 rfl (cellH_world hS.sub hG0)) rfl rfl (RL.sg (Vl.iX [.tmp 32] (.bool true) (.agg #[.pointer (some ⟨1, 83, none⟩)]) Ex6 func241 rfl rfl) rfl rfl (pn 2 rfl (ln (jfs (sr (rr [0, 0, 1, 0] hS ?_))))))))))
  refine it fun w hS => cF (fun _ hg => errors_as.ok hg hS.p1.p2) call51 h rfl rfl rfl ?_
  rintro t10 h _ w ⟨rfl, hS⟩
  refine pn 1 rfl (lr ?_)
  obtain rfl := h.some
  exact rt results24 rfl ⟨rfl, hS.d1.d1⟩
def errors_is.f (a1 a2 : Int) (a3 : Bool) : Option (Bool) := (if a3 = true then (if a1 = a2 then some true else some false) else some false)
theorem errors_is.ok {a1 a2 : Int} {a3 r : Bool} (h : errors_is.f a1 a2 a3 = some r) (hS : St B w (l) hf) :
    Calls prog 53 #[.iface 31 (iV a1), .iface 31 (iV a2), .bool a3] w (Ret fun v w => v = .bool r ∧ St B w (l) hf) := by
  have h := Holds.of h
  refine en func53 rfl ntmps53 rfl (sr (pn 1 rfl (ln (RC.block (RC.unroll (RQ.round (RC.block (RC.seq (sr (pn 2 rfl ?_))))))))))
  refine RL.iteB 15 rfl h (fun hc10 h => ?_) fun hc10 h => ?_
  next =>
   refine pn 2 rfl (RL.sg (Vl.ifaceInt rfl rfl underlying85 underlying31 type31 rfl) rfl rfl (pn 1 rfl (ln ?_)))
   refine RC.iteP 19 rfl h (fun hc11 h => ?_) fun hc11 h => ?_
   next =>
    refine jtr (pn 1 rfl (lr (RQ.ret (ir (RQ.inB_ret ?_)))))
    obtain rfl := h.some
    exact rt results53 rfl ⟨rfl, hS⟩
   refine jfs (RC.seq (sr (pn 1 rfl (tno underlying203 rfl rfl (pn 5 rfl (lnsr (pn 6 rfl (ln ?_))))))))
   refine jfs (sr (pn 1 rfl (ln (RC.block (sr (tno underlying199 rfl rfl (pn 2 rfl (ln (jf ?_)))))))))
   refine sr (tno underlying200 rfl rfl (pn 2 rfl (ln (jf (sr (pn 1 rfl (lnsr (pn 1 rfl (RL.nil ?_)))))))))
   refine tr (RQ.inB_ret (ir (RQ.inB_ret ?_)))
   obtain rfl := h.some
   exact rt results53 rfl ⟨rfl, hS⟩
  refine pn 4 rfl (ln (jfs (RC.seq (sr (pn 1 rfl (tno underlying203 rfl rfl (pn 5 rfl (lnsr ?_))))))))
  refine pn 6 rfl (ln (jfs (sr (pn 1 rfl (ln (RC.block (sr (tno underlying199 rfl rfl (pn 2 rfl ?_)))))))))
  refine ln (jf (sr (tno underlying200 rfl rfl (pn 2 rfl (ln (jf (sr (pn 1 rfl (ln (RC.seq ?_))))))))))
  refine RC.region (pn 1 rfl (lr (RQ.inB_ret (ir (RQ.inB_ret ?_)))))
  obtain rfl := h.some
  exact rt results53 rfl ⟨rfl, hS⟩
def errors_Is.f (a1 a2 : Int) : Option (Bool) := ((errors_is.f a1 a2 true).bind fun t5 => some t5)
theorem errors_Is.ok {a1 a2 : Int} {r : Bool} (h : errors_Is.f a1 a2 = some r) (hS : St B w (l) hf) :
    Calls prog 25 #[.iface 31 (iV a1), .iface 31 (iV a2)] w (Ret fun v w => v = .bool r ∧ St B w (l) hf) := by
  have h := Holds.of h
  refine en func25 rfl ntmps25 rfl (sr (pn 1 rfl (ln (RC.seq (sr (pn 1 rfl (RL.s (Vl.bn false rfl rfl) rfl (pn 2 rfl (RL.sg (Vl.bn false rfl rfl) rfl rfl (pn 1 rfl (ln ?_)))))))))))
  refine jfs (sr (pn 1 rfl (RL.s (Vl.eX [.tmp 15] (.iface 192 (.agg #[.pointer (some ⟨1, 31, none⟩)])) Ex1 func52 rfl) rfl (RL.s (Vl.iX [] (.bool true) (.agg #[.pointer (some ⟨1, 31, none⟩)]) Ex7 func239 rfl rfl) rfl (pn 1 rfl (lnsr (pn 3 rfl (cF (fun _ hg => errors_is.ok hg hS) call53 h rfl rfl rfl ?_))))))))
  rintro t5 h _ w ⟨rfl, hS⟩
  refine pn 1 rfl (lr ?_)
  obtain rfl := h.some
  exact rt results25 rfl ⟨rfl, hS⟩
def code_shapes.f  : Option (Unit) := some ()
theorem code_shapes.ok {r : Unit} (h : code_shapes.f = some r) (hS : St B w (l) hf) :
    Calls prog 171 #[] w (Ret fun v w => v = .agg #[.string lit_2d2d2d, .string lit_726e2d, .string lit_72722d, .string lit_rrr, .string lit_rrr, .string lit_rrr, .string lit_rrr, .string lit_rrr, .string lit_rrr, .string lit_rrr, .string lit_702d2d, .string lit_72702d, .string lit_rrr, .string lit_72722d, .string lit_722d2d, .string lit_722d2d, .string lit_722d2d] ∧ St B w (l) hf) := by
  have h := Holds.of h
  refine en func171 rfl ntmps171 rfl (sr (rr [0] hS ?_))
  refine fun b2 => it fun w hS => lnsr (RL.s (Vl.build (v := .agg #[.string lit_2d2d2d, .string lit_726e2d, .string lit_72722d, .string lit_rrr, .string lit_rrr, .string lit_rrr, .string lit_rrr, .string lit_rrr, .string lit_rrr, .string lit_rrr, .string lit_702d2d, .string lit_72702d, .string lit_rrr, .string lit_72722d, .string lit_722d2d, .string lit_722d2d, .string lit_722d2d]) (parts := [(0, .const (.string lit_2d2d2d)), (1, .const (.string lit_726e2d)), (2, .const (.string lit_72722d)), (3, .const (.string lit_rrr)), (4, .const (.string lit_rrr)), (5, .const (.string lit_rrr)), (6, .const (.string lit_rrr)), (7, .const (.string lit_rrr)), (8, .const (.string lit_rrr)), (9, .const (.string lit_rrr)), (10, .const (.string lit_702d2d)), (11, .const (.string lit_72702d)), (12, .const (.string lit_rrr)), (13, .const (.string lit_72722d)), (14, .const (.string lit_722d2d)), (15, .const (.string lit_722d2d)), (16, .const (.string lit_722d2d))]) rfl (by kernel_rfl)) rfl (rr [1] hS ?_))
  refine it fun w hS => lr ?_
  have e := h.some
  refine rz [0] results171 hS ?_
  exact it ⟨rfl, hS.d0⟩
def code_right.j2 (a1 x22 x23 : Int) : Option (Bool) := (if x22 ≤ a1 then some (decide (a1 ≤ x23)) else some false)
def code_right.f (a1 a2 a3 : Int) : Option (Bool) := (if a2 = 110 then code_right.j2 a1 (-2147483648) 2147483647 else (if a2 = 112 then code_right.j2 a1 0 a3 else (if a2 = 114 then code_right.j2 a1 0 15 else code_right.j2 a1 0 0)))
theorem code_right.ok {a1 a2 a3 : Int} {r : Bool} (h : code_right.f a1 a2 a3 = some r) (hS : St B w (l) hf) :
    Calls prog 172 #[iV a1, .int .u8 a2, iV a3] w (Ret fun v w => v = .bool r ∧ St B w (l) hf) := by
  have h := Holds.of h
  refine en func172 rfl ntmps172 rfl (sr (pn 1 rfl (lnsr (pn 2 rfl (ln ?_)))))
  refine RC.join (fun (s : Int × Int) a w => ∃ x22 x23, s = (x22, x23) ∧ Holds (· = r) (code_right.j2 a1 x22 x23) ∧ Has 25 [(0, iV a1), (7, iV x22), (8, iV x23)] a ∧ St B w (l) hf) ?_ ?_
  · rintro _ a w ⟨x22, x23, rfl, h, ha, hS⟩
    refine ro ha (sr (pn 4 rfl ?_))
    refine RL.iteP 20 rfl h (fun hc24 h => ?_) fun hc24 h => ?_
    next =>
     refine pn 5 rfl (lr ?_)
     cases h.some
     exact rt results172 rfl ⟨rfl, hS⟩
    refine pn 5 rfl (lr ?_)
    obtain rfl := h.some
    exact rt results172 rfl ⟨rfl, hS⟩
  refine sr (pn 1 rfl (ln (RC.block (RC.seq (RC.block (RC.seq (RC.block (RC.seq (RC.block (RC.seq (RC.block (RC.seq (RC.seq ?_)))))))))))))
  refine sr (pn 2 rfl (ln ?_))
  refine RC.iteP 10 rfl h (fun hc26 h => ?_) fun hc26 h => ?_
  next =>
   refine jt (RC.exit (RQ.exitT (RQ.exitT (RQ.inB_hit (tsr (pn 2 rfl (ln (RC.exit (RQ.inB_miss rfl (RQ.exitT (RQ.inB_miss rfl (RQ.exitT ?_))))))))))))
   refine RQ.inB_miss rfl (RQ.exitT (RQ.inB_hit ?_))
   exact fun a ha => ⟨_, _, _, rfl, h, ha.tE rfl, hS⟩
  refine jfs (RC.seq (sr (pn 2 rfl (ln ?_))))
  refine RC.iteP 12 rfl h (fun hc28 h => ?_) fun hc28 h => ?_
  next =>
   refine jt (RC.exit (RQ.exitT (RQ.exitT (RQ.inB_miss rfl (RQ.exitT (RQ.inB_hit (tsr (pn 2 rfl (ln (RC.exit (RQ.inB_miss rfl (RQ.exitT ?_))))))))))))
   refine RQ.inB_miss rfl (RQ.exitT (RQ.inB_hit ?_))
   exact fun a ha => ⟨_, _, _, rfl, h, ha.tE rfl, hS⟩
  refine jfs (sr (pn 2 rfl (ln ?_)))
  refine RC.iteP 14 rfl h (fun hc29 h => ?_) fun hc29 h => ?_
  next =>
   refine jt (RC.exit (RQ.exitT (RQ.inB_miss rfl (RQ.exitT (RQ.inB_miss rfl (RQ.exitT (RQ.inB_hit (RQ.then_n (RC.region (pn 1 rfl (RL.nil (RQ.inB_n (tsr ?_)))))))))))))
   refine pn 1 rfl (ln (RC.exit (RQ.inB_hit ?_)))
   exact fun a ha => ⟨_, _, _, rfl, h, ha.tE rfl, hS⟩
  refine jfs (RC.exit (RQ.inB_miss rfl (RQ.exitT (RQ.inB_miss rfl (RQ.exitT (RQ.inB_miss rfl (RQ.exitT (RQ.inB_hit (tsr (pn 1 rfl (RL.nil ?_)))))))))))
  refine RQ.then_n (RC.exit (RQ.inB_hit ?_))
  exact fun a ha => ⟨_, _, _, rfl, h, ha.tE rfl, hS⟩
def code_may.f (a1 : api_Instr) (a2 : Int) : Option (Bool) := (if a1.Op < 0 then some false else (if 17 ≤ a1.Op then some false else ((code_shapes.f).bind fun _ => (if 0 ≤ a1.Op ∧ a1.Op < 17 then (if 0 < ((nth ([lit_2d2d2d, lit_726e2d, lit_72722d, lit_rrr, lit_rrr, lit_rrr, lit_rrr, lit_rrr, lit_rrr, lit_rrr, lit_702d2d, lit_72702d, lit_rrr, lit_72722d, lit_722d2d, lit_722d2d, lit_722d2d] : List ByteArray) a1.Op).size : Int) then ((code_right.f a1.A (bt (nth ([lit_2d2d2d, lit_726e2d, lit_72722d, lit_rrr, lit_rrr, lit_rrr, lit_rrr, lit_rrr, lit_rrr, lit_rrr, lit_702d2d, lit_72702d, lit_rrr, lit_72722d, lit_722d2d, lit_722d2d, lit_722d2d] : List ByteArray) a1.Op) 0) a2).bind fun t33 => (if t33 = true then (if 1 < ((nth ([lit_2d2d2d, lit_726e2d, lit_72722d, lit_rrr, lit_rrr, lit_rrr, lit_rrr, lit_rrr, lit_rrr, lit_rrr, lit_702d2d, lit_72702d, lit_rrr, lit_72722d, lit_722d2d, lit_722d2d, lit_722d2d] : List ByteArray) a1.Op).size : Int) then ((code_right.f a1.B (bt (nth ([lit_2d2d2d, lit_726e2d, lit_72722d, lit_rrr, lit_rrr, lit_rrr, lit_rrr, lit_rrr, lit_rrr, lit_rrr, lit_702d2d, lit_72702d, lit_rrr, lit_72722d, lit_722d2d, lit_722d2d, lit_722d2d] : List ByteArray) a1.Op) 1) a2).bind fun t37 => (if t37 = true then (if 2 < ((nth ([lit_2d2d2d, lit_726e2d, lit_72722d, lit_rrr, lit_rrr, lit_rrr, lit_rrr, lit_rrr, lit_rrr, lit_rrr, lit_702d2d, lit_72702d, lit_rrr, lit_72722d, lit_722d2d, lit_722d2d, lit_722d2d] : List ByteArray) a1.Op).size : Int) then ((code_right.f a1.C (bt (nth ([lit_2d2d2d, lit_726e2d, lit_72722d, lit_rrr, lit_rrr, lit_rrr, lit_rrr, lit_rrr, lit_rrr, lit_rrr, lit_702d2d, lit_72702d, lit_rrr, lit_72722d, lit_722d2d, lit_722d2d, lit_722d2d] : List ByteArray) a1.Op) 2) a2).bind fun t41 => some t41) else none) else some false)) else none) else some false)) else none) else none))))
theorem code_may.ok {a1 : api_Instr} {a2 : Int} {r : Bool} (h : code_may.f a1 a2 = some r) (hS : St B w (l) hf) :
    Calls prog 160 #[.agg (C_api_Instr a1).toArray, iV a2] w (Ret fun v w => v = .bool r ∧ St B w (l) hf) := by
  have h := Holds.of h
  refine en func160 rfl ntmps160 rfl (sr (rr [0, 0] hS ?_))
  refine fun b23 => it fun w hS => ln (RC.seq (sr (rr [0, 1, 0, 0] hS ?_)))
  refine it fun w hS => RL.iteP 9 rfl h (fun hc26 h => ?_) fun hc26 h => ?_
  next =>
   refine pn 4 rfl (ln (jtr (pn 1 rfl (lr (RQ.ret ?_)))))
   obtain rfl := h.some
   exact rt results160 rfl ⟨rfl, hS.d0⟩
  refine rr [0, 1, 0, 0] hS ?_
  refine it fun w hS => ln ?_
  refine RC.iteP 13 rfl h (fun hc27 h => ?_) fun hc27 h => ?_
  next =>
   refine jtr (pn 1 rfl (lr (RQ.ret ?_)))
   obtain rfl := h.some
   exact rt results160 rfl ⟨rfl, hS.d0⟩
  refine jfs (RC.seq (dr [3, 7, 2, 11, 14] [3, 4] hS fun w hS => rq [0, 1] hS ?_))
  refine it ?_
  obtain ⟨t28, hg29, h⟩ := h.bind
  have hc := code_shapes.ok hg29 hS
  refine RP.e 0 rfl (OW.callF (ls := []) rfl call171 hc) rfl rfl ?_
  rintro _ w ⟨rfl, hS⟩
  refine ⟨kp ⟨fun _ => hS, trivial⟩, ?_⟩
  obtain ⟨⟨hq30, hq31⟩, h⟩ := h.req
  refine RP.v1 3 rfl (Vl.indexMap (f := Value.string) (l := ([lit_2d2d2d, lit_726e2d, lit_72722d, lit_rrr, lit_rrr, lit_rrr, lit_rrr, lit_rrr, lit_rrr, lit_rrr, lit_702d2d, lit_72702d, lit_rrr, lit_72722d, lit_722d2d, lit_722d2d, lit_722d2d] : List ByteArray)) underlying329 sizeOf9 isAgg9 rfl rfl rfl hq30 hq31) rfl rfl (rq [0] hS ?_)
  refine it (RP.nil (RQ.then_n (RC.seq (dr [0, 4, 6, 10, 12, 17, 18, 21, 25, 27, 31, 33, 38, 39, 42, 45, 49, 51, 55, 59, 62, 65, 68] [20, 21, 22] hS fun w hS => rq [0, 1, 0] hS ?_))))
  refine it ?_
  obtain ⟨hq32, h⟩ := h.req
  refine RP.s 0 3 rfl rfl hS (fun w hS => Vl.indexS underlying9 rfl rfl (by decide) hq32) rfl (pp 1 rfl ?_)
  obtain ⟨t33, hg34, h⟩ := h.bind
  have hc := code_right.ok hg34 hS
  refine RP.e 5 rfl (OW.callF (ls := [.tmp 19, .tmp 21, .tmp 22]) rfl call172 hc) rfl rfl ?_
  rintro _ w ⟨rfl, hS⟩
  refine ⟨kp ⟨fun _ => hS, trivial⟩, ?_⟩
  refine pp 1 rfl ?_
  refine RP.iteB 24 rfl h (fun hc35 h => ?_) fun hc35 h => ?_
  next =>
   refine rq [0, 1, 0] hS ?_
   refine it ?_
   obtain ⟨hq36, h⟩ := h.req
   refine RP.sg 0 10 rfl rfl hS (fun w hS => Vl.indexS underlying9 rfl rfl (by decide) hq36) rfl rfl (pp 1 rfl ?_)
   obtain ⟨t37, hg38, h⟩ := h.bind
   have hc := code_right.ok hg38 hS
   refine RP.e 12 rfl (OW.callF (ls := [.tmp 26, .tmp 28, .tmp 29]) rfl call172 hc) rfl rfl ?_
   rintro _ w ⟨rfl, hS⟩
   refine ⟨kp ⟨fun _ => hS, trivial⟩, ?_⟩
   refine pp 2 rfl ?_
   refine RP.iteB 32 rfl h (fun hc39 h => ?_) fun hc39 h => ?_
   next =>
    refine rq [0, 1, 0] hS ?_
    refine it ?_
    obtain ⟨hq40, h⟩ := h.req
    refine RP.sg 0 18 rfl rfl hS (fun w hS => Vl.indexS underlying9 rfl rfl (by decide) hq40) rfl rfl (rq [0] hS ?_)
    refine it ?_
    obtain ⟨t41, hg42, h⟩ := h.bind
    have hc := code_right.ok hg42 hS
    refine RP.e 20 rfl (OW.callF (ls := [.tmp 34, .tmp 36, .tmp 37]) rfl call172 hc) rfl rfl ?_
    rintro _ w ⟨rfl, hS⟩
    refine ⟨kp ⟨(by intro hx; cases hx), trivial⟩, ?_⟩
    refine rq [0, 0] hS ?_
    refine it (RP.nil (tr ?_))
    obtain rfl := h.some
    exact rt results160 rfl ⟨rfl, hS.d0⟩
   refine rq [0, 0, 0, 0, 0, 0, 0, 0] hS ?_
   refine it (RP.nil (tr ?_))
   obtain rfl := h.some
   exact rt results160 rfl ⟨rfl, hS.d0⟩
  refine rq [0, 0, 0, 0, 0, 0, 0, 0, 0, 0, 0, 0, 0, 0, 0, 0] hS ?_
  refine it (RP.nil (tr ?_))
  obtain rfl := h.some
  exact rt results160 rfl ⟨rfl, hS.d0⟩
def code_check.l2b (a1 : List api_Instr) : Int → Option ((Int) ⊕ ((Int) ⊕ (Int × Int) ⊕ (Unit)))
  | (x66) => (if x66 < (a1.length : Int) then (if 0 ≤ x66 then ((code_may.f (nth a1 x66) (a1.length : Int)).bind fun t93 => (if t93 = true then some (.inl (IntKind.i64.wrap (x66 + 1))) else some (.inr (.inr (.inl (x66, 130)))))) else none) else some (.inr (.inr (.inr (())))))
def code_check.l2 (a1 : List api_Instr) (s : Int) : Option ((Int) ⊕ (Int × Int) ⊕ (Unit)) := loopR (code_check.l2b a1) s
def code_check.f (a1 : List api_Instr) : Option ((Int) ⊕ (Int × Int) ⊕ (Unit)) := (if 256 < (a1.length : Int) then some (.inl 2) else code_check.l2 a1 (0))
theorem code_check.ok {a1 : List api_Instr} {A2 : Option Addr} {c3 : Nat} (hr4 : SlR E_api_Instr.rep hf A2 c3 a1) {r : (Int) ⊕ (Int × Int) ⊕ (Unit)} (h : code_check.f a1 = some r) (hS : St B w (l) hf) :
    Calls prog 133 #[sV A2 a1 c3] w (Ret fun v w => match (generalizing := false) r with | .inl r_ => v = .iface 31 (iV r_) ∧ St B w (l) hf | .inr (.inl r_) => ∃ (b_1 : Nat), v = .iface 314 (pV b_1) ∧ St B w (Cl b_1 [iV r_.1, .iface 31 (iV r_.2)] 316 :: l) hf | .inr (.inr (r_)) => v = .nilIface ∧ St B w (l) hf) := by
  have h := Holds.of h
  refine en func133 rfl ntmps133 rfl (sr (pn 1 rfl (ln (RC.seq (sr (r0 3 rfl (ln ?_)))))))
  refine RC.iteP 7 rfl h (fun hc52 h => ?_) fun hc52 h => ?_
  next =>
   refine jtr (r0 2 rfl (lr (RQ.ret ?_)))
   cases h.some
   exact rt results133 rfl ⟨rfl, hS⟩
  refine jfs (RC.seq (sr (r0 3 rfl (ln (RC.block (fun a ha => lp h (fun (s : Int) a w => ∃ x66, s = (x66) ∧ Has 27 [(0, sV A2 a1 c3), (9, sV A2 a1 c3), (10, iV (a1.length : Int)), (11, iV x66)] a ∧ St B w (l) hf) ⟨_, rfl, ha.tE rfl, hS⟩ ?_))))))
  rintro G82 x66 a w ⟨_, rfl, ha, hS⟩ h
  refine ro ha (sr (pn 1 rfl (ln (RC.seq ?_))))
  refine RC.iteP 12 rfl h (fun hc84 h => ?_) fun hc84 h => ?_
  next =>
   refine jt (sk (RC.seq (RC.block (sr (pn 1 rfl ?_)))))
   obtain ⟨hq91, h⟩ := h.req
   refine RL.s (Vl.indexAddr underlying89 sizeOf312 rfl rfl ((hr4.2.world hS.sub).adr hq91 hc84) hq91 hc84 rfl) rfl (RL.s (Vl.loadA isAgg312 sizeOf312 rfl rfl ((hr4.2.world hS.sub).cells hq91 hc84)) rfl (rr [0, 0, 1] hS ?_))
   refine fun b92 => it fun w hS => lnsr (rr [1, 0, 0] hS ?_)
   refine it fun w hS => cF (fun _ hg => code_may.ok hg hS) call160 h rfl rfl rfl ?_
   rintro t93 h _ w ⟨rfl, hS⟩
   refine pn 1 rfl (ln ?_)
   refine RC.iteM 20 rfl h (fun hc95 h => ?_) fun hc95 h => ?_
   next =>
    refine jf (RC.skip (RQ.inB_n (RQ.then_n (RC.region (pn 2 rfl (RL.nil ?_))))))
    exact fun a ha => ⟨_, h.some, _, rfl, ha.tE rfl, hS.d0⟩
   refine jtr (rr [0, 0, 0, 0, 0, 0] hS ?_)
   refine fun b96 => it fun w hS => lr (ir ?_)
   have h := h.inrS
   refine RQ.ret (ir ?_)
   cases h.some
   exact rt results133 rfl ⟨b96, rfl, hS.d1⟩
  refine jf (RC.exit (RQ.exitT ?_))
  have h := h.inrS
  refine RQ.exitT (RQ.inB_hit (tsr (pn 1 rfl (lr ?_))))
  cases h.some
  exact rt results133 rfl ⟨rfl, hS⟩
def code_wrong_Unwrap.f (a2 a3 : Int) : Option (Int) := some a3
theorem code_wrong_Unwrap.ok {a2 a3 r : Int} {b1 : Nat} (h : code_wrong_Unwrap.f a2 a3 = some r) (hS : St B w (Cl b1 [iV a2, .iface 31 (iV a3)] 316 :: l) hf) :
    Calls prog 306 #[pV b1] w (Ret fun v w => v = .iface 31 (iV r) ∧ St B w (Cl b1 [iV a2, .iface 31 (iV a3)] 316 :: l) hf) := by
  have h := Holds.of h
  refine en func306 rfl ntmps306 rfl (sr (pn 1 rfl (lnsr (rr [0, 0, 0, 1, 0] hS ?_))))
  refine it fun w hS => lr ?_
  obtain rfl := h.some
  exact rt results306 rfl ⟨rfl, hS⟩
def errors_is_2.f (a2 a3 a4 : Int) (a5 : Bool) : Option (Bool) := (if a5 = true then ((code_wrong_Unwrap.f a2 a3).bind fun t16 => (if t16 = a4 then some true else some false)) else ((code_wrong_Unwrap.f a2 a3).bind fun t20 => some false))
theorem errors_is_2.ok {a2 a3 a4 : Int} {a5 r : Bool} {b1 : Nat} (h : errors_is_2.f a2 a3 a4 a5 = some r) (hS : St B w (Cl b1 [iV a2, .iface 31 (iV a3)] 316 :: l) hf) :
    Calls prog 53 #[.iface 314 (pV b1), .iface 31 (iV a4), .bool a5] w (Ret fun v w => v = .bool r ∧ St B w (Cl b1 [iV a2, .iface 31 (iV a3)] 316 :: l) hf) := by
  have h := Holds.of h
  refine en func53 rfl ntmps53 rfl (sr (pn 1 rfl (ln (RC.block (RC.unroll (RQ.round (RC.block (RC.seq (sr (pn 2 rfl ?_))))))))))
  refine RL.iteB 15 rfl h (fun hc15 h => ?_) fun hc15 h => ?_
  next =>
   refine pn 2 rfl (RL.sg (Vl.ifaceNeq rfl rfl underlying85 rfl) rfl rfl (pn 1 rfl (ln (jfs (RC.seq (sr (pn 1 rfl (tno underlying203 rfl rfl (pn 5 rfl (ln ?_))))))))))
   refine sr (pn 6 rfl (ln (jfs (sr (pn 1 rfl (ln (RC.block (sr ?_))))))))
   refine tys underlying199 rfl rfl (pn 2 rfl (ln (jtr (pn 1 rfl (lnsr (pn 1 rfl ?_))))))
   obtain ⟨t16, hg17, h⟩ := h.bind
   have hc := code_wrong_Unwrap.ok hg17 hS
   refine RL.e (OW.invoke (F := 306) (u' := pV b1) (ls := []) rfl rfl (fun w => by kernel_rfl) call306 rfl hc) rfl rfl ?_
   rintro _ w ⟨rfl, hS⟩
   refine pn 1 rfl (lnsr (pn 1 rfl (RL.s (Vl.bn false rfl rfl) rfl (ln (jf (RC.skip (RQ.inB_n (RQ.inB_n (RQ.then_n (RQ.round (RC.block ?_)))))))))))
   refine RC.seq (sr (pn 2 rfl (RL.re 15 rfl (congrArg Value.bool (id hc15)) (pn 2 rfl (RL.sg (Vl.ifaceInt rfl rfl underlying85 underlying31 type31 rfl) rfl rfl (pn 1 rfl (ln ?_)))))))
   refine RC.iteP 19 rfl h (fun hc19 h => ?_) fun hc19 h => ?_
   next =>
    refine jtr (pn 1 rfl (lr (RQ.ret (ir (RQ.inB_ret ?_)))))
    obtain rfl := h.some
    exact rt results53 rfl ⟨rfl, hS⟩
   refine jfs (RC.seq (sr (pn 1 rfl (tno underlying203 rfl rfl (pn 5 rfl (lnsr (pn 6 rfl (ln ?_))))))))
   refine jfs (sr (pn 1 rfl (ln (RC.block (sr (tno underlying199 rfl rfl (pn 2 rfl (ln (jf ?_)))))))))
   refine sr (tno underlying200 rfl rfl (pn 2 rfl (ln (jf (sr (pn 1 rfl (lnsr (pn 1 rfl (RL.nil ?_)))))))))
   refine tr (RQ.inB_ret (ir (RQ.inB_ret ?_)))
   obtain rfl := h.some
   exact rt results53 rfl ⟨rfl, hS⟩
  refine pn 4 rfl (ln (jfs (RC.seq (sr (pn 1 rfl (tno underlying203 rfl rfl (pn 5 rfl (lnsr ?_))))))))
  refine pn 6 rfl (ln (jfs (sr (pn 1 rfl (ln (RC.block (sr (tys underlying199 rfl rfl (pn 2 rfl ?_)))))))))
  refine ln (jtr (pn 1 rfl (lnsr (pn 1 rfl ?_))))
  obtain ⟨t20, hg21, h⟩ := h.bind
  have hc := code_wrong_Unwrap.ok hg21 hS
  refine RL.e (OW.invoke (F := 306) (u' := pV b1) (ls := []) rfl rfl (fun w => by kernel_rfl) call306 rfl hc) rfl rfl ?_
  rintro _ w ⟨rfl, hS⟩
  refine pn 1 rfl (lnsr (pn 1 rfl (RL.s (Vl.bn false rfl rfl) rfl (ln (jf (RC.skip (RQ.inB_n (RQ.inB_n (RQ.then_n (RQ.round (RC.block ?_)))))))))))
  refine RC.seq (sr (pn 2 rfl (RL.re 15 rfl (congrArg Value.bool (eq_false_of hc15)) (pn 4 rfl (ln (jfs (RC.seq (sr (pn 1 rfl (tno underlying203 rfl rfl ?_))))))))))
  refine pn 5 rfl (lnsr (pn 6 rfl (ln (jfs (sr (pn 1 rfl (ln ?_)))))))
  refine RC.block (sr (tno underlying199 rfl rfl (pn 2 rfl (ln (jf (sr (tno underlying200 rfl rfl (pn 2 rfl (ln (jf (RC.seq ?_)))))))))))
  refine RC.region (pn 1 rfl (lnsr (pn 1 rfl (lr (RQ.inB_ret (ir (RQ.inB_ret ?_)))))))
  obtain rfl := h.some
  exact rt results53 rfl ⟨rfl, hS⟩
def errors_Is_2.f (a2 a3 a4 : Int) : Option (Bool) := ((errors_is_2.f a2 a3 a4 true).bind fun t7 => some t7)
theorem errors_Is_2.ok {a2 a3 a4 : Int} {b1 : Nat} {r : Bool} (h : errors_Is_2.f a2 a3 a4 = some r) (hS : St B w (Cl b1 [iV a2, .iface 31 (iV a3)] 316 :: l) hf) :
    Calls prog 25 #[.iface 314 (pV b1), .iface 31 (iV a4)] w (Ret fun v w => v = .bool r ∧ St B w (Cl b1 [iV a2, .iface 31 (iV a3)] 316 :: l) hf) := by
  have h := Holds.of h
  refine en func25 rfl ntmps25 rfl (sr (pn 1 rfl (ln (RC.seq (sr (pn 1 rfl (RL.s (Vl.bn false rfl rfl) rfl (pn 2 rfl (RL.sg (Vl.bn false rfl rfl) rfl rfl (pn 1 rfl (ln ?_)))))))))))
  refine jfs (sr (pn 1 rfl (RL.s (Vl.eX [.tmp 15] (.iface 192 (.agg #[.pointer (some ⟨1, 31, none⟩)])) Ex1 func52 rfl) rfl (RL.s (Vl.iX [] (.bool true) (.agg #[.pointer (some ⟨1, 31, none⟩)]) Ex7 func239 rfl rfl) rfl (pn 1 rfl (lnsr (pn 3 rfl (cF (fun _ hg => errors_is_2.ok hg hS) call53 h rfl rfl rfl ?_))))))))
  rintro t7 h _ w ⟨rfl, hS⟩
  refine pn 1 rfl (lr ?_)
  obtain rfl := h.some
  exact rt results25 rfl ⟨rfl, hS⟩
def errors_Is_3.f (a1 : Int) : Option (Bool) := some false
theorem errors_Is_3.ok {a1 : Int} {r : Bool} (h : errors_Is_3.f a1 = some r) (hS : St B w (l) hf) :
    Calls prog 25 #[.nilIface, .iface 31 (iV a1)] w (Ret fun v w => v = .bool r ∧ St B w (l) hf) := by
  have h := Holds.of h
  refine en func25 rfl ntmps25 rfl (sr (pn 1 rfl (ln (RC.seq (sr (pn 1 rfl (RL.s (Vl.bn true rfl rfl) rfl (pn 4 rfl (ln (jt (RC.seq ?_)))))))))))
  refine RC.region (pn 2 rfl (RL.s (Vl.bn false rfl rfl) rfl (pn 1 rfl (lr (RQ.ret ?_)))))
  obtain rfl := h.some
  exact rt results25 rfl ⟨rfl, hS⟩
def code_Check.f (a1 : List api_Instr) : Option (Int) := ((code_check.f a1).bind fun t20 => match t20 with | .inl y22 => ((errors_Is.f y22 2).bind fun t23 => (if t23 = true then some 2 else some 130)) | .inr (.inl (y26, y27)) => ((errors_Is_2.f y26 y27 2).bind fun t29 => (if t29 = true then some 2 else some 130)) | .inr (.inr (_)) => ((errors_Is_3.f 2).bind fun t32 => (if t32 = true then some 2 else some 0)))
theorem code_Check.ok {a1 : List api_Instr} {A2 : Option Addr} {c3 : Nat} (hr4 : SlR E_api_Instr.rep hf A2 c3 a1) {r : Int} (h : code_Check.f a1 = some r) (hS : St B w (l) hf) :
    Calls prog 82 #[sV A2 a1 c3] w (Ret fun v w => v = iV r ∧ St B w (l) hf) := by
  have h := Holds.of h
  refine en func82 rfl ntmps82 rfl (sr (pn 1 rfl (ln (RC.seq (sr (pn 1 rfl ?_))))))
  obtain ⟨t20, hg21, h⟩ := h.bind
  have hc := code_check.ok hr4 hg21 hS
  rcases t20 with y22 | ⟨y26, y27⟩ | _
  · refine RL.e (OW.callF (ls := [.tmp 4]) rfl call133 hc) rfl rfl ?_
    rintro _ w ⟨rfl, hS⟩
    refine pn 1 rfl (ln (RC.block (sr (r0 2 rfl (cF (fun _ hg => errors_Is.ok hg hS) call25 h rfl rfl rfl ?_)))))
    rintro t23 h _ w ⟨rfl, hS⟩
    refine pn 1 rfl (ln ?_)
    refine RC.iteB 6 rfl h (fun hc25 h => ?_) fun hc25 h => ?_
    next =>
     refine jtr (pn 1 rfl (lr (ir ?_)))
     obtain rfl := h.some
     exact rt results82 rfl ⟨rfl, hS⟩
    refine jf (sr (pn 1 rfl (RL.s (Vl.bn true rfl rfl) rfl (pn 1 rfl (ln (jtr (pn 1 rfl (lr (RQ.inB_ret ?_)))))))))
    refine RQ.ret ?_
    obtain rfl := h.some
    exact rt results82 rfl ⟨rfl, hS⟩
  · refine RL.e (OW.callF (ls := [.tmp 4]) rfl call133 hc) rfl rfl ?_
    rintro _ w ⟨b28, rfl, hS⟩
    refine pn 1 rfl (ln (RC.block (sr (r0 2 rfl (cF (fun _ hg => errors_Is_2.ok hg hS) call25 h rfl rfl rfl ?_)))))
    rintro t29 h _ w ⟨rfl, hS⟩
    refine pn 1 rfl (ln ?_)
    refine RC.iteB 6 rfl h (fun hc31 h => ?_) fun hc31 h => ?_
    next =>
     refine jtr (pn 1 rfl (lr (ir ?_)))
     obtain rfl := h.some
     exact rt results82 rfl ⟨rfl, hS.d0⟩
    refine jf (sr (pn 1 rfl (RL.s (Vl.bn true rfl rfl) rfl (pn 1 rfl (ln (jtr (pn 1 rfl (lr (RQ.inB_ret ?_)))))))))
    refine RQ.ret ?_
    obtain rfl := h.some
    exact rt results82 rfl ⟨rfl, hS.d0⟩
  refine RL.e (OW.callF (ls := [.tmp 4]) rfl call133 hc) rfl rfl ?_
  rintro _ w ⟨rfl, hS⟩
  refine pn 1 rfl (ln (RC.block (sr (r0 2 rfl (cF (fun _ hg => errors_Is_3.ok hg hS) call25 h rfl rfl rfl ?_)))))
  rintro t32 h _ w ⟨rfl, hS⟩
  refine pn 1 rfl (ln ?_)
  refine RC.iteB 6 rfl h (fun hc34 h => ?_) fun hc34 h => ?_
  next =>
   refine jtr (pn 1 rfl (lr (ir ?_)))
   obtain rfl := h.some
   exact rt results82 rfl ⟨rfl, hS⟩
  refine jf (sr (pn 1 rfl (RL.s (Vl.bn false rfl rfl) rfl (pn 1 rfl (ln (jf (RC.skip (RQ.inB_n (tsr (pn 1 rfl (RL.nil ?_)))))))))))
  refine tr ?_
  obtain rfl := h.some
  exact rt results82 rfl ⟨rfl, hS⟩
def errors_Join.f (a3 : model_flaw) (a4 : Int) : Option (model_flaw × Int) := some (a3, a4)
theorem errors_Join.ok {a3 : model_flaw} {a4 : Int} {A1 : Option Addr} {c2 : Nat} {r : model_flaw × Int} (h : errors_Join.f a3 a4 = some r) (hS : St B w (OSl 85 1 (.slice A1 2 c2) 2 [.iface 83 (.agg #[iV a3.at_, iV a3.why]), .iface 31 (iV a4)] :: l) hf) :
    Calls prog 83 #[.slice A1 2 c2] w (Ret fun v w => ∃ (b_1 : Nat) (A_2 : Option Addr) (c_3 : Nat), v = .iface 264 (pV b_1) ∧ St B w (Cl b_1 [.slice A_2 2 c_3] 266 :: OSl 85 1 (.slice A_2 2 c_3) 2 [.iface 83 (.agg #[iV r.1.at_, iV r.1.why]), .iface 31 (iV r.2)] :: OSl 85 1 (.slice A1 2 c2) 2 [.iface 83 (.agg #[iV a3.at_, iV a3.why]), .iface 31 (iV a4)] :: l) hf) := by
  have h := Holds.of h
  refine en func83 rfl ntmps83 rfl (sr (pn 1 rfl (lnsr (pn 1 rfl (ln (RC.seq (sr (r0 3 rfl (RL.nil ?_)))))))))
  refine RQ.then_n (RC.block (RC.unroll (RQ.round (sr (pn 1 rfl (ln (RC.seq (jt (sk (RC.seq (RC.block (RC.seq ?_))))))))))))
  refine RC.region (RL.s (Vl.indexAddr (a'' := (ad A1).add 0) underlying201 sizeOf85 rfl rfl (hS.litAdr 0 rfl (by decide)) (by decide) (by decide) rfl) rfl (RL.s (Vl.load isAgg85 rfl (hS.litCell 0 rfl rfl)) rfl (pn 1 rfl (lnsr (pn 1 rfl (RL.s (Vl.bn true rfl rfl) rfl (ln (jt (RC.region (pn 3 rfl (RL.nil ?_)))))))))))
  refine RQ.inB_n (RQ.then_n (RC.region (pn 2 rfl (ln (RQ.round (sr (pn 1 rfl (ln (RC.seq (jt (sk ?_)))))))))))
  refine RC.seq (RC.block (sr (RL.s (Vl.indexAddr (a'' := (ad A1).add 1) underlying201 sizeOf85 rfl rfl (hS.litAdr 0 rfl (by decide)) (by decide) (by decide) rfl) rfl (RL.s (Vl.load isAgg85 rfl (hS.litCell 0 rfl rfl)) rfl (pn 1 rfl (lnsr (pn 1 rfl (RL.s (Vl.bn true rfl rfl) rfl (ln (jt ?_))))))))))
  refine RC.region (pn 3 rfl (RL.nil (RQ.inB_n (RQ.then_n (RC.region (pn 2 rfl (ln (RQ.round (sr (pn 1 rfl (ln (RC.seq ?_))))))))))))
  refine jf (RC.exit (RQ.exitT (RQ.exitT (RQ.inB_hit (RQ.then_n (RC.seq (sr (pn 2 rfl (ln (jfs (RC.seq ?_)))))))))))
  refine RC.region (pn 1 rfl (RL.e (OW.make0L (c := 2) (sz := 1) hS underlying201 type85 rfl rfl rfl rfl (by decide) (by decide)) rfl rfl ?_))
  rintro _ w ⟨b31, rfl, hS⟩
  refine rr [0, 0, 0] hS ?_
  refine fun b32 => it fun w hS => ln (RC.seq (sr (r0 3 rfl (ln (RC.block (RC.unroll (RQ.round (sr (pn 1 rfl (RL.nil ?_))))))))))
  refine RQ.then_n (RC.seq (jt (sk (RC.seq (RC.block (sr (RL.s (Vl.indexAddr (a'' := (ad A1).add 0) underlying201 sizeOf85 rfl rfl (hS.litAdr 2 rfl (by decide)) (by decide) (by decide) rfl) rfl (RL.s (Vl.load isAgg85 rfl (hS.litCell 2 rfl rfl)) rfl (pn 1 rfl (lnsr ?_))))))))))
  refine pn 1 rfl (RL.s (Vl.bn true rfl rfl) rfl (ln (jt (RC.region (rr [0, 0, 0, 0, 1, 0] hS ?_)))))
  refine it fun w hS => RL.e (OW.buildSliceR (sz := 1) (cs := [.iface 83 (.agg #[iV a3.at_, iV a3.why])]) hS underlying201 zeroValue85 sizeOf85 (parts := [(0, .tmp 39)]) rfl rfl (by decide) (by decide) (by kernel_rfl)) rfl rfl ?_
  rintro _ w ⟨b48, rfl, hS⟩
  refine RL.e (OW.appendL (k := 1) (es := [.iface 83 (.agg #[iV a3.at_, iV a3.why])]) 2 0 hS rfl rfl underlying201 type85 rfl rfl rfl rfl (by decide) (by decide) rfl rfl rfl (by decide) rfl rfl rfl) rfl rfl ?_
  rintro _ w ⟨A49, c50, rfl, hS⟩
  have hS : St B w (_ :: _ :: _ :: _ :: l) hf := hS
  refine rr [0, 0, 3] hS ?_
  refine it fun w hS => RL.nil (RQ.inB_n (RQ.then_n (RC.region (pn 2 rfl (ln (RQ.round (sr (pn 1 rfl (ln (RC.seq (jt ?_)))))))))))
  refine sk (RC.seq (RC.block (sr (RL.s (Vl.indexAddr (a'' := (ad A1).add 1) underlying201 sizeOf85 rfl rfl (hS.litAdr 3 rfl (by decide)) (by decide) (by decide) rfl) rfl (RL.s (Vl.load isAgg85 rfl (hS.litCell 3 rfl rfl)) rfl (pn 1 rfl (lnsr (pn 1 rfl (RL.s (Vl.bn true rfl rfl) rfl (RL.nil ?_))))))))))
  refine RQ.then_n (jt (RC.region (rr [0, 0, 0, 0, 3, 0] hS ?_)))
  refine it fun w hS => RL.e (OW.buildSliceR (sz := 1) (cs := [.iface 31 (iV a4)]) hS underlying201 zeroValue85 sizeOf85 (parts := [(0, .tmp 39)]) rfl rfl (by decide) (by decide) (by kernel_rfl)) rfl rfl ?_
  rintro _ w ⟨b54, rfl, hS⟩
  refine RL.e (OW.appendL (k := 2) (es := [.iface 83 (.agg #[iV a3.at_, iV a3.why]), .iface 31 (iV a4)]) 1 0 hS rfl rfl underlying201 type85 rfl rfl rfl rfl (by decide) (by decide) rfl rfl rfl (by decide) rfl rfl rfl) rfl rfl ?_
  rintro _ w ⟨A55, c56, rfl, hS⟩
  have hS : St B w (_ :: _ :: _ :: _ :: _ :: l) hf := hS
  refine rr [0, 0, 4] hS ?_
  refine it fun w hS => RL.nil (RQ.inB_n (RQ.then_n (RC.region (pn 2 rfl (ln (RQ.round (sr (pn 1 rfl (ln (RC.seq (jf ?_)))))))))))
  refine RC.exit (RQ.exitT (RQ.exitT (RQ.inB_hit (tsr (r0 3 rfl (lr ?_))))))
  cases h.some
  exact rt results83 rfl ⟨b32, A55, c56, rfl, hS.d1.d1.p1⟩
def model_programs.l2b (a1 : api_Model) : Int → Option ((Int) ⊕ ((model_flaw × Int) ⊕ (Unit)))
  | (x150) => (if x150 < (a1.Progs.length : Int) then (if 0 ≤ x150 then ((code_Check.f (nth a1.Progs x150)).bind fun t210 => (if t210 = 0 then some (.inl (IntKind.i64.wrap (x150 + 1))) else ((errors_Join.f (⟨x150, 130⟩ : model_flaw) t210).bind fun (y216, y217) => some (.inr (.inl (y216, y217)))))) else none) else some (.inr (.inr (()))))
def model_programs.l2 (a1 : api_Model) (s : Int) : Option ((model_flaw × Int) ⊕ (Unit)) := loopR (model_programs.l2b a1) s
def model_programs.f (a1 : api_Model) : Option ((model_flaw × Int) ⊕ (Unit)) := model_programs.l2 a1 (0)
theorem model_programs.ok {a1 : api_Model} {A2 A5 A8 : Option Addr} {c3 c6 c9 : Nat} (hr4 : SlR (Rep.sl E_api_Instr.rep) hf A2 c3 a1.Progs) (hr7 : SlR E_api_Link.rep hf A5 c6 a1.Links) (hr10 : SlR E_api_Start.rep hf A8 c9 a1.Starts) {r : (model_flaw × Int) ⊕ (Unit)} (h : model_programs.f a1 = some r) (hS : St B w (l) hf) :
    Calls prog 45 #[.agg (C_api_Model a1 A2 c3 A5 c6 A8 c9).toArray] w (Ret fun v w => match (generalizing := false) r with | .inl r_ => ∃ (b_1 : Nat) (A_2 : Option Addr) (c_3 : Nat), v = .iface 264 (pV b_1) ∧ St B w (Cl b_1 [.slice A_2 2 c_3] 266 :: OSl 85 1 (.slice A_2 2 c_3) 2 [.iface 83 (.agg #[iV r_.1.at_, iV r_.1.why]), .iface 31 (iV r_.2)] :: l) hf | .inr (r_) => v = .nilIface ∧ St B w (l) hf) := by
  have h := Holds.of h
  refine en func45 rfl ntmps45 rfl (sr (rr [0, 0] hS ?_))
  refine fun b116 => it fun w hS => ln (RC.seq (sr (rr [0, 1, 0, 0] hS ?_)))
  refine it fun w hS => ln (RC.block (fun a ha => lp h (fun (s : Int) a w => ∃ x150, s = (x150) ∧ Has 26 [(7, sV A2 a1.Progs c3), (8, iV (a1.Progs.length : Int)), (9, iV x150)] a ∧ St B w (l) hf) ⟨_, rfl, ha.tE rfl, hS.d0⟩ ?_))
  rintro G186 x150 a w ⟨_, rfl, ha, hS⟩ h
  refine ro ha (sr (pn 1 rfl (ln (RC.seq ?_))))
  refine RC.iteP 10 rfl h (fun hc188 h => ?_) fun hc188 h => ?_
  next =>
   refine jt (sk (RC.seq (RC.block (sr (pn 1 rfl ?_)))))
   obtain ⟨hq205, h⟩ := h.req
   refine RL.s (Vl.indexAddr underlying22 sizeOf89 rfl rfl (hr4.2.adr hq205 hc188) hq205 hc188 rfl) rfl ?_
   obtain ⟨_, _, ⟨A206, c207, rfl, hr208⟩, hl209⟩ := hr4.2.elem hq205 hc188
   refine RL.s (Vl.load isAgg89 rfl (cellH_world hS.sub (hl209 0 _ rfl))) rfl (pn 2 rfl (lnsr (pn 1 rfl (cF (fun _ hg => code_Check.ok hr208 hg hS) call82 h rfl rfl rfl ?_))))
   rintro t210 h _ w ⟨rfl, hS⟩
   refine pn 1 rfl (lnsr (pn 2 rfl (ln ?_)))
   refine RC.iteN 17 rfl h (fun hc212 h => ?_) fun hc212 h => ?_
   next =>
    refine jf (RC.skip (RQ.inB_n (RQ.then_n (RC.region (pn 2 rfl (RL.nil ?_))))))
    exact fun a ha => ⟨_, h.some, _, rfl, ha.tE rfl, hS⟩
   refine jtr (r0 5 rfl (RL.e (OW.buildSliceR (sz := 1) (cs := [.iface 83 (.agg #[iV x150, iV 130]), .iface 31 (iV t210)]) hS underlying201 zeroValue85 sizeOf85 (parts := [(0, .tmp 20), (1, .tmp 22)]) rfl rfl (by decide) (by decide) (by kernel_rfl)) rfl rfl ?_))
   rintro _ w ⟨b213, rfl, hS⟩
   refine cF (fun _ hg => errors_Join.ok hg hS) call83 h rfl rfl rfl ?_
   rintro ⟨y216, y217⟩ h _ w ⟨b218, A219, c220, rfl, hS⟩
   refine pn 1 rfl (lr (ir ?_))
   have h := h.inrS
   refine RQ.ret (ir ?_)
   cases h.some
   exact rt results45 rfl ⟨b218, A219, c220, rfl, hS.d2⟩
  refine jf (RC.exit (RQ.exitT ?_))
  have h := h.inrS
  refine RQ.exitT (RQ.inB_hit (tsr (pn 1 rfl (lr ?_))))
  cases h.some
  exact rt results45 rfl ⟨rfl, hS⟩
def errors_joinError_Unwrap.f (a4 : model_flaw) (a5 : Int) : Option (Unit) := some ()
theorem errors_joinError_Unwrap.ok {a4 : model_flaw} {a5 : Int} {b1 c3 : Nat} {A2 : Option Addr} {r : Unit} (h : errors_joinError_Unwrap.f a4 a5 = some r) (hS : St B w (OSl 85 1 (.slice A2 2 c3) 2 [.iface 83 (.agg #[iV a4.at_, iV a4.why]), .iface 31 (iV a5)] :: Cl b1 [.slice A2 2 c3] 266 :: l) hf) :
    Calls prog 302 #[pV b1] w (Ret fun v w => v = .slice A2 2 c3 ∧ St B w (OSl 85 1 (.slice A2 2 c3) 2 [.iface 83 (.agg #[iV a4.at_, iV a4.why]), .iface 31 (iV a5)] :: Cl b1 [.slice A2 2 c3] 266 :: l) hf) := by
  have h := Holds.of h
  refine en func302 rfl ntmps302 rfl (sr (pn 1 rfl (lnsr (rr [0, 0, 0, 2, 0] hS ?_))))
  refine it fun w hS => lr ?_
  exact rt results302 rfl ⟨rfl, hS⟩
def errors_as_3.f (a1 a3 : model_flaw) : Option (Bool × model_flaw) := some (true, a1)
theorem errors_as_3.ok {a1 a3 : model_flaw} {b2 b4 : Nat} {r : Bool × model_flaw} (h : errors_as_3.f a1 a3 = some r) (hS : St B w (Cl b2 [iV a3.at_, iV a3.why] 83 :: Cl b4 [pV b2] 87 :: l) hf) :
    Calls prog 51 #[.iface 83 (.agg #[iV a1.at_, iV a1.why]), .iface 87 (pV b2), .agg #[.pointer (some ⟨1, 87, none⟩), pV b4, .int .u64 150], .iface 192 (.agg #[.pointer (some ⟨1, 83, none⟩)])] w (Ret fun v w => v = .bool r.1 ∧ St B w (Cl b2 [iV r.2.at_, iV r.2.why] 83 :: Cl b4 [pV b2] 87 :: l) hf) := by
  have h := Holds.of h
  refine en func51 rfl ntmps51 rfl (sr (rr [0, 0] hS ?_))
  refine fun b8 => it fun w hS => ln (RC.block (RC.unroll (RQ.round (RC.block (RC.seq (sr (pn 1 rfl (RL.s (Vl.eX [.tmp 16] (.iface 192 (.agg #[.pointer (some ⟨1, 83, none⟩)])) Ex1 func52 rfl) rfl (pn 1 rfl ?_)))))))))
  refine RL.s (Vl.iX [.tmp 18] (.bool true) (.agg #[.pointer (some ⟨1, 83, none⟩)]) Ex2 func238 rfl rfl) rfl (ln (jtr (rr [1] hS ?_)))
  refine it fun w hS => RL.s (Vl.externAt (ls := [.tmp 20]) (v := .agg #[.pointer (some ⟨1, 83, none⟩), pV b2, .int .u64 409]) rfl func84 (by kernel_rfl) (by kernel_rfl) (by kernel_rfl) (e := Extern.ReflectliteValue.method (Extern.ReflectliteValue.valueError "reflectlite.Value.Elem" 0) Extern.ReflectliteValue.elem) (by kernel_rfl) (run_elemV (n := 150) (a := ⟨b4, 0, none⟩) (fun w => by kernel_rfl) underlying87 rfl (hS.cell 2 rfl rfl) (fun w => by kernel_rfl) (fun w => by kernel_rfl))) rfl (pn 1 rfl (RL.e (OW.externNew (ls := [.tmp 22]) (cs := [iV a1.at_, iV a1.why]) (T := 83) (v := fun b => .agg #[.pointer (some ⟨1, 83, none⟩), pV b, .int .u64 153]) hS rfl func48 (by kernel_rfl) (by kernel_rfl) (by kernel_rfl) (e := fun args => Extern.ReflectliteValue.unpack (args.getD 0 (.tuple #[]))) (by kernel_rfl) (fun w => by kernel_rfl)) rfl rfl ?_))
  rintro _ w ⟨b10, rfl, hS⟩
  refine RL.e (OW.setV (ls := [.tmp 21, .tmp 23]) (val := .agg #[iV a1.at_, iV a1.why]) (vs := [iV a1.at_, iV a1.why]) (n := 409) (m := 153) (a2 := ⟨b10, 0, none⟩) 2 hS rfl rfl func85 (by kernel_rfl) (by kernel_rfl) (by kernel_rfl) (by kernel_rfl) (fun w => by kernel_rfl) (fun w => by kernel_rfl) rfl (fun w => by kernel_rfl) (run_loadVarA (vs := [iV a1.at_, iV a1.why]) isAgg83 sizeOf83 rfl (hS.cellsAt 0 rfl rfl)) rfl sizeOf83 rfl rfl rfl rfl) rfl rfl ?_
  rintro _ w ⟨rfl, hS⟩
  have hS : St B w (_ :: _ :: _ :: _ :: l) hf := hS
  refine lnsr (pn 1 rfl (lr (RQ.ret (ir (RQ.inB_ret ?_)))))
  cases h.some
  exact rt results51 rfl ⟨rfl, hS.d0.d0⟩
def errors_as_2.f (a4 : model_flaw) (a5 : Int) (a7 : model_flaw) : Option (Bool × model_flaw) := ((errors_joinError_Unwrap.f a4 a5).bind fun _ => ((errors_as_3.f a4 a7).bind fun (y38, y39) => (if y38 = true then some (true, y39) else ((errors_as.f a5 y39).bind fun t44 => (if t44 = true then some (true, y39) else some (false, y39))))))
theorem errors_as_2.ok {a4 a7 : model_flaw} {a5 : Int} {b1 c3 b6 b8 : Nat} {A2 : Option Addr} {r : Bool × model_flaw} (h : errors_as_2.f a4 a5 a7 = some r) (hS : St B w (OSl 85 1 (.slice A2 2 c3) 2 [.iface 83 (.agg #[iV a4.at_, iV a4.why]), .iface 31 (iV a5)] :: Cl b1 [.slice A2 2 c3] 266 :: Cl b6 [iV a7.at_, iV a7.why] 83 :: Cl b8 [pV b6] 87 :: l) hf) :
    Calls prog 51 #[.iface 264 (pV b1), .iface 87 (pV b6), .agg #[.pointer (some ⟨1, 87, none⟩), pV b8, .int .u64 150], .iface 192 (.agg #[.pointer (some ⟨1, 83, none⟩)])] w (Ret fun v w => v = .bool r.1 ∧ St B w (OSl 85 1 (.slice A2 2 c3) 2 [.iface 83 (.agg #[iV a4.at_, iV a4.why]), .iface 31 (iV a5)] :: Cl b1 [.slice A2 2 c3] 266 :: Cl b6 [iV r.2.at_, iV r.2.why] 83 :: Cl b8 [pV b6] 87 :: l) hf) := by
  have h := Holds.of h
  refine en func51 rfl ntmps51 rfl (sr (rr [0, 0] hS ?_))
  refine fun b28 => it fun w hS => ln (RC.block (RC.unroll (RQ.round (RC.block (RC.seq (sr (pn 1 rfl (RL.s (Vl.eX [.tmp 16] (.iface 192 (.agg #[.pointer (some ⟨1, 264, none⟩)])) Ex1 func52 rfl) rfl (pn 1 rfl ?_)))))))))
  refine RL.s (Vl.iX [.tmp 18] (.bool false) (.agg #[.pointer (some ⟨1, 264, none⟩)]) Ex2 func238 rfl rfl) rfl (ln (jfs (RC.seq (sr (pn 1 rfl (tno underlying196 rfl rfl (pn 5 rfl (lnsr ?_))))))))
  refine pn 6 rfl (ln (jfs (sr (pn 1 rfl (ln (RC.block (sr (tno underlying199 rfl rfl (pn 2 rfl ?_)))))))))
  refine ln (jf (sr (tys underlying200 rfl rfl (pn 2 rfl (ln (jtr (pn 1 rfl (ln (RC.seq ?_)))))))))
  refine sr (pn 1 rfl ?_)
  obtain ⟨t29, hg30, h⟩ := h.bind
  have hc := errors_joinError_Unwrap.ok hg30 hS.p2.p2
  refine RL.e (OW.invoke (F := 302) (u' := pV b1) (ls := []) rfl rfl (fun w => by kernel_rfl) call302 rfl hc) rfl rfl ?_
  rintro _ w ⟨rfl, hS⟩
  refine r0 2 rfl (ln (RC.block (RC.unroll (RQ.round (sr (pn 1 rfl (ln (RC.seq (jt (sk (RC.seq ?_)))))))))))
  refine RC.block (sr (RL.s (Vl.indexAddr (a'' := (ad A2).add 0) underlying201 sizeOf85 rfl rfl (hS.litAdr 0 rfl (by decide)) (by decide) (by decide) rfl) rfl (RL.s (Vl.load isAgg85 rfl (hS.litCell 0 rfl rfl)) rfl (pn 1 rfl (ln (RC.seq (sr (pn 1 rfl (RL.s (Vl.bn false rfl rfl) rfl (ln (jf ?_)))))))))))
  refine sk (sr (rr [0, 0, 3, 0] hS ?_))
  refine it fun w hS => cF (fun _ hg => errors_as_3.ok hg hS.p4.p4) call51 h rfl rfl rfl ?_
  rintro ⟨y38, y39⟩ h _ w ⟨rfl, hS⟩
  refine ln ?_
  refine RC.iteB 60 rfl h (fun hc40 h => ?_) fun hc40 h => ?_
  next =>
   refine jtr (pn 1 rfl (lr (ir (RQ.ret (ir (RQ.inB_ret (ir (RQ.inB_ret ?_))))))))
   cases h.some
   exact rt results51 rfl ⟨rfl, hS.d4.p3.p3⟩
  refine jf (RC.skip (RQ.inB_n (RQ.then_n (RC.region (pn 2 rfl (ln (RQ.round (sr (pn 1 rfl (ln (RC.seq (jt ?_))))))))))))
  refine sk (RC.seq (RC.block (sr (RL.s (Vl.indexAddr (a'' := (ad A2).add 1) underlying201 sizeOf85 rfl rfl (hS.litAdr 2 rfl (by decide)) (by decide) (by decide) rfl) rfl (RL.s (Vl.load isAgg85 rfl (hS.litCell 2 rfl rfl)) rfl (pn 1 rfl (ln (RC.seq (sr (pn 1 rfl (RL.s (Vl.bn false rfl rfl) rfl ?_)))))))))))
  refine ln (jfs (sr (rr [0, 0, 5, 0] hS ?_)))
  refine it fun w hS => cF (fun _ hg => errors_as.ok hg hS) call51 h rfl rfl rfl ?_
  rintro t44 h _ w ⟨rfl, hS⟩
  refine ln ?_
  refine RC.iteB 60 rfl h (fun hc46 h => ?_) fun hc46 h => ?_
  next =>
   refine jtr (pn 1 rfl (lr (ir (RQ.ret (ir (RQ.inB_ret (ir (RQ.inB_ret ?_))))))))
   cases h.some
   exact rt results51 rfl ⟨rfl, hS.d4.p3.p3⟩
  refine jf (RC.skip (RQ.inB_n (RQ.then_n (RC.region (pn 2 rfl (ln (RQ.round (sr (pn 1 rfl (ln (RC.seq (jf ?_))))))))))))
  refine RC.exit (RQ.exitT (RQ.exitT (RQ.inB_hit (tsr (pn 1 rfl (lr (RQ.inB_ret (ir (RQ.inB_ret ?_)))))))))
  cases h.some
  exact rt results51 rfl ⟨rfl, hS.d4.p3.p3⟩
def errors_As_2.f (a4 : model_flaw) (a5 : Int) (a7 : model_flaw) : Option (Bool × model_flaw) := ((errors_as_2.f a4 a5 a7).bind fun (y18, y19) => some (y18, y19))
theorem errors_As_2.ok {a4 a7 : model_flaw} {a5 : Int} {b1 c3 b6 : Nat} {A2 : Option Addr} (hG0 : GlobAt hf 0 (.iface 192 (.agg #[.pointer (some ⟨1, 85, none⟩)]))) {r : Bool × model_flaw} (h : errors_As_2.f a4 a5 a7 = some r) (hS : St B w (OSl 85 1 (.slice A2 2 c3) 2 [.iface 83 (.agg #[iV a4.at_, iV a4.why]), .iface 31 (iV a5)] :: Cl b1 [.slice A2 2 c3] 266 :: Cl b6 [iV a7.at_, iV a7.why] 83 :: l) hf) :
    Calls prog 24 #[.iface 264 (pV b1), .iface 87 (pV b6)] w (Ret fun v w => v = .bool r.1 ∧ St B w (OSl 85 1 (.slice A2 2 c3) 2 [.iface 83 (.agg #[iV a4.at_, iV a4.why]), .iface 31 (iV a5)] :: Cl b1 [.slice A2 2 c3] 266 :: Cl b6 [iV r.2.at_, iV r.2.why] 83 :: l) hf) := by
  have h := Holds.of h
  refine en func24 rfl ntmps24 rfl (sr (pn 1 rfl (ln (RC.seq (sr (pn 1 rfl (RL.s (Vl.bn false rfl rfl) rfl (ln (jfs ?_)))))))))
  refine RC.seq (sr (pn 1 rfl (RL.s (Vl.bn false rfl rfl) rfl (ln (jfs (sr (pn 1 rfl (RL.e (OW.externNew (ls := [.tmp 13]) (cs := [pV b6]) (T := 87) (v := fun b => .agg #[.pointer (some ⟨1, 87, none⟩), pV b, .int .u64 150]) hS rfl func48 (by kernel_rfl) (by kernel_rfl) (by kernel_rfl) (e := fun args => Extern.ReflectliteValue.unpack (args.getD 0 (.tuple #[]))) (by kernel_rfl) (fun w => by kernel_rfl)) rfl rfl ?_))))))))
  rintro _ w ⟨b14, rfl, hS⟩
  refine rr [0, 1] hS ?_
  refine fun b15 => it fun w hS => lnsr (rr [1] hS ?_)
  refine it fun w hS => RL.s (Vl.eX [.tmp 15] (.iface 192 (.agg #[.pointer (some ⟨1, 87, none⟩)])) Ex3 func49 rfl) rfl (pn 1 rfl (ln (RC.seq (sr (pn 1 rfl (RL.s (Vl.iX [] (.int .u8 22) (.pointer (some ⟨1, 87, none⟩)) Ex4 func218 rfl rfl) rfl (rr [0, 0, 1] hS ?_)))))))
  refine it fun w hS => ?_
  refine RL.sg (Vl.externAt (ls := [.tmp 21]) (v := .bool false) rfl func50 (by kernel_rfl) (by kernel_rfl) (by kernel_rfl) (e := Extern.ReflectliteValue.method (Extern.ReflectliteValue.valueError "reflectlite.Value.IsNil" 0) Extern.ReflectliteValue.isNil) (by kernel_rfl) (run_isNil (n := 150) (a := ⟨b14, 0, none⟩) (fun w => by kernel_rfl) underlying87 rfl (hS.cell 1 rfl rfl))) rfl rfl (pn 1 rfl (ln (jfs (sr (pn 1 rfl (RL.s (Vl.iX [] (.iface 192 (.agg #[.pointer (some ⟨1, 83, none⟩)])) (.agg #[.pointer (some ⟨1, 87, none⟩)]) Ex5 func240 rfl rfl) rfl (pn 1 rfl (ln (RC.seq (RC.seq ?_))))))))))
  refine RC.region (pn 1 rfl (RL.s (Vl.iX [] (.int .u8 25) (.pointer (some ⟨1, 83, none⟩)) Ex4 func218 rfl rfl) rfl (pn 3 rfl (RL.sg (Vl.load isAgg137 rfl (cellH_world hS.sub hG0)) rfl rfl (RL.sg (Vl.iX [.tmp 32] (.bool true) (.agg #[.pointer (some ⟨1, 83, none⟩)]) Ex6 func241 rfl rfl) rfl rfl (pn 2 rfl (ln (jfs (sr (rr [0, 0, 1, 0] hS ?_))))))))))
  refine it fun w hS => cF (fun _ hg => errors_as_2.ok hg hS.p1.p4.p4.p4) call51 h rfl rfl rfl ?_
  rintro ⟨y18, y19⟩ h _ w ⟨rfl, hS⟩
  refine pn 1 rfl (lr ?_)
  cases h.some
  exact rt results24 rfl ⟨rfl, hS.d3.d3⟩
def model_flaw_Unwrap.f (a1 : model_flaw) : Option (Int) := some a1.why
theorem model_flaw_Unwrap.ok {a1 : model_flaw} {r : Int} (h : model_flaw_Unwrap.f a1 = some r) (hS : St B w (l) hf) :
    Calls prog 227 #[.agg #[iV a1.at_, iV a1.why]] w (Ret fun v w => v = .iface 31 (iV r) ∧ St B w (l) hf) := by
  have h := Holds.of h
  refine en func227 rfl ntmps227 rfl (sr (rr [0, 0] hS ?_))
  refine fun b3 => it fun w hS => lnsr (rr [0, 1, 0, 0] hS ?_)
  refine it fun w hS => lr ?_
  cases h.some
  exact rt results227 rfl ⟨rfl, hS.d0⟩
def errors_is_4.f (a1 : model_flaw) (a2 : Int) (a3 : Bool) : Option (Bool) := (if a3 = true then ((model_flaw_Unwrap.f a1).bind fun t14 => (if t14 = a2 then some true else some false)) else ((model_flaw_Unwrap.f a1).bind fun t18 => some false))
theorem errors_is_4.ok {a1 : model_flaw} {a2 : Int} {a3 r : Bool} (h : errors_is_4.f a1 a2 a3 = some r) (hS : St B w (l) hf) :
    Calls prog 53 #[.iface 83 (.agg #[iV a1.at_, iV a1.why]), .iface 31 (iV a2), .bool a3] w (Ret fun v w => v = .bool r ∧ St B w (l) hf) := by
  have h := Holds.of h
  refine en func53 rfl ntmps53 rfl (sr (pn 1 rfl (ln (RC.block (RC.unroll (RQ.round (RC.block (RC.seq (sr (pn 2 rfl ?_))))))))))
  refine RL.iteB 15 rfl h (fun hc13 h => ?_) fun hc13 h => ?_
  next =>
   refine pn 2 rfl (RL.sg (Vl.ifaceNeq rfl rfl underlying85 rfl) rfl rfl (pn 1 rfl (ln (jfs (RC.seq (sr (pn 1 rfl (tno underlying203 rfl rfl (pn 5 rfl (ln ?_))))))))))
   refine sr (pn 6 rfl (ln (jfs (sr (pn 1 rfl (ln (RC.block (sr ?_))))))))
   refine tys underlying199 rfl rfl (pn 2 rfl (ln (jtr (pn 1 rfl (lnsr (pn 1 rfl ?_))))))
   obtain ⟨t14, hg15, h⟩ := h.bind
   have hc := model_flaw_Unwrap.ok hg15 hS
   refine RL.e (OW.invoke (F := 227) (u' := .agg #[iV a1.at_, iV a1.why]) (ls := []) rfl rfl (fun w => by kernel_rfl) call227 rfl hc) rfl rfl ?_
   rintro _ w ⟨rfl, hS⟩
   refine pn 1 rfl (lnsr (pn 1 rfl (RL.s (Vl.bn false rfl rfl) rfl (ln (jf (RC.skip (RQ.inB_n (RQ.inB_n (RQ.then_n (RQ.round (RC.block ?_)))))))))))
   refine RC.seq (sr (pn 2 rfl (RL.re 15 rfl (congrArg Value.bool (id hc13)) (pn 2 rfl (RL.sg (Vl.ifaceInt rfl rfl underlying85 underlying31 type31 rfl) rfl rfl (pn 1 rfl (ln ?_)))))))
   refine RC.iteP 19 rfl h (fun hc17 h => ?_) fun hc17 h => ?_
   next =>
    refine jtr (pn 1 rfl (lr (RQ.ret (ir (RQ.inB_ret ?_)))))
    obtain rfl := h.some
    exact rt results53 rfl ⟨rfl, hS⟩
   refine jfs (RC.seq (sr (pn 1 rfl (tno underlying203 rfl rfl (pn 5 rfl (lnsr (pn 6 rfl (ln ?_))))))))
   refine jfs (sr (pn 1 rfl (ln (RC.block (sr (tno underlying199 rfl rfl (pn 2 rfl (ln (jf ?_)))))))))
   refine sr (tno underlying200 rfl rfl (pn 2 rfl (ln (jf (sr (pn 1 rfl (lnsr (pn 1 rfl (RL.nil ?_)))))))))
   refine tr (RQ.inB_ret (ir (RQ.inB_ret ?_)))
   obtain rfl := h.some
   exact rt results53 rfl ⟨rfl, hS⟩
  refine pn 4 rfl (ln (jfs (RC.seq (sr (pn 1 rfl (tno underlying203 rfl rfl (pn 5 rfl (lnsr ?_))))))))
  refine pn 6 rfl (ln (jfs (sr (pn 1 rfl (ln (RC.block (sr (tys underlying199 rfl rfl (pn 2 rfl ?_)))))))))
  refine ln (jtr (pn 1 rfl (lnsr (pn 1 rfl ?_))))
  obtain ⟨t18, hg19, h⟩ := h.bind
  have hc := model_flaw_Unwrap.ok hg19 hS
  refine RL.e (OW.invoke (F := 227) (u' := .agg #[iV a1.at_, iV a1.why]) (ls := []) rfl rfl (fun w => by kernel_rfl) call227 rfl hc) rfl rfl ?_
  rintro _ w ⟨rfl, hS⟩
  refine pn 1 rfl (lnsr (pn 1 rfl (RL.s (Vl.bn false rfl rfl) rfl (ln (jf (RC.skip (RQ.inB_n (RQ.inB_n (RQ.then_n (RQ.round (RC.block ?_)))))))))))
  refine RC.seq (sr (pn 2 rfl (RL.re 15 rfl (congrArg Value.bool (eq_false_of hc13)) (pn 4 rfl (ln (jfs (RC.seq (sr (pn 1 rfl (tno underlying203 rfl rfl ?_))))))))))
  refine pn 5 rfl (lnsr (pn 6 rfl (ln (jfs (sr (pn 1 rfl (ln ?_)))))))
  refine RC.block (sr (tno underlying199 rfl rfl (pn 2 rfl (ln (jf (sr (tno underlying200 rfl rfl (pn 2 rfl (ln (jf (RC.seq ?_)))))))))))
  refine RC.region (pn 1 rfl (lnsr (pn 1 rfl (lr (RQ.inB_ret (ir (RQ.inB_ret ?_)))))))
  obtain rfl := h.some
  exact rt results53 rfl ⟨rfl, hS⟩
def errors_is_3.f (a4 : model_flaw) (a5 a6 : Int) (a7 : Bool) : Option (Bool) := (if a7 = true then ((errors_joinError_Unwrap.f a4 a5).bind fun _ => ((errors_is_4.f a4 a6 a7).bind fun t45 => (if t45 = true then some true else ((errors_is.f a5 a6 a7).bind fun t51 => (if t51 = true then some true else some false))))) else ((errors_joinError_Unwrap.f a4 a5).bind fun _ => ((errors_is_4.f a4 a6 a7).bind fun t59 => (if t59 = true then some true else ((errors_is.f a5 a6 a7).bind fun t65 => (if t65 = true then some true else some false))))))
theorem errors_is_3.ok {a4 : model_flaw} {a5 a6 : Int} {a7 r : Bool} {b1 c3 : Nat} {A2 : Option Addr} (h : errors_is_3.f a4 a5 a6 a7 = some r) (hS : St B w (OSl 85 1 (.slice A2 2 c3) 2 [.iface 83 (.agg #[iV a4.at_, iV a4.why]), .iface 31 (iV a5)] :: Cl b1 [.slice A2 2 c3] 266 :: l) hf) :
    Calls prog 53 #[.iface 264 (pV b1), .iface 31 (iV a6), .bool a7] w (Ret fun v w => v = .bool r ∧ St B w (OSl 85 1 (.slice A2 2 c3) 2 [.iface 83 (.agg #[iV a4.at_, iV a4.why]), .iface 31 (iV a5)] :: Cl b1 [.slice A2 2 c3] 266 :: l) hf) := by
  have h := Holds.of h
  refine en func53 rfl ntmps53 rfl (sr (pn 1 rfl (ln (RC.block (RC.unroll (RQ.round (RC.block (RC.seq (sr (pn 2 rfl ?_))))))))))
  refine RL.iteB 15 rfl h (fun hc39 h => ?_) fun hc39 h => ?_
  next =>
   refine pn 2 rfl (RL.sg (Vl.ifaceNeq rfl rfl underlying85 rfl) rfl rfl (pn 1 rfl (ln (jfs (RC.seq (sr (pn 1 rfl (tno underlying203 rfl rfl (pn 5 rfl (ln ?_))))))))))
   refine sr (pn 6 rfl (ln (jfs (sr (pn 1 rfl (ln (RC.block (sr ?_))))))))
   refine tno underlying199 rfl rfl (pn 2 rfl (ln (jf (sr (tys underlying200 rfl rfl (pn 2 rfl (ln (jtr (pn 1 rfl (RL.nil ?_))))))))))
   refine RQ.then_n (RC.seq (sr (pn 1 rfl ?_)))
   obtain ⟨t40, hg41, h⟩ := h.bind
   have hc := errors_joinError_Unwrap.ok hg41 hS
   refine RL.e (OW.invoke (F := 302) (u' := pV b1) (ls := []) rfl rfl (fun w => by kernel_rfl) call302 rfl hc) rfl rfl ?_
   rintro _ w ⟨rfl, hS⟩
   refine r0 2 rfl (ln (RC.block (RC.unroll (RQ.round (sr (pn 1 rfl (ln (RC.seq (jt (sk (RC.seq ?_)))))))))))
   refine RC.block (sr (RL.s (Vl.indexAddr (a'' := (ad A2).add 0) underlying201 sizeOf85 rfl rfl (hS.litAdr 0 rfl (by decide)) (by decide) (by decide) rfl) rfl (RL.s (Vl.load isAgg85 rfl (hS.litCell 0 rfl rfl)) rfl (pn 1 rfl (lnsr (pn 3 rfl (cF (fun _ hg => errors_is_4.ok hg hS) call53 h rfl rfl rfl ?_)))))))
   rintro t45 h _ w ⟨rfl, hS⟩
   refine ln ?_
   refine RC.iteB 52 rfl h (fun hc47 h => ?_) fun hc47 h => ?_
   next =>
    refine jtr (pn 1 rfl (lr (ir (RQ.ret (ir (RQ.inB_ret (ir (RQ.inB_ret ?_))))))))
    obtain rfl := h.some
    exact rt results53 rfl ⟨rfl, hS⟩
   refine jf (RC.skip (RQ.inB_n (RQ.then_n (RC.region (pn 2 rfl (ln (RQ.round (sr (pn 1 rfl (ln (RC.seq (jt ?_))))))))))))
   refine sk (RC.seq (RC.block (sr (RL.s (Vl.indexAddr (a'' := (ad A2).add 1) underlying201 sizeOf85 rfl rfl (hS.litAdr 0 rfl (by decide)) (by decide) (by decide) rfl) rfl (RL.s (Vl.load isAgg85 rfl (hS.litCell 0 rfl rfl)) rfl (pn 1 rfl (lnsr (pn 3 rfl (cF (fun _ hg => errors_is.ok hg hS) call53 h rfl rfl rfl ?_)))))))))
   rintro t51 h _ w ⟨rfl, hS⟩
   refine ln ?_
   refine RC.iteB 52 rfl h (fun hc53 h => ?_) fun hc53 h => ?_
   next =>
    refine jtr (pn 1 rfl (lr (ir (RQ.ret (ir (RQ.inB_ret (ir (RQ.inB_ret ?_))))))))
    obtain rfl := h.some
    exact rt results53 rfl ⟨rfl, hS⟩
   refine jf (RC.skip (RQ.inB_n (RQ.then_n (RC.region (pn 2 rfl (ln (RQ.round (sr (pn 1 rfl (ln (RC.seq (jf ?_))))))))))))
   refine RC.exit (RQ.exitT (RQ.exitT (RQ.inB_hit (tsr (pn 1 rfl (lr (RQ.inB_ret (ir (RQ.inB_ret ?_)))))))))
   obtain rfl := h.some
   exact rt results53 rfl ⟨rfl, hS⟩
  refine pn 4 rfl (ln (jfs (RC.seq (sr (pn 1 rfl (tno underlying203 rfl rfl (pn 5 rfl (lnsr ?_))))))))
  refine pn 6 rfl (ln (jfs (sr (pn 1 rfl (ln (RC.block (sr (tno underlying199 rfl rfl (pn 2 rfl ?_)))))))))
  refine ln (jf (sr (tys underlying200 rfl rfl (pn 2 rfl (ln (jtr (pn 1 rfl (ln (RC.seq ?_)))))))))
  refine sr (pn 1 rfl ?_)
  obtain ⟨t54, hg55, h⟩ := h.bind
  have hc := errors_joinError_Unwrap.ok hg55 hS
  refine RL.e (OW.invoke (F := 302) (u' := pV b1) (ls := []) rfl rfl (fun w => by kernel_rfl) call302 rfl hc) rfl rfl ?_
  rintro _ w ⟨rfl, hS⟩
  refine r0 2 rfl (ln (RC.block (RC.unroll (RQ.round (sr (pn 1 rfl (ln (RC.seq (jt (sk (RC.seq ?_)))))))))))
  refine RC.block (sr (RL.s (Vl.indexAddr (a'' := (ad A2).add 0) underlying201 sizeOf85 rfl rfl (hS.litAdr 0 rfl (by decide)) (by decide) (by decide) rfl) rfl (RL.s (Vl.load isAgg85 rfl (hS.litCell 0 rfl rfl)) rfl (pn 1 rfl (lnsr (pn 3 rfl (cF (fun _ hg => errors_is_4.ok hg hS) call53 h rfl rfl rfl ?_)))))))
  rintro t59 h _ w ⟨rfl, hS⟩
  refine ln ?_
  refine RC.iteB 52 rfl h (fun hc61 h => ?_) fun hc61 h => ?_
  next =>
   refine jtr (pn 1 rfl (lr (ir (RQ.ret (ir (RQ.inB_ret (ir (RQ.inB_ret ?_))))))))
   obtain rfl := h.some
   exact rt results53 rfl ⟨rfl, hS⟩
  refine jf (RC.skip (RQ.inB_n (RQ.then_n (RC.region (pn 2 rfl (ln (RQ.round (sr (pn 1 rfl (ln (RC.seq (jt ?_))))))))))))
  refine sk (RC.seq (RC.block (sr (RL.s (Vl.indexAddr (a'' := (ad A2).add 1) underlying201 sizeOf85 rfl rfl (hS.litAdr 0 rfl (by decide)) (by decide) (by decide) rfl) rfl (RL.s (Vl.load isAgg85 rfl (hS.litCell 0 rfl rfl)) rfl (pn 1 rfl (lnsr (pn 3 rfl (cF (fun _ hg => errors_is.ok hg hS) call53 h rfl rfl rfl ?_)))))))))
  rintro t65 h _ w ⟨rfl, hS⟩
  refine ln ?_
  refine RC.iteB 52 rfl h (fun hc67 h => ?_) fun hc67 h => ?_
  next =>
   refine jtr (pn 1 rfl (lr (ir (RQ.ret (ir (RQ.inB_ret (ir (RQ.inB_ret ?_))))))))
   obtain rfl := h.some
   exact rt results53 rfl ⟨rfl, hS⟩
  refine jf (RC.skip (RQ.inB_n (RQ.then_n (RC.region (pn 2 rfl (ln (RQ.round (sr (pn 1 rfl (ln (RC.seq (jf ?_))))))))))))
  refine RC.exit (RQ.exitT (RQ.exitT (RQ.inB_hit (tsr (pn 1 rfl (lr (RQ.inB_ret (ir (RQ.inB_ret ?_)))))))))
  obtain rfl := h.some
  exact rt results53 rfl ⟨rfl, hS⟩
def errors_Is_4.f (a4 : model_flaw) (a5 a6 : Int) : Option (Bool) := ((errors_is_3.f a4 a5 a6 true).bind fun t9 => some t9)
theorem errors_Is_4.ok {a4 : model_flaw} {a5 a6 : Int} {b1 c3 : Nat} {A2 : Option Addr} {r : Bool} (h : errors_Is_4.f a4 a5 a6 = some r) (hS : St B w (OSl 85 1 (.slice A2 2 c3) 2 [.iface 83 (.agg #[iV a4.at_, iV a4.why]), .iface 31 (iV a5)] :: Cl b1 [.slice A2 2 c3] 266 :: l) hf) :
    Calls prog 25 #[.iface 264 (pV b1), .iface 31 (iV a6)] w (Ret fun v w => v = .bool r ∧ St B w (OSl 85 1 (.slice A2 2 c3) 2 [.iface 83 (.agg #[iV a4.at_, iV a4.why]), .iface 31 (iV a5)] :: Cl b1 [.slice A2 2 c3] 266 :: l) hf) := by
  have h := Holds.of h
  refine en func25 rfl ntmps25 rfl (sr (pn 1 rfl (ln (RC.seq (sr (pn 1 rfl (RL.s (Vl.bn false rfl rfl) rfl (pn 2 rfl (RL.sg (Vl.bn false rfl rfl) rfl rfl (pn 1 rfl (ln ?_)))))))))))
  refine jfs (sr (pn 1 rfl (RL.s (Vl.eX [.tmp 15] (.iface 192 (.agg #[.pointer (some ⟨1, 31, none⟩)])) Ex1 func52 rfl) rfl (RL.s (Vl.iX [] (.bool true) (.agg #[.pointer (some ⟨1, 31, none⟩)]) Ex7 func239 rfl rfl) rfl (pn 1 rfl (lnsr (pn 3 rfl (cF (fun _ hg => errors_is_3.ok hg hS) call53 h rfl rfl rfl ?_))))))))
  rintro t9 h _ w ⟨rfl, hS⟩
  refine pn 1 rfl (lr ?_)
  obtain rfl := h.some
  exact rt results25 rfl ⟨rfl, hS⟩
def model_lane.f (a1 : api_Model) (a11 : Int) : Option (Bool) := (if 0 ≤ a11 then some (decide (a11 < (a1.Progs.length : Int))) else some false)
theorem model_lane.ok {a1 : api_Model} {a11 : Int} {A2 A5 A8 : Option Addr} {c3 c6 c9 : Nat} (hr4 : SlR (Rep.sl E_api_Instr.rep) hf A2 c3 a1.Progs) (hr7 : SlR E_api_Link.rep hf A5 c6 a1.Links) (hr10 : SlR E_api_Start.rep hf A8 c9 a1.Starts) {r : Bool} (h : model_lane.f a1 a11 = some r) (hS : St B w (l) hf) :
    Calls prog 54 #[.agg (C_api_Model a1 A2 c3 A5 c6 A8 c9).toArray, iV a11] w (Ret fun v w => v = .bool r ∧ St B w (l) hf) := by
  have h := Holds.of h
  refine en func54 rfl ntmps54 rfl (sr (rr [0, 0] hS ?_))
  refine fun b14 => it fun w hS => lnsr (pn 3 rfl ?_)
  refine RL.iteP 7 rfl h (fun hc15 h => ?_) fun hc15 h => ?_
  next =>
   refine rr [0, 0, 1, 0, 0, 0, 0] hS ?_
   refine it fun w hS => lr ?_
   cases h.some
   exact rt results54 rfl ⟨rfl, hS.d0⟩
  refine pn 7 rfl (lr ?_)
  obtain rfl := h.some
  exact rt results54 rfl ⟨rfl, hS.d0⟩
end
end Go.Proofs.Gx
