/-
  The walks of functions, each with what it computes: printed by wip/gx.py.
-/
import Derived.Test.YtbkjjaikmngciaaGreatDoorW0
import Derived.Test.YtbkjjaikmngciaaGreatDoorW3
set_option linter.unusedVariables false
set_option linter.unusedSimpArgs false
set_option maxRecDepth 100000
set_option maxHeartbeats 4000000
namespace Go.Proofs.Gx
open Go.Sl Tryz
variable {B : Base} {w : World} {l : List HProp} {hf : Hp}
noncomputable section
def code_Check.f (a1 : List api_Instr) : Option (Int) := ((code_check.f a1).bind fun t20 => match t20 with | .inl y22 => ((errors_Is.f y22 2).bind fun t23 => (if t23 = true then some 2 else some 130)) | .inr (.inl (y26, y27)) => ((errors_Is_2.f y26 y27 2).bind fun t29 => (if t29 = true then some 2 else some 130)) | .inr (.inr (_)) => ((errors_Is_3.f 2).bind fun t32 => (if t32 = true then some 2 else some 0)))
theorem code_Check.ok {a1 : List api_Instr} {A2 : Option Addr} {c3 : Nat} (hr4 : SlR E_api_Instr.rep hf A2 c3 a1) {r : Int} (h : code_Check.f a1 = some r) (hS : St B w (l) hf) :
    Calls prog 150 #[sV A2 a1 c3] w (Ret fun v w => v = iV r ∧ St B w (l) hf) := by
  have h := Holds.of h
  refine en func150 rfl ntmps150 rfl (sr (pn 1 rfl (ln (RC.seq (sr (pn 1 rfl ?_))))))
  obtain ⟨t20, hg21, h⟩ := h.bind
  have hc := code_check.ok hr4 hg21 hS
  rcases t20 with y22 | ⟨y26, y27⟩ | _
  · refine RL.e (OW.callF (ls := [.tmp 4]) rfl call206 hc) rfl rfl ?_
    rintro _ w ⟨rfl, hS⟩
    refine pn 1 rfl (ln (RC.block (sr (r0 2 rfl (cF (fun _ hg => errors_Is.ok hg hS) call79 h rfl rfl rfl ?_)))))
    rintro t23 h _ w ⟨rfl, hS⟩
    refine pn 1 rfl (ln ?_)
    refine RC.iteB 6 rfl h (fun hc25 h => ?_) fun hc25 h => ?_
    next =>
     refine jtr (pn 1 rfl (lr (ir ?_)))
     obtain rfl := h.some
     exact rt results150 rfl ⟨rfl, hS⟩
    refine jf (sr (pn 1 rfl (RL.s (Vl.bn true rfl rfl) rfl (pn 1 rfl (ln (jtr (pn 1 rfl (lr (RQ.inB_ret ?_)))))))))
    refine RQ.ret ?_
    obtain rfl := h.some
    exact rt results150 rfl ⟨rfl, hS⟩
  · refine RL.e (OW.callF (ls := [.tmp 4]) rfl call206 hc) rfl rfl ?_
    rintro _ w ⟨b28, rfl, hS⟩
    refine pn 1 rfl (ln (RC.block (sr (r0 2 rfl (cF (fun _ hg => errors_Is_2.ok hg hS) call79 h rfl rfl rfl ?_)))))
    rintro t29 h _ w ⟨rfl, hS⟩
    refine pn 1 rfl (ln ?_)
    refine RC.iteB 6 rfl h (fun hc31 h => ?_) fun hc31 h => ?_
    next =>
     refine jtr (pn 1 rfl (lr (ir ?_)))
     obtain rfl := h.some
     exact rt results150 rfl ⟨rfl, hS.d0⟩
    refine jf (sr (pn 1 rfl (RL.s (Vl.bn true rfl rfl) rfl (pn 1 rfl (ln (jtr (pn 1 rfl (lr (RQ.inB_ret ?_)))))))))
    refine RQ.ret ?_
    obtain rfl := h.some
    exact rt results150 rfl ⟨rfl, hS.d0⟩
  refine RL.e (OW.callF (ls := [.tmp 4]) rfl call206 hc) rfl rfl ?_
  rintro _ w ⟨rfl, hS⟩
  refine pn 1 rfl (ln (RC.block (sr (r0 2 rfl (cF (fun _ hg => errors_Is_3.ok hg hS) call79 h rfl rfl rfl ?_)))))
  rintro t32 h _ w ⟨rfl, hS⟩
  refine pn 1 rfl (ln ?_)
  refine RC.iteB 6 rfl h (fun hc34 h => ?_) fun hc34 h => ?_
  next =>
   refine jtr (pn 1 rfl (lr (ir ?_)))
   obtain rfl := h.some
   exact rt results150 rfl ⟨rfl, hS⟩
  refine jf (sr (pn 1 rfl (RL.s (Vl.bn false rfl rfl) rfl (pn 1 rfl (ln (jf (RC.skip (RQ.inB_n (tsr (pn 1 rfl (RL.nil ?_)))))))))))
  refine tr ?_
  obtain rfl := h.some
  exact rt results150 rfl ⟨rfl, hS⟩
def errors_Join.f (a3 : model_flaw) (a4 : Int) : Option (model_flaw × Int) := some (a3, a4)
theorem errors_Join.ok {a3 : model_flaw} {a4 : Int} {A1 : Option Addr} {c2 : Nat} {r : model_flaw × Int} (h : errors_Join.f a3 a4 = some r) (hS : St B w (OSl 53 1 (.slice A1 2 c2) 2 [.iface 200 (.agg #[iV a3.at_, iV a3.why]), .iface 38 (iV a4)] :: l) hf) :
    Calls prog 151 #[.slice A1 2 c2] w (Ret fun v w => ∃ (b_1 : Nat) (A_2 : Option Addr) (c_3 : Nat), v = .iface 368 (pV b_1) ∧ St B w (Cl b_1 [.slice A_2 2 c_3] 370 :: OSl 53 1 (.slice A_2 2 c_3) 2 [.iface 200 (.agg #[iV r.1.at_, iV r.1.why]), .iface 38 (iV r.2)] :: OSl 53 1 (.slice A1 2 c2) 2 [.iface 200 (.agg #[iV a3.at_, iV a3.why]), .iface 38 (iV a4)] :: l) hf) := by
  have h := Holds.of h
  refine en func151 rfl ntmps151 rfl (sr (pn 1 rfl (lnsr (pn 1 rfl (ln (RC.seq (sr (r0 3 rfl (RL.nil ?_)))))))))
  refine RQ.then_n (RC.block (RC.unroll (RQ.round (sr (pn 1 rfl (ln (RC.seq (jt (sk (RC.seq (RC.block (RC.seq ?_))))))))))))
  refine RC.region (RL.s (Vl.indexAddr (a'' := (ad A1).add 0) underlying155 sizeOf53 rfl rfl (hS.litAdr 0 rfl (by decide)) (by decide) (by decide) rfl) rfl (RL.s (Vl.load isAgg53 rfl (hS.litCell 0 rfl rfl)) rfl (pn 1 rfl (lnsr (pn 1 rfl (RL.s (Vl.bn true rfl rfl) rfl (ln (jt (RC.region (pn 3 rfl (RL.nil ?_)))))))))))
  refine RQ.inB_n (RQ.then_n (RC.region (pn 2 rfl (ln (RQ.round (sr (pn 1 rfl (ln (RC.seq (jt (sk ?_)))))))))))
  refine RC.seq (RC.block (sr (RL.s (Vl.indexAddr (a'' := (ad A1).add 1) underlying155 sizeOf53 rfl rfl (hS.litAdr 0 rfl (by decide)) (by decide) (by decide) rfl) rfl (RL.s (Vl.load isAgg53 rfl (hS.litCell 0 rfl rfl)) rfl (pn 1 rfl (lnsr (pn 1 rfl (RL.s (Vl.bn true rfl rfl) rfl (ln (jt ?_))))))))))
  refine RC.region (pn 3 rfl (RL.nil (RQ.inB_n (RQ.then_n (RC.region (pn 2 rfl (ln (RQ.round (sr (pn 1 rfl (ln (RC.seq ?_))))))))))))
  refine jf (RC.exit (RQ.exitT (RQ.exitT (RQ.inB_hit (RQ.then_n (RC.seq (sr (pn 2 rfl (ln (jfs (RC.seq ?_)))))))))))
  refine RC.region (pn 1 rfl (RL.e (OW.make0L (c := 2) (sz := 1) hS underlying155 type53 rfl rfl rfl rfl (by decide) (by decide)) rfl rfl ?_))
  rintro _ w ⟨b31, rfl, hS⟩
  refine rr [0, 0, 0] hS ?_
  refine fun b32 => it fun w hS => ln (RC.seq (sr (r0 3 rfl (ln (RC.block (RC.unroll (RQ.round (sr (pn 1 rfl (RL.nil ?_))))))))))
  refine RQ.then_n (RC.seq (jt (sk (RC.seq (RC.block (sr (RL.s (Vl.indexAddr (a'' := (ad A1).add 0) underlying155 sizeOf53 rfl rfl (hS.litAdr 2 rfl (by decide)) (by decide) (by decide) rfl) rfl (RL.s (Vl.load isAgg53 rfl (hS.litCell 2 rfl rfl)) rfl (pn 1 rfl (lnsr ?_))))))))))
  refine pn 1 rfl (RL.s (Vl.bn true rfl rfl) rfl (ln (jt (RC.region (rr [0, 0, 0, 0, 1, 0] hS ?_)))))
  refine it fun w hS => RL.e (OW.buildSliceR (sz := 1) (cs := [.iface 200 (.agg #[iV a3.at_, iV a3.why])]) hS underlying155 zeroValue53 sizeOf53 (parts := [(0, .tmp 39)]) rfl rfl (by decide) (by decide) (by kernel_rfl)) rfl rfl ?_
  rintro _ w ⟨b48, rfl, hS⟩
  refine RL.e (OW.appendL (k := 1) (es := [.iface 200 (.agg #[iV a3.at_, iV a3.why])]) 2 0 hS rfl rfl underlying155 type53 rfl rfl rfl rfl (by decide) (by decide) rfl rfl rfl (by decide) rfl rfl rfl) rfl rfl ?_
  rintro _ w ⟨A49, c50, rfl, hS⟩
  have hS : St B w (_ :: _ :: _ :: _ :: l) hf := hS
  refine rr [0, 0, 3] hS ?_
  refine it fun w hS => RL.nil (RQ.inB_n (RQ.then_n (RC.region (pn 2 rfl (ln (RQ.round (sr (pn 1 rfl (ln (RC.seq (jt ?_)))))))))))
  refine sk (RC.seq (RC.block (sr (RL.s (Vl.indexAddr (a'' := (ad A1).add 1) underlying155 sizeOf53 rfl rfl (hS.litAdr 3 rfl (by decide)) (by decide) (by decide) rfl) rfl (RL.s (Vl.load isAgg53 rfl (hS.litCell 3 rfl rfl)) rfl (pn 1 rfl (lnsr (pn 1 rfl (RL.s (Vl.bn true rfl rfl) rfl (RL.nil ?_))))))))))
  refine RQ.then_n (jt (RC.region (rr [0, 0, 0, 0, 3, 0] hS ?_)))
  refine it fun w hS => RL.e (OW.buildSliceR (sz := 1) (cs := [.iface 38 (iV a4)]) hS underlying155 zeroValue53 sizeOf53 (parts := [(0, .tmp 39)]) rfl rfl (by decide) (by decide) (by kernel_rfl)) rfl rfl ?_
  rintro _ w ⟨b54, rfl, hS⟩
  refine RL.e (OW.appendL (k := 2) (es := [.iface 200 (.agg #[iV a3.at_, iV a3.why]), .iface 38 (iV a4)]) 1 0 hS rfl rfl underlying155 type53 rfl rfl rfl rfl (by decide) (by decide) rfl rfl rfl (by decide) rfl rfl rfl) rfl rfl ?_
  rintro _ w ⟨A55, c56, rfl, hS⟩
  have hS : St B w (_ :: _ :: _ :: _ :: _ :: l) hf := hS
  refine rr [0, 0, 4] hS ?_
  refine it fun w hS => RL.nil (RQ.inB_n (RQ.then_n (RC.region (pn 2 rfl (ln (RQ.round (sr (pn 1 rfl (ln (RC.seq (jf ?_)))))))))))
  refine RC.exit (RQ.exitT (RQ.exitT (RQ.inB_hit (tsr (r0 3 rfl (lr ?_))))))
  cases h.some
  exact rt results151 rfl ⟨b32, A55, c56, rfl, hS.d1.d1.p1⟩
def model_programs.l2b (a1 : api_Model) : Int → Option ((Int) ⊕ ((model_flaw × Int) ⊕ (Unit)))
  | (x150) => (if x150 < (a1.Progs.length : Int) then (if 0 ≤ x150 then ((code_Check.f (nth a1.Progs x150)).bind fun t210 => (if t210 = 0 then some (.inl (IntKind.i64.wrap (x150 + 1))) else ((errors_Join.f (⟨x150, 130⟩ : model_flaw) t210).bind fun (y216, y217) => some (.inr (.inl (y216, y217)))))) else none) else some (.inr (.inr (()))))
def model_programs.l2 (a1 : api_Model) (s : Int) : Option ((model_flaw × Int) ⊕ (Unit)) := loopR (model_programs.l2b a1) s
def model_programs.f (a1 : api_Model) : Option ((model_flaw × Int) ⊕ (Unit)) := model_programs.l2 a1 (0)
theorem model_programs.ok {a1 : api_Model} {A2 A5 A8 : Option Addr} {c3 c6 c9 : Nat} (hr4 : SlR (Rep.sl E_api_Instr.rep) hf A2 c3 a1.Progs) (hr7 : SlR E_api_Link.rep hf A5 c6 a1.Links) (hr10 : SlR E_api_Start.rep hf A8 c9 a1.Starts) {r : (model_flaw × Int) ⊕ (Unit)} (h : model_programs.f a1 = some r) (hS : St B w (l) hf) :
    Calls prog 106 #[.agg (C_api_Model a1 A2 c3 A5 c6 A8 c9).toArray] w (Ret fun v w => match (generalizing := false) r with | .inl r_ => ∃ (b_1 : Nat) (A_2 : Option Addr) (c_3 : Nat), v = .iface 368 (pV b_1) ∧ St B w (Cl b_1 [.slice A_2 2 c_3] 370 :: OSl 53 1 (.slice A_2 2 c_3) 2 [.iface 200 (.agg #[iV r_.1.at_, iV r_.1.why]), .iface 38 (iV r_.2)] :: l) hf | .inr (r_) => v = .nilIface ∧ St B w (l) hf) := by
  have h := Holds.of h
  refine en func106 rfl ntmps106 rfl (sr (rr [0, 0] hS ?_))
  refine fun b116 => it fun w hS => ln (RC.seq (sr (rr [0, 1, 0, 0] hS ?_)))
  refine it fun w hS => ln (RC.block (fun a ha => lp h (fun (s : Int) a w => ∃ x150, s = (x150) ∧ Has 26 [(7, sV A2 a1.Progs c3), (8, iV (a1.Progs.length : Int)), (9, iV x150)] a ∧ St B w (l) hf) ⟨_, rfl, ha.tE rfl, hS.d0⟩ ?_))
  rintro G186 x150 a w ⟨_, rfl, ha, hS⟩ h
  refine ro ha (sr (pn 1 rfl (ln (RC.seq ?_))))
  refine RC.iteP 10 rfl h (fun hc188 h => ?_) fun hc188 h => ?_
  next =>
   refine jt (sk (RC.seq (RC.block (sr (pn 1 rfl ?_)))))
   obtain ⟨hq205, h⟩ := h.req
   refine RL.s (Vl.indexAddr underlying29 sizeOf72 rfl rfl (hr4.2.adr hq205 hc188) hq205 hc188 rfl) rfl ?_
   obtain ⟨_, _, ⟨A206, c207, rfl, hr208⟩, hl209⟩ := hr4.2.elem hq205 hc188
   refine RL.s (Vl.load isAgg72 rfl (cellH_world hS.sub (hl209 0 _ rfl))) rfl (pn 2 rfl (lnsr (pn 1 rfl (cF (fun _ hg => code_Check.ok hr208 hg hS) call150 h rfl rfl rfl ?_))))
   rintro t210 h _ w ⟨rfl, hS⟩
   refine pn 1 rfl (lnsr (pn 2 rfl (ln ?_)))
   refine RC.iteN 17 rfl h (fun hc212 h => ?_) fun hc212 h => ?_
   next =>
    refine jf (RC.skip (RQ.inB_n (RQ.then_n (RC.region (pn 2 rfl (RL.nil ?_))))))
    exact fun a ha => ⟨_, h.some, _, rfl, ha.tE rfl, hS⟩
   refine jtr (r0 5 rfl (RL.e (OW.buildSliceR (sz := 1) (cs := [.iface 200 (.agg #[iV x150, iV 130]), .iface 38 (iV t210)]) hS underlying155 zeroValue53 sizeOf53 (parts := [(0, .tmp 20), (1, .tmp 22)]) rfl rfl (by decide) (by decide) (by kernel_rfl)) rfl rfl ?_))
   rintro _ w ⟨b213, rfl, hS⟩
   refine cF (fun _ hg => errors_Join.ok hg hS) call151 h rfl rfl rfl ?_
   rintro ⟨y216, y217⟩ h _ w ⟨b218, A219, c220, rfl, hS⟩
   refine pn 1 rfl (lr (ir ?_))
   have h := h.inrS
   refine RQ.ret (ir ?_)
   cases h.some
   exact rt results106 rfl ⟨b218, A219, c220, rfl, hS.d2⟩
  refine jf (RC.exit (RQ.exitT ?_))
  have h := h.inrS
  refine RQ.exitT (RQ.inB_hit (tsr (pn 1 rfl (lr ?_))))
  cases h.some
  exact rt results106 rfl ⟨rfl, hS⟩
def errors_joinError_Unwrap.f (a4 : model_flaw) (a5 : Int) : Option (Unit) := some ()
theorem errors_joinError_Unwrap.ok {a4 : model_flaw} {a5 : Int} {b1 c3 : Nat} {A2 : Option Addr} {r : Unit} (h : errors_joinError_Unwrap.f a4 a5 = some r) (hS : St B w (OSl 53 1 (.slice A2 2 c3) 2 [.iface 200 (.agg #[iV a4.at_, iV a4.why]), .iface 38 (iV a5)] :: Cl b1 [.slice A2 2 c3] 370 :: l) hf) :
    Calls prog 382 #[pV b1] w (Ret fun v w => v = .slice A2 2 c3 ∧ St B w (OSl 53 1 (.slice A2 2 c3) 2 [.iface 200 (.agg #[iV a4.at_, iV a4.why]), .iface 38 (iV a5)] :: Cl b1 [.slice A2 2 c3] 370 :: l) hf) := by
  have h := Holds.of h
  refine en func382 rfl ntmps382 rfl (sr (pn 1 rfl (lnsr (rr [0, 0, 0, 2, 0] hS ?_))))
  refine it fun w hS => lr ?_
  exact rt results382 rfl ⟨rfl, hS⟩
def errors_as_3.f (a1 a3 : model_flaw) : Option (Bool × model_flaw) := some (true, a1)
theorem errors_as_3.ok {a1 a3 : model_flaw} {b2 b4 : Nat} {r : Bool × model_flaw} (h : errors_as_3.f a1 a3 = some r) (hS : St B w (Cl b2 [iV a3.at_, iV a3.why] 200 :: Cl b4 [pV b2] 201 :: l) hf) :
    Calls prog 38 #[.iface 200 (.agg #[iV a1.at_, iV a1.why]), .iface 201 (pV b2), .agg #[.pointer (some ⟨9, 201, none⟩), pV b4, .int .u64 150], .iface 144 (.agg #[.pointer (some ⟨9, 200, none⟩)])] w (Ret fun v w => v = .bool r.1 ∧ St B w (Cl b2 [iV r.2.at_, iV r.2.why] 200 :: Cl b4 [pV b2] 201 :: l) hf) := by
  have h := Holds.of h
  refine en func38 rfl ntmps38 rfl (sr (rr [0, 0] hS ?_))
  refine fun b8 => it fun w hS => ln (RC.block (RC.unroll (RQ.round (RC.block (RC.seq (sr (pn 1 rfl (RL.s (Vl.eX [.tmp 16] (.iface 144 (.agg #[.pointer (some ⟨9, 200, none⟩)])) Ex1 func52 rfl) rfl (pn 1 rfl ?_)))))))))
  refine RL.s (Vl.iX [.tmp 18] (.bool true) (.agg #[.pointer (some ⟨9, 200, none⟩)]) Ex2 func305 rfl rfl) rfl (ln (jtr (rr [1] hS ?_)))
  refine it fun w hS => RL.s (Vl.externAt (ls := [.tmp 20]) (v := .agg #[.pointer (some ⟨9, 200, none⟩), pV b2, .int .u64 409]) rfl func53 (by kernel_rfl) (by kernel_rfl) (by kernel_rfl) (e := Extern.ReflectliteValue.method (Extern.ReflectliteValue.valueError "reflectlite.Value.Elem" 0) Extern.ReflectliteValue.elem) (by kernel_rfl) (run_elemV (n := 150) (a := ⟨b4, 0, none⟩) (fun w => by kernel_rfl) underlying201 rfl (hS.cell 2 rfl rfl) (fun w => by kernel_rfl) (fun w => by kernel_rfl))) rfl (pn 1 rfl (RL.e (OW.externNew (ls := [.tmp 22]) (cs := [iV a1.at_, iV a1.why]) (T := 200) (v := fun b => .agg #[.pointer (some ⟨9, 200, none⟩), pV b, .int .u64 153]) hS rfl func35 (by kernel_rfl) (by kernel_rfl) (by kernel_rfl) (e := fun args => Extern.ReflectliteValue.unpack (args.getD 0 (.tuple #[]))) (by kernel_rfl) (fun w => by kernel_rfl)) rfl rfl ?_))
  rintro _ w ⟨b10, rfl, hS⟩
  refine RL.e (OW.setV (ls := [.tmp 21, .tmp 23]) (val := .agg #[iV a1.at_, iV a1.why]) (vs := [iV a1.at_, iV a1.why]) (n := 409) (m := 153) (a2 := ⟨b10, 0, none⟩) 2 hS rfl rfl func54 (by kernel_rfl) (by kernel_rfl) (by kernel_rfl) (by kernel_rfl) (fun w => by kernel_rfl) (fun w => by kernel_rfl) rfl (fun w => by kernel_rfl) (run_loadVarA (vs := [iV a1.at_, iV a1.why]) isAgg200 sizeOf200 rfl (hS.cellsAt 0 rfl rfl)) rfl sizeOf200 rfl rfl rfl rfl) rfl rfl ?_
  rintro _ w ⟨rfl, hS⟩
  have hS : St B w (_ :: _ :: _ :: _ :: l) hf := hS
  refine lnsr (pn 1 rfl (lr (RQ.ret (ir (RQ.inB_ret ?_)))))
  cases h.some
  exact rt results38 rfl ⟨rfl, hS.d0.d0⟩
def errors_as_2.f (a4 : model_flaw) (a5 : Int) (a7 : model_flaw) : Option (Bool × model_flaw) := ((errors_joinError_Unwrap.f a4 a5).bind fun _ => ((errors_as_3.f a4 a7).bind fun (y38, y39) => (if y38 = true then some (true, y39) else ((errors_as.f a5 y39).bind fun t44 => (if t44 = true then some (true, y39) else some (false, y39))))))
theorem errors_as_2.ok {a4 a7 : model_flaw} {a5 : Int} {b1 c3 b6 b8 : Nat} {A2 : Option Addr} {r : Bool × model_flaw} (h : errors_as_2.f a4 a5 a7 = some r) (hS : St B w (OSl 53 1 (.slice A2 2 c3) 2 [.iface 200 (.agg #[iV a4.at_, iV a4.why]), .iface 38 (iV a5)] :: Cl b1 [.slice A2 2 c3] 370 :: Cl b6 [iV a7.at_, iV a7.why] 200 :: Cl b8 [pV b6] 201 :: l) hf) :
    Calls prog 38 #[.iface 368 (pV b1), .iface 201 (pV b6), .agg #[.pointer (some ⟨9, 201, none⟩), pV b8, .int .u64 150], .iface 144 (.agg #[.pointer (some ⟨9, 200, none⟩)])] w (Ret fun v w => v = .bool r.1 ∧ St B w (OSl 53 1 (.slice A2 2 c3) 2 [.iface 200 (.agg #[iV a4.at_, iV a4.why]), .iface 38 (iV a5)] :: Cl b1 [.slice A2 2 c3] 370 :: Cl b6 [iV r.2.at_, iV r.2.why] 200 :: Cl b8 [pV b6] 201 :: l) hf) := by
  have h := Holds.of h
  refine en func38 rfl ntmps38 rfl (sr (rr [0, 0] hS ?_))
  refine fun b28 => it fun w hS => ln (RC.block (RC.unroll (RQ.round (RC.block (RC.seq (sr (pn 1 rfl (RL.s (Vl.eX [.tmp 16] (.iface 144 (.agg #[.pointer (some ⟨9, 368, none⟩)])) Ex1 func52 rfl) rfl (pn 1 rfl ?_)))))))))
  refine RL.s (Vl.iX [.tmp 18] (.bool false) (.agg #[.pointer (some ⟨9, 368, none⟩)]) Ex2 func305 rfl rfl) rfl (ln (jfs (RC.seq (sr (pn 1 rfl (tno underlying149 rfl rfl (pn 5 rfl (lnsr ?_))))))))
  refine pn 6 rfl (ln (jfs (sr (pn 1 rfl (ln (RC.block (sr (tno underlying152 rfl rfl (pn 2 rfl ?_)))))))))
  refine ln (jf (sr (tys underlying154 rfl rfl (pn 2 rfl (ln (jtr (pn 1 rfl (ln (RC.seq ?_)))))))))
  refine sr (pn 1 rfl ?_)
  obtain ⟨t29, hg30, h⟩ := h.bind
  have hc := errors_joinError_Unwrap.ok hg30 hS.p2.p2
  refine RL.e (OW.invoke (F := 382) (u' := pV b1) (ls := []) rfl rfl (fun w => by kernel_rfl) call382 rfl hc) rfl rfl ?_
  rintro _ w ⟨rfl, hS⟩
  refine r0 2 rfl (ln (RC.block (RC.unroll (RQ.round (sr (pn 1 rfl (ln (RC.seq (jt (sk (RC.seq ?_)))))))))))
  refine RC.block (sr (RL.s (Vl.indexAddr (a'' := (ad A2).add 0) underlying155 sizeOf53 rfl rfl (hS.litAdr 0 rfl (by decide)) (by decide) (by decide) rfl) rfl (RL.s (Vl.load isAgg53 rfl (hS.litCell 0 rfl rfl)) rfl (pn 1 rfl (ln (RC.seq (sr (pn 1 rfl (RL.s (Vl.bn false rfl rfl) rfl (ln (jf ?_)))))))))))
  refine sk (sr (rr [0, 0, 3, 0] hS ?_))
  refine it fun w hS => cF (fun _ hg => errors_as_3.ok hg hS.p4.p4) call38 h rfl rfl rfl ?_
  rintro ⟨y38, y39⟩ h _ w ⟨rfl, hS⟩
  refine ln ?_
  refine RC.iteB 60 rfl h (fun hc40 h => ?_) fun hc40 h => ?_
  next =>
   refine jtr (pn 1 rfl (lr (ir (RQ.ret (ir (RQ.inB_ret (ir (RQ.inB_ret ?_))))))))
   cases h.some
   exact rt results38 rfl ⟨rfl, hS.d4.p3.p3⟩
  refine jf (RC.skip (RQ.inB_n (RQ.then_n (RC.region (pn 2 rfl (ln (RQ.round (sr (pn 1 rfl (ln (RC.seq (jt ?_))))))))))))
  refine sk (RC.seq (RC.block (sr (RL.s (Vl.indexAddr (a'' := (ad A2).add 1) underlying155 sizeOf53 rfl rfl (hS.litAdr 2 rfl (by decide)) (by decide) (by decide) rfl) rfl (RL.s (Vl.load isAgg53 rfl (hS.litCell 2 rfl rfl)) rfl (pn 1 rfl (ln (RC.seq (sr (pn 1 rfl (RL.s (Vl.bn false rfl rfl) rfl ?_)))))))))))
  refine ln (jfs (sr (rr [0, 0, 5, 0] hS ?_)))
  refine it fun w hS => cF (fun _ hg => errors_as.ok hg hS) call38 h rfl rfl rfl ?_
  rintro t44 h _ w ⟨rfl, hS⟩
  refine ln ?_
  refine RC.iteB 60 rfl h (fun hc46 h => ?_) fun hc46 h => ?_
  next =>
   refine jtr (pn 1 rfl (lr (ir (RQ.ret (ir (RQ.inB_ret (ir (RQ.inB_ret ?_))))))))
   cases h.some
   exact rt results38 rfl ⟨rfl, hS.d4.p3.p3⟩
  refine jf (RC.skip (RQ.inB_n (RQ.then_n (RC.region (pn 2 rfl (ln (RQ.round (sr (pn 1 rfl (ln (RC.seq (jf ?_))))))))))))
  refine RC.exit (RQ.exitT (RQ.exitT (RQ.inB_hit (tsr (pn 1 rfl (lr (RQ.inB_ret (ir (RQ.inB_ret ?_)))))))))
  cases h.some
  exact rt results38 rfl ⟨rfl, hS.d4.p3.p3⟩
def errors_As_3.f (a4 : model_flaw) (a5 : Int) (a7 : model_flaw) : Option (Bool × model_flaw) := ((errors_as_2.f a4 a5 a7).bind fun (y18, y19) => some (y18, y19))
theorem errors_As_3.ok {a4 a7 : model_flaw} {a5 : Int} {b1 c3 b6 : Nat} {A2 : Option Addr} (hG0 : GlobAt hf 0 (.iface 144 (.agg #[.pointer (some ⟨9, 53, none⟩)]))) {r : Bool × model_flaw} (h : errors_As_3.f a4 a5 a7 = some r) (hS : St B w (OSl 53 1 (.slice A2 2 c3) 2 [.iface 200 (.agg #[iV a4.at_, iV a4.why]), .iface 38 (iV a5)] :: Cl b1 [.slice A2 2 c3] 370 :: Cl b6 [iV a7.at_, iV a7.why] 200 :: l) hf) :
    Calls prog 25 #[.iface 368 (pV b1), .iface 201 (pV b6)] w (Ret fun v w => v = .bool r.1 ∧ St B w (OSl 53 1 (.slice A2 2 c3) 2 [.iface 200 (.agg #[iV a4.at_, iV a4.why]), .iface 38 (iV a5)] :: Cl b1 [.slice A2 2 c3] 370 :: Cl b6 [iV r.2.at_, iV r.2.why] 200 :: l) hf) := by
  have h := Holds.of h
  refine en func25 rfl ntmps25 rfl (sr (pn 1 rfl (ln (RC.seq (sr (pn 1 rfl (RL.s (Vl.bn false rfl rfl) rfl (ln (jfs ?_)))))))))
  refine RC.seq (sr (pn 1 rfl (RL.s (Vl.bn false rfl rfl) rfl (ln (jfs (sr (pn 1 rfl (RL.e (OW.externNew (ls := [.tmp 13]) (cs := [pV b6]) (T := 201) (v := fun b => .agg #[.pointer (some ⟨9, 201, none⟩), pV b, .int .u64 150]) hS rfl func35 (by kernel_rfl) (by kernel_rfl) (by kernel_rfl) (e := fun args => Extern.ReflectliteValue.unpack (args.getD 0 (.tuple #[]))) (by kernel_rfl) (fun w => by kernel_rfl)) rfl rfl ?_))))))))
  rintro _ w ⟨b14, rfl, hS⟩
  refine rr [0, 1] hS ?_
  refine fun b15 => it fun w hS => lnsr (rr [1] hS ?_)
  refine it fun w hS => RL.s (Vl.eX [.tmp 15] (.iface 144 (.agg #[.pointer (some ⟨9, 201, none⟩)])) Ex3 func36 rfl) rfl (pn 1 rfl (ln (RC.seq (sr (pn 1 rfl (RL.s (Vl.iX [] (.int .u8 22) (.pointer (some ⟨9, 201, none⟩)) Ex4 func291 rfl rfl) rfl (rr [0, 0, 1] hS ?_)))))))
  refine it fun w hS => ?_
  refine RL.sg (Vl.externAt (ls := [.tmp 21]) (v := .bool false) rfl func37 (by kernel_rfl) (by kernel_rfl) (by kernel_rfl) (e := Extern.ReflectliteValue.method (Extern.ReflectliteValue.valueError "reflectlite.Value.IsNil" 0) Extern.ReflectliteValue.isNil) (by kernel_rfl) (run_isNil (n := 150) (a := ⟨b14, 0, none⟩) (fun w => by kernel_rfl) underlying201 rfl (hS.cell 1 rfl rfl))) rfl rfl (pn 1 rfl (ln (jfs (sr (pn 1 rfl (RL.s (Vl.iX [] (.iface 144 (.agg #[.pointer (some ⟨9, 200, none⟩)])) (.agg #[.pointer (some ⟨9, 201, none⟩)]) Ex5 func307 rfl rfl) rfl (pn 1 rfl (ln (RC.seq (RC.seq ?_))))))))))
  refine RC.region (pn 1 rfl (RL.s (Vl.iX [] (.int .u8 25) (.pointer (some ⟨9, 200, none⟩)) Ex4 func291 rfl rfl) rfl (pn 3 rfl (RL.sg (Vl.load isAgg113 rfl (cellH_world hS.sub hG0)) rfl rfl (RL.sg (Vl.iX [.tmp 32] (.bool true) (.agg #[.pointer (some ⟨9, 200, none⟩)]) Ex6 func308 rfl rfl) rfl rfl (pn 2 rfl (ln (jfs (sr (rr [0, 0, 1, 0] hS ?_))))))))))
  refine it fun w hS => cF (fun _ hg => errors_as_2.ok hg hS.p1.p4.p4.p4) call38 h rfl rfl rfl ?_
  rintro ⟨y18, y19⟩ h _ w ⟨rfl, hS⟩
  refine pn 1 rfl (lr ?_)
  cases h.some
  exact rt results25 rfl ⟨rfl, hS.d3.d3⟩
def model_flaw_Unwrap.f (a1 : model_flaw) : Option (Int) := some a1.why
theorem model_flaw_Unwrap.ok {a1 : model_flaw} {r : Int} (h : model_flaw_Unwrap.f a1 = some r) (hS : St B w (l) hf) :
    Calls prog 320 #[.agg #[iV a1.at_, iV a1.why]] w (Ret fun v w => v = .iface 38 (iV r) ∧ St B w (l) hf) := by
  have h := Holds.of h
  refine en func320 rfl ntmps320 rfl (sr (rr [0, 0] hS ?_))
  refine fun b3 => it fun w hS => lnsr (rr [0, 1, 0, 0] hS ?_)
  refine it fun w hS => lr ?_
  cases h.some
  exact rt results320 rfl ⟨rfl, hS.d0⟩
def errors_is_4.f (a1 : model_flaw) (a2 : Int) (a3 : Bool) : Option (Bool) := (if a3 = true then ((model_flaw_Unwrap.f a1).bind fun t14 => (if t14 = a2 then some true else some false)) else ((model_flaw_Unwrap.f a1).bind fun t18 => some false))
theorem errors_is_4.ok {a1 : model_flaw} {a2 : Int} {a3 r : Bool} (h : errors_is_4.f a1 a2 a3 = some r) (hS : St B w (l) hf) :
    Calls prog 109 #[.iface 200 (.agg #[iV a1.at_, iV a1.why]), .iface 38 (iV a2), .bool a3] w (Ret fun v w => v = .bool r ∧ St B w (l) hf) := by
  have h := Holds.of h
  refine en func109 rfl ntmps109 rfl (sr (pn 1 rfl (ln (RC.block (RC.unroll (RQ.round (RC.block (RC.seq (sr (pn 2 rfl ?_))))))))))
  refine RL.iteB 15 rfl h (fun hc13 h => ?_) fun hc13 h => ?_
  next =>
   refine pn 2 rfl (RL.sg (Vl.ifaceNeq rfl rfl underlying53 rfl) rfl rfl (pn 1 rfl (ln (jfs (RC.seq (sr (pn 1 rfl (tno underlying298 rfl rfl (pn 5 rfl (ln ?_))))))))))
   refine sr (pn 6 rfl (ln (jfs (sr (pn 1 rfl (ln (RC.block (sr ?_))))))))
   refine tys underlying152 rfl rfl (pn 2 rfl (ln (jtr (pn 1 rfl (lnsr (pn 1 rfl ?_))))))
   obtain ⟨t14, hg15, h⟩ := h.bind
   have hc := model_flaw_Unwrap.ok hg15 hS
   refine RL.e (OW.invoke (F := 320) (u' := .agg #[iV a1.at_, iV a1.why]) (ls := []) rfl rfl (fun w => by kernel_rfl) call320 rfl hc) rfl rfl ?_
   rintro _ w ⟨rfl, hS⟩
   refine pn 1 rfl (lnsr (pn 1 rfl (RL.s (Vl.bn false rfl rfl) rfl (ln (jf (RC.skip (RQ.inB_n (RQ.inB_n (RQ.then_n (RQ.round (RC.block ?_)))))))))))
   refine RC.seq (sr (pn 2 rfl (RL.re 15 rfl (congrArg Value.bool (id hc13)) (pn 2 rfl (RL.sg (Vl.ifaceInt rfl rfl underlying53 underlying38 type38 rfl) rfl rfl (pn 1 rfl (ln ?_)))))))
   refine RC.iteP 19 rfl h (fun hc17 h => ?_) fun hc17 h => ?_
   next =>
    refine jtr (pn 1 rfl (lr (RQ.ret (ir (RQ.inB_ret ?_)))))
    obtain rfl := h.some
    exact rt results109 rfl ⟨rfl, hS⟩
   refine jfs (RC.seq (sr (pn 1 rfl (tno underlying298 rfl rfl (pn 5 rfl (lnsr (pn 6 rfl (ln ?_))))))))
   refine jfs (sr (pn 1 rfl (ln (RC.block (sr (tno underlying152 rfl rfl (pn 2 rfl (ln (jf ?_)))))))))
   refine sr (tno underlying154 rfl rfl (pn 2 rfl (ln (jf (sr (pn 1 rfl (lnsr (pn 1 rfl (RL.nil ?_)))))))))
   refine tr (RQ.inB_ret (ir (RQ.inB_ret ?_)))
   obtain rfl := h.some
   exact rt results109 rfl ⟨rfl, hS⟩
  refine pn 4 rfl (ln (jfs (RC.seq (sr (pn 1 rfl (tno underlying298 rfl rfl (pn 5 rfl (lnsr ?_))))))))
  refine pn 6 rfl (ln (jfs (sr (pn 1 rfl (ln (RC.block (sr (tys underlying152 rfl rfl (pn 2 rfl ?_)))))))))
  refine ln (jtr (pn 1 rfl (lnsr (pn 1 rfl ?_))))
  obtain ⟨t18, hg19, h⟩ := h.bind
  have hc := model_flaw_Unwrap.ok hg19 hS
  refine RL.e (OW.invoke (F := 320) (u' := .agg #[iV a1.at_, iV a1.why]) (ls := []) rfl rfl (fun w => by kernel_rfl) call320 rfl hc) rfl rfl ?_
  rintro _ w ⟨rfl, hS⟩
  refine pn 1 rfl (lnsr (pn 1 rfl (RL.s (Vl.bn false rfl rfl) rfl (ln (jf (RC.skip (RQ.inB_n (RQ.inB_n (RQ.then_n (RQ.round (RC.block ?_)))))))))))
  refine RC.seq (sr (pn 2 rfl (RL.re 15 rfl (congrArg Value.bool (eq_false_of hc13)) (pn 4 rfl (ln (jfs (RC.seq (sr (pn 1 rfl (tno underlying298 rfl rfl ?_))))))))))
  refine pn 5 rfl (lnsr (pn 6 rfl (ln (jfs (sr (pn 1 rfl (ln ?_)))))))
  refine RC.block (sr (tno underlying152 rfl rfl (pn 2 rfl (ln (jf (sr (tno underlying154 rfl rfl (pn 2 rfl (ln (jf (RC.seq ?_)))))))))))
  refine RC.region (pn 1 rfl (lnsr (pn 1 rfl (lr (RQ.inB_ret (ir (RQ.inB_ret ?_)))))))
  obtain rfl := h.some
  exact rt results109 rfl ⟨rfl, hS⟩
def errors_is_3.f (a4 : model_flaw) (a5 a6 : Int) (a7 : Bool) : Option (Bool) := (if a7 = true then ((errors_joinError_Unwrap.f a4 a5).bind fun _ => ((errors_is_4.f a4 a6 a7).bind fun t45 => (if t45 = true then some true else ((errors_is.f a5 a6 a7).bind fun t51 => (if t51 = true then some true else some false))))) else ((errors_joinError_Unwrap.f a4 a5).bind fun _ => ((errors_is_4.f a4 a6 a7).bind fun t59 => (if t59 = true then some true else ((errors_is.f a5 a6 a7).bind fun t65 => (if t65 = true then some true else some false))))))
theorem errors_is_3.ok {a4 : model_flaw} {a5 a6 : Int} {a7 r : Bool} {b1 c3 : Nat} {A2 : Option Addr} (h : errors_is_3.f a4 a5 a6 a7 = some r) (hS : St B w (OSl 53 1 (.slice A2 2 c3) 2 [.iface 200 (.agg #[iV a4.at_, iV a4.why]), .iface 38 (iV a5)] :: Cl b1 [.slice A2 2 c3] 370 :: l) hf) :
    Calls prog 109 #[.iface 368 (pV b1), .iface 38 (iV a6), .bool a7] w (Ret fun v w => v = .bool r ∧ St B w (OSl 53 1 (.slice A2 2 c3) 2 [.iface 200 (.agg #[iV a4.at_, iV a4.why]), .iface 38 (iV a5)] :: Cl b1 [.slice A2 2 c3] 370 :: l) hf) := by
  have h := Holds.of h
  refine en func109 rfl ntmps109 rfl (sr (pn 1 rfl (ln (RC.block (RC.unroll (RQ.round (RC.block (RC.seq (sr (pn 2 rfl ?_))))))))))
  refine RL.iteB 15 rfl h (fun hc39 h => ?_) fun hc39 h => ?_
  next =>
   refine pn 2 rfl (RL.sg (Vl.ifaceNeq rfl rfl underlying53 rfl) rfl rfl (pn 1 rfl (ln (jfs (RC.seq (sr (pn 1 rfl (tno underlying298 rfl rfl (pn 5 rfl (ln ?_))))))))))
   refine sr (pn 6 rfl (ln (jfs (sr (pn 1 rfl (ln (RC.block (sr ?_))))))))
   refine tno underlying152 rfl rfl (pn 2 rfl (ln (jf (sr (tys underlying154 rfl rfl (pn 2 rfl (ln (jtr (pn 1 rfl (RL.nil ?_))))))))))
   refine RQ.then_n (RC.seq (sr (pn 1 rfl ?_)))
   obtain ⟨t40, hg41, h⟩ := h.bind
   have hc := errors_joinError_Unwrap.ok hg41 hS
   refine RL.e (OW.invoke (F := 382) (u' := pV b1) (ls := []) rfl rfl (fun w => by kernel_rfl) call382 rfl hc) rfl rfl ?_
   rintro _ w ⟨rfl, hS⟩
   refine r0 2 rfl (ln (RC.block (RC.unroll (RQ.round (sr (pn 1 rfl (ln (RC.seq (jt (sk (RC.seq ?_)))))))))))
   refine RC.block (sr (RL.s (Vl.indexAddr (a'' := (ad A2).add 0) underlying155 sizeOf53 rfl rfl (hS.litAdr 0 rfl (by decide)) (by decide) (by decide) rfl) rfl (RL.s (Vl.load isAgg53 rfl (hS.litCell 0 rfl rfl)) rfl (pn 1 rfl (lnsr (pn 3 rfl (cF (fun _ hg => errors_is_4.ok hg hS) call109 h rfl rfl rfl ?_)))))))
   rintro t45 h _ w ⟨rfl, hS⟩
   refine ln ?_
   refine RC.iteB 52 rfl h (fun hc47 h => ?_) fun hc47 h => ?_
   next =>
    refine jtr (pn 1 rfl (lr (ir (RQ.ret (ir (RQ.inB_ret (ir (RQ.inB_ret ?_))))))))
    obtain rfl := h.some
    exact rt results109 rfl ⟨rfl, hS⟩
   refine jf (RC.skip (RQ.inB_n (RQ.then_n (RC.region (pn 2 rfl (ln (RQ.round (sr (pn 1 rfl (ln (RC.seq (jt ?_))))))))))))
   refine sk (RC.seq (RC.block (sr (RL.s (Vl.indexAddr (a'' := (ad A2).add 1) underlying155 sizeOf53 rfl rfl (hS.litAdr 0 rfl (by decide)) (by decide) (by decide) rfl) rfl (RL.s (Vl.load isAgg53 rfl (hS.litCell 0 rfl rfl)) rfl (pn 1 rfl (lnsr (pn 3 rfl (cF (fun _ hg => errors_is.ok hg hS) call109 h rfl rfl rfl ?_)))))))))
   rintro t51 h _ w ⟨rfl, hS⟩
   refine ln ?_
   refine RC.iteB 52 rfl h (fun hc53 h => ?_) fun hc53 h => ?_
   next =>
    refine jtr (pn 1 rfl (lr (ir (RQ.ret (ir (RQ.inB_ret (ir (RQ.inB_ret ?_))))))))
    obtain rfl := h.some
    exact rt results109 rfl ⟨rfl, hS⟩
   refine jf (RC.skip (RQ.inB_n (RQ.then_n (RC.region (pn 2 rfl (ln (RQ.round (sr (pn 1 rfl (ln (RC.seq (jf ?_))))))))))))
   refine RC.exit (RQ.exitT (RQ.exitT (RQ.inB_hit (tsr (pn 1 rfl (lr (RQ.inB_ret (ir (RQ.inB_ret ?_)))))))))
   obtain rfl := h.some
   exact rt results109 rfl ⟨rfl, hS⟩
  refine pn 4 rfl (ln (jfs (RC.seq (sr (pn 1 rfl (tno underlying298 rfl rfl (pn 5 rfl (lnsr ?_))))))))
  refine pn 6 rfl (ln (jfs (sr (pn 1 rfl (ln (RC.block (sr (tno underlying152 rfl rfl (pn 2 rfl ?_)))))))))
  refine ln (jf (sr (tys underlying154 rfl rfl (pn 2 rfl (ln (jtr (pn 1 rfl (ln (RC.seq ?_)))))))))
  refine sr (pn 1 rfl ?_)
  obtain ⟨t54, hg55, h⟩ := h.bind
  have hc := errors_joinError_Unwrap.ok hg55 hS
  refine RL.e (OW.invoke (F := 382) (u' := pV b1) (ls := []) rfl rfl (fun w => by kernel_rfl) call382 rfl hc) rfl rfl ?_
  rintro _ w ⟨rfl, hS⟩
  refine r0 2 rfl (ln (RC.block (RC.unroll (RQ.round (sr (pn 1 rfl (ln (RC.seq (jt (sk (RC.seq ?_)))))))))))
  refine RC.block (sr (RL.s (Vl.indexAddr (a'' := (ad A2).add 0) underlying155 sizeOf53 rfl rfl (hS.litAdr 0 rfl (by decide)) (by decide) (by decide) rfl) rfl (RL.s (Vl.load isAgg53 rfl (hS.litCell 0 rfl rfl)) rfl (pn 1 rfl (lnsr (pn 3 rfl (cF (fun _ hg => errors_is_4.ok hg hS) call109 h rfl rfl rfl ?_)))))))
  rintro t59 h _ w ⟨rfl, hS⟩
  refine ln ?_
  refine RC.iteB 52 rfl h (fun hc61 h => ?_) fun hc61 h => ?_
  next =>
   refine jtr (pn 1 rfl (lr (ir (RQ.ret (ir (RQ.inB_ret (ir (RQ.inB_ret ?_))))))))
   obtain rfl := h.some
   exact rt results109 rfl ⟨rfl, hS⟩
  refine jf (RC.skip (RQ.inB_n (RQ.then_n (RC.region (pn 2 rfl (ln (RQ.round (sr (pn 1 rfl (ln (RC.seq (jt ?_))))))))))))
  refine sk (RC.seq (RC.block (sr (RL.s (Vl.indexAddr (a'' := (ad A2).add 1) underlying155 sizeOf53 rfl rfl (hS.litAdr 0 rfl (by decide)) (by decide) (by decide) rfl) rfl (RL.s (Vl.load isAgg53 rfl (hS.litCell 0 rfl rfl)) rfl (pn 1 rfl (lnsr (pn 3 rfl (cF (fun _ hg => errors_is.ok hg hS) call109 h rfl rfl rfl ?_)))))))))
  rintro t65 h _ w ⟨rfl, hS⟩
  refine ln ?_
  refine RC.iteB 52 rfl h (fun hc67 h => ?_) fun hc67 h => ?_
  next =>
   refine jtr (pn 1 rfl (lr (ir (RQ.ret (ir (RQ.inB_ret (ir (RQ.inB_ret ?_))))))))
   obtain rfl := h.some
   exact rt results109 rfl ⟨rfl, hS⟩
  refine jf (RC.skip (RQ.inB_n (RQ.then_n (RC.region (pn 2 rfl (ln (RQ.round (sr (pn 1 rfl (ln (RC.seq (jf ?_))))))))))))
  refine RC.exit (RQ.exitT (RQ.exitT (RQ.inB_hit (tsr (pn 1 rfl (lr (RQ.inB_ret (ir (RQ.inB_ret ?_)))))))))
  obtain rfl := h.some
  exact rt results109 rfl ⟨rfl, hS⟩
def errors_Is_4.f (a4 : model_flaw) (a5 a6 : Int) : Option (Bool) := ((errors_is_3.f a4 a5 a6 true).bind fun t9 => some t9)
theorem errors_Is_4.ok {a4 : model_flaw} {a5 a6 : Int} {b1 c3 : Nat} {A2 : Option Addr} {r : Bool} (h : errors_Is_4.f a4 a5 a6 = some r) (hS : St B w (OSl 53 1 (.slice A2 2 c3) 2 [.iface 200 (.agg #[iV a4.at_, iV a4.why]), .iface 38 (iV a5)] :: Cl b1 [.slice A2 2 c3] 370 :: l) hf) :
    Calls prog 79 #[.iface 368 (pV b1), .iface 38 (iV a6)] w (Ret fun v w => v = .bool r ∧ St B w (OSl 53 1 (.slice A2 2 c3) 2 [.iface 200 (.agg #[iV a4.at_, iV a4.why]), .iface 38 (iV a5)] :: Cl b1 [.slice A2 2 c3] 370 :: l) hf) := by
  have h := Holds.of h
  refine en func79 rfl ntmps79 rfl (sr (pn 1 rfl (ln (RC.seq (sr (pn 1 rfl (RL.s (Vl.bn false rfl rfl) rfl (pn 2 rfl (RL.sg (Vl.bn false rfl rfl) rfl rfl (pn 1 rfl (ln ?_)))))))))))
  refine jfs (sr (pn 1 rfl (RL.s (Vl.eX [.tmp 15] (.iface 144 (.agg #[.pointer (some ⟨9, 38, none⟩)])) Ex1 func52 rfl) rfl (RL.s (Vl.iX [] (.bool true) (.agg #[.pointer (some ⟨9, 38, none⟩)]) Ex7 func306 rfl rfl) rfl (pn 1 rfl (lnsr (pn 3 rfl (cF (fun _ hg => errors_is_3.ok hg hS) call109 h rfl rfl rfl ?_))))))))
  rintro t9 h _ w ⟨rfl, hS⟩
  refine pn 1 rfl (lr ?_)
  obtain rfl := h.some
  exact rt results79 rfl ⟨rfl, hS⟩
def model_lane.f (a1 : api_Model) (a11 : Int) : Option (Bool) := (if 0 ≤ a11 then some (decide (a11 < (a1.Progs.length : Int))) else some false)
theorem model_lane.ok {a1 : api_Model} {a11 : Int} {A2 A5 A8 : Option Addr} {c3 c6 c9 : Nat} (hr4 : SlR (Rep.sl E_api_Instr.rep) hf A2 c3 a1.Progs) (hr7 : SlR E_api_Link.rep hf A5 c6 a1.Links) (hr10 : SlR E_api_Start.rep hf A8 c9 a1.Starts) {r : Bool} (h : model_lane.f a1 a11 = some r) (hS : St B w (l) hf) :
    Calls prog 110 #[.agg (C_api_Model a1 A2 c3 A5 c6 A8 c9).toArray, iV a11] w (Ret fun v w => v = .bool r ∧ St B w (l) hf) := by
  have h := Holds.of h
  refine en func110 rfl ntmps110 rfl (sr (rr [0, 0] hS ?_))
  refine fun b14 => it fun w hS => lnsr (pn 3 rfl ?_)
  refine RL.iteP 7 rfl h (fun hc15 h => ?_) fun hc15 h => ?_
  next =>
   refine rr [0, 0, 1, 0, 0, 0, 0] hS ?_
   refine it fun w hS => lr ?_
   cases h.some
   exact rt results110 rfl ⟨rfl, hS.d0⟩
  refine pn 7 rfl (lr ?_)
  obtain rfl := h.some
  exact rt results110 rfl ⟨rfl, hS.d0⟩
def model_links.l2b (a1 : api_Model) : (Nat → Bool) × Int → Option (((Nat → Bool) × Int) ⊕ ((Int) ⊕ (model_flaw) ⊕ (Unit)))
  | (fn256, x257) => (if x257 < (a1.Links.length : Int) then (if 0 ≤ x257 then ((model_lane.f a1 ((nth a1.Links x257).From)).bind fun t364 => (if t364 = true then ((model_lane.f a1 ((nth a1.Links x257).To)).bind fun t367 => (if t367 = true then (if (nth a1.Links x257).Look < 1 then some (.inr (.inr (.inl (⟨x257, 131⟩ : model_flaw)))) else (if 4611686018427387903 < (nth a1.Links x257).Look then some (.inr (.inr (.inl (⟨x257, 131⟩ : model_flaw)))) else (if 0 ≤ (nth a1.Links x257).From ∧ (nth a1.Links x257).From < 16 then (if 0 ≤ (nth a1.Links x257).To ∧ (nth a1.Links x257).To < 16 then (if fn256 (((nth a1.Links x257).From).toNat * 16 + ((nth a1.Links x257).To).toNat * 1) = true then some (.inr (.inr (.inl (⟨x257, 131⟩ : model_flaw)))) else some (.inl (upd fn256 (((nth a1.Links x257).From).toNat * 16 + ((nth a1.Links x257).To).toNat * 1) true, IntKind.i64.wrap (x257 + 1)))) else none) else none))) else some (.inr (.inr (.inl (⟨x257, 131⟩ : model_flaw)))))) else some (.inr (.inr (.inl (⟨x257, 131⟩ : model_flaw)))))) else none) else some (.inr (.inr (.inr (())))))
def model_links.l2 (a1 : api_Model) (s : (Nat → Bool) × Int) : Option ((Int) ⊕ (model_flaw) ⊕ (Unit)) := loopR (model_links.l2b a1) s
def model_links.f (a1 : api_Model) : Option ((Int) ⊕ (model_flaw) ⊕ (Unit)) := (if 1024 < (a1.Links.length : Int) then some (.inl 131) else model_links.l2 a1 (fun _ => false, 0))
theorem model_links.ok {a1 : api_Model} {A2 A5 A8 : Option Addr} {c3 c6 c9 : Nat} (hr4 : SlR (Rep.sl E_api_Instr.rep) hf A2 c3 a1.Progs) (hr7 : SlR E_api_Link.rep hf A5 c6 a1.Links) (hr10 : SlR E_api_Start.rep hf A8 c9 a1.Starts) {r : (Int) ⊕ (model_flaw) ⊕ (Unit)} (h : model_links.f a1 = some r) (hS : St B w (l) hf) :
    Calls prog 107 #[.agg (C_api_Model a1 A2 c3 A5 c6 A8 c9).toArray] w (Ret fun v w => match (generalizing := false) r with | .inl r_ => v = .iface 38 (iV r_) ∧ St B w (l) hf | .inr (.inl r_) => v = .iface 200 (.agg #[iV r_.at_, iV r_.why]) ∧ St B w (l) hf | .inr (.inr (r_)) => v = .nilIface ∧ St B w (l) hf) := by
  have h := Holds.of h
  refine en func107 rfl ntmps107 rfl (sr (rr [0, 0] hS ?_))
  refine fun b194 => it fun w hS => ln (RC.seq (sr (rr [0, 1, 0, 0] hS ?_)))
  refine it fun w hS => ln ?_
  refine RC.iteP 9 rfl h (fun hc196 h => ?_) fun hc196 h => ?_
  next =>
   refine jtr (r0 2 rfl (lr (RQ.ret ?_)))
   cases h.some
   exact rt results107 rfl ⟨rfl, hS.d0⟩
  refine jfs (sr (RL.s (Vl.build (v := .agg (fc Value.bool 256 (fun _ => false)).toArray) (parts := []) rfl (by kernel_rfl)) rfl (RL.e (OW.alloc (cs := fc Value.bool 256 (fun _ => false)) hS zeroValue297 (by kernel_rfl)) rfl rfl ?_)))
  rintro _ w ⟨b197, rfl, hS⟩
  refine RL.e0 (OW.storeAll (f := fun _ => false) (g' := fun _ => false) 0 hS rfl rfl rfl sizeOf297 (fun _ => rfl) rfl) rfl ?_
  rintro _ w ⟨rfl, hS⟩
  have hS : St B w (_ :: _ :: l) hf := hS
  refine ln (RC.seq (sr (rr [0, 2, 0, 0] hS ?_)))
  refine it fun w hS => ln (RC.block (fun a ha => lp h (fun (s : (Nat → Bool) × Int) a w => ∃ fn256 x257, s = (fn256, x257) ∧ Has 61 [(1, pV b194), (3, pV b197), (13, sV A5 a1.Links c6), (14, iV (a1.Links.length : Int)), (15, iV x257)] a ∧ St B w (Cl b197 (fc Value.bool 256 fn256) 297 :: Cl b194 (C_api_Model a1 A2 c3 A5 c6 A8 c9) 34 :: l) hf) ⟨_, _, rfl, ha.tE rfl, hS⟩ ?_))
  rintro G318 _ a w ⟨fn256, x257, rfl, ha, hS⟩ h
  refine ro ha (sr (pn 1 rfl (ln (RC.seq ?_))))
  refine RC.iteP 16 rfl h (fun hc320 h => ?_) fun hc320 h => ?_
  next =>
   refine jt (sk (RC.seq (RC.block (sr (pn 1 rfl ?_)))))
   obtain ⟨hq349, h⟩ := h.req
   refine RL.s (Vl.indexAddr underlying30 sizeOf76 rfl rfl ((hr7.2.world hS.sub).adr hq349 hc320) hq349 hc320 rfl) rfl (RL.s (Vl.loadA isAgg76 sizeOf76 rfl rfl ((hr7.2.world hS.sub).cells hq349 hc320)) rfl (rr [0, 0, 1] hS ?_))
   refine fun b350 => it fun w hS => ln (RC.seq (RC.seq (dr [1, 3, 7, 11, 12, 15, 19, 21, 25, 29, 30, 33, 36, 39, 43, 45, 48, 51, 54, 58, 60, 63, 66, 69, 73, 75, 79, 83, 86, 89, 92] [28, 29, 30] hS fun w hS => rq [3, 0, 1] hS ?_)))
   refine it ?_
   obtain ⟨t364, hg365, h⟩ := h.bind
   have hc := model_lane.ok hr4 hr7 hr10 hg365 hS
   refine RP.e 3 rfl (OW.callF (ls := [.tmp 20, .tmp 22]) rfl call110 hc) rfl rfl ?_
   rintro _ w ⟨rfl, hS⟩
   refine ⟨kp ⟨fun _ => hS, trivial⟩, ?_⟩
   refine pp 2 rfl ?_
   refine RP.iteM 25 rfl h (fun hc366 h => ?_) fun hc366 h => ?_
   next =>
    refine rq [3, 0, 1] hS ?_
    refine it ?_
    obtain ⟨t367, hg368, h⟩ := h.bind
    have hc := model_lane.ok hr4 hr7 hr10 hg368 hS
    refine RP.e 9 rfl (OW.callF (ls := [.tmp 26, .tmp 28]) rfl call110 hc) rfl rfl ?_
    rintro _ w ⟨rfl, hS⟩
    refine ⟨kp ⟨fun _ => hS, trivial⟩, ?_⟩
    refine pp 3 rfl ?_
    refine RP.iteM 32 rfl h (fun hc369 h => ?_) fun hc369 h => ?_
    next =>
     refine rq [0, 1, 0, 0, 0] hS ?_
     refine it ?_
     refine RP.iteP 37 rfl h (fun hc370 h => ?_) fun hc370 h => ?_
     next =>
      refine rq [0, 0, 0, 0, 0, 0, 0, 0, 0, 0, 0, 0, 0] hS ?_
      refine it (RP.nil (RQ.then_n (jtr (r0 4 rfl (lr (RQ.ret (ir ?_)))))))
      have h := h.inrS
      refine RQ.ret (ir ?_)
      cases h.some
      exact rt results107 rfl ⟨rfl, hS.d0.d0.d0⟩
     refine rq [0, 1, 0, 0, 0] hS ?_
     refine it ?_
     refine RP.iteP 42 rfl h (fun hc371 h => ?_) fun hc371 h => ?_
     next =>
      refine rq [0, 0, 0, 0, 0, 0, 0, 0] hS ?_
      refine it (RP.nil (RQ.then_n (jtr (r0 4 rfl (lr (RQ.ret (ir ?_)))))))
      have h := h.inrS
      refine RQ.ret (ir ?_)
      cases h.some
      exact rt results107 rfl ⟨rfl, hS.d0.d0.d0⟩
     refine rq [0, 1, 0, 1] hS ?_
     refine it ?_
     obtain ⟨⟨hq372, hq373⟩, h⟩ := h.req
     refine RP.v1 27 rfl (Vl.indexAddrA (a'' := ⟨b197, ((nth a1.Links x257).From).toNat * 16, none⟩) underlying297 sizeOf296 rfl rfl hq372 hq373 (add_zero_mk _ _)) rfl rfl ?_
     obtain ⟨⟨hq374, hq375⟩, h⟩ := h.req
     refine RP.v1 28 rfl (Vl.indexAddrA (a'' := ⟨b197, ((nth a1.Links x257).From).toNat * 16 + ((nth a1.Links x257).To).toNat * 1, none⟩) underlying296 sizeOf4 rfl rfl hq374 hq375 (add_mk _ _ _)) rfl rfl (RP.v1 29 rfl (Vl.load isAgg4 rfl (hS.cell 1 rfl (fc_get (by omega)))) rfl rfl (rq [0] hS ?_))
     refine it (RP.nil (RQ.then_n ?_))
     refine RC.iteB 50 rfl h (fun hc376 h => ?_) fun hc376 h => ?_
     next =>
      refine jtr (r0 4 rfl (lr (RQ.ret (ir ?_))))
      have h := h.inrS
      refine RQ.ret (ir ?_)
      cases h.some
      exact rt results107 rfl ⟨rfl, hS.d0.d0.d0⟩
     refine jfs (dr [0, 4, 6, 10, 14, 17, 20] [5, 6] hS fun w hS => rq [0, 1, 0, 1] hS ?_)
     refine it (RP.v1 4 rfl (Vl.indexAddrA (a'' := ⟨b197, ((nth a1.Links x257).From).toNat * 16, none⟩) underlying297 sizeOf296 rfl rfl hq372 hq373 (add_zero_mk _ _)) rfl rfl (RP.v1 5 rfl (Vl.indexAddrA (a'' := ⟨b197, ((nth a1.Links x257).From).toNat * 16 + ((nth a1.Links x257).To).toNat * 1, none⟩) underlying296 sizeOf4 rfl rfl hq374 hq375 (add_mk _ _ _)) rfl rfl (RP.e0 6 rfl (OW.storeF (mk := Value.bool) 1 hS rfl rfl rfl sizeOf4 (by omega) (fun _ => rfl) (fun _ => rfl) rfl) rfl ?_)))
     rintro _ w ⟨rfl, hS⟩
     have hS : St B w (_ :: _ :: _ :: l) hf := hS
     refine ⟨kp ⟨(by intro hx; cases hx), trivial⟩, ?_⟩
     refine RP.nil (RQ.inB_n (RQ.then_n (RC.region (pn 2 rfl (RL.nil ?_)))))
     exact fun a ha => ⟨_, h.some, _, _, rfl, ha.tE rfl, hS.d0⟩
    refine rq [0, 0, 0, 0, 0, 0, 0, 0, 0, 0, 0, 0, 0, 0, 0, 0, 0, 0] hS ?_
    refine it (RP.nil (RQ.then_n (jtr (r0 4 rfl (lr (RQ.ret (ir ?_)))))))
    have h := h.inrS
    refine RQ.ret (ir ?_)
    cases h.some
    exact rt results107 rfl ⟨rfl, hS.d0.d0.d0⟩
   refine rq [0, 0, 0, 0, 0, 0, 0, 0, 0, 0, 0, 0, 0, 0, 0, 0, 0, 0, 0, 0, 0, 0, 0, 0, 0] hS ?_
   refine it (RP.nil (RQ.then_n (jtr (r0 4 rfl (lr (RQ.ret (ir ?_)))))))
   have h := h.inrS
   refine RQ.ret (ir ?_)
   cases h.some
   exact rt results107 rfl ⟨rfl, hS.d0.d0.d0⟩
  refine jf (RC.exit (RQ.exitT ?_))
  have h := h.inrS
  refine RQ.exitT (RQ.inB_hit (tsr (pn 1 rfl (lr ?_))))
  cases h.some
  exact rt results107 rfl ⟨rfl, hS.d0.d0⟩
def errors_As_4.f (a1 a3 : model_flaw) : Option (Bool × model_flaw) := ((errors_as_3.f a1 a3).bind fun (y14, y15) => some (y14, y15))
theorem errors_As_4.ok {a1 a3 : model_flaw} {b2 : Nat} (hG0 : GlobAt hf 0 (.iface 144 (.agg #[.pointer (some ⟨9, 53, none⟩)]))) {r : Bool × model_flaw} (h : errors_As_4.f a1 a3 = some r) (hS : St B w (Cl b2 [iV a3.at_, iV a3.why] 200 :: l) hf) :
    Calls prog 25 #[.iface 200 (.agg #[iV a1.at_, iV a1.why]), .iface 201 (pV b2)] w (Ret fun v w => v = .bool r.1 ∧ St B w (Cl b2 [iV r.2.at_, iV r.2.why] 200 :: l) hf) := by
  have h := Holds.of h
  refine en func25 rfl ntmps25 rfl (sr (pn 1 rfl (ln (RC.seq (sr (pn 1 rfl (RL.s (Vl.bn false rfl rfl) rfl (ln (jfs ?_)))))))))
  refine RC.seq (sr (pn 1 rfl (RL.s (Vl.bn false rfl rfl) rfl (ln (jfs (sr (pn 1 rfl (RL.e (OW.externNew (ls := [.tmp 13]) (cs := [pV b2]) (T := 201) (v := fun b => .agg #[.pointer (some ⟨9, 201, none⟩), pV b, .int .u64 150]) hS rfl func35 (by kernel_rfl) (by kernel_rfl) (by kernel_rfl) (e := fun args => Extern.ReflectliteValue.unpack (args.getD 0 (.tuple #[]))) (by kernel_rfl) (fun w => by kernel_rfl)) rfl rfl ?_))))))))
  rintro _ w ⟨b10, rfl, hS⟩
  refine rr [0, 1] hS ?_
  refine fun b11 => it fun w hS => lnsr (rr [1] hS ?_)
  refine it fun w hS => RL.s (Vl.eX [.tmp 15] (.iface 144 (.agg #[.pointer (some ⟨9, 201, none⟩)])) Ex3 func36 rfl) rfl (pn 1 rfl (ln (RC.seq (sr (pn 1 rfl (RL.s (Vl.iX [] (.int .u8 22) (.pointer (some ⟨9, 201, none⟩)) Ex4 func291 rfl rfl) rfl (rr [0, 0, 1] hS ?_)))))))
  refine it fun w hS => ?_
  refine RL.sg (Vl.externAt (ls := [.tmp 21]) (v := .bool false) rfl func37 (by kernel_rfl) (by kernel_rfl) (by kernel_rfl) (e := Extern.ReflectliteValue.method (Extern.ReflectliteValue.valueError "reflectlite.Value.IsNil" 0) Extern.ReflectliteValue.isNil) (by kernel_rfl) (run_isNil (n := 150) (a := ⟨b10, 0, none⟩) (fun w => by kernel_rfl) underlying201 rfl (hS.cell 1 rfl rfl))) rfl rfl (pn 1 rfl (ln (jfs (sr (pn 1 rfl (RL.s (Vl.iX [] (.iface 144 (.agg #[.pointer (some ⟨9, 200, none⟩)])) (.agg #[.pointer (some ⟨9, 201, none⟩)]) Ex5 func307 rfl rfl) rfl (pn 1 rfl (ln (RC.seq (RC.seq ?_))))))))))
  refine RC.region (pn 1 rfl (RL.s (Vl.iX [] (.int .u8 25) (.pointer (some ⟨9, 200, none⟩)) Ex4 func291 rfl rfl) rfl (pn 3 rfl (RL.sg (Vl.load isAgg113 rfl (cellH_world hS.sub hG0)) rfl rfl (RL.sg (Vl.iX [.tmp 32] (.bool true) (.agg #[.pointer (some ⟨9, 200, none⟩)]) Ex6 func308 rfl rfl) rfl rfl (pn 2 rfl (ln (jfs (sr (rr [0, 0, 1, 0] hS ?_))))))))))
  refine it fun w hS => cF (fun _ hg => errors_as_3.ok hg hS.p1.p2) call38 h rfl rfl rfl ?_
  rintro ⟨y14, y15⟩ h _ w ⟨rfl, hS⟩
  refine pn 1 rfl (lr ?_)
  cases h.some
  exact rt results25 rfl ⟨rfl, hS.d1.d1⟩
def errors_Is_5.f (a1 : model_flaw) (a2 : Int) : Option (Bool) := ((errors_is_4.f a1 a2 true).bind fun t5 => some t5)
theorem errors_Is_5.ok {a1 : model_flaw} {a2 : Int} {r : Bool} (h : errors_Is_5.f a1 a2 = some r) (hS : St B w (l) hf) :
    Calls prog 79 #[.iface 200 (.agg #[iV a1.at_, iV a1.why]), .iface 38 (iV a2)] w (Ret fun v w => v = .bool r ∧ St B w (l) hf) := by
  have h := Holds.of h
  refine en func79 rfl ntmps79 rfl (sr (pn 1 rfl (ln (RC.seq (sr (pn 1 rfl (RL.s (Vl.bn false rfl rfl) rfl (pn 2 rfl (RL.sg (Vl.bn false rfl rfl) rfl rfl (pn 1 rfl (ln ?_)))))))))))
  refine jfs (sr (pn 1 rfl (RL.s (Vl.eX [.tmp 15] (.iface 144 (.agg #[.pointer (some ⟨9, 38, none⟩)])) Ex1 func52 rfl) rfl (RL.s (Vl.iX [] (.bool true) (.agg #[.pointer (some ⟨9, 38, none⟩)]) Ex7 func306 rfl rfl) rfl (pn 1 rfl (lnsr (pn 3 rfl (cF (fun _ hg => errors_is_4.ok hg hS) call109 h rfl rfl rfl ?_))))))))
  rintro t5 h _ w ⟨rfl, hS⟩
  refine pn 1 rfl (lr ?_)
  obtain rfl := h.some
  exact rt results79 rfl ⟨rfl, hS⟩
def model_starts.l2b (a1 : api_Model) : Int → Option ((Int) ⊕ ((Int) ⊕ (model_flaw) ⊕ (Unit)))
  | (x90) => (if x90 < (a1.Starts.length : Int) then (if 0 ≤ x90 then ((model_lane.f a1 ((nth a1.Starts x90).To)).bind fun t123 => (if t123 = true then ((vtime_Valid.f ((nth a1.Starts x90).Time)).bind fun t126 => (if t126 = true then some (.inl (IntKind.i64.wrap (x90 + 1))) else some (.inr (.inr (.inl (⟨x90, 132⟩ : model_flaw)))))) else some (.inr (.inr (.inl (⟨x90, 132⟩ : model_flaw)))))) else none) else some (.inr (.inr (.inr (())))))
def model_starts.l2 (a1 : api_Model) (s : Int) : Option ((Int) ⊕ (model_flaw) ⊕ (Unit)) := loopR (model_starts.l2b a1) s
def model_starts.f (a1 : api_Model) : Option ((Int) ⊕ (model_flaw) ⊕ (Unit)) := (if 4096 < (a1.Starts.length : Int) then some (.inl 132) else model_starts.l2 a1 (0))
theorem model_starts.ok {a1 : api_Model} {A2 A5 A8 : Option Addr} {c3 c6 c9 : Nat} (hr4 : SlR (Rep.sl E_api_Instr.rep) hf A2 c3 a1.Progs) (hr7 : SlR E_api_Link.rep hf A5 c6 a1.Links) (hr10 : SlR E_api_Start.rep hf A8 c9 a1.Starts) {r : (Int) ⊕ (model_flaw) ⊕ (Unit)} (h : model_starts.f a1 = some r) (hS : St B w (l) hf) :
    Calls prog 108 #[.agg (C_api_Model a1 A2 c3 A5 c6 A8 c9).toArray] w (Ret fun v w => match (generalizing := false) r with | .inl r_ => v = .iface 38 (iV r_) ∧ St B w (l) hf | .inr (.inl r_) => v = .iface 200 (.agg #[iV r_.at_, iV r_.why]) ∧ St B w (l) hf | .inr (.inr (r_)) => v = .nilIface ∧ St B w (l) hf) := by
  have h := Holds.of h
  refine en func108 rfl ntmps108 rfl (sr (rr [0, 0] hS ?_))
  refine fun b70 => it fun w hS => ln (RC.seq (sr (rr [0, 1, 0, 0] hS ?_)))
  refine it fun w hS => ln ?_
  refine RC.iteP 8 rfl h (fun hc72 h => ?_) fun hc72 h => ?_
  next =>
   refine jtr (r0 2 rfl (lr (RQ.ret ?_)))
   cases h.some
   exact rt results108 rfl ⟨rfl, hS.d0⟩
  refine jfs (RC.seq (sr (rr [0, 1, 0, 0] hS ?_)))
  refine it fun w hS => ln (RC.block (fun a ha => lp h (fun (s : Int) a w => ∃ x90, s = (x90) ∧ Has 33 [(1, pV b70), (11, sV A8 a1.Starts c9), (12, iV (a1.Starts.length : Int)), (13, iV x90)] a ∧ St B w (Cl b70 (C_api_Model a1 A2 c3 A5 c6 A8 c9) 34 :: l) hf) ⟨_, rfl, ha.tE rfl, hS⟩ ?_))
  rintro G110 x90 a w ⟨_, rfl, ha, hS⟩ h
  refine ro ha (sr (pn 1 rfl (ln (RC.seq ?_))))
  refine RC.iteP 14 rfl h (fun hc112 h => ?_) fun hc112 h => ?_
  next =>
   refine jt (sk (RC.seq (RC.block (sr (pn 1 rfl ?_)))))
   obtain ⟨hq121, h⟩ := h.req
   refine RL.s (Vl.indexAddr underlying31 sizeOf78 rfl rfl ((hr10.2.world hS.sub).adr hq121 hc112) hq121 hc112 rfl) rfl (RL.s (Vl.loadA isAgg78 sizeOf78 rfl rfl ((hr10.2.world hS.sub).cells hq121 hc112)) rfl (rr [0, 0, 1] hS ?_))
   refine fun b122 => it fun w hS => lnsr (rr [2, 0, 1] hS ?_)
   refine it fun w hS => cF (fun _ hg => model_lane.ok hr4 hr7 hr10 hg hS) call110 h rfl rfl rfl ?_
   rintro t123 h _ w ⟨rfl, hS⟩
   refine pn 2 rfl ?_
   refine RL.iteM 23 rfl h (fun hc125 h => ?_) fun hc125 h => ?_
   next =>
    refine rr [0, 1] hS ?_
    refine it fun w hS => cF (fun _ hg => vtime_Valid.ok hg hS) call149 h rfl rfl rfl ?_
    rintro t126 h _ w ⟨rfl, hS⟩
    refine pn 2 rfl (ln ?_)
    refine RC.iteM 28 rfl h (fun hc128 h => ?_) fun hc128 h => ?_
    next =>
     refine jf (RC.skip (RQ.inB_n (RQ.then_n (RC.region (pn 2 rfl (RL.nil ?_))))))
     exact fun a ha => ⟨_, h.some, _, rfl, ha.tE rfl, hS.d0⟩
    refine jtr (r0 4 rfl (lr (ir ?_)))
    have h := h.inrS
    refine RQ.ret (ir ?_)
    cases h.some
    exact rt results108 rfl ⟨rfl, hS.d0.d0⟩
   refine pn 5 rfl (ln (jtr (r0 4 rfl (lr (ir ?_)))))
   have h := h.inrS
   refine RQ.ret (ir ?_)
   cases h.some
   exact rt results108 rfl ⟨rfl, hS.d0.d0⟩
  refine jf (RC.exit (RQ.exitT ?_))
  have h := h.inrS
  refine RQ.exitT (RQ.inB_hit (tsr (pn 1 rfl (lr ?_))))
  cases h.some
  exact rt results108 rfl ⟨rfl, hS.d0⟩
def model_Check.f (a1 : api_Model) : Option (Int) := ((model_rules.f).bind fun _ => ((model_sizes.f a1).bind fun t205 => match t205 with | .inl y207 => ((errors_As_2.f y207 (⟨0, 0⟩ : model_flaw)).bind fun t208 => (if t208 = true then some 0 else ((errors_Is.f y207 131).bind fun t211 => (if t211 = true then some 131 else ((errors_Is.f y207 132).bind fun t214 => (if t214 = true then some 132 else some 1)))))) | .inr (_) => ((model_programs.f a1).bind fun t239 => match t239 with | .inl (y241, y242) => ((errors_As_3.f y241 y242 (⟨0, 0⟩ : model_flaw)).bind fun (y248, y249) => (if y248 = true then some y249.why else ((errors_Is_4.f y241 y242 131).bind fun t251 => (if t251 = true then some 131 else ((errors_Is_4.f y241 y242 132).bind fun t254 => (if t254 = true then some 132 else some 1)))))) | .inr (_) => ((model_links.f a1).bind fun t285 => match t285 with | .inl y287 => ((errors_As_2.f y287 (⟨0, 0⟩ : model_flaw)).bind fun t288 => (if t288 = true then some 0 else ((errors_Is.f y287 131).bind fun t291 => (if t291 = true then some 131 else ((errors_Is.f y287 132).bind fun t294 => (if t294 = true then some 132 else some 1)))))) | .inr (.inl y297) => ((errors_As_4.f y297 (⟨0, 0⟩ : model_flaw)).bind fun (y300, y301) => (if y300 = true then some y301.why else ((errors_Is_5.f y297 131).bind fun t303 => (if t303 = true then some 131 else ((errors_Is_5.f y297 132).bind fun t306 => (if t306 = true then some 132 else some 1)))))) | .inr (.inr (_)) => ((model_starts.f a1).bind fun t337 => match t337 with | .inl y339 => ((errors_As_2.f y339 (⟨0, 0⟩ : model_flaw)).bind fun t340 => (if t340 = true then some 0 else ((errors_Is.f y339 131).bind fun t343 => (if t343 = true then some 131 else ((errors_Is.f y339 132).bind fun t346 => (if t346 = true then some 132 else some 1)))))) | .inr (.inl y349) => ((errors_As_4.f y349 (⟨0, 0⟩ : model_flaw)).bind fun (y352, y353) => (if y352 = true then some y353.why else ((errors_Is_5.f y349 131).bind fun t355 => (if t355 = true then some 131 else ((errors_Is_5.f y349 132).bind fun t358 => (if t358 = true then some 132 else some 1)))))) | .inr (.inr (_)) => some 0)))))
theorem model_Check.ok {a1 : api_Model} {A2 A5 A8 : Option Addr} {c3 c6 c9 : Nat} (hr4 : SlR (Rep.sl E_api_Instr.rep) hf A2 c3 a1.Progs) (hr7 : SlR E_api_Link.rep hf A5 c6 a1.Links) (hr10 : SlR E_api_Start.rep hf A8 c9 a1.Starts) (hG0 : GlobAt hf 0 (.iface 144 (.agg #[.pointer (some ⟨9, 53, none⟩)]))) {r : Int} (h : model_Check.f a1 = some r) (hS : St B w (l) hf) :
    Calls prog 60 #[.agg (C_api_Model a1 A2 c3 A5 c6 A8 c9).toArray] w (Ret fun v w => v = iV r ∧ St B w (l) hf) := by
  have h := Holds.of h
  refine en func60 rfl ntmps60 rfl (sr (rr [0, 0] hS ?_))
  refine fun b186 => it fun w hS => ln (RC.seq (sr (cF (fun _ hg => model_rules.ok hg hS) call78 h rfl rfl rfl ?_)))
  rintro _ h _ w ⟨rfl, hS⟩
  refine pn 1 rfl (ln (RC.block (RC.unroll (RQ.round (sr (pn 1 rfl (ln (RC.seq (jt (sk (RC.seq ?_)))))))))))
  refine RC.block (sr (RL.s (Vl.indexA (v := .agg #[.func (.func 105) #[] #[]]) underlying197 sizeOf196 rfl rfl (by decide) (by decide) (run_partA isAgg196 sizeOf196)) rfl (rr [0, 1] hS ?_)))
  refine fun b203 => it fun w hS => lnsr (rr [0] hS ?_)
  refine fun b204 => it fun w hS => ln (RC.seq (sr (rr [0, 2, 3] hS ?_)))
  refine it fun w hS => ?_
  obtain ⟨t205, hg206, h⟩ := h.bind
  have hc := model_sizes.ok hr4 hr7 hr10 hg206 hS
  rcases t205 with y207 | _
  · refine RL.e (OW.call (ls := [.tmp 13]) rfl rfl call105 rfl hc) rfl rfl ?_
    rintro _ w ⟨rfl, hS⟩
    refine pn 1 rfl (ln (RC.block (sr (pn 1 rfl (RL.s (Vl.bn false rfl rfl) rfl (pn 1 rfl (ln (jf (sr (r0 2 rfl (cF (fun _ hg => errors_As_2.ok hG0 hg hS) call25 h rfl rfl rfl ?_)))))))))))
    rintro t208 h _ w ⟨rfl, hS⟩
    refine pn 1 rfl (ln ?_)
    refine RC.iteB 18 rfl h (fun hc210 h => ?_) fun hc210 h => ?_
    next =>
     refine jtr (rr [0, 1, 0] hS ?_)
     refine it fun w hS => lr (ir (ir (RQ.ret (ir ?_))))
     obtain rfl := h.some
     exact rt results60 rfl ⟨rfl, hS.d0.d0.d0⟩
    refine jf (sr (r0 2 rfl (cF (fun _ hg => errors_Is.ok hg hS) call79 h rfl rfl rfl ?_)))
    rintro t211 h _ w ⟨rfl, hS⟩
    refine pn 1 rfl (ln ?_)
    refine RC.iteB 24 rfl h (fun hc213 h => ?_) fun hc213 h => ?_
    next =>
     refine jtr (pn 1 rfl (lr (ir (ir (RQ.ret (ir ?_))))))
     obtain rfl := h.some
     exact rt results60 rfl ⟨rfl, hS.d0.d0.d0⟩
    refine jf (sr (r0 2 rfl (cF (fun _ hg => errors_Is.ok hg hS) call79 h rfl rfl rfl ?_)))
    rintro t214 h _ w ⟨rfl, hS⟩
    refine pn 1 rfl (ln ?_)
    refine RC.iteB 28 rfl h (fun hc216 h => ?_) fun hc216 h => ?_
    next =>
     refine jtr (pn 1 rfl (lr (ir (ir (RQ.ret (ir ?_))))))
     obtain rfl := h.some
     exact rt results60 rfl ⟨rfl, hS.d0.d0.d0⟩
    refine jf (RC.skip (RQ.inB_n (tsr (pn 1 rfl (lr (ir (RQ.ret (ir ?_))))))))
    obtain rfl := h.some
    exact rt results60 rfl ⟨rfl, hS.d0.d0.d0⟩
  refine RL.e (OW.call (ls := [.tmp 13]) rfl rfl call105 rfl hc) rfl rfl ?_
  rintro _ w ⟨rfl, hS⟩
  refine pn 1 rfl (ln (RC.block (sr (pn 1 rfl (RL.s (Vl.bn true rfl rfl) rfl (pn 1 rfl (ln (jt (RC.exit (RQ.inB_miss rfl (RQ.exitT (RQ.inB_hit ?_))))))))))))
  refine RQ.then_n (RC.region (pn 2 rfl (ln (RQ.round (sr (pn 1 rfl (ln (RC.seq (jt (sk (RC.seq ?_)))))))))))
  refine RC.block (sr (RL.s (Vl.indexA (v := .agg #[.func (.func 106) #[] #[]]) underlying197 sizeOf196 rfl rfl (by decide) (by decide) (run_partA isAgg196 sizeOf196)) rfl (rr [0, 1] hS ?_)))
  refine fun b237 => it fun w hS => lnsr (rr [0] hS ?_)
  refine fun b238 => it fun w hS => ln (RC.seq (sr (rr [0, 2, 5] hS ?_)))
  refine it fun w hS => ?_
  obtain ⟨t239, hg240, h⟩ := h.bind
  have hc := model_programs.ok hr4 hr7 hr10 hg240 hS
  rcases t239 with ⟨y241, y242⟩ | _
  · refine RL.e (OW.call (ls := [.tmp 13]) rfl rfl call106 rfl hc) rfl rfl ?_
    rintro _ w ⟨b243, A244, c245, rfl, hS⟩
    refine pn 1 rfl (ln (RC.block (sr (pn 1 rfl (RL.s (Vl.bn false rfl rfl) rfl (pn 1 rfl (ln (jf (sr (r0 2 rfl (cF (fun _ hg => errors_As_3.ok hG0 hg hS.p1) call25 h rfl rfl rfl ?_)))))))))))
    rintro ⟨y248, y249⟩ h _ w ⟨rfl, hS⟩
    refine pn 1 rfl (ln ?_)
    refine RC.iteB 18 rfl h (fun hc250 h => ?_) fun hc250 h => ?_
    next =>
     refine jtr (rr [0, 3, 0] hS ?_)
     refine it fun w hS => lr (ir (ir (RQ.ret (ir ?_))))
     cases h.some
     exact rt results60 rfl ⟨rfl, hS.d0.d0.d0.d0.d0.d0.d0⟩
    refine jf (sr (r0 2 rfl (cF (fun _ hg => errors_Is_4.ok hg hS) call79 h rfl rfl rfl ?_)))
    rintro t251 h _ w ⟨rfl, hS⟩
    refine pn 1 rfl (ln ?_)
    refine RC.iteB 24 rfl h (fun hc253 h => ?_) fun hc253 h => ?_
    next =>
     refine jtr (pn 1 rfl (lr (ir (ir (RQ.ret (ir ?_))))))
     obtain rfl := h.some
     exact rt results60 rfl ⟨rfl, hS.d0.d0.d0.d0.d0.d0.d0⟩
    refine jf (sr (r0 2 rfl (cF (fun _ hg => errors_Is_4.ok hg hS) call79 h rfl rfl rfl ?_)))
    rintro t254 h _ w ⟨rfl, hS⟩
    refine pn 1 rfl (ln ?_)
    refine RC.iteB 28 rfl h (fun hc256 h => ?_) fun hc256 h => ?_
    next =>
     refine jtr (pn 1 rfl (lr (ir (ir (RQ.ret (ir ?_))))))
     obtain rfl := h.some
     exact rt results60 rfl ⟨rfl, hS.d0.d0.d0.d0.d0.d0.d0⟩
    refine jf (RC.skip (RQ.inB_n (tsr (pn 1 rfl (lr (ir (RQ.ret (ir ?_))))))))
    obtain rfl := h.some
    exact rt results60 rfl ⟨rfl, hS.d0.d0.d0.d0.d0.d0.d0⟩
  refine RL.e (OW.call (ls := [.tmp 13]) rfl rfl call106 rfl hc) rfl rfl ?_
  rintro _ w ⟨rfl, hS⟩
  refine pn 1 rfl (ln (RC.block (sr (pn 1 rfl (RL.s (Vl.bn true rfl rfl) rfl (pn 1 rfl (ln (jt (RC.exit (RQ.inB_miss rfl (RQ.exitT (RQ.inB_hit ?_))))))))))))
  refine RQ.then_n (RC.region (pn 2 rfl (ln (RQ.round (sr (pn 1 rfl (ln (RC.seq (jt (sk (RC.seq ?_)))))))))))
  refine RC.block (sr (RL.s (Vl.indexA (v := .agg #[.func (.func 107) #[] #[]]) underlying197 sizeOf196 rfl rfl (by decide) (by decide) (run_partA isAgg196 sizeOf196)) rfl (rr [0, 1] hS ?_)))
  refine fun b283 => it fun w hS => lnsr (rr [0] hS ?_)
  refine fun b284 => it fun w hS => ln (RC.seq (sr (rr [0, 2, 7] hS ?_)))
  refine it fun w hS => ?_
  obtain ⟨t285, hg286, h⟩ := h.bind
  have hc := model_links.ok hr4 hr7 hr10 hg286 hS
  rcases t285 with y287 | y297 | _
  · refine RL.e (OW.call (ls := [.tmp 13]) rfl rfl call107 rfl hc) rfl rfl ?_
    rintro _ w ⟨rfl, hS⟩
    refine pn 1 rfl (ln (RC.block (sr (pn 1 rfl (RL.s (Vl.bn false rfl rfl) rfl (pn 1 rfl (ln (jf (sr (r0 2 rfl (cF (fun _ hg => errors_As_2.ok hG0 hg hS) call25 h rfl rfl rfl ?_)))))))))))
    rintro t288 h _ w ⟨rfl, hS⟩
    refine pn 1 rfl (ln ?_)
    refine RC.iteB 18 rfl h (fun hc290 h => ?_) fun hc290 h => ?_
    next =>
     refine jtr (rr [0, 1, 0] hS ?_)
     refine it fun w hS => lr (ir (ir (RQ.ret (ir ?_))))
     obtain rfl := h.some
     exact rt results60 rfl ⟨rfl, hS.d0.d0.d0.d0.d0.d0.d0⟩
    refine jf (sr (r0 2 rfl (cF (fun _ hg => errors_Is.ok hg hS) call79 h rfl rfl rfl ?_)))
    rintro t291 h _ w ⟨rfl, hS⟩
    refine pn 1 rfl (ln ?_)
    refine RC.iteB 24 rfl h (fun hc293 h => ?_) fun hc293 h => ?_
    next =>
     refine jtr (pn 1 rfl (lr (ir (ir (RQ.ret (ir ?_))))))
     obtain rfl := h.some
     exact rt results60 rfl ⟨rfl, hS.d0.d0.d0.d0.d0.d0.d0⟩
    refine jf (sr (r0 2 rfl (cF (fun _ hg => errors_Is.ok hg hS) call79 h rfl rfl rfl ?_)))
    rintro t294 h _ w ⟨rfl, hS⟩
    refine pn 1 rfl (ln ?_)
    refine RC.iteB 28 rfl h (fun hc296 h => ?_) fun hc296 h => ?_
    next =>
     refine jtr (pn 1 rfl (lr (ir (ir (RQ.ret (ir ?_))))))
     obtain rfl := h.some
     exact rt results60 rfl ⟨rfl, hS.d0.d0.d0.d0.d0.d0.d0⟩
    refine jf (RC.skip (RQ.inB_n (tsr (pn 1 rfl (lr (ir (RQ.ret (ir ?_))))))))
    obtain rfl := h.some
    exact rt results60 rfl ⟨rfl, hS.d0.d0.d0.d0.d0.d0.d0⟩
  · refine RL.e (OW.call (ls := [.tmp 13]) rfl rfl call107 rfl hc) rfl rfl ?_
    rintro _ w ⟨rfl, hS⟩
    refine pn 1 rfl (ln (RC.block (sr (pn 1 rfl (RL.s (Vl.bn false rfl rfl) rfl (pn 1 rfl (ln (jf (sr (r0 2 rfl (cF (fun _ hg => errors_As_4.ok hG0 hg hS) call25 h rfl rfl rfl ?_)))))))))))
    rintro ⟨y300, y301⟩ h _ w ⟨rfl, hS⟩
    refine pn 1 rfl (ln ?_)
    refine RC.iteB 18 rfl h (fun hc302 h => ?_) fun hc302 h => ?_
    next =>
     refine jtr (rr [0, 1, 0] hS ?_)
     refine it fun w hS => lr (ir (ir (RQ.ret (ir ?_))))
     cases h.some
     exact rt results60 rfl ⟨rfl, hS.d0.d0.d0.d0.d0.d0.d0⟩
    refine jf (sr (r0 2 rfl (cF (fun _ hg => errors_Is_5.ok hg hS) call79 h rfl rfl rfl ?_)))
    rintro t303 h _ w ⟨rfl, hS⟩
    refine pn 1 rfl (ln ?_)
    refine RC.iteB 24 rfl h (fun hc305 h => ?_) fun hc305 h => ?_
    next =>
     refine jtr (pn 1 rfl (lr (ir (ir (RQ.ret (ir ?_))))))
     obtain rfl := h.some
     exact rt results60 rfl ⟨rfl, hS.d0.d0.d0.d0.d0.d0.d0⟩
    refine jf (sr (r0 2 rfl (cF (fun _ hg => errors_Is_5.ok hg hS) call79 h rfl rfl rfl ?_)))
    rintro t306 h _ w ⟨rfl, hS⟩
    refine pn 1 rfl (ln ?_)
    refine RC.iteB 28 rfl h (fun hc308 h => ?_) fun hc308 h => ?_
    next =>
     refine jtr (pn 1 rfl (lr (ir (ir (RQ.ret (ir ?_))))))
     obtain rfl := h.some
     exact rt results60 rfl ⟨rfl, hS.d0.d0.d0.d0.d0.d0.d0⟩
    refine jf (RC.skip (RQ.inB_n (tsr (pn 1 rfl (lr (ir (RQ.ret (ir ?_))))))))
    obtain rfl := h.some
    exact rt results60 rfl ⟨rfl, hS.d0.d0.d0.d0.d0.d0.d0⟩
  refine RL.e (OW.call (ls := [.tmp 13]) rfl rfl call107 rfl hc) rfl rfl ?_
  rintro _ w ⟨rfl, hS⟩
  refine pn 1 rfl (ln (RC.block (sr (pn 1 rfl (RL.s (Vl.bn true rfl rfl) rfl (pn 1 rfl (ln (jt (RC.exit (RQ.inB_miss rfl (RQ.exitT (RQ.inB_hit ?_))))))))))))
  refine RQ.then_n (RC.region (pn 2 rfl (ln (RQ.round (sr (pn 1 rfl (ln (RC.seq (jt (sk (RC.seq ?_)))))))))))
  refine RC.block (sr (RL.s (Vl.indexA (v := .agg #[.func (.func 108) #[] #[]]) underlying197 sizeOf196 rfl rfl (by decide) (by decide) (run_partA isAgg196 sizeOf196)) rfl (rr [0, 1] hS ?_)))
  refine fun b335 => it fun w hS => lnsr (rr [0] hS ?_)
  refine fun b336 => it fun w hS => ln (RC.seq (sr (rr [0, 2, 9] hS ?_)))
  refine it fun w hS => ?_
  obtain ⟨t337, hg338, h⟩ := h.bind
  have hc := model_starts.ok hr4 hr7 hr10 hg338 hS
  rcases t337 with y339 | y349 | _
  · refine RL.e (OW.call (ls := [.tmp 13]) rfl rfl call108 rfl hc) rfl rfl ?_
    rintro _ w ⟨rfl, hS⟩
    refine pn 1 rfl (ln (RC.block (sr (pn 1 rfl (RL.s (Vl.bn false rfl rfl) rfl (pn 1 rfl (ln (jf (sr (r0 2 rfl (cF (fun _ hg => errors_As_2.ok hG0 hg hS) call25 h rfl rfl rfl ?_)))))))))))
    rintro t340 h _ w ⟨rfl, hS⟩
    refine pn 1 rfl (ln ?_)
    refine RC.iteB 18 rfl h (fun hc342 h => ?_) fun hc342 h => ?_
    next =>
     refine jtr (rr [0, 1, 0] hS ?_)
     refine it fun w hS => lr (ir (ir (RQ.ret (ir ?_))))
     obtain rfl := h.some
     exact rt results60 rfl ⟨rfl, hS.d0.d0.d0.d0.d0.d0.d0.d0.d0⟩
    refine jf (sr (r0 2 rfl (cF (fun _ hg => errors_Is.ok hg hS) call79 h rfl rfl rfl ?_)))
    rintro t343 h _ w ⟨rfl, hS⟩
    refine pn 1 rfl (ln ?_)
    refine RC.iteB 24 rfl h (fun hc345 h => ?_) fun hc345 h => ?_
    next =>
     refine jtr (pn 1 rfl (lr (ir (ir (RQ.ret (ir ?_))))))
     obtain rfl := h.some
     exact rt results60 rfl ⟨rfl, hS.d0.d0.d0.d0.d0.d0.d0.d0.d0⟩
    refine jf (sr (r0 2 rfl (cF (fun _ hg => errors_Is.ok hg hS) call79 h rfl rfl rfl ?_)))
    rintro t346 h _ w ⟨rfl, hS⟩
    refine pn 1 rfl (ln ?_)
    refine RC.iteB 28 rfl h (fun hc348 h => ?_) fun hc348 h => ?_
    next =>
     refine jtr (pn 1 rfl (lr (ir (ir (RQ.ret (ir ?_))))))
     obtain rfl := h.some
     exact rt results60 rfl ⟨rfl, hS.d0.d0.d0.d0.d0.d0.d0.d0.d0⟩
    refine jf (RC.skip (RQ.inB_n (tsr (pn 1 rfl (lr (ir (RQ.ret (ir ?_))))))))
    obtain rfl := h.some
    exact rt results60 rfl ⟨rfl, hS.d0.d0.d0.d0.d0.d0.d0.d0.d0⟩
  · refine RL.e (OW.call (ls := [.tmp 13]) rfl rfl call108 rfl hc) rfl rfl ?_
    rintro _ w ⟨rfl, hS⟩
    refine pn 1 rfl (ln (RC.block (sr (pn 1 rfl (RL.s (Vl.bn false rfl rfl) rfl (pn 1 rfl (ln (jf (sr (r0 2 rfl (cF (fun _ hg => errors_As_4.ok hG0 hg hS) call25 h rfl rfl rfl ?_)))))))))))
    rintro ⟨y352, y353⟩ h _ w ⟨rfl, hS⟩
    refine pn 1 rfl (ln ?_)
    refine RC.iteB 18 rfl h (fun hc354 h => ?_) fun hc354 h => ?_
    next =>
     refine jtr (rr [0, 1, 0] hS ?_)
     refine it fun w hS => lr (ir (ir (RQ.ret (ir ?_))))
     cases h.some
     exact rt results60 rfl ⟨rfl, hS.d0.d0.d0.d0.d0.d0.d0.d0.d0⟩
    refine jf (sr (r0 2 rfl (cF (fun _ hg => errors_Is_5.ok hg hS) call79 h rfl rfl rfl ?_)))
    rintro t355 h _ w ⟨rfl, hS⟩
    refine pn 1 rfl (ln ?_)
    refine RC.iteB 24 rfl h (fun hc357 h => ?_) fun hc357 h => ?_
    next =>
     refine jtr (pn 1 rfl (lr (ir (ir (RQ.ret (ir ?_))))))
     obtain rfl := h.some
     exact rt results60 rfl ⟨rfl, hS.d0.d0.d0.d0.d0.d0.d0.d0.d0⟩
    refine jf (sr (r0 2 rfl (cF (fun _ hg => errors_Is_5.ok hg hS) call79 h rfl rfl rfl ?_)))
    rintro t358 h _ w ⟨rfl, hS⟩
    refine pn 1 rfl (ln ?_)
    refine RC.iteB 28 rfl h (fun hc360 h => ?_) fun hc360 h => ?_
    next =>
     refine jtr (pn 1 rfl (lr (ir (ir (RQ.ret (ir ?_))))))
     obtain rfl := h.some
     exact rt results60 rfl ⟨rfl, hS.d0.d0.d0.d0.d0.d0.d0.d0.d0⟩
    refine jf (RC.skip (RQ.inB_n (tsr (pn 1 rfl (lr (ir (RQ.ret (ir ?_))))))))
    obtain rfl := h.some
    exact rt results60 rfl ⟨rfl, hS.d0.d0.d0.d0.d0.d0.d0.d0.d0⟩
  refine RL.e (OW.call (ls := [.tmp 13]) rfl rfl call108 rfl hc) rfl rfl ?_
  rintro _ w ⟨rfl, hS⟩
  refine pn 1 rfl (ln (RC.block (sr (pn 1 rfl (RL.s (Vl.bn true rfl rfl) rfl (pn 1 rfl (ln (jt (RC.exit (RQ.inB_miss rfl (RQ.exitT (RQ.inB_hit ?_))))))))))))
  refine RQ.then_n (RC.region (pn 2 rfl (ln (RQ.round (sr (pn 1 rfl (ln (RC.seq (jf (RC.exit (RQ.exitT (RQ.exitT ?_))))))))))))
  refine RQ.inB_hit (tsr (pn 1 rfl (lr ?_)))
  obtain rfl := h.some
  exact rt results60 rfl ⟨rfl, hS.d0.d0.d0.d0.d0.d0.d0.d0.d0⟩
def model_Ways_1.f (a1 : api_Link) (a3 : Int) : Option (Bool) := some (decide (a1.From = a3))
theorem model_Ways_1.ok {a1 : api_Link} {a3 : Int} {b2 : Nat} {r : Bool} (h : model_Ways_1.f a1 a3 = some r) (hS : St B w (Cl b2 [iV a3] 3 :: l) hf) :
    Calls prog 87 #[.agg (C_api_Link a1).toArray, pV b2] w (Ret fun v w => v = .bool r ∧ St B w (Cl b2 [iV a3] 3 :: l) hf) := by
  have h := Holds.of h
  refine en func87 rfl ntmps87 rfl (sr (rr [0, 0] hS ?_))
  refine fun b5 => it fun w hS => lnsr (rr [0, 1, 2, 0, 0] hS ?_)
  refine it fun w hS => lr ?_
  cases h.some
  exact rt results87 rfl ⟨rfl, hS.d0⟩
end
end Go.Proofs.Gx
