/-
 The walks of functions, each with what it computes: printed by wip/gx.py.
-/
import Derived.Test.YtdaibkppbhbggaaGreatDoorW2
set_option linter.unusedVariables false
set_option linter.unusedSimpArgs false
set_option maxRecDepth 100000
set_option maxHeartbeats 4000000
namespace Go.Proofs.Gx
open Go.Sl Tryz
variable {B : Base} {w : World} {l : List HProp} {hf : Hp}
noncomputable section
def vm_cpu_run_1v2.f (a2 : vm_fault) : Option (vm_fault) := ((errors_Join_2.f a2).bind fun t12 => some t12)
theorem vm_cpu_run_1v2.ok {a2 r : vm_fault} {b1 : Nat} (h : vm_cpu_run_1v2.f a2 = some r) (hS : St B w (Cl b1 [.nilIface] 108 :: l) hf) :
   CallsD prog 134 #[pV b1] (.panicking (pan (.iface 262 (.agg #[iV a2.at_, iV a2.why])))) w (fun e u' w' => u' = .panicking (panR (.iface 262 (.agg #[iV a2.at_, iV a2.why]))) ∧ (Ret fun v w => ∃ (b_1 : Nat) (A_2 : Option Addr) (c_3 : Nat), v = .tuple #[] ∧ St B w (Cl b_1 [.slice A_2 1 c_3] 256 :: OSl 108 1 (.slice A_2 1 c_3) 1 [.iface 262 (.agg #[iV r.at_, iV r.why])] :: Cl b1 [.iface 254 (pV b_1)] 108 :: l) hf) e w') := by
 have h := Holds.of h
 refine deferCatch (args := [pV b1]) func134 rfl ntmps134 (Nat.le_of_ble_eq_true rfl) rfl (RC.block (sr (RL.s (Vl.bn false rfl rfl) rfl (ln (jf (sr (RL.s (Vl.tassert (r := .tuple #[.agg #[iV a2.at_, iV a2.why], .bool true]) rfl (fun w => run_tassert_same underlying262 rfl _ _ w)) rfl (pn 2 rfl (ln (jt (RC.seq ?_)))))))))))
 refine RC.region (rr [0, 1] hS ?_)
 refine fun b10 => it fun w hS => ln (RC.region (rr [1, 0] hS ?_))
 refine it fun w hS => RL.e (OW.buildSliceR (sz := 1) (cs := [.iface 262 (.agg #[iV a2.at_, iV a2.why])]) hS underlying225 zeroValue108 sizeOf108 (parts := [(0, .tmp 11)]) rfl rfl (by decide) (by decide) (by kernel_rfl)) rfl rfl ?_
 rintro _ w ⟨b11, rfl, hS⟩
 refine cF (fun _ hg => errors_Join_2.ok hg hS) call118 h rfl rfl rfl ?_
 rintro t12 h _ w ⟨b14, A15, c16, rfl, hS⟩
 refine rr [5] hS ?_
 refine it fun w hS => RL.nil (RQ.inB_n ?_)
 obtain rfl := h.some
 exact rtE results134 rfl ⟨b14, A15, c16, rfl, hS.d2.d2⟩
def vm_cpu_run.j14 (fn1258 : (Nat → Int)) (x1259 : Int) (l1260 : List api_Out) (x1263 : Int) : Option (((Nat → Int) × Int × List api_Out × Int) ⊕ (vm_fault × (Nat → Int) × Int × List api_Out × Int)) := ((vm_cpu_run_1.f).bind fun _ => some (.inl (fn1258, x1259, l1260, x1263)))
def vm_cpu_run.j18 (x1405 : Int) (fn1605 : (Nat → Int)) (x1606 : Int) (l1607 : List api_Out) (x1610 : Int) : Option (((Nat → Int) × Int × List api_Out × Int × Int) ⊕ (((Nat → Int) × Int × List api_Out × Int) ⊕ (vm_fault × (Nat → Int) × Int × List api_Out × Int))) := some (.inl (fn1605, x1606, l1607, x1610, IntKind.i64.wrap (x1405 - 1)))
def vm_cpu_run.l17b (a2 : List api_Instr) (a6 : Int) (a7 : List api_Link) (a11 a12 a13 a14 a15 a16 a17 : Int) (a18 : Bool) : (Nat → Int) × Int × List api_Out × Int × Int → Option (((Nat → Int) × Int × List api_Out × Int × Int) ⊕ (((Nat → Int) × Int × List api_Out × Int) ⊕ (vm_fault × (Nat → Int) × Int × List api_Out × Int)))
 | (fn1399, x1400, l1401, x1404, x1405) => (if 0 < x1405 then (if x1404 < (a2.length : Int) then (if 0 ≤ x1404 then (if (nth a2 x1404).Op = 0 then ((vm_cpu_halt.f a2 a6 a7 a11 a12 a13 a14 a15 a16 a17 a18 x1400 l1401 (IntKind.i64.wrap (x1404 + 1)) fn1399 (nth a2 x1404)).bind fun t1614 => vm_cpu_run.j18 x1405 fn1399 x1400 l1401 t1614) else (if (nth a2 x1404).Op = 1 then ((vm_cpu_set.f a2 a6 a7 a11 a12 a13 a14 a15 a16 a17 a18 x1400 l1401 (IntKind.i64.wrap (x1404 + 1)) fn1399 (nth a2 x1404)).bind fun t1617 => vm_cpu_run.j18 x1405 t1617 x1400 l1401 (IntKind.i64.wrap (x1404 + 1))) else (if (nth a2 x1404).Op = 2 then ((vm_cpu_move.f a2 a6 a7 a11 a12 a13 a14 a15 a16 a17 a18 x1400 l1401 (IntKind.i64.wrap (x1404 + 1)) fn1399 (nth a2 x1404)).bind fun t1620 => vm_cpu_run.j18 x1405 t1620 x1400 l1401 (IntKind.i64.wrap (x1404 + 1))) else (if (nth a2 x1404).Op = 3 then ((vm_cpu_add.f a2 a6 a7 a11 a12 a13 a14 a15 a16 a17 a18 x1400 l1401 (IntKind.i64.wrap (x1404 + 1)) fn1399 (nth a2 x1404)).bind fun t1623 => vm_cpu_run.j18 x1405 t1623 x1400 l1401 (IntKind.i64.wrap (x1404 + 1))) else (if (nth a2 x1404).Op = 4 then ((vm_cpu_sub.f a2 a6 a7 a11 a12 a13 a14 a15 a16 a17 a18 x1400 l1401 (IntKind.i64.wrap (x1404 + 1)) fn1399 (nth a2 x1404)).bind fun t1626 => vm_cpu_run.j18 x1405 t1626 x1400 l1401 (IntKind.i64.wrap (x1404 + 1))) else (if (nth a2 x1404).Op = 5 then ((vm_cpu_mul.f a2 a6 a7 a11 a12 a13 a14 a15 a16 a17 a18 x1400 l1401 (IntKind.i64.wrap (x1404 + 1)) fn1399 (nth a2 x1404)).bind fun t1629 => vm_cpu_run.j18 x1405 t1629 x1400 l1401 (IntKind.i64.wrap (x1404 + 1))) else (if (nth a2 x1404).Op = 6 then ((vm_cpu_div.f a2 a6 a7 a11 a12 a13 a14 a15 a16 a17 a18 x1400 l1401 (IntKind.i64.wrap (x1404 + 1)) fn1399 (nth a2 x1404)).bind fun t1632 => vm_cpu_run.j18 x1405 t1632 x1400 l1401 (IntKind.i64.wrap (x1404 + 1))) else (if (nth a2 x1404).Op = 7 then ((vm_cpu_mod.f a2 a6 a7 a11 a12 a13 a14 a15 a16 a17 a18 x1400 l1401 (IntKind.i64.wrap (x1404 + 1)) fn1399 (nth a2 x1404)).bind fun t1635 => vm_cpu_run.j18 x1405 t1635 x1400 l1401 (IntKind.i64.wrap (x1404 + 1))) else (if (nth a2 x1404).Op = 8 then ((vm_cpu_less.f a2 a6 a7 a11 a12 a13 a14 a15 a16 a17 a18 x1400 l1401 (IntKind.i64.wrap (x1404 + 1)) fn1399 (nth a2 x1404)).bind fun t1638 => vm_cpu_run.j18 x1405 t1638 x1400 l1401 (IntKind.i64.wrap (x1404 + 1))) else (if (nth a2 x1404).Op = 9 then ((vm_cpu_same.f a2 a6 a7 a11 a12 a13 a14 a15 a16 a17 a18 x1400 l1401 (IntKind.i64.wrap (x1404 + 1)) fn1399 (nth a2 x1404)).bind fun t1641 => vm_cpu_run.j18 x1405 t1641 x1400 l1401 (IntKind.i64.wrap (x1404 + 1))) else (if (nth a2 x1404).Op = 10 then ((vm_cpu_jump.f a2 a6 a7 a11 a12 a13 a14 a15 a16 a17 a18 x1400 l1401 (IntKind.i64.wrap (x1404 + 1)) fn1399 (nth a2 x1404)).bind fun t1644 => vm_cpu_run.j18 x1405 fn1399 x1400 l1401 t1644) else (if (nth a2 x1404).Op = 11 then ((vm_cpu_zero.f a2 a6 a7 a11 a12 a13 a14 a15 a16 a17 a18 x1400 l1401 (IntKind.i64.wrap (x1404 + 1)) fn1399 (nth a2 x1404)).bind fun t1647 => vm_cpu_run.j18 x1405 fn1399 x1400 l1401 t1647) else (if (nth a2 x1404).Op = 12 then ((vm_cpu_send.f a2 a6 a7 a11 a12 a13 a14 a15 a16 a17 a18 x1400 l1401 (IntKind.i64.wrap (x1404 + 1)) fn1399 (nth a2 x1404)).bind fun t1650 => match t1650 with | .inl y1652 => vm_cpu_run.j18 x1405 fn1399 x1400 y1652 (IntKind.i64.wrap (x1404 + 1)) | .inr (y1655) => (Option.map Sum.inr ((vm_cpu_run_1v2.f y1655).bind fun t1656 => some (.inr ((t1656, fn1399, x1400, l1401, IntKind.i64.wrap (x1404 + 1))))))) else (if (nth a2 x1404).Op = 13 then ((vm_cpu_draw.f a2 a6 a7 a11 a12 a13 a14 a15 a16 a17 a18 x1400 l1401 (IntKind.i64.wrap (x1404 + 1)) fn1399 (nth a2 x1404)).bind fun (y1664, y1665) => vm_cpu_run.j18 x1405 y1664 y1665 l1401 (IntKind.i64.wrap (x1404 + 1))) else (if (nth a2 x1404).Op = 14 then ((vm_cpu_value.f a2 a6 a7 a11 a12 a13 a14 a15 a16 a17 a18 x1400 l1401 (IntKind.i64.wrap (x1404 + 1)) fn1399 (nth a2 x1404)).bind fun t1667 => vm_cpu_run.j18 x1405 t1667 x1400 l1401 (IntKind.i64.wrap (x1404 + 1))) else (if (nth a2 x1404).Op = 15 then ((vm_cpu_time.f a2 a6 a7 a11 a12 a13 a14 a15 a16 a17 a18 x1400 l1401 (IntKind.i64.wrap (x1404 + 1)) fn1399 (nth a2 x1404)).bind fun t1670 => vm_cpu_run.j18 x1405 t1670 x1400 l1401 (IntKind.i64.wrap (x1404 + 1))) else (if (nth a2 x1404).Op = 16 then ((vm_cpu_self.f a2 a6 a7 a11 a12 a13 a14 a15 a16 a17 a18 x1400 l1401 (IntKind.i64.wrap (x1404 + 1)) fn1399 (nth a2 x1404)).bind fun t1673 => vm_cpu_run.j18 x1405 t1673 x1400 l1401 (IntKind.i64.wrap (x1404 + 1))) else none))))))))))))))))) else none) else (Option.map Sum.inr (vm_cpu_run.j14 fn1399 x1400 l1401 x1404))) else (Option.map Sum.inr (vm_cpu_run.j14 fn1399 x1400 l1401 x1404)))
def vm_cpu_run.l17 (a2 : List api_Instr) (a6 : Int) (a7 : List api_Link) (a11 a12 a13 a14 a15 a16 a17 : Int) (a18 : Bool) (s : (Nat → Int) × Int × List api_Out × Int × Int) : Option (((Nat → Int) × Int × List api_Out × Int) ⊕ (vm_fault × (Nat → Int) × Int × List api_Out × Int)) := loopR (vm_cpu_run.l17b a2 a6 a7 a11 a12 a13 a14 a15 a16 a17 a18) s
def vm_cpu_run.f (a2 : List api_Instr) (a6 : Int) (a7 : List api_Link) (a11 a12 a13 a14 a15 a16 a17 : Int) (a18 : Bool) (a19 : Int) (a22 : List api_Out) (a23 : Int) (fn24 : (Nat → Int)) : Option (((Nat → Int) × Int × List api_Out × Int) ⊕ (vm_fault × (Nat → Int) × Int × List api_Out × Int)) := ((vm_operators.f).bind fun _ => vm_cpu_run.l17 a2 a6 a7 a11 a12 a13 a14 a15 a16 a17 a18 (fn24, a19, a22, a23, 4096))
theorem vm_cpu_run.ok {a2 : List api_Instr} {a6 a11 a12 a13 a14 a15 a16 a17 a19 a23 : Int} {a7 : List api_Link} {a18 : Bool} {a22 : List api_Out} {fn24 : (Nat → Int)} {b1 c4 c9 c21 : Nat} {A3 A8 A20 : Option Addr} (hr5 : SlR E_api_Instr.rep hf A3 c4 a2) (hr10 : SlR E_api_Link.rep hf A8 c9 a7) {r : ((Nat → Int) × Int × List api_Out × Int) ⊕ (vm_fault × (Nat → Int) × Int × List api_Out × Int)} (h : vm_cpu_run.f a2 a6 a7 a11 a12 a13 a14 a15 a16 a17 a18 a19 a22 a23 fn24 = some r) (hS : St B w (Cl b1 [sV A3 a2 c4, iV a6, sV A8 a7 c9, .int .u64 a11, iV a12, iV a13, iV a14, iV a15, iV a16, iV a17, .bool a18, iV (fn24 0), iV (fn24 1), iV (fn24 2), iV (fn24 3), iV (fn24 4), iV (fn24 5), iV (fn24 6), iV (fn24 7), iV (fn24 8), iV (fn24 9), iV (fn24 10), iV (fn24 11), iV (fn24 12), iV (fn24 13), iV (fn24 14), iV (fn24 15), iV a19, sV A20 a22 c21, iV a23] 260 :: OSf E_api_Out 265 (sV A20 a22 c21) a22 :: l) hf) :
   Calls prog 129 #[pV b1] w (Ret fun v w => match (generalizing := false) r with | .inl r_ => ∃ (A_1 : Option Addr) (c_2 : Nat), v = .nilIface ∧ St B w (OSf E_api_Out 265 (sV A_1 r_.2.2.1 c_2) r_.2.2.1 :: Cl b1 [sV A3 a2 c4, iV a6, sV A8 a7 c9, .int .u64 a11, iV a12, iV a13, iV a14, iV a15, iV a16, iV a17, .bool a18, iV (r_.1 0), iV (r_.1 1), iV (r_.1 2), iV (r_.1 3), iV (r_.1 4), iV (r_.1 5), iV (r_.1 6), iV (r_.1 7), iV (r_.1 8), iV (r_.1 9), iV (r_.1 10), iV (r_.1 11), iV (r_.1 12), iV (r_.1 13), iV (r_.1 14), iV (r_.1 15), iV r_.2.1, sV A_1 r_.2.2.1 c_2, iV r_.2.2.2] 260 :: l) hf | .inr (r_) => ∃ (b_3 : Nat) (A_4 : Option Addr) (c_5 : Nat) (A_6 : Option Addr) (c_7 : Nat), v = .iface 254 (pV b_3) ∧ St B w (Cl b_3 [.slice A_4 1 c_5] 256 :: OSl 108 1 (.slice A_4 1 c_5) 1 [.iface 262 (.agg #[iV r_.1.at_, iV r_.1.why])] :: OSf E_api_Out 265 (sV A_6 r_.2.2.2.1 c_7) r_.2.2.2.1 :: Cl b1 [sV A3 a2 c4, iV a6, sV A8 a7 c9, .int .u64 a11, iV a12, iV a13, iV a14, iV a15, iV a16, iV a17, .bool a18, iV (r_.2.1 0), iV (r_.2.1 1), iV (r_.2.1 2), iV (r_.2.1 3), iV (r_.2.1 4), iV (r_.2.1 5), iV (r_.2.1 6), iV (r_.2.1 7), iV (r_.2.1 8), iV (r_.2.1 9), iV (r_.2.1 10), iV (r_.2.1 11), iV (r_.2.1 12), iV (r_.2.1 13), iV (r_.2.1 14), iV (r_.2.1 15), iV r_.2.2.1, sV A_6 r_.2.2.2.1 c_7, iV r_.2.2.2.2] 260 :: l) hf) := by
 have h := Holds.of h
 refine enterD (args := [pV b1]) func129 rfl ntmps129 (Nat.le_of_ble_eq_true rfl) (sr (rr [0] hS ?_))
 refine fun b850 => it fun w hS => lnsr (RL.s (Vl.makeFunc (fi := []) (ca := [.tmp 2]) rfl rfl) rfl (RL.defer rfl (lnsr (cF (fun _ hg => vm_operators.ok hg hS) call135 h rfl rfl rfl ?_))))
 rintro _ h _ w ⟨b853, rfl, hS⟩
 refine pn 1 rfl (ln ?_)
 refine RC.join (fun (s : (Nat → Int) × Int × List api_Out × Int) a w => ∃ fn1258 x1259 l1260 x1263, s = (fn1258, x1259, l1260, x1263) ∧ Holds (· = r) (vm_cpu_run.j14 fn1258 x1259 l1260 x1263) ∧ ∃ A1261 c1262, Has ⟨50, [⟨.fn (.func 134) #[pV b850], #[]⟩], true⟩ [(2, pV b850)] a ∧ St B w (OSf E_api_Out 265 (sV A1261 l1260 c1262) l1260 :: Cl b850 [.nilIface] 108 :: Cl b1 [sV A3 a2 c4, iV a6, sV A8 a7 c9, .int .u64 a11, iV a12, iV a13, iV a14, iV a15, iV a16, iV a17, .bool a18, iV (fn1258 0), iV (fn1258 1), iV (fn1258 2), iV (fn1258 3), iV (fn1258 4), iV (fn1258 5), iV (fn1258 6), iV (fn1258 7), iV (fn1258 8), iV (fn1258 9), iV (fn1258 10), iV (fn1258 11), iV (fn1258 12), iV (fn1258 13), iV (fn1258 14), iV (fn1258 15), iV x1259, sV A1261 l1260 c1262, iV x1263] 260 :: l) hf) ?_ ?_
 · rintro _ a w ⟨fn1258, x1259, l1260, x1263, rfl, h, A1261, c1262, ha, hS⟩
   refine ro ha (sr (rr [2] hS ?_))
   refine it fun w hS => lr ?_
   obtain ⟨t1264, hg1265, h⟩ := h.bind
   cases h.some
   refine RQ.deferRet results129 (fun w => by kernel_rfl) (vm_cpu_run_1.ok hg1265 hS.p1) ?_
   rintro _ w ⟨rfl, hS⟩
   have hS : St B w (_ :: _ :: _ :: l) hf := hS
   exact ⟨[.nilIface], ⟨⟨_, rfl, run_loadVar1 isAgg108 (hS.cell 0 rfl rfl)⟩, trivial⟩, ⟨A1261, c1262, rfl, hS.d0⟩⟩
 refine sr (pn 1 rfl (ln (RC.block (fun a ha => lp h (fun (s : (Nat → Int) × Int × List api_Out × Int × Int) a w => ∃ fn1399 x1400 l1401 x1404 x1405, s = (fn1399, x1400, l1401, x1404, x1405) ∧ ∃ A1402 c1403, Has ⟨50, [⟨.fn (.func 134) #[pV b850], #[]⟩], true⟩ [(0, pV b1), (2, pV b850), (3, .map (some b853)), (4, iV x1405)] a ∧ St B w (OSf E_api_Out 265 (sV A1402 l1401 c1403) l1401 :: MapL b853 [({ key := iV 0, val := .func (.func 139) #[] #[], born := 0 } : MapEntry), ({ key := iV 1, val := .func (.func 140) #[] #[], born := 1 } : MapEntry), ({ key := iV 2, val := .func (.func 141) #[] #[], born := 2 } : MapEntry), ({ key := iV 3, val := .func (.func 142) #[] #[], born := 3 } : MapEntry), ({ key := iV 4, val := .func (.func 143) #[] #[], born := 4 } : MapEntry), ({ key := iV 5, val := .func (.func 144) #[] #[], born := 5 } : MapEntry), ({ key := iV 6, val := .func (.func 145) #[] #[], born := 6 } : MapEntry), ({ key := iV 7, val := .func (.func 146) #[] #[], born := 7 } : MapEntry), ({ key := iV 8, val := .func (.func 147) #[] #[], born := 8 } : MapEntry), ({ key := iV 9, val := .func (.func 148) #[] #[], born := 9 } : MapEntry), ({ key := iV 10, val := .func (.func 149) #[] #[], born := 10 } : MapEntry), ({ key := iV 11, val := .func (.func 150) #[] #[], born := 11 } : MapEntry), ({ key := iV 12, val := .func (.func 151) #[] #[], born := 12 } : MapEntry), ({ key := iV 13, val := .func (.func 152) #[] #[], born := 13 } : MapEntry), ({ key := iV 14, val := .func (.func 153) #[] #[], born := 14 } : MapEntry), ({ key := iV 15, val := .func (.func 154) #[] #[], born := 15 } : MapEntry), ({ key := iV 16, val := .func (.func 155) #[] #[], born := 16 } : MapEntry)] 17 :: Cl b850 [.nilIface] 108 :: Cl b1 [sV A3 a2 c4, iV a6, sV A8 a7 c9, .int .u64 a11, iV a12, iV a13, iV a14, iV a15, iV a16, iV a17, .bool a18, iV (fn1399 0), iV (fn1399 1), iV (fn1399 2), iV (fn1399 3), iV (fn1399 4), iV (fn1399 5), iV (fn1399 6), iV (fn1399 7), iV (fn1399 8), iV (fn1399 9), iV (fn1399 10), iV (fn1399 11), iV (fn1399 12), iV (fn1399 13), iV (fn1399 14), iV (fn1399 15), iV x1400, sV A1402 l1401 c1403, iV x1404] 260 :: l) hf) ⟨_, _, _, _, _, rfl, _, _, ha.tE rfl, hS.p3⟩ ?_))))
 rintro G1541 _ a w ⟨fn1399, x1400, l1401, x1404, x1405, rfl, A1402, c1403, ha, hS⟩ h
 refine ro ha (RC.seq (RC.seq (RC.noPan (dr [0, 3, 6, 9, 12, 15, 19, 23, 26, 29, 32, 35, 38, 41, 44] [13, 14] hS fun w hS => pp 3 rfl ?_))))
 refine RP.iteP 10 rfl h (fun hc1544 h => ?_) fun hc1544 h => ?_
 next =>
  refine rq [0, 0, 0, 4, 0, 0, 0, 0, 4, 0, 0, 0] hS ?_
  refine it (RP.nil (RQ.noPan_n (RQ.then_n ?_)))
  refine RC.iteP 22 rfl h (fun hc1545 h => ?_) fun hc1545 h => ?_
  next =>
   refine jt (sk ?_)
   refine RC.join (fun (s : (Nat → Int) × Int × List api_Out × Int) a w => ∃ fn1605 x1606 l1607 x1610, s = (fn1605, x1606, l1607, x1610) ∧ Holds (Sum.elim G1541 (· = r)) (vm_cpu_run.j18 x1405 fn1605 x1606 l1607 x1610) ∧ ∃ A1608 c1609, Has ⟨50, [⟨.fn (.func 134) #[pV b850], #[]⟩], true⟩ [(0, pV b1), (2, pV b850), (3, .map (some b853)), (4, iV x1405), (11, pV b1), (12, pV b1), (13, .pointer (some ⟨b1, 29, none⟩)), (14, iV x1404), (15, pV b1), (16, pV b1), (17, pV b1), (18, pV b1), (19, sV A3 a2 c4), (20, iV (a2.length : Int)), (21, .bool (decide (x1404 < (a2.length : Int))))] a ∧ St B w (OSf E_api_Out 265 (sV A1608 l1607 c1609) l1607 :: Cl b1 [sV A3 a2 c4, iV a6, sV A8 a7 c9, .int .u64 a11, iV a12, iV a13, iV a14, iV a15, iV a16, iV a17, .bool a18, iV (fn1605 0), iV (fn1605 1), iV (fn1605 2), iV (fn1605 3), iV (fn1605 4), iV (fn1605 5), iV (fn1605 6), iV (fn1605 7), iV (fn1605 8), iV (fn1605 9), iV (fn1605 10), iV (fn1605 11), iV (fn1605 12), iV (fn1605 13), iV (fn1605 14), iV (fn1605 15), iV x1606, sV A1608 l1607 c1609, iV x1610] 260 :: MapL b853 [({ key := iV 0, val := .func (.func 139) #[] #[], born := 0 } : MapEntry), ({ key := iV 1, val := .func (.func 140) #[] #[], born := 1 } : MapEntry), ({ key := iV 2, val := .func (.func 141) #[] #[], born := 2 } : MapEntry), ({ key := iV 3, val := .func (.func 142) #[] #[], born := 3 } : MapEntry), ({ key := iV 4, val := .func (.func 143) #[] #[], born := 4 } : MapEntry), ({ key := iV 5, val := .func (.func 144) #[] #[], born := 5 } : MapEntry), ({ key := iV 6, val := .func (.func 145) #[] #[], born := 6 } : MapEntry), ({ key := iV 7, val := .func (.func 146) #[] #[], born := 7 } : MapEntry), ({ key := iV 8, val := .func (.func 147) #[] #[], born := 8 } : MapEntry), ({ key := iV 9, val := .func (.func 148) #[] #[], born := 9 } : MapEntry), ({ key := iV 10, val := .func (.func 149) #[] #[], born := 10 } : MapEntry), ({ key := iV 11, val := .func (.func 150) #[] #[], born := 11 } : MapEntry), ({ key := iV 12, val := .func (.func 151) #[] #[], born := 12 } : MapEntry), ({ key := iV 13, val := .func (.func 152) #[] #[], born := 13 } : MapEntry), ({ key := iV 14, val := .func (.func 153) #[] #[], born := 14 } : MapEntry), ({ key := iV 15, val := .func (.func 154) #[] #[], born := 15 } : MapEntry), ({ key := iV 16, val := .func (.func 155) #[] #[], born := 16 } : MapEntry)] 17 :: Cl b850 [.nilIface] 108 :: l) hf) ?_ ?_
   · rintro _ a w ⟨fn1605, x1606, l1607, x1610, rfl, h, A1608, c1609, ha, hS⟩
     refine ro ha (RC.region (pn 3 rfl (RL.nil ?_)))
     exact fun a ha => ⟨_, h.some, _, _, _, _, _, rfl, _, _, ha.tE rfl, hS.p3.p3.p2⟩
   refine RC.block (RC.seq (RC.noPan (dr [0, 3, 6, 9, 13, 15, 18, 21, 25, 28, 31, 35, 38] [12] hS fun w hS => rq [0, 0, 0, 0, 4, 0, 0, 0, 4] hS ?_)))
   refine it ?_
   obtain ⟨hq1611, h⟩ := h.req
   refine RP.s 0 9 rfl rfl hS (fun w hS => Vl.indexAddr underlying89 sizeOf269 rfl rfl ((hr5.2.world hS.sub).adr hq1611 hc1545) hq1611 hc1545 rfl) rfl (RP.s 0 10 rfl rfl hS (fun w hS => Vl.loadA isAgg269 sizeOf269 rfl rfl ((hr5.2.world hS.sub).cells hq1611 hc1545)) rfl (RP.e 11 rfl (OW.alloc (cs := [iV 0, iV 0, iV 0, iV 0]) hS zeroValue269 rfl) rfl rfl ?_))
   rintro _ w ⟨b1612, rfl, hS⟩
   refine ⟨kp ⟨fun _ => hS.d0, trivial⟩, ?_⟩
   refine RP.e0 12 rfl (OW.store (vs := (C_api_Instr (nth a2 x1404))) 0 hS rfl rfl rfl rfl sizeOf269 rfl rfl rfl rfl) rfl ?_
   rintro _ w ⟨rfl, hS⟩
   have hS : St B w (Cl _ [_, _, _, _] _ :: _ :: _ :: _ :: _ :: l) hf := hS
   refine ⟨kp ⟨(by intro hx; cases hx), trivial⟩, ?_⟩
   refine RP.nil (RQ.noPan_n (tsr (rr [0, 0, 0, 5, 0, 0, 0, 5] hS ?_)))
   refine it fun w hS => ln (RC.region (rr [0, 0, 1] hS ?_))
   refine it fun w hS => ?_
   by_cases hc1613 : (nth a2 x1404).Op = 0
   case pos =>
    have h := h.pos hc1613
    refine RL.s (Vl.lookupL (n' := 0) (j := 0) (v := .func (.func 139) #[] #[]) 2 hS rfl underlying274 underlying3 rfl rfl hc1613 rfl) rfl (rr [0, 1] hS ?_)
    refine it fun w hS => ?_
    obtain ⟨t1614, hg1615, h⟩ := h.bind
    have hc := vm_cpu_halt.ok hr5 hr10 hg1615 hS.p1.p4
    refine RL.e (OW.call (ls := [.tmp 47, .tmp 48]) rfl rfl call139 rfl hc) rfl rfl ?_
    rintro _ w ⟨rfl, hS⟩
    refine RL.nil (RQ.inB_n ?_)
    exact fun a ha => ⟨_, _, _, _, _, rfl, h, _, _, ha.tE rfl, hS.d2.p1⟩
   case neg =>
    have h := h.neg hc1613
    by_cases hc1616 : (nth a2 x1404).Op = 1
    case pos =>
     have h := h.pos hc1616
     refine RL.s (Vl.lookupL (n' := 1) (j := 1) (v := .func (.func 140) #[] #[]) 2 hS rfl underlying274 underlying3 rfl rfl hc1616 rfl) rfl (rr [0, 1] hS ?_)
     refine it fun w hS => ?_
     obtain ⟨t1617, hg1618, h⟩ := h.bind
     have hc := vm_cpu_set.ok hr5 hr10 hg1618 hS.p1.p4
     refine RL.e (OW.call (ls := [.tmp 47, .tmp 48]) rfl rfl call140 rfl hc) rfl rfl ?_
     rintro _ w ⟨rfl, hS⟩
     refine RL.nil (RQ.inB_n ?_)
     exact fun a ha => ⟨_, _, _, _, _, rfl, h, _, _, ha.tE rfl, hS.d2.p1⟩
    case neg =>
     have h := h.neg hc1616
     by_cases hc1619 : (nth a2 x1404).Op = 2
     case pos =>
      have h := h.pos hc1619
      refine RL.s (Vl.lookupL (n' := 2) (j := 2) (v := .func (.func 141) #[] #[]) 2 hS rfl underlying274 underlying3 rfl rfl hc1619 rfl) rfl (rr [0, 1] hS ?_)
      refine it fun w hS => ?_
      obtain ⟨t1620, hg1621, h⟩ := h.bind
      have hc := vm_cpu_move.ok hr5 hr10 hg1621 hS.p1.p4
      refine RL.e (OW.call (ls := [.tmp 47, .tmp 48]) rfl rfl call141 rfl hc) rfl rfl ?_
      rintro _ w ⟨rfl, hS⟩
      refine RL.nil (RQ.inB_n ?_)
      exact fun a ha => ⟨_, _, _, _, _, rfl, h, _, _, ha.tE rfl, hS.d2.p1⟩
     case neg =>
      have h := h.neg hc1619
      by_cases hc1622 : (nth a2 x1404).Op = 3
      case pos =>
       have h := h.pos hc1622
       refine RL.s (Vl.lookupL (n' := 3) (j := 3) (v := .func (.func 142) #[] #[]) 2 hS rfl underlying274 underlying3 rfl rfl hc1622 rfl) rfl (rr [0, 1] hS ?_)
       refine it fun w hS => ?_
       obtain ⟨t1623, hg1624, h⟩ := h.bind
       have hc := vm_cpu_add.ok hr5 hr10 hg1624 hS.p1.p4
       refine RL.e (OW.call (ls := [.tmp 47, .tmp 48]) rfl rfl call142 rfl hc) rfl rfl ?_
       rintro _ w ⟨rfl, hS⟩
       refine RL.nil (RQ.inB_n ?_)
       exact fun a ha => ⟨_, _, _, _, _, rfl, h, _, _, ha.tE rfl, hS.d2.p1⟩
      case neg =>
       have h := h.neg hc1622
       by_cases hc1625 : (nth a2 x1404).Op = 4
       case pos =>
        have h := h.pos hc1625
        refine RL.s (Vl.lookupL (n' := 4) (j := 4) (v := .func (.func 143) #[] #[]) 2 hS rfl underlying274 underlying3 rfl rfl hc1625 rfl) rfl (rr [0, 1] hS ?_)
        refine it fun w hS => ?_
        obtain ⟨t1626, hg1627, h⟩ := h.bind
        have hc := vm_cpu_sub.ok hr5 hr10 hg1627 hS.p1.p4
        refine RL.e (OW.call (ls := [.tmp 47, .tmp 48]) rfl rfl call143 rfl hc) rfl rfl ?_
        rintro _ w ⟨rfl, hS⟩
        refine RL.nil (RQ.inB_n ?_)
        exact fun a ha => ⟨_, _, _, _, _, rfl, h, _, _, ha.tE rfl, hS.d2.p1⟩
       case neg =>
        have h := h.neg hc1625
        by_cases hc1628 : (nth a2 x1404).Op = 5
        case pos =>
         have h := h.pos hc1628
         refine RL.s (Vl.lookupL (n' := 5) (j := 5) (v := .func (.func 144) #[] #[]) 2 hS rfl underlying274 underlying3 rfl rfl hc1628 rfl) rfl (rr [0, 1] hS ?_)
         refine it fun w hS => ?_
         obtain ⟨t1629, hg1630, h⟩ := h.bind
         have hc := vm_cpu_mul.ok hr5 hr10 hg1630 hS.p1.p4
         refine RL.e (OW.call (ls := [.tmp 47, .tmp 48]) rfl rfl call144 rfl hc) rfl rfl ?_
         rintro _ w ⟨rfl, hS⟩
         refine RL.nil (RQ.inB_n ?_)
         exact fun a ha => ⟨_, _, _, _, _, rfl, h, _, _, ha.tE rfl, hS.d2.p1⟩
        case neg =>
         have h := h.neg hc1628
         by_cases hc1631 : (nth a2 x1404).Op = 6
         case pos =>
          have h := h.pos hc1631
          refine RL.s (Vl.lookupL (n' := 6) (j := 6) (v := .func (.func 145) #[] #[]) 2 hS rfl underlying274 underlying3 rfl rfl hc1631 rfl) rfl (rr [0, 1] hS ?_)
          refine it fun w hS => ?_
          obtain ⟨t1632, hg1633, h⟩ := h.bind
          have hc := vm_cpu_div.ok hr5 hr10 hg1633 hS.p1.p4
          refine RL.e (OW.call (ls := [.tmp 47, .tmp 48]) rfl rfl call145 rfl hc) rfl rfl ?_
          rintro _ w ⟨rfl, hS⟩
          refine RL.nil (RQ.inB_n ?_)
          exact fun a ha => ⟨_, _, _, _, _, rfl, h, _, _, ha.tE rfl, hS.d2.p1⟩
         case neg =>
          have h := h.neg hc1631
          by_cases hc1634 : (nth a2 x1404).Op = 7
          case pos =>
           have h := h.pos hc1634
           refine RL.s (Vl.lookupL (n' := 7) (j := 7) (v := .func (.func 146) #[] #[]) 2 hS rfl underlying274 underlying3 rfl rfl hc1634 rfl) rfl (rr [0, 1] hS ?_)
           refine it fun w hS => ?_
           obtain ⟨t1635, hg1636, h⟩ := h.bind
           have hc := vm_cpu_mod.ok hr5 hr10 hg1636 hS.p1.p4
           refine RL.e (OW.call (ls := [.tmp 47, .tmp 48]) rfl rfl call146 rfl hc) rfl rfl ?_
           rintro _ w ⟨rfl, hS⟩
           refine RL.nil (RQ.inB_n ?_)
           exact fun a ha => ⟨_, _, _, _, _, rfl, h, _, _, ha.tE rfl, hS.d2.p1⟩
          case neg =>
           have h := h.neg hc1634
           by_cases hc1637 : (nth a2 x1404).Op = 8
           case pos =>
            have h := h.pos hc1637
            refine RL.s (Vl.lookupL (n' := 8) (j := 8) (v := .func (.func 147) #[] #[]) 2 hS rfl underlying274 underlying3 rfl rfl hc1637 rfl) rfl (rr [0, 1] hS ?_)
            refine it fun w hS => ?_
            obtain ⟨t1638, hg1639, h⟩ := h.bind
            have hc := vm_cpu_less.ok hr5 hr10 hg1639 hS.p1.p4
            refine RL.e (OW.call (ls := [.tmp 47, .tmp 48]) rfl rfl call147 rfl hc) rfl rfl ?_
            rintro _ w ⟨rfl, hS⟩
            refine RL.nil (RQ.inB_n ?_)
            exact fun a ha => ⟨_, _, _, _, _, rfl, h, _, _, ha.tE rfl, hS.d2.p1⟩
           case neg =>
            have h := h.neg hc1637
            by_cases hc1640 : (nth a2 x1404).Op = 9
            case pos =>
             have h := h.pos hc1640
             refine RL.s (Vl.lookupL (n' := 9) (j := 9) (v := .func (.func 148) #[] #[]) 2 hS rfl underlying274 underlying3 rfl rfl hc1640 rfl) rfl (rr [0, 1] hS ?_)
             refine it fun w hS => ?_
             obtain ⟨t1641, hg1642, h⟩ := h.bind
             have hc := vm_cpu_same.ok hr5 hr10 hg1642 hS.p1.p4
             refine RL.e (OW.call (ls := [.tmp 47, .tmp 48]) rfl rfl call148 rfl hc) rfl rfl ?_
             rintro _ w ⟨rfl, hS⟩
             refine RL.nil (RQ.inB_n ?_)
             exact fun a ha => ⟨_, _, _, _, _, rfl, h, _, _, ha.tE rfl, hS.d2.p1⟩
            case neg =>
             have h := h.neg hc1640
             by_cases hc1643 : (nth a2 x1404).Op = 10
             case pos =>
              have h := h.pos hc1643
              refine RL.s (Vl.lookupL (n' := 10) (j := 10) (v := .func (.func 149) #[] #[]) 2 hS rfl underlying274 underlying3 rfl rfl hc1643 rfl) rfl (rr [0, 1] hS ?_)
              refine it fun w hS => ?_
              obtain ⟨t1644, hg1645, h⟩ := h.bind
              have hc := vm_cpu_jump.ok hr5 hr10 hg1645 hS.p1.p4
              refine RL.e (OW.call (ls := [.tmp 47, .tmp 48]) rfl rfl call149 rfl hc) rfl rfl ?_
              rintro _ w ⟨rfl, hS⟩
              refine RL.nil (RQ.inB_n ?_)
              exact fun a ha => ⟨_, _, _, _, _, rfl, h, _, _, ha.tE rfl, hS.d2.p1⟩
             case neg =>
              have h := h.neg hc1643
              by_cases hc1646 : (nth a2 x1404).Op = 11
              case pos =>
               have h := h.pos hc1646
               refine RL.s (Vl.lookupL (n' := 11) (j := 11) (v := .func (.func 150) #[] #[]) 2 hS rfl underlying274 underlying3 rfl rfl hc1646 rfl) rfl (rr [0, 1] hS ?_)
               refine it fun w hS => ?_
               obtain ⟨t1647, hg1648, h⟩ := h.bind
               have hc := vm_cpu_zero.ok hr5 hr10 hg1648 hS.p1.p4
               refine RL.e (OW.call (ls := [.tmp 47, .tmp 48]) rfl rfl call150 rfl hc) rfl rfl ?_
               rintro _ w ⟨rfl, hS⟩
               refine RL.nil (RQ.inB_n ?_)
               exact fun a ha => ⟨_, _, _, _, _, rfl, h, _, _, ha.tE rfl, hS.d2.p1⟩
              case neg =>
               have h := h.neg hc1646
               by_cases hc1649 : (nth a2 x1404).Op = 12
               case pos =>
                have h := h.pos hc1649
                refine RL.s (Vl.lookupL (n' := 12) (j := 12) (v := .func (.func 151) #[] #[]) 2 hS rfl underlying274 underlying3 rfl rfl hc1649 rfl) rfl (rr [0, 1] hS ?_)
                refine it fun w hS => ?_
                obtain ⟨t1650, hg1651, h⟩ := h.bind
                have hc := vm_cpu_send.ok hr5 hr10 hg1651 hS.p1.p4
                rcases t1650 with y1652 | y1655
                · refine RL.eP (OWP.call (ls := [.tmp 47, .tmp 48]) rfl rfl call151 rfl hc) rfl rfl ?_ ?_
                  rotate_left
                  · exact fun _ _ (hk : False) => hk.elim
                  rintro _ w ⟨A1653, c1654, rfl, hS⟩
                  have hS : St B w (_ :: _ :: _ :: _ :: _ :: l) hf := hS
                  refine RL.nil (RQ.inB_n ?_)
                  exact fun a ha => ⟨_, _, _, _, _, rfl, h, _, _, ha.tE rfl, hS.d2⟩
                refine RL.eP (OWP.call (ls := [.tmp 47, .tmp 48]) rfl rfl call151 rfl hc) rfl rfl ?_ ?_
                · exact fun _ _ (hk : False) => hk.elim
                · rintro _ w ⟨rfl, hS⟩
                  have hS : St B w (_ :: _ :: _ :: _ :: _ :: l) hf := hS
                  refine RQ.panB (RQ.panT ?_)
                  have h := h.inr
                  refine RQ.panT (RQ.panB (RQ.panT ?_))
                  obtain ⟨t1656, hg1657, h⟩ := h.bind
                  cases h.some
                  refine RQ.deferPan results129 (fun w => by kernel_rfl) (vm_cpu_run_1v2.ok hg1657 hS.p4) ?_
                  rintro _ w ⟨b1658, A1659, c1660, rfl, hS⟩
                  have hS : St B w (_ :: _ :: _ :: _ :: _ :: _ :: _ :: l) hf := hS
                  exact ⟨[.iface 254 (pV b1658)], ⟨⟨_, rfl, run_loadVar1 isAgg108 (hS.cell 2 rfl rfl)⟩, trivial⟩, ⟨b1658, A1659, c1660, A1402, c1403, rfl, hS.d2.d4.d4.p3.p2.p2⟩⟩
               case neg =>
                have h := h.neg hc1649
                by_cases hc1661 : (nth a2 x1404).Op = 13
                case pos =>
                 have h := h.pos hc1661
                 refine RL.s (Vl.lookupL (n' := 13) (j := 13) (v := .func (.func 152) #[] #[]) 2 hS rfl underlying274 underlying3 rfl rfl hc1661 rfl) rfl (rr [0, 1] hS ?_)
                 refine it fun w hS => ?_
                 obtain ⟨t1662, hg1663, h⟩ := h.bind
                 have hc := vm_cpu_draw.ok hr5 hr10 hg1663 hS.p1.p4
                 obtain ⟨y1664, y1665⟩ := t1662
                 refine RL.e (OW.call (ls := [.tmp 47, .tmp 48]) rfl rfl call152 rfl hc) rfl rfl ?_
                 rintro _ w ⟨rfl, hS⟩
                 refine RL.nil (RQ.inB_n ?_)
                 exact fun a ha => ⟨_, _, _, _, _, rfl, h, _, _, ha.tE rfl, hS.d2.p1⟩
                case neg =>
                 have h := h.neg hc1661
                 by_cases hc1666 : (nth a2 x1404).Op = 14
                 case pos =>
                  have h := h.pos hc1666
                  refine RL.s (Vl.lookupL (n' := 14) (j := 14) (v := .func (.func 153) #[] #[]) 2 hS rfl underlying274 underlying3 rfl rfl hc1666 rfl) rfl (rr [0, 1] hS ?_)
                  refine it fun w hS => ?_
                  obtain ⟨t1667, hg1668, h⟩ := h.bind
                  have hc := vm_cpu_value.ok hr5 hr10 hg1668 hS.p1.p4
                  refine RL.e (OW.call (ls := [.tmp 47, .tmp 48]) rfl rfl call153 rfl hc) rfl rfl ?_
                  rintro _ w ⟨rfl, hS⟩
                  refine RL.nil (RQ.inB_n ?_)
                  exact fun a ha => ⟨_, _, _, _, _, rfl, h, _, _, ha.tE rfl, hS.d2.p1⟩
                 case neg =>
                  have h := h.neg hc1666
                  by_cases hc1669 : (nth a2 x1404).Op = 15
                  case pos =>
                   have h := h.pos hc1669
                   refine RL.s (Vl.lookupL (n' := 15) (j := 15) (v := .func (.func 154) #[] #[]) 2 hS rfl underlying274 underlying3 rfl rfl hc1669 rfl) rfl (rr [0, 1] hS ?_)
                   refine it fun w hS => ?_
                   obtain ⟨t1670, hg1671, h⟩ := h.bind
                   have hc := vm_cpu_time.ok hr5 hr10 hg1671 hS.p1.p4
                   refine RL.e (OW.call (ls := [.tmp 47, .tmp 48]) rfl rfl call154 rfl hc) rfl rfl ?_
                   rintro _ w ⟨rfl, hS⟩
                   refine RL.nil (RQ.inB_n ?_)
                   exact fun a ha => ⟨_, _, _, _, _, rfl, h, _, _, ha.tE rfl, hS.d2.p1⟩
                  case neg =>
                   have h := h.neg hc1669
                   by_cases hc1672 : (nth a2 x1404).Op = 16
                   case pos =>
                    have h := h.pos hc1672
                    refine RL.s (Vl.lookupL (n' := 16) (j := 16) (v := .func (.func 155) #[] #[]) 2 hS rfl underlying274 underlying3 rfl rfl hc1672 rfl) rfl (rr [0, 1] hS ?_)
                    refine it fun w hS => ?_
                    obtain ⟨t1673, hg1674, h⟩ := h.bind
                    have hc := vm_cpu_self.ok hr5 hr10 hg1674 hS.p1.p4
                    refine RL.e (OW.call (ls := [.tmp 47, .tmp 48]) rfl rfl call155 rfl hc) rfl rfl ?_
                    rintro _ w ⟨rfl, hS⟩
                    refine RL.nil (RQ.inB_n ?_)
                    exact fun a ha => ⟨_, _, _, _, _, rfl, h, _, _, ha.tE rfl, hS.d2.p1⟩
                   case neg =>
                    have h := h.neg hc1672
                    exact h.none
  refine jf (RC.exit (RQ.exitT ?_))
  have h := h.inr
  refine RQ.exitT (RQ.inB_hit ?_)
  exact fun a ha => ⟨_, _, _, _, _, rfl, h, _, _, ha.tE rfl, hS.d1⟩
 refine rq [0, 0, 0, 0, 0, 0, 0, 0, 0, 0, 0, 0] hS ?_
 refine it (RP.nil (RQ.noPan_n (RQ.then_n (jf (RC.exit (RQ.exitT ?_))))))
 have h := h.inr
 refine RQ.exitT (RQ.inB_hit ?_)
 exact fun a ha => ⟨_, _, _, _, _, rfl, h, _, _, ha.tE rfl, hS.d1⟩
def errors_As_4.f (a2 : vm_fault) : Option (Bool) := some false
theorem errors_As_4.ok {a2 : vm_fault} {b1 : Nat} {r : Bool} (h : errors_As_4.f a2 = some r) (hS : St B w (Cl b1 [iV a2.at_, iV a2.why] 262 :: l) hf) :
   Calls prog 43 #[.nilIface, .iface 263 (pV b1)] w (Ret fun v w => v = .bool r ∧ St B w (Cl b1 [iV a2.at_, iV a2.why] 262 :: l) hf) := by
 have h := Holds.of h
 refine en func43 rfl ntmps43 rfl (sr (pn 1 rfl (ln (RC.seq (sr (pn 1 rfl (RL.s (Vl.bn true rfl rfl) rfl (ln (jtr ?_)))))))))
 refine pn 1 rfl (lr (RQ.ret ?_))
 obtain rfl := h.some
 exact rt results43 rfl ⟨rfl, hS⟩
def errors_joinError_Unwrap_2.f (a4 : vm_fault) : Option (Unit) := some ()
theorem errors_joinError_Unwrap_2.ok {a4 : vm_fault} {b1 c3 : Nat} {A2 : Option Addr} {r : Unit} (h : errors_joinError_Unwrap_2.f a4 = some r) (hS : St B w (OSl 108 1 (.slice A2 1 c3) 1 [.iface 262 (.agg #[iV a4.at_, iV a4.why])] :: Cl b1 [.slice A2 1 c3] 256 :: l) hf) :
   Calls prog 250 #[pV b1] w (Ret fun v w => v = .slice A2 1 c3 ∧ St B w (OSl 108 1 (.slice A2 1 c3) 1 [.iface 262 (.agg #[iV a4.at_, iV a4.why])] :: Cl b1 [.slice A2 1 c3] 256 :: l) hf) := by
 have h := Holds.of h
 refine en func250 rfl ntmps250 rfl (sr (pn 1 rfl (lnsr (rr [0, 0, 0, 2, 0] hS ?_))))
 refine it fun w hS => lr ?_
 exact rt results250 rfl ⟨rfl, hS⟩
def errors_as_5.f (a1 a3 : vm_fault) : Option (Bool × vm_fault) := some (true, a1)
theorem errors_as_5.ok {a1 a3 : vm_fault} {b2 b4 : Nat} {r : Bool × vm_fault} (h : errors_as_5.f a1 a3 = some r) (hS : St B w (Cl b2 [iV a3.at_, iV a3.why] 262 :: Cl b4 [pV b2] 263 :: l) hf) :
   Calls prog 90 #[.iface 262 (.agg #[iV a1.at_, iV a1.why]), .iface 263 (pV b2), .agg #[.pointer (some ⟨1, 263, none⟩), pV b4, .int .u64 150], .iface 215 (.agg #[.pointer (some ⟨1, 262, none⟩)])] w (Ret fun v w => v = .bool r.1 ∧ St B w (Cl b2 [iV r.2.at_, iV r.2.why] 262 :: Cl b4 [pV b2] 263 :: l) hf) := by
 have h := Holds.of h
 refine en func90 rfl ntmps90 rfl (sr (rr [0, 0] hS ?_))
 refine fun b8 => it fun w hS => ln (RC.block (RC.unroll (RQ.round (RC.block (RC.seq (sr (pn 1 rfl (RL.s (Vl.eX [.tmp 16] (.iface 215 (.agg #[.pointer (some ⟨1, 262, none⟩)])) Ex1 func91 rfl) rfl (pn 1 rfl ?_)))))))))
 refine RL.s (Vl.iX [.tmp 18] (.bool true) (.agg #[.pointer (some ⟨1, 262, none⟩)]) Ex2 func236 rfl rfl) rfl (ln (jtr (rr [1] hS ?_)))
 refine it fun w hS => RL.s (Vl.externAt (ls := [.tmp 20]) (v := .agg #[.pointer (some ⟨1, 262, none⟩), pV b2, .int .u64 409]) rfl func119 (by kernel_rfl) (by kernel_rfl) (by kernel_rfl) (e := Extern.ReflectliteValue.method (Extern.ReflectliteValue.valueError "reflectlite.Value.Elem" 0) Extern.ReflectliteValue.elem) (by kernel_rfl) (run_elemV (n := 150) (a := ⟨b4, 0, none⟩) (fun w => by kernel_rfl) underlying263 rfl (hS.cell 2 rfl rfl) (fun w => by kernel_rfl) (fun w => by kernel_rfl))) rfl (pn 1 rfl (RL.e (OW.externNew (ls := [.tmp 22]) (cs := [iV a1.at_, iV a1.why]) (T := 262) (v := fun b => .agg #[.pointer (some ⟨1, 262, none⟩), pV b, .int .u64 153]) hS rfl func87 (by kernel_rfl) (by kernel_rfl) (by kernel_rfl) (e := fun args => Extern.ReflectliteValue.unpack (args.getD 0 (.tuple #[]))) (by kernel_rfl) (fun w => by kernel_rfl)) rfl rfl ?_))
 rintro _ w ⟨b10, rfl, hS⟩
 refine RL.e (OW.setV (ls := [.tmp 21, .tmp 23]) (val := .agg #[iV a1.at_, iV a1.why]) (vs := [iV a1.at_, iV a1.why]) (n := 409) (m := 153) (a2 := ⟨b10, 0, none⟩) 2 hS rfl rfl func120 (by kernel_rfl) (by kernel_rfl) (by kernel_rfl) (by kernel_rfl) (fun w => by kernel_rfl) (fun w => by kernel_rfl) rfl (fun w => by kernel_rfl) (run_loadVarA (vs := [iV a1.at_, iV a1.why]) isAgg262 sizeOf262 rfl (hS.cellsAt 0 rfl rfl)) rfl sizeOf262 rfl rfl rfl rfl) rfl rfl ?_
 rintro _ w ⟨rfl, hS⟩
 have hS : St B w (_ :: _ :: _ :: _ :: l) hf := hS
 refine lnsr (pn 1 rfl (lr (RQ.ret (ir (RQ.inB_ret ?_)))))
 cases h.some
 exact rt results90 rfl ⟨rfl, hS.d0.d0⟩
def errors_as_4.f (a4 a6 : vm_fault) : Option (Bool × vm_fault) := ((errors_joinError_Unwrap_2.f a4).bind fun _ => ((errors_as_5.f a4 a6).bind fun (y31, y32) => (if y31 = true then some (true, y32) else some (false, y32))))
theorem errors_as_4.ok {a4 a6 : vm_fault} {b1 c3 b5 b7 : Nat} {A2 : Option Addr} {r : Bool × vm_fault} (h : errors_as_4.f a4 a6 = some r) (hS : St B w (OSl 108 1 (.slice A2 1 c3) 1 [.iface 262 (.agg #[iV a4.at_, iV a4.why])] :: Cl b1 [.slice A2 1 c3] 256 :: Cl b5 [iV a6.at_, iV a6.why] 262 :: Cl b7 [pV b5] 263 :: l) hf) :
   Calls prog 90 #[.iface 254 (pV b1), .iface 263 (pV b5), .agg #[.pointer (some ⟨1, 263, none⟩), pV b7, .int .u64 150], .iface 215 (.agg #[.pointer (some ⟨1, 262, none⟩)])] w (Ret fun v w => v = .bool r.1 ∧ St B w (OSl 108 1 (.slice A2 1 c3) 1 [.iface 262 (.agg #[iV a4.at_, iV a4.why])] :: Cl b1 [.slice A2 1 c3] 256 :: Cl b5 [iV r.2.at_, iV r.2.why] 262 :: Cl b7 [pV b5] 263 :: l) hf) := by
 have h := Holds.of h
 refine en func90 rfl ntmps90 rfl (sr (rr [0, 0] hS ?_))
 refine fun b21 => it fun w hS => ln (RC.block (RC.unroll (RQ.round (RC.block (RC.seq (sr (pn 1 rfl (RL.s (Vl.eX [.tmp 16] (.iface 215 (.agg #[.pointer (some ⟨1, 254, none⟩)])) Ex1 func91 rfl) rfl (pn 1 rfl ?_)))))))))
 refine RL.s (Vl.iX [.tmp 18] (.bool false) (.agg #[.pointer (some ⟨1, 254, none⟩)]) Ex2 func236 rfl rfl) rfl (ln (jfs (RC.seq (sr (pn 1 rfl (tno underlying219 rfl rfl (pn 5 rfl (lnsr ?_))))))))
 refine pn 6 rfl (ln (jfs (sr (pn 1 rfl (ln (RC.block (sr (tno underlying222 rfl rfl (pn 2 rfl ?_)))))))))
 refine ln (jf (sr (tys underlying224 rfl rfl (pn 2 rfl (ln (jtr (pn 1 rfl (ln (RC.seq ?_)))))))))
 refine sr (pn 1 rfl ?_)
 obtain ⟨t22, hg23, h⟩ := h.bind
 have hc := errors_joinError_Unwrap_2.ok hg23 hS.p2.p2
 refine RL.e (OW.invoke (F := 250) (u' := pV b1) (ls := []) rfl rfl (fun w => by kernel_rfl) call250 rfl hc) rfl rfl ?_
 rintro _ w ⟨rfl, hS⟩
 refine r0 2 rfl (ln (RC.block (RC.unroll (RQ.round (sr (pn 1 rfl (ln (RC.seq (jt (sk (RC.seq ?_)))))))))))
 refine RC.block (sr (RL.s (Vl.indexAddr (a'' := (ad A2).add 0) underlying225 sizeOf108 rfl rfl (hS.litAdr 0 rfl (by decide)) (by decide) (by decide) rfl) rfl (RL.s (Vl.load isAgg108 rfl (hS.litCell 0 rfl rfl)) rfl (pn 1 rfl (ln (RC.seq (sr (pn 1 rfl (RL.s (Vl.bn false rfl rfl) rfl (ln (jf ?_)))))))))))
 refine sk (sr (rr [0, 0, 3, 0] hS ?_))
 refine it fun w hS => cF (fun _ hg => errors_as_5.ok hg hS.p4.p4) call90 h rfl rfl rfl ?_
 rintro ⟨y31, y32⟩ h _ w ⟨rfl, hS⟩
 refine ln ?_
 refine RC.iteB 60 rfl h (fun hc33 h => ?_) fun hc33 h => ?_
 next =>
  refine jtr (pn 1 rfl (lr (ir (RQ.ret (ir (RQ.inB_ret (ir (RQ.inB_ret ?_))))))))
  cases h.some
  exact rt results90 rfl ⟨rfl, hS.d4.p3.p3⟩
 refine jf (RC.skip (RQ.inB_n (RQ.then_n (RC.region (pn 2 rfl (ln (RQ.round (sr (pn 1 rfl (ln (RC.seq (jf ?_))))))))))))
 refine RC.exit (RQ.exitT (RQ.exitT (RQ.inB_hit (tsr (pn 1 rfl (lr (RQ.inB_ret (ir (RQ.inB_ret ?_)))))))))
 cases h.some
 exact rt results90 rfl ⟨rfl, hS.d4.p3.p3⟩
def errors_As_5.f (a4 a6 : vm_fault) : Option (Bool × vm_fault) := ((errors_as_4.f a4 a6).bind fun (y17, y18) => some (y17, y18))
theorem errors_As_5.ok {a4 a6 : vm_fault} {b1 c3 b5 : Nat} {A2 : Option Addr} (hG0 : GlobAt hf 0 (.iface 215 (.agg #[.pointer (some ⟨1, 108, none⟩)]))) {r : Bool × vm_fault} (h : errors_As_5.f a4 a6 = some r) (hS : St B w (OSl 108 1 (.slice A2 1 c3) 1 [.iface 262 (.agg #[iV a4.at_, iV a4.why])] :: Cl b1 [.slice A2 1 c3] 256 :: Cl b5 [iV a6.at_, iV a6.why] 262 :: l) hf) :
   Calls prog 43 #[.iface 254 (pV b1), .iface 263 (pV b5)] w (Ret fun v w => v = .bool r.1 ∧ St B w (OSl 108 1 (.slice A2 1 c3) 1 [.iface 262 (.agg #[iV a4.at_, iV a4.why])] :: Cl b1 [.slice A2 1 c3] 256 :: Cl b5 [iV r.2.at_, iV r.2.why] 262 :: l) hf) := by
 have h := Holds.of h
 refine en func43 rfl ntmps43 rfl (sr (pn 1 rfl (ln (RC.seq (sr (pn 1 rfl (RL.s (Vl.bn false rfl rfl) rfl (ln (jfs ?_)))))))))
 refine RC.seq (sr (pn 1 rfl (RL.s (Vl.bn false rfl rfl) rfl (ln (jfs (sr (pn 1 rfl (RL.e (OW.externNew (ls := [.tmp 13]) (cs := [pV b5]) (T := 263) (v := fun b => .agg #[.pointer (some ⟨1, 263, none⟩), pV b, .int .u64 150]) hS rfl func87 (by kernel_rfl) (by kernel_rfl) (by kernel_rfl) (e := fun args => Extern.ReflectliteValue.unpack (args.getD 0 (.tuple #[]))) (by kernel_rfl) (fun w => by kernel_rfl)) rfl rfl ?_))))))))
 rintro _ w ⟨b13, rfl, hS⟩
 refine rr [0, 1] hS ?_
 refine fun b14 => it fun w hS => lnsr (rr [1] hS ?_)
 refine it fun w hS => RL.s (Vl.eX [.tmp 15] (.iface 215 (.agg #[.pointer (some ⟨1, 263, none⟩)])) Ex3 func88 rfl) rfl (pn 1 rfl (ln (RC.seq (sr (pn 1 rfl (RL.s (Vl.iX [] (.int .u8 22) (.pointer (some ⟨1, 263, none⟩)) Ex4 func179 rfl rfl) rfl (rr [0, 0, 1] hS ?_)))))))
 refine it fun w hS => ?_
 refine RL.sg (Vl.externAt (ls := [.tmp 21]) (v := .bool false) rfl func89 (by kernel_rfl) (by kernel_rfl) (by kernel_rfl) (e := Extern.ReflectliteValue.method (Extern.ReflectliteValue.valueError "reflectlite.Value.IsNil" 0) Extern.ReflectliteValue.isNil) (by kernel_rfl) (run_isNil (n := 150) (a := ⟨b13, 0, none⟩) (fun w => by kernel_rfl) underlying263 rfl (hS.cell 1 rfl rfl))) rfl rfl (pn 1 rfl (ln (jfs (sr (pn 1 rfl (RL.s (Vl.iX [] (.iface 215 (.agg #[.pointer (some ⟨1, 262, none⟩)])) (.agg #[.pointer (some ⟨1, 263, none⟩)]) Ex5 func238 rfl rfl) rfl (pn 1 rfl (ln (RC.seq (RC.seq ?_))))))))))
 refine RC.region (pn 1 rfl (RL.s (Vl.iX [] (.int .u8 25) (.pointer (some ⟨1, 262, none⟩)) Ex4 func179 rfl rfl) rfl (pn 3 rfl (RL.sg (Vl.load isAgg164 rfl (cellH_world hS.sub hG0)) rfl rfl (RL.sg (Vl.iX [.tmp 32] (.bool true) (.agg #[.pointer (some ⟨1, 262, none⟩)]) Ex6 func239 rfl rfl) rfl rfl (pn 2 rfl (ln (jfs (sr (rr [0, 0, 1, 0] hS ?_))))))))))
 refine it fun w hS => cF (fun _ hg => errors_as_4.ok hg hS.p1.p4.p4.p4) call90 h rfl rfl rfl ?_
 rintro ⟨y17, y18⟩ h _ w ⟨rfl, hS⟩
 refine pn 1 rfl (lr ?_)
 cases h.some
 exact rt results43 rfl ⟨rfl, hS.d3.d3⟩
def vm_Run.j2 (a8 : api_State) (fn139 : (Nat → Int)) (x140 : Int) (l141 : List api_Out) (x144 : Int) : Option (api_State × List api_Out × Int) := some ((⟨(⟨fn139 0, fn139 1, fn139 2, fn139 3, fn139 4, fn139 5, fn139 6, fn139 7⟩ : Arr8xInti64), x140, IntKind.i64.wrap (a8.Sent + (l141.length : Int))⟩ : api_State), l141, 0)
def vm_Run.f (a1 : api_World) (a8 : api_State) (a9 : api_Message) : Option (api_State × List api_Out × Int) := ((vm_Check.f a1).bind fun t98 => (if t98 = 0 then ((event_Check.f a9).bind fun t106 => (if t106 = 0 then (if (if a8.Sent < a8.Draws then a8.Sent else a8.Draws) < 0 then some ((⟨(⟨0, 0, 0, 0, 0, 0, 0, 0⟩ : Arr8xInti64), 0, 0⟩ : api_State), ([] : List api_Out), 1) else (if 1125899906842624 < (if a8.Draws < a8.Sent then a8.Sent else a8.Draws) then some ((⟨(⟨0, 0, 0, 0, 0, 0, 0, 0⟩ : Arr8xInti64), 0, 0⟩ : api_State), ([] : List api_Out), 1) else ((vm_cpu_run.f a1.Prog a1.Self a1.Links a1.Seed a9.Key.Time a9.Key.From a9.Key.Seq a9.To a9.Value a9.Uid a9.Anti a8.Draws ([] : List api_Out) 0 (ovl [a8.Regs.c0, a8.Regs.c1, a8.Regs.c2, a8.Regs.c3, a8.Regs.c4, a8.Regs.c5, a8.Regs.c6, a8.Regs.c7] zfn)).bind fun t146 => match t146 with | .inl (y148, y149, y150, y151) => ((errors_As_4.f (⟨0, 0⟩ : vm_fault)).bind fun t154 => (if t154 = true then some (a8, ([] : List api_Out), 0) else vm_Run.j2 a8 y148 y149 y150 y151)) | .inr ((y157, y158, y159, y160, y161)) => ((errors_As_5.f y157 (⟨0, 0⟩ : vm_fault)).bind fun (y169, y170) => (if y169 = true then some (a8, ([] : List api_Out), y170.why) else vm_Run.j2 a8 y158 y159 y160 y161))))) else some ((⟨(⟨0, 0, 0, 0, 0, 0, 0, 0⟩ : Arr8xInti64), 0, 0⟩ : api_State), ([] : List api_Out), 1))) else some ((⟨(⟨0, 0, 0, 0, 0, 0, 0, 0⟩ : Arr8xInti64), 0, 0⟩ : api_State), ([] : List api_Out), t98)))
theorem vm_Run.ok {a1 : api_World} {a8 : api_State} {a9 : api_Message} {A2 A5 : Option Addr} {c3 c6 : Nat} (hr4 : SlR E_api_Instr.rep hf A2 c3 a1.Prog) (hr7 : SlR E_api_Link.rep hf A5 c6 a1.Links) (hG0 : GlobAt hf 0 (.iface 215 (.agg #[.pointer (some ⟨1, 108, none⟩)]))) {r : api_State × List api_Out × Int} (h : vm_Run.f a1 a8 a9 = some r) (hS : St B w (l) hf) :
   Calls prog 122 #[.agg (C_api_World a1 A2 c3 A5 c6).toArray, .agg (C_api_State a8).toArray, .agg (C_api_Message a9).toArray] w (Ret fun v w => ∃ (A_1 : Option Addr) (c_2 : Nat), v = .tuple #[.agg (C_api_State r.1).toArray, sV A_1 r.2.1 c_2, iV r.2.2] ∧ St B w (OSf E_api_Out 265 (sV A_1 r.2.1 c_2) r.2.1 :: l) hf) := by
 have h := Holds.of h
 refine en func122 rfl ntmps122 rfl (sr (rr [0, 0, 0, 0, 0, 0] hS ?_))
 refine fun b91 b92 b93 b94 => it fun w hS => ln (RC.seq (sr (rr [4] hS ?_)))
 refine it fun w hS => cF (fun _ hg => vm_Check.ok hr4 hr7 hg hS) call80 h rfl rfl rfl ?_
 rintro t98 h _ w ⟨rfl, hS⟩
 refine pn 1 rfl (lnsr (pn 2 rfl (ln ?_)))
 refine RC.iteN 17 rfl h (fun hc100 h => ?_) fun hc100 h => ?_
 next =>
  refine jfs (RC.seq (sr (rr [2] hS ?_)))
  refine it fun w hS => cF (fun _ hg => event_Check.ok hg hS) call29 h rfl rfl rfl ?_
  rintro t106 h _ w ⟨rfl, hS⟩
  refine pn 2 rfl ?_
  refine RL.iteN 23 rfl h (fun hc108 h => ?_) fun hc108 h => ?_
  next =>
   refine rr [0, 3, 0, 3] hS ?_
   refine it fun w hS => RL.sg (Vl.min2 rfl rfl) rfl rfl (pn 3 rfl ?_)
   refine RL.iteP 31 rfl h (fun hc109 h => ?_) fun hc109 h => ?_
   next =>
    refine pn 7 rfl (ln (jtr (rr [0, 1, 0, 0] hS ?_)))
    refine it fun w hS => lr (RQ.ret ?_)
    have hS := hS.nilSl E_api_Out 265
    cases h.some
    refine rz [1] results122 hS ?_
    exact it ⟨none, 0, rfl, hS.d1.d1.d1.d1⟩
   refine rr [0, 3, 0, 3] hS ?_
   refine it fun w hS => RL.sg (Vl.max2 rfl rfl) rfl rfl (pn 2 rfl (ln ?_))
   refine RC.iteP 38 rfl h (fun hc110 h => ?_) fun hc110 h => ?_
   next =>
    refine jtr (rr [0, 1, 0, 0] hS ?_)
    refine it fun w hS => lr (RQ.ret ?_)
    have hS := hS.nilSl E_api_Out 265
    cases h.some
    refine rz [1] results122 hS ?_
    exact it ⟨none, 0, rfl, hS.d1.d1.d1.d1⟩
   refine jfs (sr (rr [4, 2, 0, 3, 0, 0, 0] hS ?_))
   refine fun b111 => it fun w hS => ln (RC.seq (dr [0, 3, 6, 10, 14, 17, 20] [6] hS fun w hS => rq [0, 0, 0] hS ?_))
   refine it (RP.s 0 3 rfl rfl hS (fun w hS => Vl.sliceArr underlying258 sizeOf2 rfl) rfl (rq [0] hS ?_))
   refine it (RP.v1 5 rfl (Vl.sliceArr underlying68 sizeOf2 rfl) rfl rfl (RP.e 6 rfl (OW.copyB (m := 8) (vs := (C_Arr8xInti64 a8.Regs)) 0 3 hS rfl rfl underlying192 rfl rfl rfl rfl rfl rfl (Nat.le_of_ble_eq_true rfl) rfl rfl) rfl rfl ?_))
   rintro _ w ⟨rfl, hS⟩
   have hS : St B w (Cl b111 [sV A2 a1.Prog c3, iV a1.Self, sV A5 a1.Links c6, .int .u64 a1.Seed, iV a9.Key.Time, iV a9.Key.From, iV a9.Key.Seq, iV a9.To, iV a9.Value, iV a9.Uid, .bool a9.Anti, iV ((ovl [a8.Regs.c0, a8.Regs.c1, a8.Regs.c2, a8.Regs.c3, a8.Regs.c4, a8.Regs.c5, a8.Regs.c6, a8.Regs.c7] zfn) 0), iV ((ovl [a8.Regs.c0, a8.Regs.c1, a8.Regs.c2, a8.Regs.c3, a8.Regs.c4, a8.Regs.c5, a8.Regs.c6, a8.Regs.c7] zfn) 1), iV ((ovl [a8.Regs.c0, a8.Regs.c1, a8.Regs.c2, a8.Regs.c3, a8.Regs.c4, a8.Regs.c5, a8.Regs.c6, a8.Regs.c7] zfn) 2), iV ((ovl [a8.Regs.c0, a8.Regs.c1, a8.Regs.c2, a8.Regs.c3, a8.Regs.c4, a8.Regs.c5, a8.Regs.c6, a8.Regs.c7] zfn) 3), iV ((ovl [a8.Regs.c0, a8.Regs.c1, a8.Regs.c2, a8.Regs.c3, a8.Regs.c4, a8.Regs.c5, a8.Regs.c6, a8.Regs.c7] zfn) 4), iV ((ovl [a8.Regs.c0, a8.Regs.c1, a8.Regs.c2, a8.Regs.c3, a8.Regs.c4, a8.Regs.c5, a8.Regs.c6, a8.Regs.c7] zfn) 5), iV ((ovl [a8.Regs.c0, a8.Regs.c1, a8.Regs.c2, a8.Regs.c3, a8.Regs.c4, a8.Regs.c5, a8.Regs.c6, a8.Regs.c7] zfn) 6), iV ((ovl [a8.Regs.c0, a8.Regs.c1, a8.Regs.c2, a8.Regs.c3, a8.Regs.c4, a8.Regs.c5, a8.Regs.c6, a8.Regs.c7] zfn) 7), iV ((ovl [a8.Regs.c0, a8.Regs.c1, a8.Regs.c2, a8.Regs.c3, a8.Regs.c4, a8.Regs.c5, a8.Regs.c6, a8.Regs.c7] zfn) 8), iV ((ovl [a8.Regs.c0, a8.Regs.c1, a8.Regs.c2, a8.Regs.c3, a8.Regs.c4, a8.Regs.c5, a8.Regs.c6, a8.Regs.c7] zfn) 9), iV ((ovl [a8.Regs.c0, a8.Regs.c1, a8.Regs.c2, a8.Regs.c3, a8.Regs.c4, a8.Regs.c5, a8.Regs.c6, a8.Regs.c7] zfn) 10), iV ((ovl [a8.Regs.c0, a8.Regs.c1, a8.Regs.c2, a8.Regs.c3, a8.Regs.c4, a8.Regs.c5, a8.Regs.c6, a8.Regs.c7] zfn) 11), iV ((ovl [a8.Regs.c0, a8.Regs.c1, a8.Regs.c2, a8.Regs.c3, a8.Regs.c4, a8.Regs.c5, a8.Regs.c6, a8.Regs.c7] zfn) 12), iV ((ovl [a8.Regs.c0, a8.Regs.c1, a8.Regs.c2, a8.Regs.c3, a8.Regs.c4, a8.Regs.c5, a8.Regs.c6, a8.Regs.c7] zfn) 13), iV ((ovl [a8.Regs.c0, a8.Regs.c1, a8.Regs.c2, a8.Regs.c3, a8.Regs.c4, a8.Regs.c5, a8.Regs.c6, a8.Regs.c7] zfn) 14), iV ((ovl [a8.Regs.c0, a8.Regs.c1, a8.Regs.c2, a8.Regs.c3, a8.Regs.c4, a8.Regs.c5, a8.Regs.c6, a8.Regs.c7] zfn) 15), iV a8.Draws, .slice none 0 0, iV 0] 260 :: _ :: _ :: _ :: _ :: l) hf := hS
   refine ⟨kp ⟨(by intro hx; cases hx), trivial⟩, ?_⟩
   refine RP.nil (tsr (rr [0] hS ?_))
   refine fun b112 => it fun w hS => ln ?_
   refine RC.join (fun (s : (Nat → Int) × Int × List api_Out × Int) a w => ∃ fn139 x140 l141 x144, s = (fn139, x140, l141, x144) ∧ Holds (· = r) (vm_Run.j2 a8 fn139 x140 l141 x144) ∧ ∃ A142 c143, Has 86 [(4, pV b92), (6, pV b94), (10, pV b111)] a ∧ St B w (OSf E_api_Out 265 (sV A142 l141 c143) l141 :: Cl b111 [sV A2 a1.Prog c3, iV a1.Self, sV A5 a1.Links c6, .int .u64 a1.Seed, iV a9.Key.Time, iV a9.Key.From, iV a9.Key.Seq, iV a9.To, iV a9.Value, iV a9.Uid, .bool a9.Anti, iV (fn139 0), iV (fn139 1), iV (fn139 2), iV (fn139 3), iV (fn139 4), iV (fn139 5), iV (fn139 6), iV (fn139 7), iV (fn139 8), iV (fn139 9), iV (fn139 10), iV (fn139 11), iV (fn139 12), iV (fn139 13), iV (fn139 14), iV (fn139 15), iV x140, sV A142 l141 c143, iV x144] 260 :: Cl b94 [iV 0, iV 0, iV 0, iV 0, iV 0, iV 0, iV 0, iV 0, iV 0, iV 0] 70 :: Cl b92 (C_api_State a8) 70 :: l) hf) ?_ ?_
   · rintro _ a w ⟨fn139, x140, l141, x144, rfl, h, A142, c143, ha, hS⟩
     refine ro ha (RC.seq (dr [0, 3, 6, 10, 12, 16, 18, 21, 24, 28, 30, 33, 36, 41, 44] [14] hS fun w hS => rq [0, 0, 0, 2, 0, 4, 0, 0, 0, 2, 0, 0, 0] hS ?_))
     refine it (RP.e 13 rfl (OW.alloc (cs := [iV 0, iV 0, iV 0, iV 0, iV 0, iV 0, iV 0, iV 0, iV 0, iV 0]) hS zeroValue70 rfl) rfl rfl ?_)
     rintro _ w ⟨b145, rfl, hS⟩
     refine ⟨kp ⟨fun _ => hS.d0, trivial⟩, ?_⟩
     refine RP.e0 14 rfl (OW.store (vs := [iV 0, iV 0, iV 0, iV 0, iV 0, iV 0, iV 0, iV 0, iV x140, iV (IntKind.i64.wrap (a8.Sent + (l141.length : Int)))]) 0 hS rfl rfl rfl rfl sizeOf70 rfl rfl rfl rfl) rfl ?_
     rintro _ w ⟨rfl, hS⟩
     have hS : St B w (Cl _ [_, _, _, _, _, _, _, _, _, _] _ :: _ :: _ :: _ :: _ :: l) hf := hS
     refine ⟨kp ⟨(by intro hx; cases hx), trivial⟩, ?_⟩
     refine RP.nil (RQ.then_n (RC.seq (dr [0, 4, 8, 11, 14, 17, 20] [6] hS fun w hS => rq [0] hS ?_)))
     refine it (RP.s 0 1 rfl rfl hS (fun w hS => Vl.sliceArr underlying68 sizeOf2 rfl) rfl (rq [0, 0, 0] hS ?_))
     refine it (RP.v1 5 rfl (Vl.sliceArr underlying258 sizeOf2 rfl) rfl rfl (RP.e 6 rfl (OW.copyB (m := 8) (vs := [iV (fn139 0), iV (fn139 1), iV (fn139 2), iV (fn139 3), iV (fn139 4), iV (fn139 5), iV (fn139 6), iV (fn139 7)]) 0 2 hS rfl rfl underlying192 rfl rfl rfl rfl rfl rfl (Nat.le_of_ble_eq_true rfl) rfl rfl) rfl rfl ?_))
     rintro _ w ⟨rfl, hS⟩
     have hS : St B w (Cl _ [_, _, _, _, _, _, _, _, _, _] _ :: _ :: _ :: _ :: _ :: l) hf := hS
     refine ⟨kp ⟨(by intro hx; cases hx), trivial⟩, ?_⟩
     refine RP.nil (RQ.then_n (RC.seq (dk [1, 3, 6, 9, 13, 17, 20, 23] [6, 7] hS (fun w hS => hS.d3) fun w hS => rq [1, 0, 0, 0, 3] hS.d3 ?_)))
     refine it (RP.e0 5 rfl (OW.store (vs := [iV (fn139 0), iV (fn139 1), iV (fn139 2), iV (fn139 3), iV (fn139 4), iV (fn139 5), iV (fn139 6), iV (fn139 7), iV x140, iV (IntKind.i64.wrap (a8.Sent + (l141.length : Int)))]) 3 hS rfl rfl rfl rfl sizeOf70 rfl rfl rfl rfl) rfl ?_)
     rintro _ w ⟨rfl, hS⟩
     have hS : St B w (_ :: _ :: _ :: Cl _ [_, _, _, _, _, _, _, _, _, _] _ :: _ :: l) hf := hS
     refine ⟨kp ⟨fun _ => hS.d3, trivial⟩, ?_⟩
     refine rq [0, 0] hS.d3 ?_
     refine it (RP.nil (tr ?_))
     cases h.some
     refine rz [3] results122 hS ?_
     exact it ⟨A142, c143, rfl, hS.d0.d1.d1.d1⟩
   refine sr (pn 1 rfl ?_)
   have hS := hS.nilSl E_api_Out 265
   have hS : St B w (_ :: _ :: _ :: _ :: _ :: _ :: _ :: l) hf := hS
   obtain ⟨t146, hg147, h⟩ := h.bind
   have hc := vm_cpu_run.ok hr4 hr7 hg147 hS.p2
   rcases t146 with ⟨y148, y149, y150, y151⟩ | ⟨y157, y158, y159, y160, y161⟩
   · refine RL.e (OW.callF (ls := [.tmp 53]) rfl call129 hc) rfl rfl ?_
     rintro _ w ⟨A152, c153, rfl, hS⟩
     refine pn 1 rfl (lnsr (r0 2 rfl (cF (fun _ hg => errors_As_4.ok hg hS.p2) call43 h rfl rfl rfl ?_)))
     rintro t154 h _ w ⟨rfl, hS⟩
     refine ln ?_
     refine RC.iteB 57 rfl h (fun hc156 h => ?_) fun hc156 h => ?_
     next =>
      refine jt (RC.seq (dk [1, 3, 7, 11, 14, 17] [5] hS (fun w hS => hS.d3) fun w hS => rq [5, 0, 1] hS.d3 ?_))
      refine it (RP.e0 3 rfl (OW.store (vs := (C_api_State a8)) 3 hS rfl rfl rfl rfl sizeOf70 rfl rfl rfl rfl) rfl ?_)
      rintro _ w ⟨rfl, hS⟩
      have hS : St B w (_ :: _ :: _ :: Cl _ [_, _, _, _, _, _, _, _, _, _] _ :: _ :: _ :: _ :: l) hf := hS
      refine ⟨kp ⟨fun _ => hS.d3, trivial⟩, ?_⟩
      refine rq [0, 0] hS.d3 ?_
      refine it (RP.nil (tr (RQ.ret ?_)))
      have hS := hS.nilSl E_api_Out 265
      cases h.some
      refine rz [4] results122 hS ?_
      exact it ⟨none, 0, rfl, hS.d1.d1.d1.d1.d1.d1.d1⟩
     refine jf (RC.skip ?_)
     exact fun a ha => ⟨_, _, _, _, _, rfl, h, _, _, ha.tE rfl, hS.d0.d3.d4⟩
   refine RL.e (OW.callF (ls := [.tmp 53]) rfl call129 hc) rfl rfl ?_
   rintro _ w ⟨b162, A163, c164, A165, c166, rfl, hS⟩
   refine pn 1 rfl (lnsr (r0 2 rfl (cF (fun _ hg => errors_As_5.ok hG0 hg hS.p4.p1.p2) call43 h rfl rfl rfl ?_)))
   rintro ⟨y169, y170⟩ h _ w ⟨rfl, hS⟩
   refine ln ?_
   refine RC.iteB 57 rfl h (fun hc171 h => ?_) fun hc171 h => ?_
   next =>
    refine jt (RC.seq (dk [1, 3, 7, 11, 14, 17] [5] hS (fun w hS => hS.d5) fun w hS => rq [7, 0, 3] hS.d5 ?_))
    refine it (RP.e0 3 rfl (OW.store (vs := (C_api_State a8)) 5 hS rfl rfl rfl rfl sizeOf70 rfl rfl rfl rfl) rfl ?_)
    rintro _ w ⟨rfl, hS⟩
    have hS : St B w (_ :: _ :: _ :: _ :: _ :: Cl _ [_, _, _, _, _, _, _, _, _, _] _ :: _ :: _ :: _ :: l) hf := hS
    refine ⟨kp ⟨fun _ => hS.d5, trivial⟩, ?_⟩
    refine rq [0, 0] hS.d5 ?_
    refine it (RP.nil (tr (RQ.ret ?_)))
    have hS := hS.nilSl E_api_Out 265
    cases h.some
    refine rz [6] results122 hS ?_
    exact it ⟨none, 0, rfl, hS.d1.d1.d1.d1.d1.d1.d1.d1.d1⟩
   refine jf (RC.skip ?_)
   exact fun a ha => ⟨_, _, _, _, _, rfl, h, _, _, ha.tE rfl, hS.d0.d0.d0.d3.d4⟩
  refine pn 15 rfl (ln (jtr (rr [0, 1, 0, 0] hS ?_)))
  refine it fun w hS => lr (RQ.ret ?_)
  have hS := hS.nilSl E_api_Out 265
  cases h.some
  refine rz [1] results122 hS ?_
  exact it ⟨none, 0, rfl, hS.d1.d1.d1.d1⟩
 refine jtr (rr [0, 0, 1, 0, 0] hS ?_)
 refine it fun w hS => lr (RQ.ret ?_)
 have hS := hS.nilSl E_api_Out 265
 cases h.some
 refine rz [1] results122 hS ?_
 exact it ⟨none, 0, rfl, hS.d1.d1.d1.d1⟩
def log_Log_states_1.j23 (a8 : Int) (y1317 : log_Log) (l1318 : List api_Entry) (x1324 : Int) (y1571 : api_State) : Option ((log_Log × List api_Entry × api_State × Int) ⊕ (log_Log × List api_Entry × Int)) := ((log_Log_Back_round0.f y1317 a8 l1318 x1324 y1571).bind fun (y1584, y1585) => (if 0 ≤ x1324 ∧ x1324 < (y1584.l.length : Int) then ((vm_Run.f y1584.w y1571 ((nth y1584.l x1324).event)).bind fun (y1611, y1612, y1613) => some (.inl (y1584, y1585, y1611, IntKind.i64.wrap (x1324 + 1)))) else none))
def log_Log_states_1.l21b (a8 x1016 : Int) : log_Log × List api_Entry × api_State × Int → Option ((log_Log × List api_Entry × api_State × Int) ⊕ (log_Log × List api_Entry × Int))
 | (y1317, l1318, y1323, x1324) => (if x1324 < (y1317.l.length : Int) then (if 0 ≤ x1324 then (if ((nth y1317.l x1324).ahead).has = true then log_Log_states_1.j23 a8 y1317 l1318 x1324 (((nth y1317.l x1324).ahead).val) else log_Log_states_1.j23 a8 y1317 l1318 x1324 y1323) else none) else some (.inr (y1317, l1318, x1016)))
def log_Log_states_1.l21 (a8 x1016 : Int) (s : log_Log × List api_Entry × api_State × Int) : Option (log_Log × List api_Entry × Int) := loopR (log_Log_states_1.l21b a8 x1016) s
def log_Log_states_1.j14 (a6 : log_Log) (a8 : Int) (a10 : (List api_Entry)) (x1016 : Int) : Option (log_Log × List api_Entry × Int) := log_Log_states_1.l21 a8 x1016 (a6, a10, (⟨(⟨0, 0, 0, 0, 0, 0, 0, 0⟩ : Arr8xInti64), 0, 0⟩ : api_State), x1016)
def log_Log_states_1.l24b (a6 : log_Log) (a8 : Int) (a10 : (List api_Entry)) : Int → Option ((Int) ⊕ (log_Log × List api_Entry × Int))
 | (x1667) => (if 0 < x1667 then (if 0 ≤ x1667 ∧ x1667 < (a6.l.length : Int) then (if ((nth a6.l x1667).ahead).has = true then (Option.map Sum.inr (log_Log_states_1.j14 a6 a8 a10 x1667)) else some (.inl (IntKind.i64.wrap (x1667 - 1)))) else none) else (Option.map Sum.inr (log_Log_states_1.j14 a6 a8 a10 x1667)))
def log_Log_states_1.l24 (a6 : log_Log) (a8 : Int) (a10 : (List api_Entry)) (s : Int) : Option (log_Log × List api_Entry × Int) := loopR (log_Log_states_1.l24b a6 a8 a10) s
def log_Log_states_1.f (a6 : log_Log) (a8 : Int) (a10 : (List api_Entry)) (a16 : Int) : Option (log_Log × List api_Entry × Int) := log_Log_states_1.l24 a6 a8 a10 (a16)
theorem log_Log_states_1.ok {a6 : log_Log} {a8 a16 : Int} {a10 : (List api_Entry)} {b1 b4 b5 b7 b9 c12 b15 b17 : Nat} {rc2 : Loop} {A11 : Option Addr} {cs13 : List Value} (hx14 : RepL R_api_Entry hf cs13 a10) (hr3 : RecF f103 0 115 [(2, pV b4), (5, pV b7), (6, pV b9)] rc2) (hG0 : GlobAt hf 0 (.iface 215 (.agg #[.pointer (some ⟨1, 108, none⟩)]))) {r : log_Log × List api_Entry × Int} (h : log_Log_states_1.f a6 a8 a10 a16 = some r) (hS : St B w (pts b1 (.loop rc2) :: O_log_Log hf a6 b5 :: Cl b4 [pV b5] 51 :: Cl b7 [iV a8] 3 :: Cl b9 [sV A11 a10 c12] 41 :: OSl 79 19 (sV A11 a10 c12) a10.length cs13 :: Cl b15 [iV a16] 3 :: Cl b17 [pV b5] 51 :: l) hf) :
   Calls prog 121 #[.func (.yield b1) #[] #[], pV b15, pV b17] w (Ret fun v w => ∃ hf_ : Hp, Sub hf hf_ ∧ ∃ (A_1 : Option Addr) (c_2 : Nat) (cs_3 : List Value), v = .tuple #[] ∧ St B w (OSl 79 19 (sV A_1 r.2.1 c_2) r.2.1.length cs_3 :: pts b1 (.loop rc2) :: O_log_Log hf_ r.1 b5 :: Cl b4 [pV b5] 51 :: Cl b7 [iV a8] 3 :: Cl b9 [sV A_1 r.2.1 c_2] 41 :: Cl b15 [iV r.2.2] 3 :: Cl b17 [pV b5] 51 :: l) hf_ ∧ RepL R_api_Entry hf_ cs_3 r.2.1) := by
 have h := Holds.of h
 refine en func121 rfl ntmps121 rfl ?_
 refine RC.join (fun (s : Int) a w => ∃ x1016, s = (x1016) ∧ Holds (· = r) (log_Log_states_1.j14 a6 a8 a10 x1016) ∧ Has 68 [(0, .func (.yield b1) #[] #[]), (1, pV b15), (2, pV b17)] a ∧ St B w (OSl 79 19 (sV A11 a10 c12) a10.length cs13 :: O_log_Log hf a6 b5 :: pts b1 (.loop rc2) :: Cl b4 [pV b5] 51 :: Cl b7 [iV a8] 3 :: Cl b9 [sV A11 a10 c12] 41 :: Cl b15 [iV x1016] 3 :: Cl b17 [pV b5] 51 :: l) hf) ?_ ?_
 · rintro x1016 a w ⟨_, rfl, h, ha, hS⟩
   refine ro ha (sr (rr [0] hS ?_))
   refine fun b1017 => it fun w hS => lnsr (rr [8, 0] hS ?_)
   refine it fun w hS => ln (RC.block (fun a ha => lp h (fun (s : log_Log × List api_Entry × api_State × Int) a w => ∃ y1317 l1318 y1323 x1324, s = (y1317, l1318, y1323, x1324) ∧ ∃ hf_, Sub hf hf_ ∧ ∃ A1319 c1320 cs1321, Has 68 [(0, .func (.yield b1) #[] #[]), (2, pV b17), (4, pV b1017), (5, iV x1324)] a ∧ St B w (OSl 79 19 (sV A1319 l1318 c1320) l1318.length cs1321 :: Cl b1017 (C_api_State y1323) 70 :: O_log_Log hf_ y1317 b5 :: pts b1 (.loop rc2) :: Cl b4 [pV b5] 51 :: Cl b7 [iV a8] 3 :: Cl b9 [sV A1319 l1318 c1320] 41 :: Cl b15 [iV x1016] 3 :: Cl b17 [pV b5] 51 :: l) hf_ ∧ RepL R_api_Entry hf_ cs1321 l1318) ⟨_, _, _, _, rfl, _, (Sub.refl _), _, _, _, ha.tE rfl, hS.p1, hx14⟩ ?_))
   rintro G1478 _ a w ⟨y1317, l1318, y1323, x1324, rfl, hf, hs1163, A1319, c1320, cs1321, ha, hS, hx1322⟩ h
   refine ro ha (RC.seq (sr (rr [0, 9, 0, 0] hS ?_)))
   refine it fun w hS => ?_
   obtain ⟨A1490, c1491, A1493, c1494, A1496, c1497, cs1498, hr1492, hr1495, hx1499, hS⟩ := O_log_Log.o hS.p2
   refine rr [1, 0, 0] hS ?_
   refine it fun w hS => ln ?_
   refine RC.iteP 29 rfl h (fun hc1500 h => ?_) fun hc1500 h => ?_
   next =>
    refine jt (sk (RC.seq (RC.block ?_)))
    refine RC.join (fun (s : api_State) a w => ∃ y1571, s = (y1571) ∧ Holds (Sum.elim G1478 (· = r)) (log_Log_states_1.j23 a8 y1317 l1318 x1324 y1571) ∧ Has 68 [(0, .func (.yield b1) #[] #[]), (2, pV b17), (4, pV b1017), (5, iV x1324)] a ∧ St B w (OSl 79 19 (sV A1319 l1318 c1320) l1318.length cs1321 :: O_log_Log hf y1317 b5 :: Cl b1017 (C_api_State y1571) 70 :: pts b1 (.loop rc2) :: Cl b4 [pV b5] 51 :: Cl b7 [iV a8] 3 :: Cl b9 [sV A1319 l1318 c1320] 41 :: Cl b15 [iV x1016] 3 :: Cl b17 [pV b5] 51 :: l) hf) ?_ ?_
    · rintro y1571 a w ⟨_, rfl, h, ha, hS⟩
      refine ro ha (RC.seq (sr (rr [0, 0, 3] hS ?_)))
      refine it fun w hS => yc (fun _ hg1583 => log_Log_Back_round0.ok hx1322 hr3 hg1583 hS.p6.p6.p6.p4.p6) rfl h rfl rfl rfl rfl ?_
      intro t1582 h
      obtain ⟨y1584, y1585⟩ := t1582
      rintro _ w ⟨hf, hs1590, A1586, c1587, cs1588, rfl, hS, hx1589⟩
      have hS : St B w (_ :: _ :: _ :: _ :: _ :: _ :: _ :: _ :: _ :: l) hf := hS
      refine pn 1 rfl (ln (jfs ?_))
      obtain ⟨A1591, c1592, A1594, c1595, A1597, c1598, cs1599, hr1593, hr1596, hx1600, hS⟩ := O_log_Log.o hS.p2
      refine dr [1, 3, 6, 10, 13, 16, 18, 21, 25, 27, 31, 33, 37, 41, 42, 45, 48, 51, 56] [18] hS fun w hS => rq [10, 0, 0, 1, 8, 10, 0, 0, 1, 0] hS ?_
      refine it ?_
      obtain ⟨⟨hq1601, hq1602⟩, h⟩ := h.req
      refine RP.s 0 10 rfl rfl hS (fun w hS => Vl.indexOwn 1 hS rfl underlying148 sizeOf176 rfl rfl hq1601 hq1602) rfl (RP.s0 11 rfl (fun w => Vl.fieldAddr (a'' := (ad A1597).add (x1324.toNat * 10 + 0)) underlying176 rfl sizeOf48 rfl (add_add _ _ _)) rfl ?_)
      obtain ⟨_, ⟨A1604, c1605, b1607, rfl, hr1606, hr1608⟩, hl1603⟩ := RepL.elem R_log_done_ok hx1600 hq1601 hq1602
      refine RP.s 0 12 rfl rfl hS (fun w hS => Vl.loadA (vs := (C_api_Message ((nth y1584.l x1324).event))) isAgg48 sizeOf48 rfl rfl (hS.elemCells 1 rfl hl1603 (off := 0) rfl)) rfl ?_
      obtain ⟨t1609, hg1610, h⟩ := h.bind
      have hc := vm_Run.ok hr1593 hr1596 ((hG0.mono hs1163).mono hs1590) hg1610 hS
      obtain ⟨y1611, y1612, y1613⟩ := t1609
      refine RP.e 13 rfl (OW.callF (ls := [.tmp 54, .tmp 55, .tmp 63]) rfl call122 hc) rfl rfl ?_
      rintro _ w ⟨A1614, c1615, rfl, hS⟩
      refine ⟨kp ⟨fun _ => hS.d0, trivial⟩, ?_⟩
      refine pp 4 rfl (RP.e0 18 rfl (OW.store (vs := (C_api_State y1611)) 8 hS rfl rfl rfl rfl sizeOf70 rfl rfl rfl rfl) rfl ?_)
      rintro _ w ⟨rfl, hS⟩
      have hS : St B w (_ :: _ :: _ :: _ :: _ :: _ :: _ :: _ :: Cl _ [_, _, _, _, _, _, _, _, _, _] _ :: _ :: _ :: l) hf := hS
      refine ⟨kp ⟨(by intro hx; cases hx), trivial⟩, ?_⟩
      refine RP.nil (RQ.inB_n (RQ.then_n (RC.region (pn 3 rfl (RL.nil ?_)))))
      have hS := O_log_Log.c (x := y1584) hr1593 hr1596 hx1600 hS.p2.p2
      exact fun a ha => ⟨_, h.some, _, _, _, _, rfl, _, (hs1163.trans hs1590), _, _, _, ha.tE rfl, hS.d1.p6.p2, hx1589⟩
    refine sr (rr [10, 0, 0, 1, 0] hS ?_)
    refine it fun w hS => ?_
    obtain ⟨hq1616, h⟩ := h.req
    refine RL.s (Vl.indexOwn 1 hS rfl underlying148 sizeOf176 rfl rfl hq1616 hc1500) rfl (RL.s (Vl.fieldAddr (a'' := (ad A1496).add (x1324.toNat * 10 + 9)) underlying176 rfl sizeOf174 rfl (add_add _ _ _)) rfl ?_)
    obtain ⟨_, ⟨A1618, c1619, b1621, rfl, hr1620, hr1622⟩, hl1617⟩ := RepL.elem R_log_done_ok hx1499 hq1616 hc1500
    refine RL.s (Vl.load isAgg174 rfl (hS.litCell 1 rfl (hl1617 9 _ rfl))) rfl (pn 1 rfl (lnsr (pn 1 rfl (RL.s (Vl.ptNeq (fun b w => by kernel_rfl) (fun w => by kernel_rfl) rfl rfl) rfl (ln ?_)))))
    refine RC.iteB 41 rfl h (fun hc1623 h => ?_) fun hc1623 h => ?_
    next =>
     refine jt (RC.region (pn 1 rfl (RL.s (Vl.nilCheckO hc1623 rfl) rfl (RL.s (Vl.loadA (vs := (C_api_State (((nth y1317.l x1324).ahead).val))) isAgg70 sizeOf70 rfl rfl ((hr1622.on hc1623).cells hS.sub)) rfl (rr [4] hS ?_)))))
     refine it fun w hS => RL.nil ?_
     have hS := O_log_Log.c (x := y1317) hr1492 hr1495 hx1499 hS
     exact fun a ha => ⟨_, _, rfl, h, ha.tE rfl, hS.p1⟩
    refine jf (RC.skip ?_)
    have hS := O_log_Log.c (x := y1317) hr1492 hr1495 hx1499 hS
    exact fun a ha => ⟨_, _, rfl, h, ha.tE rfl, hS.p1⟩
   refine jf (RC.exit (RQ.exitT ?_))
   have h := h.inrS
   refine RQ.exitT (RQ.inB_hit ?_)
   have hS := O_log_Log.c (x := y1317) hr1492 hr1495 hx1499 hS
   cases h.some
   exact rtE results121 rfl ⟨_, hs1163, A1319, c1320, cs1321, rfl, hS.d2.p2.p2, hx1322⟩
 refine RC.block (fun a ha => lp h (fun (s : Int) a w => ∃ x1667, s = (x1667) ∧ Has 68 [(0, .func (.yield b1) #[] #[]), (1, pV b15), (2, pV b17)] a ∧ St B w (OSl 79 19 (sV A11 a10 c12) a10.length cs13 :: pts b1 (.loop rc2) :: O_log_Log hf a6 b5 :: Cl b4 [pV b5] 51 :: Cl b7 [iV a8] 3 :: Cl b9 [sV A11 a10 c12] 41 :: Cl b15 [iV x1667] 3 :: Cl b17 [pV b5] 51 :: l) hf) ⟨_, rfl, ha.tE rfl, hS.p5⟩ ?_)
 rintro G1711 x1667 a w ⟨_, rfl, ha, hS⟩ h
 refine ro ha (RC.seq (RC.seq ?_))
 obtain ⟨A1734, c1735, A1737, c1738, A1740, c1741, cs1742, hr1736, hr1739, hx1743, hS⟩ := O_log_Log.o hS.p2
 refine dr [1, 3, 6, 10, 12, 15, 19, 23, 26, 29, 32, 35, 38] [8, 9, 10, 11, 12] hS fun w hS => rq [8, 0, 0] hS ?_
 refine it ?_
 refine RP.iteP 9 rfl h (fun hc1744 h => ?_) fun hc1744 h => ?_
 next =>
  refine rq [9, 0, 0, 1, 8] hS ?_
  refine it ?_
  obtain ⟨⟨hq1745, hq1746⟩, h⟩ := h.req
  refine RP.v1 8 rfl (Vl.indexOwn 1 hS rfl underlying148 sizeOf176 rfl rfl hq1745 hq1746) rfl rfl (RP.v1 9 rfl (Vl.fieldAddr (a'' := (ad A1740).add (x1667.toNat * 10 + 9)) underlying176 rfl sizeOf174 rfl (add_add _ _ _)) rfl rfl ?_)
  obtain ⟨_, ⟨A1748, c1749, b1751, rfl, hr1750, hr1752⟩, hl1747⟩ := RepL.elem R_log_done_ok hx1743 hq1745 hq1746
  refine RP.v1 10 rfl (Vl.load isAgg174 rfl (hS.litCell 1 rfl (hl1747 9 _ rfl))) rfl rfl (RP.v1 11 rfl (Vl.ptEql (fun b w => by kernel_rfl) (fun w => by kernel_rfl) rfl rfl) rfl rfl (rq [0] hS ?_))
  refine it (RP.nil (RQ.then_n ?_))
  refine RC.iteM 19 rfl h (fun hc1753 h => ?_) fun hc1753 h => ?_
  next =>
   refine jf (RC.exit (RQ.exitT ?_))
   have h := h.inr
   refine RQ.exitT (RQ.inB_hit ?_)
   have hS := O_log_Log.c (x := a6) hr1736 hr1739 hx1743 hS
   exact fun a ha => ⟨_, _, rfl, h, ha.tE rfl, hS.p1⟩
  refine jt (sk (RC.block (RC.region (rr [8, 0, 8] hS ?_))))
  refine it fun w hS => RL.nil (RQ.inB_n ?_)
  have hS := O_log_Log.c (x := a6) hr1736 hr1739 hx1743 hS
  exact fun a ha => ⟨_, h.some, _, rfl, ha.tE rfl, hS.p2.p2⟩
 refine rq [0, 0, 0, 0, 0, 0, 0, 0, 0, 0] hS ?_
 refine it (RP.nil (RQ.then_n (jf (RC.exit (RQ.exitT ?_)))))
 have h := h.inr
 refine RQ.exitT (RQ.inB_hit ?_)
 have hS := O_log_Log.c (x := a6) hr1736 hr1739 hx1743 hS
 exact fun a ha => ⟨_, _, rfl, h, ha.tE rfl, hS.p1⟩
def log_Log_Back.j7 (a2 : log_Log) (x584 : Int) (l620 : List api_Entry) : Option (List api_Entry × log_Log) := ((log_Log_states.f a2 x584).bind fun t644 => ((log_Log_states_1.f a2 x584 l620 t644).bind fun (y654, y655, y656) => (if 0 ≤ IntKind.i64.wrap ((y655.length : Int) - 1) ∧ IntKind.i64.wrap ((y655.length : Int) - 1) < (y655.length : Int) then (if 0 ≤ x584 ∧ x584 ≤ (y654.l.length : Int) then some (y655, ({ y654 with state := (nth y655 (IntKind.i64.wrap ((y655.length : Int) - 1))).Before, l := (subL y654.l 0 x584) } : log_Log)) else none) else none)))
def log_Log_Back.j6 (a2 : log_Log) (x584 : Int) : Option (List api_Entry × log_Log) := (if x584 = (a2.l.length : Int) then some (([] : List api_Entry), a2) else (if 0 ≤ IntKind.i64.wrap ((a2.l.length : Int) - x584) ∧ (IntKind.i64.wrap ((a2.l.length : Int) - x584)) * 168 ≤ 140737488355328 then log_Log_Back.j7 a2 x584 (List.replicate (IntKind.i64.wrap ((a2.l.length : Int) - x584) : Int).toNat (⟨(⟨(⟨0, 0, 0⟩ : api_Key), 0, 0, 0, false⟩ : api_Message), (⟨(⟨0, 0, 0, 0, 0, 0, 0, 0⟩ : Arr8xInti64), 0, 0⟩ : api_State), 0, []⟩ : api_Entry)) else none))
def log_Log_Back.l8b (a2 : log_Log) (a3 : api_Message) : Int → Option ((Int) ⊕ (List api_Entry × log_Log))
 | (x747) => (if 0 < x747 then (if 0 ≤ IntKind.i64.wrap (x747 - 1) ∧ IntKind.i64.wrap (x747 - 1) < (a2.l.length : Int) then ((event_Before.f ((nth a2.l (IntKind.i64.wrap (x747 - 1))).event) a3).bind fun t839 => (if t839 = true then (Option.map Sum.inr (log_Log_Back.j6 a2 x747)) else some (.inl (IntKind.i64.wrap (x747 - 1))))) else none) else (Option.map Sum.inr (log_Log_Back.j6 a2 x747)))
def log_Log_Back.l8 (a2 : log_Log) (a3 : api_Message) (s : Int) : Option (List api_Entry × log_Log) := loopR (log_Log_Back.l8b a2 a3) s
def log_Log_Back.f (a2 : log_Log) (a3 : api_Message) : Option (List api_Entry × log_Log) := ((log_Log_none.f a2).bind fun t428 => (if t428 = true then some (([] : List api_Entry), a2) else log_Log_Back.l8 a2 a3 ((a2.l.length : Int))))
theorem log_Log_Back.ok {a2 : log_Log} {a3 : api_Message} {b1 : Nat} (hG0 : GlobAt hf 0 (.iface 215 (.agg #[.pointer (some ⟨1, 108, none⟩)]))) {r : List api_Entry × log_Log} (h : log_Log_Back.f a2 a3 = some r) (hS : St B w (O_log_Log hf a2 b1 :: l) hf) :
   Calls prog 103 #[pV b1, .agg (C_api_Message a3).toArray] w (Ret fun v w => ∃ hf_ : Hp, Sub hf hf_ ∧ ∃ (A_1 : Option Addr) (c_2 : Nat) (cs_3 : List Value), v = sV A_1 r.1 c_2 ∧ St B w (OSl 79 19 (sV A_1 r.1 c_2) r.1.length cs_3 :: O_log_Log hf_ r.2 b1 :: l) hf_ ∧ RepL R_api_Entry hf_ cs_3 r.1) := by
 have h := Holds.of h
 refine enM func103 rfl ntmps103 rfl (sr (rr [0, 0, 0] hS ?_))
 refine fun b423 b424 => it fun w hS => ln (RC.seq (sr (rr [2] hS ?_)))
 refine it fun w hS => cF (fun _ hg => log_Log_none.ok hg hS.p2) call94 h rfl rfl rfl ?_
 rintro t428 h _ w ⟨rfl, hS⟩
 refine ln ?_
 refine RC.iteB 10 rfl h (fun hc430 h => ?_) fun hc430 h => ?_
 next =>
  refine jtr (pn 1 rfl (lr (RQ.ret ?_)))
  have hS := hS.nilSlR 79 19
  cases h.some
  exact rtM0 (vs := [.slice none 0 0]) results103 ⟨rfl, trivial⟩ ⟨_, (Sub.refl _), none, 0, ([]), rfl, hS.d2.d2, RepL.nil⟩
 refine jfs (sr (rr [3, 0, 0] hS ?_))
 refine it fun w hS => ?_
 obtain ⟨A431, c432, A434, c435, A437, c438, cs439, hr433, hr436, hx440, hS⟩ := O_log_Log.o hS
 refine rr [1, 0, 0, 1] hS ?_
 refine fun b441 => it fun w hS => ln ?_
 refine RC.join (fun (s : Int) a w => ∃ x584, s = (x584) ∧ Holds (· = r) (log_Log_Back.j6 a2 x584) ∧ Has 115 [(2, pV b423), (5, pV b441)] a ∧ St B w (O_log_Log hf a2 b1 :: Cl b441 [iV x584] 3 :: Cl b423 [pV b1] 51 :: l) hf) ?_ ?_
 · rintro x584 a w ⟨_, rfl, h, ha, hS⟩
   refine ro ha (RC.seq (RC.seq ?_))
   obtain ⟨A596, c597, A599, c600, A602, c603, cs604, hr598, hr601, hx605, hS⟩ := O_log_Log.o hS
   refine RC.noPan (dr [1, 5, 8, 11, 14, 17, 20] [6] hS fun w hS => rq [3, 4, 0, 0, 1, 0, 0] hS ?_)
   refine it (RP.nil (RQ.noPan_n (RQ.then_n ?_)))
   refine RC.iteP 40 rfl h (fun hc606 h => ?_) fun hc606 h => ?_
   next =>
    refine jtr (pn 1 rfl (lr (RQ.ret ?_)))
    have hS := O_log_Log.c (x := a2) hr598 hr601 hx605 hS
    have hS := hS.nilSlR 79 19
    cases h.some
    exact rtM0 (vs := [.slice none 0 0]) results103 ⟨rfl, trivial⟩ ⟨_, (Sub.refl _), none, 0, ([]), rfl, hS.d2.d2, RepL.nil⟩
   refine jfs ?_
   refine RC.join (fun (s : List api_Entry) a w => ∃ l620, s = (l620) ∧ Holds (· = r) (log_Log_Back.j7 a2 x584 l620) ∧ ∃ b619 A621 c622 cs623, Has 115 [(2, pV b423), (5, pV b441), (6, pV b619)] a ∧ St B w (OSl 79 19 (sV A621 l620 c622) l620.length cs623 :: O_log_Log hf a2 b1 :: Cl b441 [iV x584] 3 :: Cl b423 [pV b1] 51 :: Cl b619 [sV A621 l620 c622] 41 :: l) hf ∧ RepL R_api_Entry hf cs623 l620) ?_ ?_
   · rintro l620 a w ⟨_, rfl, h, b619, A621, c622, cs623, ha, hS, hx624⟩
     refine ro ha (RC.seq (sr (rr [4, 3] hS ?_)))
     refine it fun w hS => cF (fun _ hg => log_Log_states.ok hg hS.p1) call95 h rfl rfl rfl ?_
     rintro t644 h _ w ⟨b646, b647, rfl, hS⟩
     refine ln (RC.block ?_)
     obtain ⟨t652, hg653, h⟩ := h.bind
     refine RC.rf (args := fun b648 => #[.func (.yield b648) #[] #[], pV b646, pV b647]) rfl call121 rfl hS (fun _ => by simp) (fun b648 d649 rc650 w hr651 hS => log_Log_states_1.ok hx624 (RecOK.to (M := 115) hr651 rfl rfl ⟨rfl, rfl, rfl, trivial⟩) hG0 hg653 hS.p3.p3.p5.p8.p7.p8.p8.p7) ?_
     obtain ⟨y654, y655, y656⟩ := t652
     rintro b648 d649 rc650 _ w hr651 ⟨hf, hs661, A657, c658, cs659, rfl, hS, hx660⟩
     refine RE.n hS.p1 hr651.state hr651.pending fun w hS => RQ.inB_n (RQ.then_n (RC.seq ?_))
     obtain ⟨A668, c669, A671, c672, A674, c675, cs676, hr670, hr673, hx677, hS⟩ := O_log_Log.o hS.p1
     refine RC.noPan (dr [1, 4, 8, 11, 14, 17, 20, 23, 26, 29, 32] [8, 9, 10] hS fun w hS => rq [4, 6, 6, 0, 0] hS ?_)
     refine it ?_
     obtain ⟨⟨hq678, hq679⟩, h⟩ := h.req
     refine RP.v1 5 rfl (Vl.indexOwn 2 hS rfl underlying41 sizeOf79 rfl rfl hq678 hq679) rfl rfl (RP.v1 6 rfl (Vl.fieldAddr (a'' := (ad A657).add ((IntKind.i64.wrap ((y655.length : Int) - 1)).toNat * 19 + 7)) underlying79 rfl sizeOf70 rfl (add_add _ _ _)) rfl rfl ?_)
     obtain ⟨_, ⟨A681, c682, rfl, hr683⟩, hl680⟩ := RepL.elem R_api_Entry_ok hx660 hq678 hq679
     refine RP.v1 7 rfl (Vl.loadA (vs := (C_api_State ((nth y655 (IntKind.i64.wrap ((y655.length : Int) - 1))).Before))) isAgg70 sizeOf70 rfl rfl (hS.elemCells 2 rfl hl680 (off := 7) rfl)) rfl rfl (rq [0, 0] hS ?_)
     refine it (RP.e0 10 rfl (OW.store (vs := (C_api_State ((nth y655 (IntKind.i64.wrap ((y655.length : Int) - 1))).Before))) 0 hS rfl rfl rfl rfl sizeOf70 rfl rfl rfl rfl) rfl ?_)
     rintro _ w ⟨rfl, hS⟩
     have hS : St B w (Cl _ [_, _, _, _, _, _, _, _, _, _, _, _, _, _, _, _, _, _] _ :: _ :: _ :: _ :: _ :: _ :: _ :: _ :: _ :: l) hf := hS
     refine ⟨kp ⟨(by intro hx; cases hx), trivial⟩, ?_⟩
     refine RP.nil (RQ.noPan_n (RQ.then_n (RC.seq (RC.noPan (dr [1, 4, 6, 9, 13, 16, 20, 23, 26, 29, 32] [8, 9, 10] hS fun w hS => rq [4, 4, 0, 0, 1, 5, 5] hS ?_)))))
     refine it ?_
     obtain ⟨⟨hq684, hq685⟩, h⟩ := h.req
     refine RP.v1 7 rfl (Vl.slice3 (xs := y654.l) 1 hS rfl underlying148 sizeOf176 rfl rfl rfl hq684 hq685) rfl rfl (rq [0, 0] hS ?_)
     refine it ?_
     obtain ⟨cs686, hx687, hS⟩ := hS.cutR R_log_done_ok 1 rfl hx677 hq684 hq685
     have hS : St B w (_ :: _ :: _ :: _ :: _ :: _ :: _ :: _ :: _ :: l) hf := hS
     refine RP.e0 10 rfl (OW.store (vs := [.slice (subA A674 c675 (0 : Int).toNat 10) (subL y654.l 0 x584).length ((x584 : Int).toNat - (0 : Int).toNat)]) 1 hS rfl rfl rfl rfl sizeOf148 rfl rfl rfl rfl) rfl ?_
     rintro _ w ⟨rfl, hS⟩
     have hS : St B w (_ :: Cl _ [_, _, _, _, _, _, _, _, _, _, _, _, _, _, _, _, _, _] _ :: _ :: _ :: _ :: _ :: _ :: _ :: _ :: l) hf := hS
     refine ⟨kp ⟨(by intro hx; cases hx), trivial⟩, ?_⟩
     refine RP.nil (RQ.noPan_n (tsr (rr [6, 0] hS ?_)))
     refine it fun w hS => lr ?_
     have hS := O_log_Log.c (x := ({ y654 with state := (nth y655 (IntKind.i64.wrap ((y655.length : Int) - 1))).Before, l := (subL y654.l 0 x584) } : log_Log)) hr670 hr673 hx687 hS.p1
     cases h.some
     exact rtM1 (vs := [sV A657 y655 c658]) results103 hS.p7 fun w hS => ⟨⟨rfl, trivial⟩, ⟨_, hs661, A657, c658, cs659, rfl, hS.d2.d2.d2.d2.d2.p1, hx660⟩⟩
   refine RC.noPan (RC.planS (.early 0 0 (.pure 1 (.pure 2 (.early 3 0 (.pure 4 (.early 5 0 (.pure 6 (.fork 7 8 (.last 8 (.last 9 .nil)) (.last 7 (.last 9 .nil)))))))))) [9] hS (fun w hS => hS) follows rfl (by kernel_rfl) NoTmp.noPan fun w hS => rq [4, 0, 0, 1, 0, 3, 0] hS ?_)
   refine it ?_
   refine RP.fork ?_ ?_
   · obtain ⟨⟨hq688, hq689⟩, h⟩ := h.req
     refine RPW.e 7 rfl (OW.makeR (x0 := (⟨(⟨(⟨0, 0, 0⟩ : api_Key), 0, 0, 0, false⟩ : api_Message), (⟨(⟨0, 0, 0, 0, 0, 0, 0, 0⟩ : Arr8xInti64), 0, 0⟩ : api_State), 0, []⟩ : api_Entry)) R_api_Entry_ok hS underlying41 type79 rfl rfl rfl ⟨none, 0, rfl, SlR.nil⟩ (by decide) rfl rfl hq688 (by decide) hq689) rfl rfl ?_
     rintro _ w ⟨b690, cs691, rfl, hx692, hS⟩
     refine ⟨kp ⟨fun _ => hS.d0, trivial⟩, ?_⟩
     refine RP.e 8 rfl (OW.alloc (cs := [.slice none 0 0]) hS zeroValue41 rfl) rfl rfl ?_
     rintro _ w ⟨b693, rfl, hS⟩
     refine ⟨kp ⟨fun _ => hS.d0.d0, trivial⟩, ?_⟩
     refine RP.e0 9 rfl (OW.store (vs := [.slice (some ⟨b690, 0, none⟩) (List.replicate (IntKind.i64.wrap ((a2.l.length : Int) - x584) : Int).toNat (⟨(⟨(⟨0, 0, 0⟩ : api_Key), 0, 0, 0, false⟩ : api_Message), (⟨(⟨0, 0, 0, 0, 0, 0, 0, 0⟩ : Arr8xInti64), 0, 0⟩ : api_State), 0, []⟩ : api_Entry)).length ((IntKind.i64.wrap ((a2.l.length : Int) - x584) : Int).toNat)]) 0 hS rfl rfl rfl rfl sizeOf41 rfl rfl rfl rfl) rfl ?_
     rintro _ w ⟨rfl, hS⟩
     have hS : St B w (Cl _ [_] _ :: _ :: _ :: _ :: _ :: _ :: l) hf := hS
     refine ⟨kp ⟨(by intro hx; cases hx), trivial⟩, ?_⟩
     refine RP.nil (RQ.noPan_n ?_)
     have hS := O_log_Log.c (x := a2) hr598 hr601 hx605 hS.p3.p3
     exact fun a ha => ⟨_, _, rfl, h, _, _, _, _, ha.tE rfl, hS.p4.p4.p2.p4, hx692⟩
   · refine RPW.e 8 rfl (OW.alloc (cs := [.slice none 0 0]) hS zeroValue41 rfl) rfl rfl ?_
     rintro _ w ⟨b694, rfl, hS⟩
     refine ⟨kp ⟨fun _ => hS.d0, trivial⟩, ?_⟩
     obtain ⟨⟨hq695, hq696⟩, h⟩ := h.req
     refine RP.e 7 rfl (OW.makeR (x0 := (⟨(⟨(⟨0, 0, 0⟩ : api_Key), 0, 0, 0, false⟩ : api_Message), (⟨(⟨0, 0, 0, 0, 0, 0, 0, 0⟩ : Arr8xInti64), 0, 0⟩ : api_State), 0, []⟩ : api_Entry)) R_api_Entry_ok hS underlying41 type79 rfl rfl rfl ⟨none, 0, rfl, SlR.nil⟩ (by decide) rfl rfl hq695 (by decide) hq696) rfl rfl ?_
     rintro _ w ⟨b697, cs698, rfl, hx699, hS⟩
     refine ⟨kp ⟨fun _ => hS.d0.d0, trivial⟩, ?_⟩
     refine RP.e0 9 rfl (OW.store (vs := [.slice (some ⟨b697, 0, none⟩) (List.replicate (IntKind.i64.wrap ((a2.l.length : Int) - x584) : Int).toNat (⟨(⟨(⟨0, 0, 0⟩ : api_Key), 0, 0, 0, false⟩ : api_Message), (⟨(⟨0, 0, 0, 0, 0, 0, 0, 0⟩ : Arr8xInti64), 0, 0⟩ : api_State), 0, []⟩ : api_Entry)).length ((IntKind.i64.wrap ((a2.l.length : Int) - x584) : Int).toNat)]) 1 hS rfl rfl rfl rfl sizeOf41 rfl rfl rfl rfl) rfl ?_
     rintro _ w ⟨rfl, hS⟩
     have hS : St B w (_ :: Cl _ [_] _ :: _ :: _ :: _ :: _ :: l) hf := hS
     refine ⟨kp ⟨(by intro hx; cases hx), trivial⟩, ?_⟩
     refine RP.nil (RQ.noPan_n ?_)
     have hS := O_log_Log.c (x := a2) hr598 hr601 hx605 hS.p3.p3
     exact fun a ha => ⟨_, _, rfl, h, _, _, _, _, ha.tE rfl, hS.p4.p4.p2.p3, hx699⟩
 refine RC.block ?_
 have hS := O_log_Log.c (x := a2) hr433 hr436 hx440 hS.p2.p2
 refine fun a ha => lp h (fun (s : Int) a w => ∃ x747, s = (x747) ∧ Has 115 [(2, pV b423), (3, pV b424), (5, pV b441)] a ∧ St B w (O_log_Log hf a2 b1 :: Cl b441 [iV x747] 3 :: Cl b424 (C_api_Message a3) 48 :: Cl b423 [pV b1] 51 :: l) hf) ⟨_, rfl, ha.tE rfl, hS⟩ ?_
 rintro G795 x747 a w ⟨_, rfl, ha, hS⟩ h
 refine ro ha (RC.seq (RC.seq ?_))
 obtain ⟨A820, c821, A823, c824, A826, c827, cs828, hr822, hr825, hx829, hS⟩ := O_log_Log.o hS
 refine RC.noPan (dr [1, 3, 6, 10, 12, 15, 19, 22, 24, 28, 30, 34, 38, 41, 44, 47] [] hS fun w hS => rq [3, 0, 0] hS ?_)
 refine it ?_
 refine RP.iteP 18 rfl h (fun hc830 h => ?_) fun hc830 h => ?_
 next =>
  refine rq [5, 0, 0, 1, 3, 0] hS ?_
  refine it ?_
  obtain ⟨⟨hq831, hq832⟩, h⟩ := h.req
  refine RP.sg 0 9 rfl rfl hS (fun w hS => Vl.indexOwn 1 hS rfl underlying148 sizeOf176 rfl rfl hq831 hq832) rfl rfl (RP.sg0 10 rfl (fun w => Vl.fieldAddr (a'' := (ad A826).add ((IntKind.i64.wrap (x747 - 1)).toNat * 10 + 0)) underlying176 rfl sizeOf48 rfl (add_add _ _ _)) rfl rfl ?_)
  obtain ⟨_, ⟨A834, c835, b837, rfl, hr836, hr838⟩, hl833⟩ := RepL.elem R_log_done_ok hx829 hq831 hq832
  refine RP.sg 0 11 rfl rfl hS (fun w hS => Vl.loadA (vs := (C_api_Message ((nth a2.l (IntKind.i64.wrap (x747 - 1))).event))) isAgg48 sizeOf48 rfl rfl (hS.elemCells 1 rfl hl833 (off := 0) rfl)) rfl rfl (rq [4] hS ?_)
  refine it ?_
  obtain ⟨t839, hg840, h⟩ := h.bind
  have hc := event_Before.ok hg840 hS
  refine RP.e 13 rfl (OW.callF (ls := [.tmp 27, .tmp 28]) rfl call62 hc) rfl rfl ?_
  rintro _ w ⟨rfl, hS⟩
  refine ⟨kp ⟨fun _ => hS, trivial⟩, ?_⟩
  refine rq [0, 0] hS ?_
  refine it (RP.nil (RQ.noPan_n (RQ.then_n ?_)))
  refine RC.iteM 31 rfl h (fun hc841 h => ?_) fun hc841 h => ?_
  next =>
   refine jf (RC.exit (RQ.exitT ?_))
   have h := h.inr
   refine RQ.exitT (RQ.inB_hit ?_)
   have hS := O_log_Log.c (x := a2) hr822 hr825 hx829 hS
   exact fun a ha => ⟨_, _, rfl, h, ha.tE rfl, hS.d2⟩
  refine jt (sk (RC.block (RC.region (rr [3, 0, 3] hS ?_))))
  refine it fun w hS => RL.nil (RQ.inB_n ?_)
  have hS := O_log_Log.c (x := a2) hr822 hr825 hx829 hS
  exact fun a ha => ⟨_, h.some, _, rfl, ha.tE rfl, hS⟩
 refine rq [0, 0, 0, 0, 0, 0, 0, 0, 0, 0, 0, 0, 0] hS ?_
 refine it (RP.nil (RQ.noPan_n (RQ.then_n (jf (RC.exit (RQ.exitT ?_))))))
 have h := h.inr
 refine RQ.exitT (RQ.inB_hit ?_)
 have hS := O_log_Log.c (x := a2) hr822 hr825 hx829 hS
 exact fun a ha => ⟨_, _, rfl, h, ha.tE rfl, hS.d2⟩
def event_One.f (a1 a2 : api_Message) : Option (Bool) := (if a1.Key.From = a2.Key.From then some (decide (a1.Uid = a2.Uid)) else some false)
theorem event_One.ok {a1 a2 : api_Message} {r : Bool} (h : event_One.f a1 a2 = some r) (hS : St B w (l) hf) :
   Calls prog 31 #[.agg (C_api_Message a1).toArray, .agg (C_api_Message a2).toArray] w (Ret fun v w => v = .bool r ∧ St B w (l) hf) := by
 have h := Holds.of h
 refine en func31 rfl ntmps31 rfl (sr (rr [0, 0, 0] hS ?_))
 refine fun b6 b7 => it fun w hS => lnsr (rr [0, 0, 2, 0, 0, 1, 0, 0] hS ?_)
 refine it fun w hS => RL.iteP 12 rfl h (fun hc8 h => ?_) fun hc8 h => ?_
 next =>
  refine rr [0, 2, 0, 1, 0, 0, 0] hS ?_
  refine it fun w hS => lr ?_
  cases h.some
  exact rt results31 rfl ⟨rfl, hS.d0.d0⟩
 refine pn 7 rfl (lr ?_)
 obtain rfl := h.some
 exact rt results31 rfl ⟨rfl, hS.d0.d0⟩
def lane_late_undo.l2b (a3 : api_Entry) : lane_Lane × Int → Option ((lane_Lane × Int) ⊕ (lane_Lane))
 | (y248, x249) => (if x249 < (a3.Sent.length : Int) then (if 0 ≤ IntKind.i64.wrap ((IntKind.i64.wrap ((a3.Sent.length : Int) - 1)) - x249) ∧ IntKind.i64.wrap ((IntKind.i64.wrap ((a3.Sent.length : Int) - 1)) - x249) < (a3.Sent.length : Int) then (if (y248.open_.length + 1) * 112 ≤ 140737488355328 then some (.inl (({ y248 with open_ := (y248.open_ ++ ([(⟨a3.Event, nth a3.Sent (IntKind.i64.wrap ((IntKind.i64.wrap ((a3.Sent.length : Int) - 1)) - x249))⟩ : lane_open)])) } : lane_Lane), IntKind.i64.wrap (x249 + 1))) else none) else none) else some (.inr y248))
def lane_late_undo.l2 (a3 : api_Entry) (s : lane_Lane × Int) : Option (lane_Lane) := loopR (lane_late_undo.l2b a3) s
def lane_late_undo.f (a2 : lane_Lane) (a3 : api_Entry) : Option (lane_Lane) := lane_late_undo.l2 a3 (a2, 0)
theorem lane_late_undo.ok {a2 : lane_Lane} {a3 : api_Entry} {b1 c5 : Nat} {A4 : Option Addr} (hr6 : SlR E_api_Message.rep hf A4 c5 a3.Sent) {r : lane_Lane} (h : lane_late_undo.f a2 a3 = some r) (hS : St B w (O_lane_Lane hf a2 b1 :: l) hf) :
   Calls prog 247 #[.agg #[], pV b1, .agg (C_api_Entry a3 A4 c5).toArray] w (Ret fun v w => v = .slice none 0 0 ∧ St B w (O_lane_Lane hf r b1 :: l) hf) := by
 have h := Holds.of h
 refine en func247 rfl ntmps247 rfl (sr (rr [0, 0, 0] hS ?_))
 refine fun b188 b189 => it fun w hS => ln (RC.seq (sr (rr [0, 1, 0, 0] hS ?_)))
 refine it fun w hS => ln (RC.block (fun a ha => lp h (fun (s : lane_Lane × Int) a w => ∃ y248 x249, s = (y248, x249) ∧ Has 37 [(1, pV b1), (5, pV b189), (10, iV (a3.Sent.length : Int)), (11, iV x249)] a ∧ St B w (Cl b189 (C_api_Entry a3 A4 c5) 79 :: O_lane_Lane hf y248 b1 :: l) hf) ⟨_, _, rfl, ha.tE rfl, hS.d1⟩ ?_))
 rintro G308 _ a w ⟨y248, x249, rfl, ha, hS⟩ h
 refine ro ha (sr (pn 1 rfl (ln (RC.seq ?_))))
 refine RC.iteP 12 rfl h (fun hc310 h => ?_) fun hc310 h => ?_
 next =>
  refine jt (sk (RC.seq (RC.block (sr (pn 2 rfl (ln ?_))))))
  obtain ⟨A338, c339, A341, c342, A344, c345, A347, c348, b350, b351, A352, c353, A354, c355, b356, b357, hr340, hr343, hr346, hr349, hS⟩ := O_lane_Lane.o hS.p1
  refine dr [0, 3, 6, 9, 13, 15, 19, 21, 25, 27, 31, 33, 36, 41, 44, 47, 50, 53, 56, 59, 62, 65, 68] [19, 20, 21, 22] hS fun w hS => rq [0, 0, 0, 0, 1, 0, 8, 0, 8, 0, 8, 0, 0, 0, 0] hS ?_
  refine it ?_
  obtain ⟨⟨hq358, hq359⟩, h⟩ := h.req
  refine RP.v1 15 rfl (Vl.indexAddr underlying39 sizeOf48 rfl rfl ((hr6.2.world hS.sub).adr hq358 hq359) hq358 hq359 rfl) rfl rfl (RP.v1 16 rfl (Vl.loadA isAgg48 sizeOf48 rfl rfl ((hr6.2.world hS.sub).cells hq358 hq359)) rfl rfl (rq [0] hS ?_))
  refine it (RP.e 18 rfl (OW.buildSlice (E := E_lane_open) (xs := [(⟨a3.Event, nth a3.Sent (IntKind.i64.wrap ((IntKind.i64.wrap ((a3.Sent.length : Int) - 1)) - x249))⟩ : lane_open)]) (cs := [iV a3.Event.Key.Time, iV a3.Event.Key.From, iV a3.Event.Key.Seq, iV a3.Event.To, iV a3.Event.Value, iV a3.Event.Uid, .bool a3.Event.Anti, iV (((nth a3.Sent (IntKind.i64.wrap ((IntKind.i64.wrap ((a3.Sent.length : Int) - 1)) - x249))).Key).Time), iV (((nth a3.Sent (IntKind.i64.wrap ((IntKind.i64.wrap ((a3.Sent.length : Int) - 1)) - x249))).Key).From), iV (((nth a3.Sent (IntKind.i64.wrap ((IntKind.i64.wrap ((a3.Sent.length : Int) - 1)) - x249))).Key).Seq), iV ((nth a3.Sent (IntKind.i64.wrap ((IntKind.i64.wrap ((a3.Sent.length : Int) - 1)) - x249))).To), iV ((nth a3.Sent (IntKind.i64.wrap ((IntKind.i64.wrap ((a3.Sent.length : Int) - 1)) - x249))).Value), iV ((nth a3.Sent (IntKind.i64.wrap ((IntKind.i64.wrap ((a3.Sent.length : Int) - 1)) - x249))).Uid), .bool ((nth a3.Sent (IntKind.i64.wrap ((IntKind.i64.wrap ((a3.Sent.length : Int) - 1)) - x249))).Anti)]) hS underlying53 zeroValue116 sizeOf116 (parts := [(0, .tmp 31)]) rfl rfl (by decide) (by decide) (by kernel_rfl) rfl) rfl rfl ?_)
  rintro _ w ⟨b360, rfl, hS⟩
  refine ⟨kp ⟨fun _ => hS.d0, trivial⟩, ?_⟩
  obtain ⟨hq361, h⟩ := h.req
  refine RP.e 19 rfl (OW.append (E := E_lane_open) (xs := y248.open_) (ys := [(⟨a3.Event, nth a3.Sent (IntKind.i64.wrap ((IntKind.i64.wrap ((a3.Sent.length : Int) - 1)) - x249))⟩ : lane_open)]) 4 hS rfl underlying53 type116 rfl rfl rfl rfl (by decide) rfl rfl rfl (hS.slW 0 rfl).2.2.flat (by simp only [maxLen, List.length_cons, List.length_nil] at *; omega) hq361 rfl) rfl rfl ?_
  rintro v364 w hS
  obtain ⟨A362, c363, rfl, _⟩ := hS.osShape 0 rfl
  have hS : St B w (_ :: _ :: _ :: _ :: _ :: _ :: _ :: _ :: _ :: l) hf := hS
  refine ⟨kp ⟨(by intro hx; cases hx), trivial⟩, ?_⟩
  refine RP.v1 20 rfl (Vl.nilCheck rfl) rfl rfl (RP.v1 21 rfl (Vl.fa 13 underlying61 rfl sizeOf53 rfl rfl) rfl rfl (RP.e0 22 rfl (OW.store (vs := [.slice A362 (y248.open_ ++ ([(⟨a3.Event, nth a3.Sent (IntKind.i64.wrap ((IntKind.i64.wrap ((a3.Sent.length : Int) - 1)) - x249))⟩ : lane_open)])).length c363]) 2 hS rfl rfl rfl rfl sizeOf53 rfl rfl rfl rfl) rfl ?_))
  rintro _ w ⟨rfl, hS⟩
  have hS : St B w (_ :: _ :: Cl _ [_, _, _, _, _, _, _, _, _, _, _, _, _, _, _, _, _, _, _, _, _, _, _, _, _, _, _] _ :: _ :: _ :: _ :: _ :: _ :: _ :: l) hf := hS
  refine ⟨kp ⟨(by intro hx; cases hx), trivial⟩, ?_⟩
  refine RP.nil (RQ.inB_n (RQ.then_n (RC.region (pn 2 rfl (RL.nil ?_)))))
  have hS := O_lane_Lane.c (x := ({ y248 with open_ := (y248.open_ ++ ([(⟨a3.Event, nth a3.Sent (IntKind.i64.wrap ((IntKind.i64.wrap ((a3.Sent.length : Int) - 1)) - x249))⟩ : lane_open)])) } : lane_Lane)) hr340 hr343 hr346 hr349 hS.p7.p7.p7.p3.p7.p7.p7
  exact fun a ha => ⟨_, h.some, _, _, rfl, ha.tE rfl, hS.d1.p1⟩
 refine jf (RC.exit (RQ.exitT ?_))
 have h := h.inrS
 refine RQ.exitT (RQ.inB_hit (tsr (pn 1 rfl (lr ?_))))
 obtain rfl := h.some
 exact rt results247 rfl ⟨rfl, hS.d0⟩
def lane_lazy.f  : Option (Bool) := some true
theorem lane_lazy.ok {r : Bool} (h : lane_lazy.f = some r) (hS : St B w (l) hf) :
   Calls prog 104 #[.iface 237 (.agg #[])] w (Ret fun v w => v = .bool r ∧ St B w (l) hf) := by
 have h := Holds.of h
 refine en func104 rfl ntmps104 rfl (sr (pn 1 rfl (ln (RC.seq (sr (pn 1 rfl (ln (RC.block (sr (RL.s (Vl.tassert (r := .tuple #[.agg #[], .bool true]) rfl (fun w => run_tassert_same underlying237 rfl _ _ w)) rfl ?_))))))))))
 refine pn 2 rfl (ln (jtr (pn 1 rfl (lr (ir ?_)))))
 obtain rfl := h.some
 exact rt results104 rfl ⟨rfl, hS⟩
def lane_now_undo.l2b (a3 : api_Entry) : List api_Message × Int → Option ((List api_Message × Int) ⊕ (List api_Message))
 | (l112, x115) => (if x115 < (a3.Sent.length : Int) then (if 0 ≤ IntKind.i64.wrap ((IntKind.i64.wrap ((a3.Sent.length : Int) - 1)) - x115) ∧ IntKind.i64.wrap ((IntKind.i64.wrap ((a3.Sent.length : Int) - 1)) - x115) < (a3.Sent.length : Int) then ((event_Twin.f (nth a3.Sent (IntKind.i64.wrap ((IntKind.i64.wrap ((a3.Sent.length : Int) - 1)) - x115)))).bind fun t154 => (if (l112.length + 1) * 56 ≤ 140737488355328 then some (.inl ((l112 ++ ([t154])), IntKind.i64.wrap (x115 + 1))) else none)) else none) else some (.inr l112))
def lane_now_undo.l2 (a3 : api_Entry) (s : List api_Message × Int) : Option (List api_Message) := loopR (lane_now_undo.l2b a3) s
def lane_now_undo.f (a2 : lane_Lane) (a3 : api_Entry) : Option (List api_Message) := lane_now_undo.l2 a3 ([], 0)
theorem lane_now_undo.ok {a2 : lane_Lane} {a3 : api_Entry} {b1 c5 : Nat} {A4 : Option Addr} (hr6 : SlR E_api_Message.rep hf A4 c5 a3.Sent) {r : List api_Message} (h : lane_now_undo.f a2 a3 = some r) (hS : St B w (O_lane_Lane hf a2 b1 :: l) hf) :
   Calls prog 248 #[.agg #[], pV b1, .agg (C_api_Entry a3 A4 c5).toArray] w (Ret fun v w => ∃ (A_1 : Option Addr) (c_2 : Nat), v = sV A_1 r c_2 ∧ St B w (OSf E_api_Message 48 (sV A_1 r c_2) r :: O_lane_Lane hf a2 b1 :: l) hf) := by
 have h := Holds.of h
 refine en func248 rfl ntmps248 rfl (sr (rr [0, 0, 0] hS ?_))
 refine fun b86 b87 => it fun w hS => lnsr (pn 1 rfl (ln (RC.seq (sr (rr [0, 1, 0, 0] hS ?_)))))
 refine it fun w hS => RL.nil ?_
 refine RQ.then_n (RC.block ?_)
 have hS := hS.nilSl E_api_Message 48
 refine fun a ha => lp h (fun (s : List api_Message × Int) a w => ∃ l112 x115, s = (l112, x115) ∧ ∃ A113 c114, Has 31 [(5, pV b87), (7, sV A113 l112 c114), (11, iV (a3.Sent.length : Int)), (12, iV x115)] a ∧ St B w (OSf E_api_Message 48 (sV A113 l112 c114) l112 :: Cl b87 (C_api_Entry a3 A4 c5) 79 :: O_lane_Lane hf a2 b1 :: l) hf) ⟨_, _, rfl, _, _, ha.tE rfl, hS.d2⟩ ?_
 rintro G140 _ a w ⟨l112, x115, rfl, A113, c114, ha, hS⟩ h
 refine ro ha (sr (pn 1 rfl (ln (RC.seq ?_))))
 refine RC.iteP 13 rfl h (fun hc142 h => ?_) fun hc142 h => ?_
 next =>
  refine jt (sk (RC.seq (RC.block (sr (pn 2 rfl (ln (RC.region (rr [0, 0, 2, 0, 2, 0, 0, 0, 0] hS ?_))))))))
  refine it fun w hS => ?_
  obtain ⟨⟨hq152, hq153⟩, h⟩ := h.req
  refine RL.s (Vl.indexAddr underlying39 sizeOf48 rfl rfl ((hr6.2.world hS.sub).adr hq152 hq153) hq152 hq153 rfl) rfl (RL.s (Vl.loadA isAgg48 sizeOf48 rfl rfl ((hr6.2.world hS.sub).cells hq152 hq153)) rfl (cF (fun _ hg => event_Twin.ok hg hS) call28 h rfl rfl rfl ?_))
  rintro t154 h _ w ⟨rfl, hS⟩
  refine RL.e (OW.buildSlice (E := E_api_Message) (xs := [t154]) (cs := (C_api_Message t154)) hS underlying39 zeroValue48 sizeOf48 (parts := [(0, .tmp 26)]) rfl rfl (by decide) (by decide) (by kernel_rfl) rfl) rfl rfl ?_
  rintro _ w ⟨b156, rfl, hS⟩
  obtain ⟨hq157, h⟩ := h.req
  refine RL.e (OW.append (E := E_api_Message) (xs := l112) (ys := [t154]) 1 hS rfl underlying39 type48 rfl rfl rfl rfl (by decide) rfl rfl rfl (hS.slW 0 rfl).2.2.flat (by simp only [maxLen, List.length_cons, List.length_nil] at *; omega) hq157 rfl) rfl rfl ?_
  rintro v160 w hS
  obtain ⟨A158, c159, rfl, _⟩ := hS.osShape 0 rfl
  have hS : St B w (_ :: _ :: _ :: _ :: l) hf := hS
  refine pn 1 rfl (RL.nil (RQ.inB_n (RQ.then_n (RC.region (pn 2 rfl (RL.nil ?_))))))
  exact fun a ha => ⟨_, h.some, _, _, rfl, _, _, ha.tE rfl, hS.d1⟩
 refine jf (RC.exit (RQ.exitT ?_))
 have h := h.inrS
 refine RQ.exitT (RQ.inB_hit (tsr (pn 2 rfl (lr ?_))))
 obtain rfl := h.some
 exact rt results248 rfl ⟨A113, c114, rfl, hS.d1⟩
def lane_lazy_2.f  : Option (Bool) := some false
theorem lane_lazy_2.ok {r : Bool} (h : lane_lazy_2.f = some r) (hS : St B w (l) hf) :
   Calls prog 104 #[.iface 238 (.agg #[])] w (Ret fun v w => v = .bool r ∧ St B w (l) hf) := by
 have h := Holds.of h
 refine en func104 rfl ntmps104 rfl (sr (pn 1 rfl (ln (RC.seq (sr (pn 1 rfl (ln (RC.block (sr (RL.s (Vl.tassert (r := .tuple #[.agg #[], .bool false]) rfl (fun w => run_tassert_other underlying237 rfl rfl zeroValue237 _ _ w)) rfl ?_))))))))))
 refine pn 2 rfl (ln (jf (RC.skip (RQ.inB_n (tsr (pn 1 rfl (lr ?_)))))))
 obtain rfl := h.some
 exact rt results104 rfl ⟨rfl, hS⟩
def lane_Lane_back.l3b (a3 : api_Message) (a4 : Bool) (y1435 : List api_Entry) : lane_Lane × List api_Message × Int → Option ((lane_Lane × List api_Message × Int) ⊕ (List api_Message × lane_Lane))
 | (y1641, l1642, x1645) => (if x1645 < (y1435.length : Int) then (if 0 ≤ x1645 then (if a4 = true then ((event_One.f ((nth y1435 x1645).Event) a3).bind fun t2014 => (if t2014 = true then ((lane_late_undo.f ({ y1641 with stats := (⟨y1641.stats.Done, IntKind.i64.wrap (y1641.stats.Undone + 1), y1641.stats.Hits, y1641.stats.Held⟩ : api_Stats) } : lane_Lane) (nth y1435 x1645)).bind fun t2017 => ((lane_lazy.f).bind fun t2019 => (if t2019 = true then some (.inl (t2017, l1642, IntKind.i64.wrap (x1645 + 1))) else (if (l1642.length + ([] : List api_Message).length) * 56 ≤ 140737488355328 then some (.inl (t2017, (l1642 ++ ([] : List api_Message)), IntKind.i64.wrap (x1645 + 1))) else none)))) else ((lane_Lane_hold.f ({ y1641 with stats := (⟨y1641.stats.Done, IntKind.i64.wrap (y1641.stats.Undone + 1), y1641.stats.Hits, y1641.stats.Held⟩ : api_Stats) } : lane_Lane) ((nth y1435 x1645).Event)).bind fun t2026 => ((lane_late_undo.f t2026 (nth y1435 x1645)).bind fun t2028 => ((lane_lazy.f).bind fun t2030 => (if t2030 = true then some (.inl (t2028, l1642, IntKind.i64.wrap (x1645 + 1))) else (if (l1642.length + ([] : List api_Message).length) * 56 ≤ 140737488355328 then some (.inl (t2028, (l1642 ++ ([] : List api_Message)), IntKind.i64.wrap (x1645 + 1))) else none))))))) else ((lane_Lane_hold.f ({ y1641 with stats := (⟨y1641.stats.Done, IntKind.i64.wrap (y1641.stats.Undone + 1), y1641.stats.Hits, y1641.stats.Held⟩ : api_Stats) } : lane_Lane) ((nth y1435 x1645).Event)).bind fun t2037 => ((lane_late_undo.f t2037 (nth y1435 x1645)).bind fun t2039 => ((lane_lazy.f).bind fun t2041 => (if t2041 = true then some (.inl (t2039, l1642, IntKind.i64.wrap (x1645 + 1))) else (if (l1642.length + ([] : List api_Message).length) * 56 ≤ 140737488355328 then some (.inl (t2039, (l1642 ++ ([] : List api_Message)), IntKind.i64.wrap (x1645 + 1))) else none)))))) else none) else some (.inr (l1642, y1641)))
def lane_Lane_back.l3 (a3 : api_Message) (a4 : Bool) (y1435 : List api_Entry) (s : lane_Lane × List api_Message × Int) : Option (List api_Message × lane_Lane) := loopR (lane_Lane_back.l3b a3 a4 y1435) s
def lane_Lane_back.l4b (a3 : api_Message) (a4 : Bool) (y2100 : List api_Entry) : lane_Lane × List api_Message × Int → Option ((lane_Lane × List api_Message × Int) ⊕ (List api_Message × lane_Lane))
 | (y2318, l2319, x2322) => (if x2322 < (y2100.length : Int) then (if 0 ≤ x2322 then (if a4 = true then ((event_One.f ((nth y2100 x2322).Event) a3).bind fun t2709 => (if t2709 = true then ((lane_now_undo.f ({ y2318 with stats := (⟨y2318.stats.Done, IntKind.i64.wrap (y2318.stats.Undone + 1), y2318.stats.Hits, y2318.stats.Held⟩ : api_Stats) } : lane_Lane) (nth y2100 x2322)).bind fun t2712 => ((lane_lazy_2.f).bind fun t2716 => (if t2716 = true then some (.inl (({ y2318 with stats := (⟨y2318.stats.Done, IntKind.i64.wrap (y2318.stats.Undone + 1), y2318.stats.Hits, y2318.stats.Held⟩ : api_Stats) } : lane_Lane), l2319, IntKind.i64.wrap (x2322 + 1))) else (if (l2319.length + t2712.length) * 56 ≤ 140737488355328 then some (.inl (({ y2318 with stats := (⟨y2318.stats.Done, IntKind.i64.wrap (y2318.stats.Undone + 1), y2318.stats.Hits, y2318.stats.Held⟩ : api_Stats) } : lane_Lane), (l2319 ++ t2712), IntKind.i64.wrap (x2322 + 1))) else none)))) else ((lane_Lane_hold.f ({ y2318 with stats := (⟨y2318.stats.Done, IntKind.i64.wrap (y2318.stats.Undone + 1), y2318.stats.Hits, y2318.stats.Held⟩ : api_Stats) } : lane_Lane) ((nth y2100 x2322).Event)).bind fun t2723 => ((lane_now_undo.f t2723 (nth y2100 x2322)).bind fun t2725 => ((lane_lazy_2.f).bind fun t2729 => (if t2729 = true then some (.inl (t2723, l2319, IntKind.i64.wrap (x2322 + 1))) else (if (l2319.length + t2725.length) * 56 ≤ 140737488355328 then some (.inl (t2723, (l2319 ++ t2725), IntKind.i64.wrap (x2322 + 1))) else none))))))) else ((lane_Lane_hold.f ({ y2318 with stats := (⟨y2318.stats.Done, IntKind.i64.wrap (y2318.stats.Undone + 1), y2318.stats.Hits, y2318.stats.Held⟩ : api_Stats) } : lane_Lane) ((nth y2100 x2322).Event)).bind fun t2736 => ((lane_now_undo.f t2736 (nth y2100 x2322)).bind fun t2738 => ((lane_lazy_2.f).bind fun t2742 => (if t2742 = true then some (.inl (t2736, l2319, IntKind.i64.wrap (x2322 + 1))) else (if (l2319.length + t2738.length) * 56 ≤ 140737488355328 then some (.inl (t2736, (l2319 ++ t2738), IntKind.i64.wrap (x2322 + 1))) else none)))))) else none) else some (.inr (l2319, y2318)))
def lane_Lane_back.l4 (a3 : api_Message) (a4 : Bool) (y2100 : List api_Entry) (s : lane_Lane × List api_Message × Int) : Option (List api_Message × lane_Lane) := loopR (lane_Lane_back.l4b a3 a4 y2100) s
def lane_Lane_back.f (a2 : lane_Lane) (a3 : api_Message) (a4 : Bool) : Option (List api_Message × lane_Lane) := ((lane_Lane_policy.f a2).bind fun t1381 => match t1381 with | .inl _ => ((log_Log_Back.f a2.log a3).bind fun (y1435, y1436) => lane_Lane_back.l3 a3 a4 y1435 (({ a2 with log := y1436 } : lane_Lane), [], 0)) | .inr (_) => ((log_Log_Back.f a2.log a3).bind fun (y2100, y2101) => lane_Lane_back.l4 a3 a4 y2100 (({ a2 with log := y2101 } : lane_Lane), [], 0)))
theorem lane_Lane_back.ok {a2 : lane_Lane} {a3 : api_Message} {a4 : Bool} {b1 : Nat} (hG0 : GlobAt hf 0 (.iface 215 (.agg #[.pointer (some ⟨1, 108, none⟩)]))) {r : List api_Message × lane_Lane} (h : lane_Lane_back.f a2 a3 a4 = some r) (hS : St B w (O_lane_Lane hf a2 b1 :: l) hf) :
   Calls prog 58 #[pV b1, .agg (C_api_Message a3).toArray, .bool a4] w (Ret fun v w => ∃ hf_ : Hp, Sub hf hf_ ∧ ∃ (A_1 : Option Addr) (c_2 : Nat), v = sV A_1 r.1 c_2 ∧ St B w (OSf E_api_Message 48 (sV A_1 r.1 c_2) r.1 :: O_lane_Lane hf_ r.2 b1 :: l) hf_) := by
 have h := Holds.of h
 refine en func58 rfl ntmps58 rfl (sr (rr [0, 0] hS ?_))
 refine fun b1378 => it fun w hS => lnsr (pn 1 rfl (lnsr (pn 1 rfl ?_)))
 obtain ⟨t1381, hg1382, h⟩ := h.bind
 have hc := lane_Lane_policy.ok hg1382 hS.p1
 rcases t1381 with _ | _
 · refine RL.e (OW.callF (ls := [.tmp 12]) rfl call102 hc) rfl rfl ?_
   rintro _ w ⟨rfl, hS⟩
   refine pn 1 rfl (ln (RC.seq (RC.seq ?_)))
   obtain ⟨A1413, c1414, A1416, c1417, A1419, c1420, A1422, c1423, b1425, b1426, A1427, c1428, A1429, c1430, b1431, b1432, hr1415, hr1418, hr1421, hr1424, hS⟩ := O_lane_Lane.o hS
   refine dr [0, 3, 6, 10, 13, 21, 17, 20] [5, 6] hS fun w hS => rq [0, 0, 0, 1, 8, 0] hS ?_
   refine it ?_
   obtain ⟨t1433, hg1434, h⟩ := h.bind
   have hc := log_Log_Back.ok hG0 hg1434 hS.p1
   obtain ⟨y1435, y1436⟩ := t1433
   refine RP.e 5 rfl (OW.callF (ls := [.tmp 17, .tmp 18]) rfl call103 hc) rfl rfl ?_
   rintro _ w ⟨hf, hs1441, A1437, c1438, cs1439, rfl, hS, hx1440⟩
   have hS := O_pend_Pend.l hs1441 hS.p3
   have hS : St B w (_ :: _ :: _ :: _ :: _ :: _ :: _ :: _ :: _ :: l) hf := hS
   refine ⟨kp ⟨(by intro hx; cases hx), trivial⟩, ?_⟩
   refine RP.v1 6 rfl (Vl.lenSl underlying41 rfl) rfl rfl (RP.nil (RQ.then_n (RC.block ?_)))
   have hS := O_lane_Lane.c (x := ({ a2 with log := y1436 } : lane_Lane)) (hr1415.mono hs1441) (hr1418.mono hs1441) (hr1421.mono hs1441) (hr1424.mono hs1441) hS.p7.p7.p7.p7.p4.p6.p7
   have hS := hS.nilSl E_api_Message 48
   refine fun a ha => lp h (fun (s : lane_Lane × List api_Message × Int) a w => ∃ y1641 l1642 x1645, s = (y1641, l1642, x1645) ∧ ∃ A1643 c1644, Has 59 [(0, pV b1), (2, .bool a4), (4, pV b1378), (7, sV A1643 l1642 c1644), (8, .iface 237 (.agg #[])), (19, sV A1437 y1435 c1438), (20, iV (y1435.length : Int)), (21, iV x1645)] a ∧ St B w (OSf E_api_Message 48 (sV A1643 l1642 c1644) l1642 :: OSl 79 19 (sV A1437 y1435 c1438) y1435.length cs1439 :: O_lane_Lane hf y1641 b1 :: Cl b1378 (C_api_Message a3) 48 :: l) hf) ⟨_, _, _, rfl, _, _, ha.tE rfl, hS.p2.p1⟩ ?_
   rintro G1849 _ a w ⟨y1641, l1642, x1645, rfl, A1643, c1644, ha, hS⟩ h
   refine ro ha (sr (pn 1 rfl (ln (RC.seq ?_))))
   refine RC.iteP 22 rfl h (fun hc1851 h => ?_) fun hc1851 h => ?_
   next =>
    refine jt (sk (RC.seq (RC.block (sr ?_))))
    obtain ⟨hq1958, h⟩ := h.req
    refine RL.s (Vl.indexOwn 1 hS rfl underlying41 sizeOf79 rfl rfl hq1958 hc1851) rfl ?_
    obtain ⟨_, ⟨A1960, c1961, rfl, hr1962⟩, hl1959⟩ := RepL.elem R_api_Entry_ok hx1440 hq1958 hc1851
    refine RL.s (Vl.loadA (vs := (C_api_Entry (nth y1435 x1645) A1960 c1961)) isAgg79 sizeOf79 rfl rfl (hS.elemCells 1 rfl hl1959 (off := 0) rfl)) rfl (rr [0, 1] hS ?_)
    refine fun b1963 => it fun w hS => lnsr (r0 4 rfl ?_)
    obtain ⟨A1984, c1985, A1987, c1988, A1990, c1991, A1993, c1994, b1996, b1997, A1998, c1999, A2000, c2001, b2002, b2003, hr1986, hr1989, hr1992, hr1995, hS⟩ := O_lane_Lane.o hS.p3
    refine rr [1, 0, 0, 0, 0, 1] hS ?_
    refine it fun w hS => ln (RC.seq (sr (pn 3 rfl ?_)))
    refine RL.iteM 36 rfl h (fun hc2013 h => ?_) fun hc2013 h => ?_
    next =>
     refine rr [0, 8, 11] hS ?_
     refine it fun w hS => cF (fun _ hg => event_One.ok hg hS) call31 h rfl rfl rfl ?_
     rintro t2014 h _ w ⟨rfl, hS⟩
     refine pn 2 rfl (ln ?_)
     refine RC.iteM 42 rfl h (fun hc2016 h => ?_) fun hc2016 h => ?_
     next =>
      refine jfs (sr (rr [0, 0, 8] hS ?_))
      refine it fun w hS => ?_
      have hS := O_lane_Lane.c (x := ({ y1641 with stats := (⟨y1641.stats.Done, IntKind.i64.wrap (y1641.stats.Undone + 1), y1641.stats.Hits, y1641.stats.Held⟩ : api_Stats) } : lane_Lane)) hr1986 hr1989 hr1992 hr1995 hS
      obtain ⟨t2017, hg2018, h⟩ := h.bind
      have hc := lane_late_undo.ok hr1962 hg2018 hS
      refine RL.e (OW.invoke (F := 247) (u' := .agg #[]) (ls := [.tmp 48, .tmp 49]) rfl rfl (fun w => by kernel_rfl) call247 rfl hc) rfl rfl ?_
      rintro _ w ⟨rfl, hS⟩
      refine pn 1 rfl (lnsr (pn 1 rfl (cF (fun _ hg => lane_lazy.ok hg hS) call104 h rfl rfl rfl ?_)))
      rintro t2019 h _ w ⟨rfl, hS⟩
      refine pn 1 rfl (ln ?_)
      refine RC.iteM 53 rfl h (fun hc2021 h => ?_) fun hc2021 h => ?_
      next =>
       refine jf (RC.skip (RQ.inB_n (RQ.then_n (RC.region (pn 2 rfl (RL.nil ?_))))))
       exact fun a ha => ⟨_, h.some, _, _, _, rfl, _, _, ha.tE rfl, hS.d1.p2.p2⟩
      refine jt (RC.region (pn 2 rfl ?_))
      obtain ⟨hq2022, h⟩ := h.req
      refine RL.e (OW.appendV (E := E_api_Message) (xs := l1642) (ys := ([] : List api_Message)) 2 hS rfl underlying39 type48 rfl rfl rfl rfl (by decide) (by decide) rfl rfl (by intro k hk; cases hk) hq2022 rfl) rfl rfl ?_
      rintro v2025 w hS
      obtain ⟨A2023, c2024, rfl, _⟩ := hS.osShape 0 rfl
      have hS : St B w (_ :: _ :: _ :: _ :: _ :: l) hf := hS
      refine pn 1 rfl (RL.nil (RQ.inB_n (RQ.then_n (RC.region (pn 2 rfl (RL.nil ?_))))))
      exact fun a ha => ⟨_, h.some, _, _, _, rfl, _, _, ha.tE rfl, hS.d2.p2.p1⟩
     refine jt (RC.region (rr [0, 0, 8] hS ?_))
     refine it fun w hS => ?_
     have hS := O_lane_Lane.c (x := ({ y1641 with stats := (⟨y1641.stats.Done, IntKind.i64.wrap (y1641.stats.Undone + 1), y1641.stats.Hits, y1641.stats.Held⟩ : api_Stats) } : lane_Lane)) hr1986 hr1989 hr1992 hr1995 hS
     refine cF (fun _ hg => lane_Lane_hold.ok hg hS) call41 h rfl rfl rfl ?_
     rintro t2026 h _ w ⟨rfl, hS⟩
     refine lnsr (rr [0, 0, 2] hS ?_)
     refine it fun w hS => ?_
     obtain ⟨t2028, hg2029, h⟩ := h.bind
     have hc := lane_late_undo.ok hr1962 hg2029 hS
     refine RL.e (OW.invoke (F := 247) (u' := .agg #[]) (ls := [.tmp 48, .tmp 49]) rfl rfl (fun w => by kernel_rfl) call247 rfl hc) rfl rfl ?_
     rintro _ w ⟨rfl, hS⟩
     refine pn 1 rfl (lnsr (pn 1 rfl (cF (fun _ hg => lane_lazy.ok hg hS) call104 h rfl rfl rfl ?_)))
     rintro t2030 h _ w ⟨rfl, hS⟩
     refine pn 1 rfl (ln ?_)
     refine RC.iteM 53 rfl h (fun hc2032 h => ?_) fun hc2032 h => ?_
     next =>
      refine jf (RC.skip (RQ.inB_n (RQ.then_n (RC.region (pn 2 rfl (RL.nil ?_))))))
      exact fun a ha => ⟨_, h.some, _, _, _, rfl, _, _, ha.tE rfl, hS.d1.p2.p2⟩
     refine jt (RC.region (pn 2 rfl ?_))
     obtain ⟨hq2033, h⟩ := h.req
     refine RL.e (OW.appendV (E := E_api_Message) (xs := l1642) (ys := ([] : List api_Message)) 2 hS rfl underlying39 type48 rfl rfl rfl rfl (by decide) (by decide) rfl rfl (by intro k hk; cases hk) hq2033 rfl) rfl rfl ?_
     rintro v2036 w hS
     obtain ⟨A2034, c2035, rfl, _⟩ := hS.osShape 0 rfl
     have hS : St B w (_ :: _ :: _ :: _ :: _ :: l) hf := hS
     refine pn 1 rfl (RL.nil (RQ.inB_n (RQ.then_n (RC.region (pn 2 rfl (RL.nil ?_))))))
     exact fun a ha => ⟨_, h.some, _, _, _, rfl, _, _, ha.tE rfl, hS.d2.p2.p1⟩
    refine pn 6 rfl (ln (jt (RC.region (rr [0, 0, 8] hS ?_))))
    refine it fun w hS => ?_
    have hS := O_lane_Lane.c (x := ({ y1641 with stats := (⟨y1641.stats.Done, IntKind.i64.wrap (y1641.stats.Undone + 1), y1641.stats.Hits, y1641.stats.Held⟩ : api_Stats) } : lane_Lane)) hr1986 hr1989 hr1992 hr1995 hS
    refine cF (fun _ hg => lane_Lane_hold.ok hg hS) call41 h rfl rfl rfl ?_
    rintro t2037 h _ w ⟨rfl, hS⟩
    refine lnsr (rr [0, 0, 2] hS ?_)
    refine it fun w hS => ?_
    obtain ⟨t2039, hg2040, h⟩ := h.bind
    have hc := lane_late_undo.ok hr1962 hg2040 hS
    refine RL.e (OW.invoke (F := 247) (u' := .agg #[]) (ls := [.tmp 48, .tmp 49]) rfl rfl (fun w => by kernel_rfl) call247 rfl hc) rfl rfl ?_
    rintro _ w ⟨rfl, hS⟩
    refine pn 1 rfl (lnsr (pn 1 rfl (cF (fun _ hg => lane_lazy.ok hg hS) call104 h rfl rfl rfl ?_)))
    rintro t2041 h _ w ⟨rfl, hS⟩
    refine pn 1 rfl (ln ?_)
    refine RC.iteM 53 rfl h (fun hc2043 h => ?_) fun hc2043 h => ?_
    next =>
     refine jf (RC.skip (RQ.inB_n (RQ.then_n (RC.region (pn 2 rfl (RL.nil ?_))))))
     exact fun a ha => ⟨_, h.some, _, _, _, rfl, _, _, ha.tE rfl, hS.d1.p2.p2⟩
    refine jt (RC.region (pn 2 rfl ?_))
    obtain ⟨hq2044, h⟩ := h.req
    refine RL.e (OW.appendV (E := E_api_Message) (xs := l1642) (ys := ([] : List api_Message)) 2 hS rfl underlying39 type48 rfl rfl rfl rfl (by decide) (by decide) rfl rfl (by intro k hk; cases hk) hq2044 rfl) rfl rfl ?_
    rintro v2047 w hS
    obtain ⟨A2045, c2046, rfl, _⟩ := hS.osShape 0 rfl
    have hS : St B w (_ :: _ :: _ :: _ :: _ :: l) hf := hS
    refine pn 1 rfl (RL.nil (RQ.inB_n (RQ.then_n (RC.region (pn 2 rfl (RL.nil ?_))))))
    exact fun a ha => ⟨_, h.some, _, _, _, rfl, _, _, ha.tE rfl, hS.d2.p2.p1⟩
   refine jf (RC.exit (RQ.exitT ?_))
   have h := h.inrS
   refine RQ.exitT (RQ.inB_hit (tsr (pn 2 rfl (lr ?_))))
   cases h.some
   exact rt results58 rfl ⟨_, hs1441, A1643, c1644, rfl, hS.d1.d2⟩
 refine RL.e (OW.callF (ls := [.tmp 12]) rfl call102 hc) rfl rfl ?_
 rintro _ w ⟨rfl, hS⟩
 refine pn 1 rfl (ln (RC.seq (RC.seq ?_)))
 obtain ⟨A2078, c2079, A2081, c2082, A2084, c2085, A2087, c2088, b2090, b2091, A2092, c2093, A2094, c2095, b2096, b2097, hr2080, hr2083, hr2086, hr2089, hS⟩ := O_lane_Lane.o hS
 refine dr [0, 3, 6, 10, 13, 21, 17, 20] [5, 6] hS fun w hS => rq [0, 0, 0, 1, 8, 0] hS ?_
 refine it ?_
 obtain ⟨t2098, hg2099, h⟩ := h.bind
 have hc := log_Log_Back.ok hG0 hg2099 hS.p1
 obtain ⟨y2100, y2101⟩ := t2098
 refine RP.e 5 rfl (OW.callF (ls := [.tmp 17, .tmp 18]) rfl call103 hc) rfl rfl ?_
 rintro _ w ⟨hf, hs2106, A2102, c2103, cs2104, rfl, hS, hx2105⟩
 have hS := O_pend_Pend.l hs2106 hS.p3
 have hS : St B w (_ :: _ :: _ :: _ :: _ :: _ :: _ :: _ :: _ :: l) hf := hS
 refine ⟨kp ⟨(by intro hx; cases hx), trivial⟩, ?_⟩
 refine RP.v1 6 rfl (Vl.lenSl underlying41 rfl) rfl rfl (RP.nil (RQ.then_n (RC.block ?_)))
 have hS := O_lane_Lane.c (x := ({ a2 with log := y2101 } : lane_Lane)) (hr2080.mono hs2106) (hr2083.mono hs2106) (hr2086.mono hs2106) (hr2089.mono hs2106) hS.p7.p7.p7.p7.p4.p6.p7
 have hS := hS.nilSl E_api_Message 48
 refine fun a ha => lp h (fun (s : lane_Lane × List api_Message × Int) a w => ∃ y2318 l2319 x2322, s = (y2318, l2319, x2322) ∧ ∃ A2320 c2321, Has 59 [(0, pV b1), (2, .bool a4), (4, pV b1378), (7, sV A2320 l2319 c2321), (8, .iface 238 (.agg #[])), (19, sV A2102 y2100 c2103), (20, iV (y2100.length : Int)), (21, iV x2322)] a ∧ St B w (OSf E_api_Message 48 (sV A2320 l2319 c2321) l2319 :: OSl 79 19 (sV A2102 y2100 c2103) y2100.length cs2104 :: O_lane_Lane hf y2318 b1 :: Cl b1378 (C_api_Message a3) 48 :: l) hf) ⟨_, _, _, rfl, _, _, ha.tE rfl, hS.p2.p1⟩ ?_
 rintro G2538 _ a w ⟨y2318, l2319, x2322, rfl, A2320, c2321, ha, hS⟩ h
 refine ro ha (sr (pn 1 rfl (ln (RC.seq ?_))))
 refine RC.iteP 22 rfl h (fun hc2540 h => ?_) fun hc2540 h => ?_
 next =>
  refine jt (sk (RC.seq (RC.block (sr ?_))))
  obtain ⟨hq2653, h⟩ := h.req
  refine RL.s (Vl.indexOwn 1 hS rfl underlying41 sizeOf79 rfl rfl hq2653 hc2540) rfl ?_
  obtain ⟨_, ⟨A2655, c2656, rfl, hr2657⟩, hl2654⟩ := RepL.elem R_api_Entry_ok hx2105 hq2653 hc2540
  refine RL.s (Vl.loadA (vs := (C_api_Entry (nth y2100 x2322) A2655 c2656)) isAgg79 sizeOf79 rfl rfl (hS.elemCells 1 rfl hl2654 (off := 0) rfl)) rfl (rr [0, 1] hS ?_)
  refine fun b2658 => it fun w hS => lnsr (r0 4 rfl ?_)
  obtain ⟨A2679, c2680, A2682, c2683, A2685, c2686, A2688, c2689, b2691, b2692, A2693, c2694, A2695, c2696, b2697, b2698, hr2681, hr2684, hr2687, hr2690, hS⟩ := O_lane_Lane.o hS.p3
  refine rr [1, 0, 0, 0, 0, 1] hS ?_
  refine it fun w hS => ln (RC.seq (sr (pn 3 rfl ?_)))
  refine RL.iteM 36 rfl h (fun hc2708 h => ?_) fun hc2708 h => ?_
  next =>
   refine rr [0, 8, 11] hS ?_
   refine it fun w hS => cF (fun _ hg => event_One.ok hg hS) call31 h rfl rfl rfl ?_
   rintro t2709 h _ w ⟨rfl, hS⟩
   refine pn 2 rfl (ln ?_)
   refine RC.iteM 42 rfl h (fun hc2711 h => ?_) fun hc2711 h => ?_
   next =>
    refine jfs (sr (rr [0, 0, 8] hS ?_))
    refine it fun w hS => ?_
    have hS := O_lane_Lane.c (x := ({ y2318 with stats := (⟨y2318.stats.Done, IntKind.i64.wrap (y2318.stats.Undone + 1), y2318.stats.Hits, y2318.stats.Held⟩ : api_Stats) } : lane_Lane)) hr2681 hr2684 hr2687 hr2690 hS
    obtain ⟨t2712, hg2713, h⟩ := h.bind
    have hc := lane_now_undo.ok hr2657 hg2713 hS
    refine RL.e (OW.invoke (F := 248) (u' := .agg #[]) (ls := [.tmp 48, .tmp 49]) rfl rfl (fun w => by kernel_rfl) call248 rfl hc) rfl rfl ?_
    rintro _ w ⟨A2714, c2715, rfl, hS⟩
    refine pn 1 rfl (lnsr (pn 1 rfl (cF (fun _ hg => lane_lazy_2.ok hg hS) call104 h rfl rfl rfl ?_)))
    rintro t2716 h _ w ⟨rfl, hS⟩
    refine pn 1 rfl (ln ?_)
    refine RC.iteM 53 rfl h (fun hc2718 h => ?_) fun hc2718 h => ?_
    next =>
     refine jf (RC.skip (RQ.inB_n (RQ.then_n (RC.region (pn 2 rfl (RL.nil ?_))))))
     exact fun a ha => ⟨_, h.some, _, _, _, rfl, _, _, ha.tE rfl, hS.d0.d1.p2.p2⟩
    refine jt (RC.region (pn 2 rfl ?_))
    obtain ⟨hq2719, h⟩ := h.req
    refine RL.e (OW.appendV (E := E_api_Message) (xs := l2319) (ys := t2712) 3 hS rfl underlying39 type48 rfl rfl rfl rfl (by decide) (by decide) rfl rfl (hS.slW 0 rfl).2.2 hq2719 rfl) rfl rfl ?_
    rintro v2722 w hS
    obtain ⟨A2720, c2721, rfl, _⟩ := hS.osShape 0 rfl
    have hS : St B w (_ :: _ :: _ :: _ :: _ :: _ :: l) hf := hS
    refine pn 1 rfl (RL.nil (RQ.inB_n (RQ.then_n (RC.region (pn 2 rfl (RL.nil ?_))))))
    exact fun a ha => ⟨_, h.some, _, _, _, rfl, _, _, ha.tE rfl, hS.d1.d2.p2.p1⟩
   refine jt (RC.region (rr [0, 0, 8] hS ?_))
   refine it fun w hS => ?_
   have hS := O_lane_Lane.c (x := ({ y2318 with stats := (⟨y2318.stats.Done, IntKind.i64.wrap (y2318.stats.Undone + 1), y2318.stats.Hits, y2318.stats.Held⟩ : api_Stats) } : lane_Lane)) hr2681 hr2684 hr2687 hr2690 hS
   refine cF (fun _ hg => lane_Lane_hold.ok hg hS) call41 h rfl rfl rfl ?_
   rintro t2723 h _ w ⟨rfl, hS⟩
   refine lnsr (rr [0, 0, 2] hS ?_)
   refine it fun w hS => ?_
   obtain ⟨t2725, hg2726, h⟩ := h.bind
   have hc := lane_now_undo.ok hr2657 hg2726 hS
   refine RL.e (OW.invoke (F := 248) (u' := .agg #[]) (ls := [.tmp 48, .tmp 49]) rfl rfl (fun w => by kernel_rfl) call248 rfl hc) rfl rfl ?_
   rintro _ w ⟨A2727, c2728, rfl, hS⟩
   refine pn 1 rfl (lnsr (pn 1 rfl (cF (fun _ hg => lane_lazy_2.ok hg hS) call104 h rfl rfl rfl ?_)))
   rintro t2729 h _ w ⟨rfl, hS⟩
   refine pn 1 rfl (ln ?_)
   refine RC.iteM 53 rfl h (fun hc2731 h => ?_) fun hc2731 h => ?_
   next =>
    refine jf (RC.skip (RQ.inB_n (RQ.then_n (RC.region (pn 2 rfl (RL.nil ?_))))))
    exact fun a ha => ⟨_, h.some, _, _, _, rfl, _, _, ha.tE rfl, hS.d0.d1.p2.p2⟩
   refine jt (RC.region (pn 2 rfl ?_))
   obtain ⟨hq2732, h⟩ := h.req
   refine RL.e (OW.appendV (E := E_api_Message) (xs := l2319) (ys := t2725) 3 hS rfl underlying39 type48 rfl rfl rfl rfl (by decide) (by decide) rfl rfl (hS.slW 0 rfl).2.2 hq2732 rfl) rfl rfl ?_
   rintro v2735 w hS
   obtain ⟨A2733, c2734, rfl, _⟩ := hS.osShape 0 rfl
   have hS : St B w (_ :: _ :: _ :: _ :: _ :: _ :: l) hf := hS
   refine pn 1 rfl (RL.nil (RQ.inB_n (RQ.then_n (RC.region (pn 2 rfl (RL.nil ?_))))))
   exact fun a ha => ⟨_, h.some, _, _, _, rfl, _, _, ha.tE rfl, hS.d1.d2.p2.p1⟩
  refine pn 6 rfl (ln (jt (RC.region (rr [0, 0, 8] hS ?_))))
  refine it fun w hS => ?_
  have hS := O_lane_Lane.c (x := ({ y2318 with stats := (⟨y2318.stats.Done, IntKind.i64.wrap (y2318.stats.Undone + 1), y2318.stats.Hits, y2318.stats.Held⟩ : api_Stats) } : lane_Lane)) hr2681 hr2684 hr2687 hr2690 hS
  refine cF (fun _ hg => lane_Lane_hold.ok hg hS) call41 h rfl rfl rfl ?_
  rintro t2736 h _ w ⟨rfl, hS⟩
  refine lnsr (rr [0, 0, 2] hS ?_)
  refine it fun w hS => ?_
  obtain ⟨t2738, hg2739, h⟩ := h.bind
  have hc := lane_now_undo.ok hr2657 hg2739 hS
  refine RL.e (OW.invoke (F := 248) (u' := .agg #[]) (ls := [.tmp 48, .tmp 49]) rfl rfl (fun w => by kernel_rfl) call248 rfl hc) rfl rfl ?_
  rintro _ w ⟨A2740, c2741, rfl, hS⟩
  refine pn 1 rfl (lnsr (pn 1 rfl (cF (fun _ hg => lane_lazy_2.ok hg hS) call104 h rfl rfl rfl ?_)))
  rintro t2742 h _ w ⟨rfl, hS⟩
  refine pn 1 rfl (ln ?_)
  refine RC.iteM 53 rfl h (fun hc2744 h => ?_) fun hc2744 h => ?_
  next =>
   refine jf (RC.skip (RQ.inB_n (RQ.then_n (RC.region (pn 2 rfl (RL.nil ?_))))))
   exact fun a ha => ⟨_, h.some, _, _, _, rfl, _, _, ha.tE rfl, hS.d0.d1.p2.p2⟩
  refine jt (RC.region (pn 2 rfl ?_))
  obtain ⟨hq2745, h⟩ := h.req
  refine RL.e (OW.appendV (E := E_api_Message) (xs := l2319) (ys := t2738) 3 hS rfl underlying39 type48 rfl rfl rfl rfl (by decide) (by decide) rfl rfl (hS.slW 0 rfl).2.2 hq2745 rfl) rfl rfl ?_
  rintro v2748 w hS
  obtain ⟨A2746, c2747, rfl, _⟩ := hS.osShape 0 rfl
  have hS : St B w (_ :: _ :: _ :: _ :: _ :: _ :: l) hf := hS
  refine pn 1 rfl (RL.nil (RQ.inB_n (RQ.then_n (RC.region (pn 2 rfl (RL.nil ?_))))))
  exact fun a ha => ⟨_, h.some, _, _, _, rfl, _, _, ha.tE rfl, hS.d1.d2.p2.p1⟩
 refine jf (RC.exit (RQ.exitT ?_))
 have h := h.inrS
 refine RQ.exitT (RQ.inB_hit (tsr (pn 2 rfl (lr ?_))))
 cases h.some
 exact rt results58 rfl ⟨_, hs2106, A2320, c2321, rfl, hS.d1.d2⟩
def lane_Lane_adopt.l2b : lane_Lane × Int → Option ((lane_Lane × Int) ⊕ (lane_Lane))
 | (y325, x326) => (if x326 < (y325.orphans.length : Int) then (if 0 ≤ x326 then ((lane_of.f (nth y325.orphans x326)).bind fun t424 => some (.inl (({ y325 with early := (mset y325.early t424 x326) } : lane_Lane), IntKind.i64.wrap (x326 + 1)))) else none) else some (.inr y325))
def lane_Lane_adopt.l2 (s : lane_Lane × Int) : Option (lane_Lane) := loopR (lane_Lane_adopt.l2b) s
def lane_Lane_adopt.f (a2 : lane_Lane) (a3 : Int) : Option (lane_Lane) := (if 0 ≤ a3 ∧ a3 < (a2.orphans.length : Int) then ((lane_of.f (nth a2.orphans a3)).bind fun t261 => (if a3 ≤ (a2.orphans.length : Int) then (if 0 ≤ IntKind.i64.wrap (a3 + 1) ∧ IntKind.i64.wrap (a3 + 1) ≤ (a2.orphans.length : Int) then (if ((subL a2.orphans 0 a3).length + (subL a2.orphans (IntKind.i64.wrap (a3 + 1)) (a2.orphans.length : Int)).length) * 56 ≤ 140737488355328 then lane_Lane_adopt.l2 (({ a2 with orphans := ((subL a2.orphans 0 a3) ++ (subL a2.orphans (IntKind.i64.wrap (a3 + 1)) (a2.orphans.length : Int))), early := (mdel a2.early t261) } : lane_Lane), a3) else none) else none) else none)) else none)
theorem lane_Lane_adopt.ok {a2 r : lane_Lane} {a3 : Int} {b1 : Nat} (h : lane_Lane_adopt.f a2 a3 = some r) (hS : St B w (O_lane_Lane hf a2 b1 :: l) hf) :
   Calls prog 59 #[pV b1, iV a3] w (Ret fun v w => v = .tuple #[] ∧ St B w (O_lane_Lane hf r b1 :: l) hf) := by
 have h := Holds.of h
 refine en func59 rfl ntmps59 rfl (RC.seq ?_)
 obtain ⟨A239, c240, A242, c243, A245, c246, A248, c249, b251, b252, A253, c254, A255, c256, b257, b258, hr241, hr244, hr247, hr250, hS⟩ := O_lane_Lane.o hS
 refine dr [0, 3, 6, 10, 12, 15, 18, 22, 26, 29, 32, 35, 38] [12] hS fun w hS => rq [0, 0, 0, 1, 0, 0, 0, 1, 0] hS ?_
 refine it ?_
 obtain ⟨⟨hq259, hq260⟩, h⟩ := h.req
 refine RP.v1 9 rfl (Vl.indexOwn 4 hS rfl underlying39 sizeOf48 rfl rfl hq259 hq260) rfl rfl (RP.v1 10 rfl (Vl.loadA isAgg48 sizeOf48 rfl rfl ((hS.slW 4 rfl).2.2.cells hq259 hq260)) rfl rfl ?_)
 obtain ⟨t261, hg262, h⟩ := h.bind
 have hc := lane_of.ok hg262 hS
 refine RP.e 11 rfl (OW.callF (ls := [.tmp 15]) rfl call56 hc) rfl rfl ?_
 rintro _ w ⟨rfl, hS⟩
 refine ⟨kp ⟨fun _ => hS, trivial⟩, ?_⟩
 refine RP.e0 12 rfl (OW.mapDelF (k := t261) 5 hS rfl keyok_lane_sending underlying54 rfl rfl rfl) rfl ?_
 rintro _ w ⟨rfl, hS⟩
 have hS : St B w (_ :: _ :: _ :: _ :: _ :: _ :: _ :: l) hf := hS
 refine ⟨kp ⟨(by intro hx; cases hx), trivial⟩, ?_⟩
 refine RP.nil (RQ.then_n (RC.seq (dr [0, 3, 6, 9, 13, 15, 18, 22, 24, 27, 30, 34, 38, 41, 44, 47, 50, 53, 56] [15, 16, 17, 18] hS fun w hS => rq [0, 0, 0, 0, 2, 0, 0] hS ?_)))
 refine it ?_
 obtain ⟨hq270, h⟩ := h.req
 refine RP.s 0 7 rfl rfl hS (fun w hS => Vl.slice3 (xs := a2.orphans) 5 hS rfl underlying39 sizeOf48 rfl rfl rfl hq259 hq270) rfl (rq [0, 0, 0, 2, 0, 0] hS ?_)
 refine it ?_
 obtain ⟨⟨hq271, hq272⟩, h⟩ := h.req
 refine RP.v1 14 rfl (Vl.sliceLO (xs := a2.orphans) 5 hS rfl underlying39 sizeOf48 rfl rfl  hq271 hq272) rfl rfl ?_
 obtain ⟨hq273, h⟩ := h.req
 refine RP.e 15 rfl (OW.appendCut (E := E_api_Message) (xs := a2.orphans) (k := a3) (m := IntKind.i64.wrap (a3 + 1)) 5 hS rfl underlying39 type48 rfl rfl rfl rfl (by decide) (by decide) rfl rfl hq259 hq270 hq271 hq272 hq273 rfl) rfl rfl ?_
 rintro v276 w hS
 obtain ⟨A274, c275, rfl, _⟩ := hS.osShape 0 rfl
 have hS : St B w (_ :: _ :: _ :: _ :: _ :: _ :: _ :: l) hf := hS
 refine ⟨kp ⟨(by intro hx; cases hx), trivial⟩, ?_⟩
 refine RP.v1 16 rfl (Vl.nilCheck rfl) rfl rfl (RP.v1 17 rfl (Vl.fa 14 underlying61 rfl sizeOf39 rfl rfl) rfl rfl (RP.e0 18 rfl (OW.store (vs := [.slice A274 ((subL a2.orphans 0 a3) ++ (subL a2.orphans (IntKind.i64.wrap (a3 + 1)) (a2.orphans.length : Int))).length c275]) 2 hS rfl rfl rfl rfl sizeOf39 rfl rfl rfl rfl) rfl ?_))
 rintro _ w ⟨rfl, hS⟩
 have hS : St B w (_ :: _ :: Cl _ [_, _, _, _, _, _, _, _, _, _, _, _, _, _, _, _, _, _, _, _, _, _, _, _, _, _, _] _ :: _ :: _ :: _ :: _ :: l) hf := hS
 refine ⟨kp ⟨(by intro hx; cases hx), trivial⟩, ?_⟩
 refine RP.nil (tsr (pn 2 rfl (ln (RC.block ?_))))
 have hS := O_lane_Lane.c (x := ({ a2 with orphans := ((subL a2.orphans 0 a3) ++ (subL a2.orphans (IntKind.i64.wrap (a3 + 1)) (a2.orphans.length : Int))), early := (mdel a2.early t261) } : lane_Lane)) hr241 hr244 hr247 hr250 hS.p5.p5.p5.p5
 refine fun a ha => lp h (fun (s : lane_Lane × Int) a w => ∃ y325 x326, s = (y325, x326) ∧ Has 58 [(0, pV b1), (4, iV x326)] a ∧ St B w (O_lane_Lane hf y325 b1 :: l) hf) ⟨_, _, rfl, ha.tE rfl, hS⟩ ?_
 rintro G377 _ a w ⟨y325, x326, rfl, ha, hS⟩ h
 refine ro ha (RC.seq (sr (r0 4 rfl ?_)))
 obtain ⟨A399, c400, A402, c403, A405, c406, A408, c409, b411, b412, A413, c414, A415, c416, b417, b418, hr401, hr404, hr407, hr410, hS⟩ := O_lane_Lane.o hS
 refine rr [1, 0, 0] hS ?_
 refine it fun w hS => ln ?_
 refine RC.iteP 42 rfl h (fun hc419 h => ?_) fun hc419 h => ?_
 next =>
  refine jt (sk (RC.seq (RC.block (dr [0, 3, 6, 10, 12, 15, 18, 22, 24, 28, 31, 36, 35, 41] [13] hS fun w hS => rq [0, 0, 0, 1, 0, 0, 0, 1, 0] hS ?_))))
  refine it ?_
  obtain ⟨hq423, h⟩ := h.req
  refine RP.s 0 9 rfl rfl hS (fun w hS => Vl.indexOwn 4 hS rfl underlying39 sizeOf48 rfl rfl hq423 hc419) rfl (RP.s 0 10 rfl rfl hS (fun w hS => Vl.loadA isAgg48 sizeOf48 rfl rfl ((hS.slW 4 rfl).2.2.cells hq423 hc419)) rfl (pp 1 rfl ?_))
  obtain ⟨t424, hg425, h⟩ := h.bind
  have hc := lane_of.ok hg425 hS
  refine RP.e 11 rfl (OW.callF (ls := [.tmp 55]) rfl call56 hc) rfl rfl ?_
  rintro _ w ⟨rfl, hS⟩
  refine ⟨kp ⟨fun _ => hS, trivial⟩, ?_⟩
  refine RP.e0 13 rfl (OW.mapUpdF (k := t424) (v := x326) 5 hS rfl keyok_lane_sending underlying54 rfl rfl rfl rfl) rfl ?_
  rintro _ w ⟨rfl, hS⟩
  have hS : St B w (_ :: _ :: _ :: _ :: _ :: _ :: _ :: l) hf := hS
  refine ⟨kp ⟨(by intro hx; cases hx), trivial⟩, ?_⟩
  refine RP.nil (RQ.inB_n (RQ.then_n (RC.region (pn 3 rfl (RL.nil ?_)))))
  have hS := O_lane_Lane.c (x := ({ y325 with early := (mset y325.early t424 x326) } : lane_Lane)) hr401 hr404 hr407 hr410 hS.p5.p5.p5.p5.p5
  exact fun a ha => ⟨_, h.some, _, _, rfl, ha.tE rfl, hS⟩
 refine jf (RC.exit (RQ.exitT ?_))
 have h := h.inrS
 refine RQ.exitT (RQ.inB_hit ?_)
 have hS := O_lane_Lane.c (x := y325) hr401 hr404 hr407 hr410 hS
 obtain rfl := h.some
 exact rtE results59 rfl ⟨rfl, hS⟩
def heap_Heap_Len.f (a2 : heap_Heap) : Option (Int) := ((heap_Heap_none.f a2).bind fun _ => some (a2.p_l.length : Int))
theorem heap_Heap_Len.ok {a2 : heap_Heap} {b1 : Nat} {r : Int} (h : heap_Heap_Len.f a2 = some r) (hS : St B w (O_heap_Heap hf a2 b1 :: l) hf) :
   Calls prog 195 #[pV b1] w (Ret fun v w => v = iV r ∧ St B w (O_heap_Heap hf a2 b1 :: l) hf) := by
 have h := Holds.of h
 refine en func195 rfl ntmps195 rfl (sr (pn 1 rfl (ln (RC.seq (sr (pn 1 rfl (cF (fun _ hg => heap_Heap_none.ok hg hS) call198 h rfl rfl rfl ?_)))))))
 rintro _ h _ w ⟨rfl, hS⟩
 refine ln (jfs (sr (r0 4 rfl ?_)))
 obtain ⟨A13, c14, hS⟩ := O_heap_Heap.o hS
 refine rr [1, 0, 0] hS ?_
 refine it fun w hS => lr ?_
 have hS := O_heap_Heap.c (x := a2) hS
 cases h.some
 exact rt results195 rfl ⟨rfl, hS⟩
def pend_Pend_Len.f (a2 : pend_Pend) : Option (Int) := ((pend_Pend_none.f a2).bind fun _ => ((heap_Heap_Len.f a2.q).bind fun t15 => some t15))
theorem pend_Pend_Len.ok {a2 : pend_Pend} {b1 : Nat} {r : Int} (h : pend_Pend_Len.f a2 = some r) (hS : St B w (O_pend_Pend hf a2 b1 :: l) hf) :
   Calls prog 60 #[pV b1] w (Ret fun v w => v = iV r ∧ St B w (O_pend_Pend hf a2 b1 :: l) hf) := by
 have h := Holds.of h
 refine en func60 rfl ntmps60 rfl (sr (pn 1 rfl (ln (RC.seq (sr (pn 1 rfl (cF (fun _ hg => pend_Pend_none.ok hg hS) call93 h rfl rfl rfl ?_)))))))
 rintro _ h _ w ⟨rfl, hS⟩
 refine ln (jfs (sr (r0 3 rfl ?_)))
 obtain ⟨b14, hS⟩ := O_pend_Pend.o hS
 refine rr [1] hS ?_
 refine it fun w hS => ?_
 obtain ⟨t15, hg16, h⟩ := h.bind
 have hc := heap_Heap_Len.ok hg16 hS.p1
 refine RL.e (OW.invoke (F := 195) (u' := pV b14) (ls := []) rfl rfl (fun w => by kernel_rfl) call195 rfl hc) rfl rfl ?_
 rintro _ w ⟨rfl, hS⟩
 refine pn 1 rfl (lr ?_)
 have hS := O_pend_Pend.c (x := a2) hS.p1
 obtain rfl := h.some
 exact rt results60 rfl ⟨rfl, hS⟩
def log_Log_Last.f (a2 : log_Log) : Option (api_Message × Bool) := ((log_Log_none.f a2).bind fun t55 => (if t55 = true then some ((⟨(⟨0, 0, 0⟩ : api_Key), 0, 0, 0, false⟩ : api_Message), false) else (if (a2.l.length : Int) = 0 then some ((⟨(⟨0, 0, 0⟩ : api_Key), 0, 0, 0, false⟩ : api_Message), false) else (if 0 ≤ IntKind.i64.wrap ((a2.l.length : Int) - 1) ∧ IntKind.i64.wrap ((a2.l.length : Int) - 1) < (a2.l.length : Int) then some ((nth a2.l (IntKind.i64.wrap ((a2.l.length : Int) - 1))).event, true) else none))))
theorem log_Log_Last.ok {a2 : log_Log} {b1 : Nat} {r : api_Message × Bool} (h : log_Log_Last.f a2 = some r) (hS : St B w (O_log_Log hf a2 b1 :: l) hf) :
   Calls prog 61 #[pV b1] w (Ret fun v w => v = .tuple #[.agg (C_api_Message r.1).toArray, .bool r.2] ∧ St B w (O_log_Log hf a2 b1 :: l) hf) := by
 have h := Holds.of h
 refine en func61 rfl ntmps61 rfl (sr (rr [0, 0] hS ?_))
 refine fun b40 => it fun w hS => ln (RC.seq (sr (pn 1 rfl (cF (fun _ hg => log_Log_none.ok hg hS.p1) call94 h rfl rfl rfl ?_))))
 rintro t55 h _ w ⟨rfl, hS⟩
 refine pn 1 rfl ?_
 refine RL.iteB 6 rfl h (fun hc57 h => ?_) fun hc57 h => ?_
 next =>
  refine pn 7 rfl (ln (jtr (rr [0, 2, 0] hS ?_)))
  refine it fun w hS => lr (RQ.ret ?_)
  cases h.some
  refine rz [1] results61 hS ?_
  exact it ⟨rfl, hS.d1⟩
 refine r0 3 rfl ?_
 obtain ⟨A58, c59, A61, c62, A64, c65, cs66, hr60, hr63, hx67, hS⟩ := O_log_Log.o hS
 refine rr [1, 0, 0, 0] hS ?_
 refine it fun w hS => ln ?_
 refine RC.iteP 13 rfl h (fun hc68 h => ?_) fun hc68 h => ?_
 next =>
  refine jtr (rr [0, 3, 0] hS ?_)
  refine it fun w hS => lr (RQ.ret ?_)
  have hS := O_log_Log.c (x := a2) hr60 hr63 hx67 hS
  cases h.some
  refine rz [1] results61 hS ?_
  exact it ⟨rfl, hS.d1⟩
 refine jfs (RC.seq (dr [0, 3, 6, 10, 14, 17, 20, 23, 26, 29, 32, 35, 38, 41, 44] [10, 11, 12, 13, 14] hS fun w hS => rq [0, 0, 0, 1, 0, 0, 0, 1, 0, 0] hS ?_))
 refine it ?_
 obtain ⟨⟨hq69, hq70⟩, h⟩ := h.req
 refine RP.v1 10 rfl (Vl.indexOwn 1 hS rfl underlying148 sizeOf176 rfl rfl hq69 hq70) rfl rfl (RP.v1 11 rfl (Vl.fieldAddr (a'' := (ad A64).add ((IntKind.i64.wrap ((a2.l.length : Int) - 1)).toNat * 10 + 0)) underlying176 rfl sizeOf48 rfl (add_add _ _ _)) rfl rfl ?_)
 obtain ⟨_, ⟨A72, c73, b75, rfl, hr74, hr76⟩, hl71⟩ := RepL.elem R_log_done_ok hx67 hq69 hq70
 refine RP.v1 12 rfl (Vl.loadA (vs := (C_api_Message ((nth a2.l (IntKind.i64.wrap ((a2.l.length : Int) - 1))).event))) isAgg48 sizeOf48 rfl rfl (hS.elemCells 1 rfl hl71 (off := 0) rfl)) rfl rfl (RP.e0 13 rfl (OW.store (vs := (C_api_Message ((nth a2.l (IntKind.i64.wrap ((a2.l.length : Int) - 1))).event))) 2 hS rfl rfl rfl rfl sizeOf48 rfl rfl rfl rfl) rfl ?_)
 rintro _ w ⟨rfl, hS⟩
 have hS : St B w (_ :: _ :: Cl _ [_, _, _, _, _, _, _] _ :: l) hf := hS
 refine ⟨kp ⟨(by intro hx; cases hx), trivial⟩, ?_⟩
 refine RP.v1 14 rfl (Vl.assign rfl) rfl rfl (RP.nil (tr ?_))
 have hS := O_log_Log.c (x := a2) hr60 hr63 hx67 hS
 cases h.some
 refine rz [1] results61 hS ?_
 exact it ⟨rfl, hS.d1⟩
def lane_Lane_Get.j27 (a2 : lane_Lane) (a3 : api_Message) (t435 : lane_sending) (y471 : api_Message) (q615 : Bool) : Option (List api_Message × Int × lane_Lane) := (if q615 = true then ((lane_Lane_back.f a2 y471 true).bind fun (y619, y620) => some (y619, 0, y620)) else (if a3.Anti = true then ((lane_of.f a3).bind fun t667 => (if (a2.orphans.length + 1) * 56 ≤ 140737488355328 then some (([] : List api_Message), 0, ({ a2 with orphans := (a2.orphans ++ ([a3])), early := (mset a2.early t667 (a2.orphans.length : Int)) } : lane_Lane)) else none)) else (if (mget a2.early t435).isSome = true then ((lane_Lane_adopt.f a2 ((mget a2.early t435).getD 0)).bind fun t675 => some (([] : List api_Message), 0, t675)) else ((pend_Pend_Len.f a2.wait).bind fun t697 => (if a2.caps.Wait ≤ t697 then some (([] : List api_Message), 9, a2) else ((log_Log_Last.f a2.log).bind fun (y729, y730) => (if y730 = true then ((event_Before.f y729 a3).bind fun t733 => (if t733 = true then ((lane_Lane_hold.f a2 a3).bind fun t736 => some (([] : List api_Message), 0, t736)) else ((lane_Lane_back.f a2 a3 false).bind fun (y740, y741) => ((lane_Lane_hold.f y741 a3).bind fun t745 => some (y740, 0, t745))))) else ((lane_Lane_hold.f a2 a3).bind fun t747 => some (([] : List api_Message), 0, t747)))))))))
def lane_Lane_Get.j26 (a2 : lane_Lane) (a3 : api_Message) (t435 : lane_sending) (y471 : api_Message) (q472 q608 : Bool) : Option (List api_Message × Int × lane_Lane) := (if q608 = true then ((lane_Lane_release.f a2 a3).bind fun (y612, y613) => some (([] : List api_Message), 0, y613)) else (if a3.Anti = true then lane_Lane_Get.j27 a2 a3 t435 y471 q472 else lane_Lane_Get.j27 a2 a3 t435 y471 false))
def lane_Lane_Get.j25 (a2 : lane_Lane) (a3 : api_Message) (t435 : lane_sending) (y471 : api_Message) (q472 : Bool) (t475 : lane_sending) (q605 : Bool) : Option (List api_Message × Int × lane_Lane) := (if q605 = true then some (([] : List api_Message), 1, a2) else (if a3.Anti = true then lane_Lane_Get.j26 a2 a3 t435 y471 q472 ((mget a2.held t475).getD false) else lane_Lane_Get.j26 a2 a3 t435 y471 q472 false))
def lane_Lane_Get.j28 (a2 : lane_Lane) (a3 : api_Message) (t435 : lane_sending) (y471 : api_Message) (q472 : Bool) (t475 : lane_sending) (q752 : Bool) : Option (List api_Message × Int × lane_Lane) := (if q752 = true then lane_Lane_Get.j25 a2 a3 t435 y471 q472 t475 true else (if a3.Anti = true then lane_Lane_Get.j25 a2 a3 t435 y471 q472 t475 false else (if q472 = true then lane_Lane_Get.j25 a2 a3 t435 y471 q472 t475 true else lane_Lane_Get.j25 a2 a3 t435 y471 q472 t475 ((mget a2.held t475).getD false))))
def lane_Lane_Get.j23 (a2 : lane_Lane) (a3 : api_Message) (t435 : lane_sending) (y471 : api_Message) (q472 : Bool) (t475 : lane_sending) (q597 : Bool) : Option (List api_Message × Int × lane_Lane) := (if q597 = true then some (([] : List api_Message), 1, a2) else (if a3.Anti = true then lane_Lane_Get.j28 a2 a3 t435 y471 q472 t475 ((mget a2.early t435).isSome) else lane_Lane_Get.j28 a2 a3 t435 y471 q472 t475 false))
def lane_Lane_Get.j16 (a2 : lane_Lane) (a3 : api_Message) (t435 : lane_sending) (y471 : api_Message) (q472 : Bool) : Option (List api_Message × Int × lane_Lane) := ((lane_of.f a3).bind fun t475 => ((event_Check.f a3).bind fun t757 => (if t757 = 0 then lane_Lane_Get.j23 a2 a3 t435 y471 q472 t475 (!decide (a3.To = a2.n)) else lane_Lane_Get.j23 a2 a3 t435 y471 q472 t475 true)))
def lane_Lane_Get.f (a2 : lane_Lane) (a3 : api_Message) : Option (List api_Message × Int × lane_Lane) := ((lane_Lane_none.f a2).bind fun _ => ((lane_of.f a3).bind fun t435 => ((log_Log_Find.f a2.log a3.Key.From a3.Uid).bind fun (y762, y763) => lane_Lane_Get.j16 a2 a3 t435 y762 y763)))
theorem lane_Lane_Get.ok {a2 : lane_Lane} {a3 : api_Message} {b1 : Nat} (hG0 : GlobAt hf 0 (.iface 215 (.agg #[.pointer (some ⟨1, 108, none⟩)]))) {r : List api_Message × Int × lane_Lane} (h : lane_Lane_Get.f a2 a3 = some r) (hS : St B w (O_lane_Lane hf a2 b1 :: l) hf) :
   Calls prog 17 #[pV b1, .agg (C_api_Message a3).toArray] w (Ret fun v w => ∃ hf_ : Hp, Sub hf hf_ ∧ ∃ (A_1 : Option Addr) (c_2 : Nat), v = .tuple #[sV A_1 r.1 c_2, iV r.2.1] ∧ St B w (OSf E_api_Message 48 (sV A_1 r.1 c_2) r.1 :: O_lane_Lane hf_ r.2.2 b1 :: l) hf_) := by
 have h := Holds.of h
 refine en func17 rfl ntmps17 rfl (sr (rr [0, 0, 0] hS ?_))
 refine fun b388 => it fun w hS => ln (RC.seq (sr (pn 1 rfl (cF (fun _ hg => lane_Lane_none.ok hg hS.p1) call45 h rfl rfl rfl ?_))))
 rintro _ h _ w ⟨rfl, hS⟩
 refine ln (jfs (RC.seq ?_))
 obtain ⟨A415, c416, A418, c419, A421, c422, A424, c425, b427, b428, A429, c430, A431, c432, b433, b434, hr417, hr420, hr423, hr426, hS⟩ := O_lane_Lane.o hS
 refine dr [0, 3, 6, 10, 13, 17, 19, 21, 24, 27, 32, 35] [10, 11] hS fun w hS => rq [0, 0, 0, 1, 8] hS ?_
 refine it ?_
 obtain ⟨t435, hg436, h⟩ := h.bind
 have hc := lane_of.ok hg436 hS
 refine RP.e 5 rfl (OW.callF (ls := [.tmp 21]) rfl call56 hc) rfl rfl ?_
 rintro _ w ⟨rfl, hS⟩
 refine ⟨kp ⟨fun _ => hS, trivial⟩, ?_⟩
 refine RP.s 0 6 rfl rfl hS (fun w hS => Vl.lookupF2 (k := t435) (z := 0) 5 hS rfl keyok_lane_sending underlying54 zeroValue3 rfl rfl) rfl (rq [0, 0, 0, 0, 0] hS ?_)
 refine it (RP.nil (RQ.then_n (RC.seq (RC.planS (.pure 0 (.pure 1 (.pure 2 (.early 3 0 (.pure 4 (.pure 5 (.early 6 0 (.pure 7 (.early 8 0 (.fork 9 13 (.pure 10 (.pure 11 (.pure 12 (.last 13 (.last 14 (.last 15 .nil)))))) (.last 9 (.pure 10 (.pure 11 (.pure 12 (.last 14 (.last 15 .nil)))))))))))))))) [14, 15] hS (fun w hS => hS) follows rfl (by kernel_rfl) (NoTmp.then NoTmp.body) fun w hS => rq [0, 0, 0, 1, 0, 0, 8, 0, 8] hS ?_))))
 refine it ?_
 refine RP.fj (fun (s : api_Message × Bool) env w => ∃ y471 q472, s = (y471, q472) ∧ Holds (· = r) (lane_Lane_Get.j16 a2 a3 t435 y471 q472) ∧ ∃ b470, Ev env [(0, pV b1), (3, pV b388), (6, iV ((mget a2.early t435).getD 0)), (7, .bool ((mget a2.early t435).isSome)), (8, pV b470), (37, .agg (C_api_Message y471).toArray), (38, .bool q472)] ∧ St B w (OSf E_lane_open 116 (sV A429 a2.open_ c430) a2.open_ :: OSf E_api_Message 48 (sV A431 a2.orphans c432) a2.orphans :: O_log_Log hf a2.log b427 :: Cl b1 (C_lane_Lane a2 A415 c416 A418 c419 A421 c422 A424 c425 b427 b428 A429 c430 A431 c432 b433 b434) 61 :: O_pend_Pend hf a2.wait b428 :: MapF kv_lane_sending (Value.int .i64) b433 a2.early :: MapF kv_lane_sending Value.bool b434 a2.held :: Cl b388 (C_api_Message a3) 48 :: Cl b470 [iV 0, iV 0, iV 0, iV 0, iV 0, iV 0, .bool false] 48 :: l) hf) (.last 14 (.last 15 .nil)) ?_ fun hk => ?_
 · rintro _ env w ⟨y471, q472, rfl, h, b470, ha, hS⟩
   refine RP.to ha (RP.e0 14 rfl (OW.store (vs := (C_api_Message y471)) 8 hS rfl rfl rfl rfl sizeOf48 rfl rfl rfl rfl) rfl ?_)
   rintro _ w ⟨rfl, hS⟩
   have hS : St B w (_ :: _ :: _ :: _ :: _ :: _ :: _ :: _ :: Cl _ [_, _, _, _, _, _, _] _ :: l) hf := hS
   refine ⟨kp ⟨(by intro hx; cases hx), trivial⟩, ?_⟩
   refine rq [0] hS.d8.p4.p3.p4 ?_
   refine it (RP.nil (RQ.then_n (RC.seq (dr [0, 3, 6, 10, 14, 17, 20, 23] [6, 7] hS fun w hS => rq [0, 0, 0, 4, 8] hS ?_))))
   refine it ?_
   obtain ⟨t475, hg476, h⟩ := h.bind
   have hc := lane_of.ok hg476 hS
   refine RP.e 5 rfl (OW.callF (ls := [.tmp 43]) rfl call56 hc) rfl rfl ?_
   rintro _ w ⟨rfl, hS⟩
   refine ⟨kp ⟨fun _ => hS, trivial⟩, ?_⟩
   refine RP.v1 6 rfl (Vl.lookupF (k := t475) (z := false) 6 hS rfl keyok_lane_sending underlying55 zeroValue4 rfl rfl) rfl rfl (rq [0] hS ?_)
   refine it (RP.nil (RQ.then_n (RC.seq (RC.block ?_))))
   refine RC.join (fun (s : Bool) a w => ∃ q597, s = (q597) ∧ Holds (· = r) (lane_Lane_Get.j23 a2 a3 t435 y471 q472 t475 q597) ∧ Has 155 [(0, pV b1), (3, pV b388), (6, iV ((mget a2.early t435).getD 0)), (7, .bool ((mget a2.early t435).isSome)), (8, pV b470), (9, .bool q472), (10, .bool ((mget a2.held t475).getD false)), (46, .bool q597)] a ∧ St B w (O_lane_Lane hf a2 b1 :: Cl b388 (C_api_Message a3) 48 :: Cl b470 (C_api_Message y471) 48 :: l) hf) ?_ ?_
   · rintro q597 a w ⟨_, rfl, h, ha, hS⟩
     refine ro ha ?_
     refine RC.iteB 46 rfl h (fun hc598 h => ?_) fun hc598 h => ?_
     next =>
      refine jtr (pn 2 rfl (lr (ir ?_)))
      have hS := hS.nilSl E_api_Message 48
      cases h.some
      exact rt results17 rfl ⟨_, (Sub.refl _), none, 0, rfl, hS.d2.d2⟩
     refine jf ?_
     refine RC.join (fun (s : Bool) a w => ∃ q605, s = (q605) ∧ Holds (· = r) (lane_Lane_Get.j25 a2 a3 t435 y471 q472 t475 q605) ∧ Has 155 [(0, pV b1), (3, pV b388), (6, iV ((mget a2.early t435).getD 0)), (7, .bool ((mget a2.early t435).isSome)), (8, pV b470), (9, .bool q472), (10, .bool ((mget a2.held t475).getD false)), (59, .bool q605)] a ∧ St B w (O_lane_Lane hf a2 b1 :: Cl b388 (C_api_Message a3) 48 :: Cl b470 (C_api_Message y471) 48 :: l) hf) ?_ ?_
     · rintro q605 a w ⟨_, rfl, h, ha, hS⟩
       refine ro ha ?_
       refine RC.iteB 59 rfl h (fun hc606 h => ?_) fun hc606 h => ?_
       next =>
        refine jtr (pn 2 rfl (lr (ir ?_)))
        have hS := hS.nilSl E_api_Message 48
        cases h.some
        exact rt results17 rfl ⟨_, (Sub.refl _), none, 0, rfl, hS.d2.d2⟩
       refine jf ?_
       refine RC.join (fun (s : Bool) a w => ∃ q608, s = (q608) ∧ Holds (· = r) (lane_Lane_Get.j26 a2 a3 t435 y471 q472 q608) ∧ Has 155 [(0, pV b1), (3, pV b388), (6, iV ((mget a2.early t435).getD 0)), (7, .bool ((mget a2.early t435).isSome)), (8, pV b470), (9, .bool q472), (74, .bool q608)] a ∧ St B w (O_lane_Lane hf a2 b1 :: Cl b388 (C_api_Message a3) 48 :: Cl b470 (C_api_Message y471) 48 :: l) hf) ?_ ?_
       · rintro q608 a w ⟨_, rfl, h, ha, hS⟩
         refine ro ha ?_
         refine RC.iteB 74 rfl h (fun hc609 h => ?_) fun hc609 h => ?_
         next =>
          refine jtr (rr [0, 2] hS ?_)
          refine it fun w hS => cF (fun _ hg => lane_Lane_release.ok hg hS) call54 h rfl rfl rfl ?_
          rintro ⟨y612, y613⟩ h _ w ⟨rfl, hS⟩
          refine lnsr (pn 2 rfl (lr (ir ?_)))
          have hS := hS.nilSl E_api_Message 48
          cases h.some
          exact rt results17 rfl ⟨_, (Sub.refl _), none, 0, rfl, hS.d2.d2⟩
         refine jf ?_
         refine RC.join (fun (s : Bool) a w => ∃ q615, s = (q615) ∧ Holds (· = r) (lane_Lane_Get.j27 a2 a3 t435 y471 q615) ∧ Has 155 [(0, pV b1), (3, pV b388), (6, iV ((mget a2.early t435).getD 0)), (7, .bool ((mget a2.early t435).isSome)), (8, pV b470), (83, .bool q615)] a ∧ St B w (O_lane_Lane hf a2 b1 :: Cl b388 (C_api_Message a3) 48 :: Cl b470 (C_api_Message y471) 48 :: l) hf) ?_ ?_
         · rintro q615 a w ⟨_, rfl, h, ha, hS⟩
           refine ro ha ?_
           refine RC.iteB 83 rfl h (fun hc616 h => ?_) fun hc616 h => ?_
           next =>
            refine jtr (rr [0, 3] hS ?_)
            refine it fun w hS => cF (fun _ hg => lane_Lane_back.ok hG0 hg hS) call58 h rfl rfl rfl ?_
            rintro ⟨y619, y620⟩ h _ w ⟨hf, hs623, A621, c622, rfl, hS⟩
            refine pn 2 rfl (lr (ir ?_))
            cases h.some
            exact rt results17 rfl ⟨_, hs623, A621, c622, rfl, hS.d2.d2⟩
           refine jf (sr (rr [0, 2, 0] hS ?_))
           refine it fun w hS => ln ?_
           refine RC.iteB 92 rfl h (fun hc624 h => ?_) fun hc624 h => ?_
           next =>
            refine jt (RC.seq ?_)
            obtain ⟨A647, c648, A650, c651, A653, c654, A656, c657, b659, b660, A661, c662, A663, c664, b665, b666, hr649, hr652, hr655, hr658, hS⟩ := O_lane_Lane.o hS
            refine dr [0, 3, 6, 10, 13, 18, 21, 24, 28, 30, 17, 35] [11] hS fun w hS => rq [0, 0, 0, 1, 8, 0, 0, 0, 1, 0] hS ?_
            refine it ?_
            obtain ⟨t667, hg668, h⟩ := h.bind
            have hc := lane_of.ok hg668 hS
            refine RP.e 5 rfl (OW.callF (ls := [.tmp 99]) rfl call56 hc) rfl rfl ?_
            rintro _ w ⟨rfl, hS⟩
            refine ⟨kp ⟨fun _ => hS, trivial⟩, ?_⟩
            refine RP.e0 11 rfl (OW.mapUpdF (k := t667) (v := (a2.orphans.length : Int)) 5 hS rfl keyok_lane_sending underlying54 rfl rfl rfl rfl) rfl ?_
            rintro _ w ⟨rfl, hS⟩
            have hS : St B w (_ :: _ :: _ :: _ :: _ :: _ :: _ :: _ :: _ :: l) hf := hS
            refine ⟨kp ⟨(by intro hx; cases hx), trivial⟩, ?_⟩
            refine RP.nil (RQ.then_n (RC.seq (dr [0, 3, 6, 9, 13, 17, 20, 23, 26, 29, 32] [7, 8, 9, 10] hS fun w hS => rq [0, 0, 0, 0, 2, 8] hS ?_)))
            refine it (RP.e 6 rfl (OW.buildSlice (E := E_api_Message) (xs := [a3]) (cs := (C_api_Message a3)) hS underlying39 zeroValue48 sizeOf48 (parts := [(0, .tmp 111)]) rfl rfl (by decide) (by decide) (by kernel_rfl) rfl) rfl rfl ?_)
            rintro _ w ⟨b669, rfl, hS⟩
            refine ⟨kp ⟨fun _ => hS.d0, trivial⟩, ?_⟩
            obtain ⟨hq670, h⟩ := h.req
            refine RP.e 7 rfl (OW.append (E := E_api_Message) (xs := a2.orphans) (ys := [a3]) 6 hS rfl underlying39 type48 rfl rfl rfl rfl (by decide) rfl rfl rfl (hS.slW 0 rfl).2.2.flat (by simp only [maxLen, List.length_cons, List.length_nil] at *; omega) hq670 rfl) rfl rfl ?_
            rintro v673 w hS
            obtain ⟨A671, c672, rfl, _⟩ := hS.osShape 0 rfl
            have hS : St B w (_ :: _ :: _ :: _ :: _ :: _ :: _ :: _ :: _ :: _ :: l) hf := hS
            refine ⟨kp ⟨(by intro hx; cases hx), trivial⟩, ?_⟩
            refine RP.v1 8 rfl (Vl.nilCheck rfl) rfl rfl (RP.v1 9 rfl (Vl.fa 14 underlying61 rfl sizeOf39 rfl rfl) rfl rfl (RP.e0 10 rfl (OW.store (vs := [.slice A671 (a2.orphans ++ ([a3])).length c672]) 3 hS rfl rfl rfl rfl sizeOf39 rfl rfl rfl rfl) rfl ?_))
            rintro _ w ⟨rfl, hS⟩
            have hS : St B w (_ :: _ :: _ :: Cl _ [_, _, _, _, _, _, _, _, _, _, _, _, _, _, _, _, _, _, _, _, _, _, _, _, _, _, _] _ :: _ :: _ :: _ :: _ :: _ :: _ :: l) hf := hS
            refine ⟨kp ⟨(by intro hx; cases hx), trivial⟩, ?_⟩
            refine RP.nil (tsr (pn 2 rfl (lr (ir ?_))))
            have hS := O_lane_Lane.c (x := ({ a2 with orphans := (a2.orphans ++ ([a3])), early := (mset a2.early t667 (a2.orphans.length : Int)) } : lane_Lane)) hr649 hr652 hr655 hr658 hS.p7.p3.p2.p7.p7.p7.p7
            have hS := hS.nilSl E_api_Message 48
            cases h.some
            exact rt results17 rfl ⟨_, (Sub.refl _), none, 0, rfl, hS.d2.d2.d2⟩
           refine jf (sr (pn 2 rfl (ln ?_)))
           refine RC.iteB 116 rfl h (fun hc674 h => ?_) fun hc674 h => ?_
           next =>
            refine jtr (pn 2 rfl (cF (fun _ hg => lane_Lane_adopt.ok hg hS) call59 h rfl rfl rfl ?_))
            rintro t675 h _ w ⟨rfl, hS⟩
            refine lnsr (pn 2 rfl (lr (ir ?_)))
            have hS := hS.nilSl E_api_Message 48
            cases h.some
            exact rt results17 rfl ⟨_, (Sub.refl _), none, 0, rfl, hS.d2.d2⟩
           refine jf (RC.seq ?_)
           obtain ⟨A677, c678, A680, c681, A683, c684, A686, c687, b689, b690, A691, c692, A693, c694, b695, b696, hr679, hr682, hr685, hr688, hS⟩ := O_lane_Lane.o hS
           refine dr [0, 3, 6, 10, 15, 18, 21, 24, 28, 14, 32, 35] [10, 11] hS fun w hS => rq [0, 0, 0, 1, 0, 0, 0, 0, 1] hS ?_
           refine it ?_
           obtain ⟨t697, hg698, h⟩ := h.bind
           have hc := pend_Pend_Len.ok hg698 hS.p2
           refine RP.e 4 rfl (OW.callF (ls := [.tmp 125]) rfl call60 hc) rfl rfl ?_
           rintro _ w ⟨rfl, hS⟩
           refine ⟨kp ⟨fun _ => hS.p2.p2, trivial⟩, ?_⟩
           refine rq [0, 0] hS.p2.p2 ?_
           refine it (RP.nil (RQ.then_n ?_))
           refine RC.iteP 121 rfl h (fun hc699 h => ?_) fun hc699 h => ?_
           next =>
            refine jtr (pn 2 rfl (lr (ir ?_)))
            have hS := O_lane_Lane.c (x := a2) hr679 hr682 hr685 hr688 hS.p2.p2
            have hS := hS.nilSl E_api_Message 48
            cases h.some
            exact rt results17 rfl ⟨_, (Sub.refl _), none, 0, rfl, hS.d2.d2⟩
           refine jf (RC.skip (RQ.inB_n (tsr (pn 1 rfl (ln (RC.seq (sr (rr [0, 0, 0, 2] hS ?_))))))))
           refine it fun w hS => cF (fun _ hg => log_Log_Last.ok hg hS.p2) call61 h rfl rfl rfl ?_
           rintro ⟨y729, y730⟩ h _ w ⟨rfl, hS⟩
           refine rr [0, 0, 0, 0, 1, 0] hS ?_
           refine fun b731 => it fun w hS => lnsr (pn 2 rfl ?_)
           refine RL.iteB 142 rfl h (fun hc732 h => ?_) fun hc732 h => ?_
           next =>
            refine rr [1, 9] hS ?_
            refine it fun w hS => cF (fun _ hg => event_Before.ok hg hS) call62 h rfl rfl rfl ?_
            rintro t733 h _ w ⟨rfl, hS⟩
            refine pn 2 rfl (ln ?_)
            refine RC.iteM 147 rfl h (fun hc735 h => ?_) fun hc735 h => ?_
            next =>
             refine jfs (sr (rr [0, 9] hS ?_))
             refine it fun w hS => ?_
             have hS := O_lane_Lane.c (x := a2) hr679 hr682 hr685 hr688 hS.p7.p7.p7.p7.p6.p6.p7
             refine cF (fun _ hg => lane_Lane_hold.ok hg hS) call41 h rfl rfl rfl ?_
             rintro t736 h _ w ⟨rfl, hS⟩
             refine lnsr (pn 3 rfl (lr ?_))
             have hS := hS.nilSl E_api_Message 48
             cases h.some
             exact rt results17 rfl ⟨_, (Sub.refl _), none, 0, rfl, hS.d2.d2.d2⟩
            refine jt (RC.region (rr [0, 9] hS ?_))
            refine it fun w hS => ?_
            have hS := O_lane_Lane.c (x := a2) hr679 hr682 hr685 hr688 hS.p7.p7.p7.p7.p6.p6.p7
            refine cF (fun _ hg => lane_Lane_back.ok hG0 hg hS) call58 h rfl rfl rfl ?_
            rintro ⟨y740, y741⟩ h _ w ⟨hf, hs744, A742, c743, rfl, hS⟩
            refine pn 1 rfl (lnsr (rr [0, 4] hS ?_))
            refine it fun w hS => cF (fun _ hg => lane_Lane_hold.ok hg hS.p1) call41 h rfl rfl rfl ?_
            rintro t745 h _ w ⟨rfl, hS⟩
            refine lnsr (pn 3 rfl (lr ?_))
            cases h.some
            exact rt results17 rfl ⟨_, hs744, A742, c743, rfl, hS.d2.d2.d2.p1⟩
           refine pn 5 rfl (ln (jfs (sr (rr [0, 9] hS ?_))))
           refine it fun w hS => ?_
           have hS := O_lane_Lane.c (x := a2) hr679 hr682 hr685 hr688 hS.p7.p7.p7.p7.p6.p6.p7
           refine cF (fun _ hg => lane_Lane_hold.ok hg hS) call41 h rfl rfl rfl ?_
           rintro t747 h _ w ⟨rfl, hS⟩
           refine lnsr (pn 3 rfl (lr ?_))
           have hS := hS.nilSl E_api_Message 48
           cases h.some
           exact rt results17 rfl ⟨_, (Sub.refl _), none, 0, rfl, hS.d2.d2.d2⟩
         refine RC.region (rr [0, 2, 0] hS ?_)
         refine it fun w hS => RL.iteB 86 rfl h (fun hc749 h => ?_) fun hc749 h => ?_
         next =>
          refine pn 3 rfl (RL.nil ?_)
          exact fun a ha => ⟨_, _, rfl, h, ha.tE rfl, hS⟩
         refine pn 3 rfl (RL.nil ?_)
         exact fun a ha => ⟨_, _, rfl, h, ha.tE rfl, hS⟩
       refine RC.region (rr [0, 2, 0] hS ?_)
       refine it fun w hS => RL.iteB 77 rfl h (fun hc750 h => ?_) fun hc750 h => ?_
       next =>
        refine pn 3 rfl (RL.nil ?_)
        exact fun a ha => ⟨_, _, rfl, h, ha.tE rfl, hS⟩
       refine pn 3 rfl (RL.nil ?_)
       exact fun a ha => ⟨_, _, rfl, h, ha.tE rfl, hS⟩
     refine RC.join (fun (s : Bool) a w => ∃ q752, s = (q752) ∧ Holds (· = r) (lane_Lane_Get.j28 a2 a3 t435 y471 q472 t475 q752) ∧ Has 155 [(0, pV b1), (3, pV b388), (6, iV ((mget a2.early t435).getD 0)), (7, .bool ((mget a2.early t435).isSome)), (8, pV b470), (9, .bool q472), (10, .bool ((mget a2.held t475).getD false)), (59, .bool q752)] a ∧ St B w (O_lane_Lane hf a2 b1 :: Cl b388 (C_api_Message a3) 48 :: Cl b470 (C_api_Message y471) 48 :: l) hf) ?_ ?_
     · rintro q752 a w ⟨_, rfl, h, ha, hS⟩
       refine ro ha ?_
       refine RC.iteB 59 rfl h (fun hc753 h => ?_) fun hc753 h => ?_
       next =>
        refine jt (RC.skip ?_)
        exact fun a ha => ⟨_, _, rfl, h, ha.tE rfl, hS⟩
       refine jf (RC.region (rr [0, 2, 0, 0] hS ?_))
       refine it fun w hS => RL.iteM 68 rfl h (fun hc754 h => ?_) fun hc754 h => ?_
       next =>
        refine pn 6 rfl (RL.nil ?_)
        exact fun a ha => ⟨_, _, rfl, h, ha.tE rfl, hS⟩
       refine pn 2 rfl ?_
       refine RL.iteB 70 rfl h (fun hc755 h => ?_) fun hc755 h => ?_
       next =>
        refine pn 4 rfl (RL.nil ?_)
        exact fun a ha => ⟨_, _, rfl, h, ha.tE rfl, hS⟩
       refine pn 4 rfl (RL.nil ?_)
       exact fun a ha => ⟨_, _, rfl, h, ha.tE rfl, hS⟩
     refine RC.region (rr [0, 2, 0] hS ?_)
     refine it fun w hS => RL.iteB 62 rfl h (fun hc756 h => ?_) fun hc756 h => ?_
     next =>
      refine pn 3 rfl (RL.nil ?_)
      exact fun a ha => ⟨_, _, rfl, h, ha.tE rfl, hS⟩
     refine pn 3 rfl (RL.nil ?_)
     exact fun a ha => ⟨_, _, rfl, h, ha.tE rfl, hS⟩
   refine dr [1, 5, 6, 9, 12, 16, 20, 23, 26, 29, 32, 35, 38] [10, 11, 12] hS fun w hS => rq [8] hS ?_
   refine it ?_
   obtain ⟨t757, hg758, h⟩ := h.bind
   have hc := event_Check.ok hg758 hS
   refine RP.e 1 rfl (OW.callF (ls := [.tmp 47]) rfl call29 hc) rfl rfl ?_
   rintro _ w ⟨rfl, hS⟩
   refine ⟨kp ⟨fun _ => hS, trivial⟩, ?_⟩
   refine pp 2 rfl ?_
   refine RP.iteN 50 rfl h (fun hc759 h => ?_) fun hc759 h => ?_
   next =>
    refine rq [0, 8, 0, 0, 0, 4, 0, 0, 0] hS ?_
    refine it (RP.nil ?_)
    have hS := O_lane_Lane.c (x := a2) hr417 hr420 hr423 hr426 hS.p4.p3.p4
    exact fun a ha => ⟨_, _, rfl, h, ha.tE rfl, hS⟩
   refine rq [0, 0, 0, 0, 0, 0, 0, 0, 0] hS ?_
   refine it (RP.nil ?_)
   have hS := O_lane_Lane.c (x := a2) hr417 hr420 hr423 hr426 hS.p4.p3.p4
   exact fun a ha => ⟨_, _, rfl, h, ha.tE rfl, hS⟩
 refine RP.fork ?_ ?_
 · obtain ⟨t760, hg761, h⟩ := h.bind
   have hc := log_Log_Find.ok hg761 hS.p1
   obtain ⟨y762, y763⟩ := t760
   refine RPW.e 9 rfl (OW.callF (ls := [.tmp 30, .tmp 33, .tmp 35]) rfl call57 hc) rfl rfl ?_
   rintro _ w ⟨rfl, hS⟩
   refine ⟨kp ⟨fun _ => hS.p1, trivial⟩, ?_⟩
   refine pp 3 rfl (RP.e 13 rfl (OW.alloc (cs := [iV 0, iV 0, iV 0, iV 0, iV 0, iV 0, .bool false]) hS zeroValue48 rfl) rfl rfl ?_)
   rintro _ w ⟨b764, rfl, hS⟩
   refine ⟨kp ⟨fun _ => hS.d0.p1, trivial⟩, ?_⟩
   exact hk _ _ _ ⟨_, _, rfl, h, _, ⟨rfl, rfl, rfl, rfl, rfl, rfl, rfl, trivial⟩, hS.p8.p8.p8.p6.p6.p6.p8.p8⟩
 · refine RPW.e 13 rfl (OW.alloc (cs := [iV 0, iV 0, iV 0, iV 0, iV 0, iV 0, .bool false]) hS zeroValue48 rfl) rfl rfl ?_
   rintro _ w ⟨b765, rfl, hS⟩
   refine ⟨kp ⟨fun _ => hS.d0, trivial⟩, ?_⟩
   obtain ⟨t766, hg767, h⟩ := h.bind
   have hc := log_Log_Find.ok hg767 hS.p2
   obtain ⟨y768, y769⟩ := t766
   refine RP.e 9 rfl (OW.callF (ls := [.tmp 30, .tmp 33, .tmp 35]) rfl call57 hc) rfl rfl ?_
   rintro _ w ⟨rfl, hS⟩
   refine ⟨kp ⟨fun _ => hS.d1.p1, trivial⟩, ?_⟩
   refine pp 3 rfl ?_
   exact hk _ _ _ ⟨_, _, rfl, h, _, ⟨rfl, rfl, rfl, rfl, rfl, rfl, rfl, trivial⟩, hS.p8.p8.p8.p6.p6.p5.p8.p8⟩
def isochronlaw17vroom.l2b (a1 : api_Model) (a11 : Int) : List Int × Int → Option ((List Int × Int) ⊕ (List Int))
 | (l113, x116) => ((model_Ways.f a1 a11).bind fun t147 => (if x116 < (t147.length : Int) then (if (l113.length + 1) * 8 ≤ 140737488355328 then some (.inl ((l113 ++ ([1000] : List Int)), IntKind.i64.wrap (x116 + 1))) else none) else some (.inr l113)))
def isochronlaw17vroom.l2 (a1 : api_Model) (a11 : Int) (s : List Int × Int) : Option (List Int) := loopR (isochronlaw17vroom.l2b a1 a11) s
def isochronlaw17vroom.f (a1 : api_Model) (a11 : Int) : Option (List Int) := isochronlaw17vroom.l2 a1 a11 ([], 0)
theorem isochronlaw17vroom.ok {a1 : api_Model} {a11 : Int} {A2 A5 A8 : Option Addr} {c3 c6 c9 : Nat} (hr4 : SlR (Rep.sl E_api_Instr.rep) hf A2 c3 a1.Progs) (hr7 : SlR E_api_Link.rep hf A5 c6 a1.Links) (hr10 : SlR E_api_Start.rep hf A8 c9 a1.Starts) {r : List Int} (h : isochronlaw17vroom.f a1 a11 = some r) (hS : St B w (l) hf) :
   Calls prog 12 #[.agg (C_api_Model a1 A2 c3 A5 c6 A8 c9).toArray, iV a11] w (Ret fun v w => ∃ (A_1 : Option Addr) (c_2 : Nat), v = sV A_1 r c_2 ∧ St B w (OSf (FI .i64) 3 (sV A_1 r c_2) r :: l) hf) := by
 have h := Holds.of h
 refine en func12 rfl ntmps12 rfl (sr (rr [0, 0] hS ?_))
 refine fun b88 => it fun w hS => lnsr (pn 1 rfl (ln (RC.seq (sr (pn 1 rfl (RL.nil ?_))))))
 refine RQ.then_n (RC.block ?_)
 have hS := hS.nilSl (FI .i64) 3
 refine fun a ha => lp h (fun (s : List Int × Int) a w => ∃ l113 x116, s = (l113, x116) ∧ ∃ A114 c115, Has 19 [(1, iV a11), (2, pV b88), (5, sV A114 l113 c115), (6, iV x116)] a ∧ St B w (OSf (FI .i64) 3 (sV A114 l113 c115) l113 :: Cl b88 (C_api_Model a1 A2 c3 A5 c6 A8 c9) 27 :: l) hf) ⟨_, _, rfl, _, _, ha.tE rfl, hS⟩ ?_
 rintro G141 _ a w ⟨l113, x116, rfl, A114, c115, ha, hS⟩ h
 refine ro ha (RC.seq (sr (rr [0, 2, 0] hS ?_)))
 refine it fun w hS => cF (fun _ hg => model_Ways.ok hr4 hr7 hr10 hg hS) call36 h rfl rfl rfl ?_
 rintro t147 h _ w ⟨A149, c150, rfl, hS⟩
 refine r0 2 rfl (ln ?_)
 refine RC.iteP 12 rfl h (fun hc151 h => ?_) fun hc151 h => ?_
 next =>
  refine jt (sk (RC.seq (RC.block (RC.region (pn 1 rfl (RL.e (OW.buildSlice (E := (FI .i64)) (xs := ([1000] : List Int)) (cs := [iV 1000]) hS underlying37 zeroValue3 sizeOf3 (parts := [(0, .const (iV 1000))]) rfl rfl (by decide) (by decide) (by kernel_rfl) rfl) rfl rfl ?_))))))
  rintro _ w ⟨b157, rfl, hS⟩
  obtain ⟨hq158, h⟩ := h.req
  refine RL.e (OW.append (E := (FI .i64)) (xs := l113) (ys := ([1000] : List Int)) 2 hS rfl underlying37 type3 rfl rfl rfl rfl (by decide) rfl rfl rfl (hS.slW 0 rfl).2.2.flat (by simp only [maxLen, List.length_cons, List.length_nil] at *; omega) hq158 rfl) rfl rfl ?_
  rintro v161 w hS
  obtain ⟨A159, c160, rfl, _⟩ := hS.osShape 0 rfl
  have hS : St B w (_ :: _ :: _ :: _ :: l) hf := hS
  refine pn 1 rfl (RL.nil (RQ.inB_n (RQ.then_n (RC.region (pn 3 rfl (RL.nil ?_))))))
  exact fun a ha => ⟨_, h.some, _, _, rfl, _, _, ha.tE rfl, hS.d1.d1⟩
 refine jf (RC.exit (RQ.exitT ?_))
 have h := h.inrS
 refine RQ.exitT (RQ.inB_hit (tsr (pn 2 rfl (lr ?_))))
 obtain rfl := h.some
 exact rt results12 rfl ⟨A114, c115, rfl, hS.d0.d1⟩
def lane_Lane_Settle_1.f (a1 : lane_open) (a3 : Int) (a5 : api_Message) : Option (Bool) := (if a3 = 0 then ((event_Before.f a1.by_ a5).bind fun t14 => some t14) else some true)
theorem lane_Lane_Settle_1.ok {a1 : lane_open} {a3 : Int} {a5 : api_Message} {b2 b4 : Nat} {r : Bool} (h : lane_Lane_Settle_1.f a1 a3 a5 = some r) (hS : St B w (Cl b2 [iV a3] 29 :: Cl b4 (C_api_Message a5) 48 :: l) hf) :
   Calls prog 64 #[.agg (C_lane_open a1).toArray, pV b2, pV b4] w (Ret fun v w => v = .bool r ∧ St B w (Cl b2 [iV a3] 29 :: Cl b4 (C_api_Message a5) 48 :: l) hf) := by
 have h := Holds.of h
 refine en func64 rfl ntmps64 rfl (sr (rr [0, 0] hS ?_))
 refine fun b12 => it fun w hS => lnsr (rr [2, 0, 0] hS ?_)
 refine it fun w hS => RL.iteN 7 rfl h (fun hc13 h => ?_) fun hc13 h => ?_
 next =>
  refine rr [0, 1, 3] hS ?_
  refine it fun w hS => cF (fun _ hg => event_Before.ok hg hS) call62 h rfl rfl rfl ?_
  rintro t14 h _ w ⟨rfl, hS⟩
  refine pn 2 rfl (lr ?_)
  obtain rfl := h.some
  exact rt results64 rfl ⟨rfl, hS.d0⟩
 refine pn 6 rfl (lr ?_)
 obtain rfl := h.some
 exact rt results64 rfl ⟨rfl, hS.d0⟩
def lane_Lane_part.j16 (x690 : Int) (l766 l769 : List lane_open) : Option ((List lane_open × List lane_open × Int) ⊕ (List lane_open × lane_Lane)) := some (.inl (l766, l769, IntKind.i64.wrap (x690 + 1)))
def lane_Lane_part.l15b (a2 : lane_Lane) (a4 : Int) (a6 : api_Message) : List lane_open × List lane_open × Int → Option ((List lane_open × List lane_open × Int) ⊕ (List lane_open × lane_Lane))
 | (l684, l687, x690) => (if x690 < (a2.open_.length : Int) then (if 0 ≤ x690 then ((lane_Lane_Settle_1.f (nth a2.open_ x690) a4 a6).bind fun t778 => (if t778 = true then (if (l684.length + 1) * 112 ≤ 140737488355328 then lane_Lane_part.j16 x690 (l684 ++ ([nth a2.open_ x690])) l687 else none) else (if (l687.length + 1) * 112 ≤ 140737488355328 then lane_Lane_part.j16 x690 l684 (l687 ++ ([nth a2.open_ x690])) else none))) else none) else some (.inr (l684, ({ a2 with open_ := l687 } : lane_Lane))))
def lane_Lane_part.l15 (a2 : lane_Lane) (a4 : Int) (a6 : api_Message) (s : List lane_open × List lane_open × Int) : Option (List lane_open × lane_Lane) := loopR (lane_Lane_part.l15b a2 a4 a6) s
def lane_Lane_part.f (a2 : lane_Lane) (a4 : Int) (a6 : api_Message) : Option (List lane_open × lane_Lane) := lane_Lane_part.l15 a2 a4 a6 ([], [], 0)
theorem lane_Lane_part.ok {a2 : lane_Lane} {a4 : Int} {a6 : api_Message} {b1 b3 b5 : Nat} {r : List lane_open × lane_Lane} (h : lane_Lane_part.f a2 a4 a6 = some r) (hS : St B w (O_lane_Lane hf a2 b1 :: Cl b3 [iV a4] 29 :: Cl b5 (C_api_Message a6) 48 :: l) hf) :
   Calls prog 55 #[pV b1, .func (.func 64) #[] #[pV b3, pV b5]] w (Ret fun v w => ∃ (A_1 : Option Addr) (c_2 : Nat), v = sV A_1 r.1 c_2 ∧ St B w (OSf E_lane_open 116 (sV A_1 r.1 c_2) r.1 :: O_lane_Lane hf r.2 b1 :: Cl b3 [iV a4] 29 :: Cl b5 (C_api_Message a6) 48 :: l) hf) := by
 have h := Holds.of h
 refine en func55 rfl ntmps55 rfl (sr (pn 1 rfl (lnsr (pn 2 rfl (ln (RC.seq (sr (r0 3 rfl ?_))))))))
 obtain ⟨A615, c616, A618, c619, A621, c622, A624, c625, b627, b628, A629, c630, A631, c632, b633, b634, hr617, hr620, hr623, hr626, hS⟩ := O_lane_Lane.o hS
 refine rr [1, 0, 0] hS ?_
 refine it fun w hS => ln (RC.block ?_)
 have hS := hS.nilSl E_lane_open 116
 have hS := hS.nilSl E_lane_open 116
 refine fun a ha => lp h (fun (s : List lane_open × List lane_open × Int) a w => ∃ l684 l687 x690, s = (l684, l687, x690) ∧ ∃ A685 c686 A688 c689, Has 35 [(0, pV b1), (1, .func (.func 64) #[] #[pV b3, pV b5]), (5, sV A685 l684 c686), (6, sV A688 l687 c689), (12, sV A629 a2.open_ c630), (13, iV (a2.open_.length : Int)), (14, iV x690)] a ∧ St B w (OSf E_lane_open 116 (sV A629 a2.open_ c630) a2.open_ :: OSf E_api_Message 48 (sV A631 a2.orphans c632) a2.orphans :: OSf E_lane_open 116 (sV A685 l684 c686) l684 :: OSf E_lane_open 116 (sV A688 l687 c689) l687 :: Cl b1 (C_lane_Lane a2 A615 c616 A618 c619 A621 c622 A624 c625 b627 b628 A629 c630 A631 c632 b633 b634) 61 :: O_log_Log hf a2.log b627 :: O_pend_Pend hf a2.wait b628 :: MapF kv_lane_sending (Value.int .i64) b633 a2.early :: MapF kv_lane_sending Value.bool b634 a2.held :: Cl b3 [iV a4] 29 :: Cl b5 (C_api_Message a6) 48 :: l) hf) ⟨_, _, _, rfl, _, _, _, _, ha.tE rfl, hS.p1.p6.p6⟩ ?_
 rintro G744 _ a w ⟨l684, l687, x690, rfl, A685, c686, A688, c689, ha, hS⟩ h
 refine ro ha (sr (pn 1 rfl (ln (RC.seq ?_))))
 refine RC.iteP 15 rfl h (fun hc746 h => ?_) fun hc746 h => ?_
 next =>
  refine jt (sk ?_)
  refine RC.join (fun (s : List lane_open × List lane_open) a w => ∃ l766 l769, s = (l766, l769) ∧ Holds (Sum.elim G744 (· = r)) (lane_Lane_part.j16 x690 l766 l769) ∧ ∃ A767 c768 A770 c771, Has 35 [(0, pV b1), (1, .func (.func 64) #[] #[pV b3, pV b5]), (5, sV A767 l766 c768), (6, sV A770 l769 c771), (12, sV A629 a2.open_ c630), (13, iV (a2.open_.length : Int)), (14, iV x690)] a ∧ St B w (OSf E_lane_open 116 (sV A629 a2.open_ c630) a2.open_ :: OSf E_api_Message 48 (sV A631 a2.orphans c632) a2.orphans :: OSf E_lane_open 116 (sV A767 l766 c768) l766 :: OSf E_lane_open 116 (sV A770 l769 c771) l769 :: Cl b3 [iV a4] 29 :: Cl b5 (C_api_Message a6) 48 :: Cl b1 (C_lane_Lane a2 A615 c616 A618 c619 A621 c622 A624 c625 b627 b628 A629 c630 A631 c632 b633 b634) 61 :: O_log_Log hf a2.log b627 :: O_pend_Pend hf a2.wait b628 :: MapF kv_lane_sending (Value.int .i64) b633 a2.early :: MapF kv_lane_sending Value.bool b634 a2.held :: l) hf) ?_ ?_
  · rintro _ a w ⟨l766, l769, rfl, h, A767, c768, A770, c771, ha, hS⟩
    refine ro ha (RC.region (pn 2 rfl (RL.nil ?_)))
    exact fun a ha => ⟨_, h.some, _, _, _, rfl, _, _, _, _, ha.tE rfl, hS.p10.p10.p10.p10.p10.p8.p8.p8.p8⟩
  refine RC.block (sr ?_)
  obtain ⟨hq774, h⟩ := h.req
  refine RL.s (Vl.indexOwn 0 hS rfl underlying53 sizeOf116 rfl rfl hq774 hc746) rfl (RL.s (Vl.loadA isAgg116 sizeOf116 rfl rfl ((hS.slW 0 rfl).2.2.cells hq774 hc746)) rfl (rr [0, 1] hS ?_))
  refine fun b775 => it fun w hS => lnsr (rr [0, 1] hS ?_)
  refine it fun w hS => ?_
  obtain ⟨t778, hg779, h⟩ := h.bind
  have hc := lane_Lane_Settle_1.ok hg779 hS.p11.p11
  refine RL.e (OW.call (ls := [.tmp 19]) rfl rfl call64 rfl hc) rfl rfl ?_
  rintro _ w ⟨rfl, hS⟩
  refine ln ?_
  refine RC.iteB 20 rfl h (fun hc780 h => ?_) fun hc780 h => ?_
  next =>
   refine jt (RC.region (rr [0, 3] hS ?_))
   refine it fun w hS => RL.e (OW.buildSlice (E := E_lane_open) (xs := [nth a2.open_ x690]) (cs := (C_lane_open (nth a2.open_ x690))) hS underlying53 zeroValue116 sizeOf116 (parts := [(0, .tmp 22)]) rfl rfl (by decide) (by decide) (by kernel_rfl) rfl) rfl rfl ?_
   rintro _ w ⟨b781, rfl, hS⟩
   obtain ⟨hq782, h⟩ := h.req
   refine RL.e (OW.append (E := E_lane_open) (xs := l684) (ys := [nth a2.open_ x690]) 6 hS rfl underlying53 type116 rfl rfl rfl rfl (by decide) rfl rfl rfl (hS.slW 0 rfl).2.2.flat (by simp only [maxLen, List.length_cons, List.length_nil] at *; omega) hq782 rfl) rfl rfl ?_
   rintro v785 w hS
   obtain ⟨A783, c784, rfl, _⟩ := hS.osShape 0 rfl
   have hS : St B w (_ :: _ :: _ :: _ :: _ :: _ :: _ :: _ :: _ :: _ :: _ :: _ :: _ :: l) hf := hS
   refine pn 1 rfl (RL.nil (RQ.inB_n ?_))
   exact fun a ha => ⟨_, _, _, rfl, h, _, _, _, _, ha.tE rfl, hS.d1.d3.p5.p1.p5.p5⟩
  refine jf (RC.region (rr [0, 3] hS ?_))
  refine it fun w hS => RL.e (OW.buildSlice (E := E_lane_open) (xs := [nth a2.open_ x690]) (cs := (C_lane_open (nth a2.open_ x690))) hS underlying53 zeroValue116 sizeOf116 (parts := [(0, .tmp 26)]) rfl rfl (by decide) (by decide) (by kernel_rfl) rfl) rfl rfl ?_
  rintro _ w ⟨b786, rfl, hS⟩
  obtain ⟨hq787, h⟩ := h.req
  refine RL.e (OW.append (E := E_lane_open) (xs := l687) (ys := [nth a2.open_ x690]) 7 hS rfl underlying53 type116 rfl rfl rfl rfl (by decide) rfl rfl rfl (hS.slW 0 rfl).2.2.flat (by simp only [maxLen, List.length_cons, List.length_nil] at *; omega) hq787 rfl) rfl rfl ?_
  rintro v790 w hS
  obtain ⟨A788, c789, rfl, _⟩ := hS.osShape 0 rfl
  have hS : St B w (_ :: _ :: _ :: _ :: _ :: _ :: _ :: _ :: _ :: _ :: _ :: _ :: _ :: l) hf := hS
  refine pn 1 rfl (RL.nil (RQ.inB_n ?_))
  exact fun a ha => ⟨_, _, _, rfl, h, _, _, _, _, ha.tE rfl, hS.d1.d3.p5.p5.p5⟩
 refine jf (RC.exit (RQ.exitT ?_))
 have h := h.inrS
 refine RQ.exitT (RQ.inB_hit (tsr (rr [0, 0, 0, 0, 5] hS ?_)))
 refine it fun w hS => lnsr (pn 2 rfl (lr ?_))
 have hS := O_lane_Lane.c (x := ({ a2 with open_ := l687 } : lane_Lane)) hr617 hr620 hr623 hr626 hS.p8.p8.p3.p5.p8.p8.p8
 cases h.some
 exact rt results55 rfl ⟨A685, c686, rfl, hS.d1.p1⟩
def lane_Lane_Settle.l2b (y206 : List lane_open) (y207 : lane_Lane) : List api_Message × Int → Option ((List api_Message × Int) ⊕ (List api_Message × lane_Lane))
 | (l232, x235) => (if x235 < (y206.length : Int) then (if 0 ≤ x235 then ((event_Twin.f ((nth y206 x235).m)).bind fun t274 => (if (l232.length + 1) * 56 ≤ 140737488355328 then some (.inl ((l232 ++ ([t274])), IntKind.i64.wrap (x235 + 1))) else none)) else none) else some (.inr (l232, y207)))
def lane_Lane_Settle.l2 (y206 : List lane_open) (y207 : lane_Lane) (s : List api_Message × Int) : Option (List api_Message × lane_Lane) := loopR (lane_Lane_Settle.l2b y206 y207) s
def lane_Lane_Settle.f (a2 : lane_Lane) : Option (List api_Message × lane_Lane) := ((lane_Lane_none.f a2).bind fun _ => ((pend_Pend_First.f a2.wait).bind fun (y194, y195) => ((lane_Lane_part.f a2 y195 y194).bind fun (y206, y207) => lane_Lane_Settle.l2 y206 y207 ([], 0))))
theorem lane_Lane_Settle.ok {a2 : lane_Lane} {b1 : Nat} {r : List api_Message × lane_Lane} (h : lane_Lane_Settle.f a2 = some r) (hS : St B w (O_lane_Lane hf a2 b1 :: l) hf) :
   Calls prog 18 #[pV b1] w (Ret fun v w => ∃ (A_1 : Option Addr) (c_2 : Nat), v = sV A_1 r.1 c_2 ∧ St B w (OSf E_api_Message 48 (sV A_1 r.1 c_2) r.1 :: O_lane_Lane hf r.2 b1 :: l) hf) := by
 have h := Holds.of h
 refine en func18 rfl ntmps18 rfl (sr (pn 1 rfl (ln (RC.seq (sr (pn 1 rfl (cF (fun _ hg => lane_Lane_none.ok hg hS) call45 h rfl rfl rfl ?_)))))))
 rintro _ h _ w ⟨rfl, hS⟩
 refine ln (jfs (sr (r0 3 rfl ?_)))
 obtain ⟨A172, c173, A175, c176, A178, c179, A181, c182, b184, b185, A186, c187, A188, c189, b190, b191, hr174, hr177, hr180, hr183, hS⟩ := O_lane_Lane.o hS
 refine rr [1] hS ?_
 refine it fun w hS => cF (fun _ hg => pend_Pend_First.ok hg hS.p2) call63 h rfl rfl rfl ?_
 rintro ⟨y194, y195⟩ h _ w ⟨rfl, hS⟩
 refine rr [0, 0, 0, 0, 0, 2, 1] hS ?_
 refine fun b196 b197 => it fun w hS => lnsr (pn 1 rfl (ln (RC.seq (sr (pn 1 rfl (RL.s (Vl.makeFunc (fi := []) (ca := [.tmp 4, .tmp 3]) rfl rfl) rfl ?_))))))
 have hS := O_lane_Lane.c (x := a2) hr174 hr177 hr180 hr183 hS.p8.p8.p8.p8.p6.p8.p8
 refine cF (fun _ hg => lane_Lane_part.ok hg hS) call55 h rfl rfl rfl ?_
 rintro ⟨y206, y207⟩ h _ w ⟨A208, c209, rfl, hS⟩
 refine r0 2 rfl (ln (RC.block ?_))
 have hS := hS.nilSl E_api_Message 48
 refine fun a ha => lp h (fun (s : List api_Message × Int) a w => ∃ l232 x235, s = (l232, x235) ∧ ∃ A233 c234, Has 34 [(5, sV A233 l232 c234), (20, sV A208 y206 c209), (21, iV (y206.length : Int)), (22, iV x235)] a ∧ St B w (OSf E_api_Message 48 (sV A233 l232 c234) l232 :: OSf E_lane_open 116 (sV A208 y206 c209) y206 :: O_lane_Lane hf y207 b1 :: l) hf) ⟨_, _, rfl, _, _, ha.tE rfl, hS.d3.d3⟩ ?_
 rintro G260 _ a w ⟨l232, x235, rfl, A233, c234, ha, hS⟩ h
 refine ro ha (sr (pn 1 rfl (ln (RC.seq ?_))))
 refine RC.iteP 23 rfl h (fun hc262 h => ?_) fun hc262 h => ?_
 next =>
  refine jt (sk (RC.seq (RC.block (sr ?_))))
  obtain ⟨hq272, h⟩ := h.req
  refine RL.s (Vl.indexOwn 1 hS rfl underlying53 sizeOf116 rfl rfl hq272 hc262) rfl (RL.s (Vl.loadA isAgg116 sizeOf116 rfl rfl ((hS.slW 1 rfl).2.2.cells hq272 hc262)) rfl (rr [0, 1] hS ?_))
  refine fun b273 => it fun w hS => ln (RC.region (rr [0, 0, 1] hS ?_))
  refine it fun w hS => cF (fun _ hg => event_Twin.ok hg hS) call28 h rfl rfl rfl ?_
  rintro t274 h _ w ⟨rfl, hS⟩
  refine RL.e (OW.buildSlice (E := E_api_Message) (xs := [t274]) (cs := (C_api_Message t274)) hS underlying39 zeroValue48 sizeOf48 (parts := [(0, .tmp 29)]) rfl rfl (by decide) (by decide) (by kernel_rfl) rfl) rfl rfl ?_
  rintro _ w ⟨b276, rfl, hS⟩
  obtain ⟨hq277, h⟩ := h.req
  refine RL.e (OW.append (E := E_api_Message) (xs := l232) (ys := [t274]) 2 hS rfl underlying39 type48 rfl rfl rfl rfl (by decide) rfl rfl rfl (hS.slW 0 rfl).2.2.flat (by simp only [maxLen, List.length_cons, List.length_nil] at *; omega) hq277 rfl) rfl rfl ?_
  rintro v280 w hS
  obtain ⟨A278, c279, rfl, _⟩ := hS.osShape 0 rfl
  have hS : St B w (_ :: _ :: _ :: _ :: _ :: l) hf := hS
  refine pn 1 rfl (RL.nil (RQ.inB_n (RQ.then_n (RC.region (pn 2 rfl (RL.nil ?_))))))
  exact fun a ha => ⟨_, h.some, _, _, rfl, _, _, ha.tE rfl, hS.d1.d1⟩
 refine jf (RC.exit (RQ.exitT ?_))
 have h := h.inrS
 refine RQ.exitT (RQ.inB_hit (tsr (pn 2 rfl (lr ?_))))
 cases h.some
 exact rt results18 rfl ⟨A233, c234, rfl, hS.d1⟩
def log_Log_Len.f (a2 : log_Log) : Option (Int) := ((log_Log_none.f a2).bind fun t22 => (if t22 = true then some 0 else some (a2.l.length : Int)))
theorem log_Log_Len.ok {a2 : log_Log} {b1 : Nat} {r : Int} (h : log_Log_Len.f a2 = some r) (hS : St B w (O_log_Log hf a2 b1 :: l) hf) :
   Calls prog 97 #[pV b1] w (Ret fun v w => v = iV r ∧ St B w (O_log_Log hf a2 b1 :: l) hf) := by
 have h := Holds.of h
 refine en func97 rfl ntmps97 rfl (sr (pn 1 rfl (ln (RC.seq (sr (pn 1 rfl (cF (fun _ hg => log_Log_none.ok hg hS) call94 h rfl rfl rfl ?_)))))))
 rintro t22 h _ w ⟨rfl, hS⟩
 refine ln ?_
 refine RC.iteB 4 rfl h (fun hc24 h => ?_) fun hc24 h => ?_
 next =>
  refine jtr (pn 1 rfl (lr (RQ.ret ?_)))
  obtain rfl := h.some
  exact rt results97 rfl ⟨rfl, hS⟩
 refine jfs (sr (r0 3 rfl ?_))
 obtain ⟨A25, c26, A28, c29, A31, c32, cs33, hr27, hr30, hx34, hS⟩ := O_log_Log.o hS
 refine rr [1, 0, 0] hS ?_
 refine it fun w hS => lr ?_
 have hS := O_log_Log.c (x := a2) hr27 hr30 hx34 hS
 cases h.some
 exact rt results97 rfl ⟨rfl, hS⟩
def lane_Lane_next.j4 (a2 : lane_Lane) (y175 : api_Message) (q218 : Bool) : Option ((api_Message × lane_refusal) ⊕ (api_Message)) := (if q218 = true then some (.inl (y175, (⟨180⟩ : lane_refusal))) else ((log_Log_Len.f a2.log).bind fun t240 => (if a2.caps.Log ≤ t240 then some (.inl (y175, (⟨9⟩ : lane_refusal))) else some (.inr (y175)))))
def lane_Lane_next.f (a2 : lane_Lane) (a3 : Int) : Option ((api_Message × lane_refusal) ⊕ (api_Message)) := ((pend_Pend_First.f a2.wait).bind fun (y175, y176) => (if y176 = 0 then (if a3 ≤ y175.Key.Time then lane_Lane_next.j4 a2 y175 true else (if a2.m.End < y175.Key.Time then lane_Lane_next.j4 a2 y175 true else ((log_Log_Stuck.f a2.log).bind fun t246 => lane_Lane_next.j4 a2 y175 t246))) else lane_Lane_next.j4 a2 y175 true))
theorem lane_Lane_next.ok {a2 : lane_Lane} {a3 : Int} {b1 : Nat} {r : (api_Message × lane_refusal) ⊕ (api_Message)} (h : lane_Lane_next.f a2 a3 = some r) (hS : St B w (O_lane_Lane hf a2 b1 :: l) hf) :
   Calls prog 48 #[pV b1, iV a3] w (Ret fun v w => match (generalizing := false) r with | .inl r_ => v = .tuple #[.agg (C_api_Message r_.1).toArray, .iface 179 (.agg #[iV r_.2.why])] ∧ St B w (O_lane_Lane hf a2 b1 :: l) hf | .inr (r_) => v = .tuple #[.agg (C_api_Message r_).toArray, .nilIface] ∧ St B w (O_lane_Lane hf a2 b1 :: l) hf) := by
 have h := Holds.of h
 refine en func48 rfl ntmps48 rfl (sr (rr [0, 0] hS ?_))
 refine fun b127 => it fun w hS => lnsr (r0 3 rfl ?_)
 obtain ⟨A153, c154, A156, c157, A159, c160, A162, c163, b165, b166, A167, c168, A169, c170, b171, b172, hr155, hr158, hr161, hr164, hS⟩ := O_lane_Lane.o hS.p1
 refine rr [1] hS ?_
 refine it fun w hS => cF (fun _ hg => pend_Pend_First.ok hg hS.p2) call63 h rfl rfl rfl ?_
 rintro ⟨y175, y176⟩ h _ w ⟨rfl, hS⟩
 refine rr [0, 0, 0, 0, 1, 0] hS ?_
 refine fun b177 => it fun w hS => ln (RC.seq (RC.block ?_))
 refine RC.join (fun (s : Bool) a w => ∃ q218, s = (q218) ∧ Holds (· = r) (lane_Lane_next.j4 a2 y175 q218) ∧ Has 57 [(0, pV b1), (4, pV b127), (6, pV b177), (16, .bool q218)] a ∧ St B w (O_lane_Lane hf a2 b1 :: Cl b177 (C_api_Message y175) 48 :: Cl b127 [iV 0, iV 0, iV 0, iV 0, iV 0, iV 0, .bool false] 48 :: l) hf) ?_ ?_
 · rintro q218 a w ⟨_, rfl, h, ha, hS⟩
   refine ro ha ?_
   refine RC.iteB 16 rfl h (fun hc219 h => ?_) fun hc219 h => ?_
   next =>
    refine jtr (rr [2, 0, 0, 3, 0] hS ?_)
    refine it fun w hS => lr (ir ?_)
    cases h.some
    refine rz [2] results48 hS ?_
    exact it ⟨rfl, hS.d1.d1⟩
   refine jf (RC.seq ?_)
   obtain ⟨A220, c221, A223, c224, A226, c227, A229, c230, b232, b233, A234, c235, A236, c237, b238, b239, hr222, hr225, hr228, hr231, hS⟩ := O_lane_Lane.o hS
   refine dr [0, 3, 6, 10, 15, 18, 21, 24, 28, 14, 32, 35] [10, 11] hS fun w hS => rq [0, 0, 0, 1, 0, 0, 0, 0, 1] hS ?_
   refine it ?_
   obtain ⟨t240, hg241, h⟩ := h.bind
   have hc := log_Log_Len.ok hg241 hS.p1
   refine RP.e 4 rfl (OW.callF (ls := [.tmp 45]) rfl call97 hc) rfl rfl ?_
   rintro _ w ⟨rfl, hS⟩
   refine ⟨kp ⟨fun _ => hS.p1, trivial⟩, ?_⟩
   refine rq [0, 0] hS.p1 ?_
   refine it (RP.nil (RQ.then_n ?_))
   refine RC.iteP 41 rfl h (fun hc242 h => ?_) fun hc242 h => ?_
   next =>
    refine jtr (rr [8, 0, 0, 9, 0] hS ?_)
    refine it fun w hS => lr (ir ?_)
    have hS := O_lane_Lane.c (x := a2) hr222 hr225 hr228 hr231 hS.p1
    cases h.some
    refine rz [2] results48 hS ?_
    exact it ⟨rfl, hS.d1.d1⟩
   refine jf (RC.skip (RQ.inB_n (tsr (rr [8, 9, 0] hS ?_))))
   refine it fun w hS => lr ?_
   have hS := O_lane_Lane.c (x := a2) hr222 hr225 hr228 hr231 hS.p1
   cases h.some
   refine rz [2] results48 hS ?_
   exact it ⟨rfl, hS.d1.d1⟩
 refine sr (pn 3 rfl (ln ?_))
 refine RC.iteN 16 rfl h (fun hc243 h => ?_) fun hc243 h => ?_
 next =>
  refine jf (sr (rr [0, 0, 1, 0, 0, 0] hS ?_))
  refine it fun w hS => ln ?_
  refine RC.iteP 16 rfl h (fun hc244 h => ?_) fun hc244 h => ?_
  next =>
   refine jt (RC.skip ?_)
   have hS := O_lane_Lane.c (x := a2) hr155 hr158 hr161 hr164 hS.p7.p7.p7.p7.p5.p7.p7
   exact fun a ha => ⟨_, _, rfl, h, ha.tE rfl, hS⟩
  refine jf (RC.seq (dr [0, 3, 7, 11, 14, 17, 20, 23, 26, 29] [8, 9] hS fun w hS => rq [0, 0, 1, 0, 0, 0, 0, 3, 0, 0] hS ?_))
  refine it (RP.nil (RQ.then_n ?_))
  refine RC.iteP 16 rfl h (fun hc245 h => ?_) fun hc245 h => ?_
  next =>
   refine jt (RC.skip ?_)
   have hS := O_lane_Lane.c (x := a2) hr155 hr158 hr161 hr164 hS.p7.p7.p7.p7.p5.p7.p7
   exact fun a ha => ⟨_, _, rfl, h, ha.tE rfl, hS⟩
  refine jf (RC.region (rr [0, 0, 0, 3] hS ?_))
  refine it fun w hS => cF (fun _ hg => log_Log_Stuck.ok hg hS.p3) call67 h rfl rfl rfl ?_
  rintro t246 h _ w ⟨rfl, hS⟩
  refine pn 1 rfl (RL.nil ?_)
  have hS := O_lane_Lane.c (x := a2) hr155 hr158 hr161 hr164 hS.p7.p7.p7.p7.p6.p5.p7
  exact fun a ha => ⟨_, _, rfl, h, ha.tE rfl, hS⟩
 refine jt (RC.skip ?_)
 have hS := O_lane_Lane.c (x := a2) hr155 hr158 hr161 hr164 hS.p7.p7.p7.p7.p5.p7.p7
 exact fun a ha => ⟨_, _, rfl, h, ha.tE rfl, hS⟩
def lane_refusal_Unwrap.f (a1 : lane_refusal) : Option (Int) := some a1.why
theorem lane_refusal_Unwrap.ok {a1 : lane_refusal} {r : Int} (h : lane_refusal_Unwrap.f a1 = some r) (hS : St B w (l) hf) :
   Calls prog 191 #[.agg #[iV a1.why]] w (Ret fun v w => v = .iface 29 (iV r) ∧ St B w (l) hf) := by
 have h := Holds.of h
 refine en func191 rfl ntmps191 rfl (sr (rr [0, 0] hS ?_))
 refine fun b3 => it fun w hS => lnsr (rr [0, 1, 0, 0] hS ?_)
 refine it fun w hS => lr ?_
 cases h.some
 exact rt results191 rfl ⟨rfl, hS.d0⟩
def errors_is_5.f (a1 : lane_refusal) (a2 : Int) (a3 : Bool) : Option (Bool) := (if a3 = true then ((lane_refusal_Unwrap.f a1).bind fun t14 => (if t14 = a2 then some true else some false)) else ((lane_refusal_Unwrap.f a1).bind fun t18 => some false))
theorem errors_is_5.ok {a1 : lane_refusal} {a2 : Int} {a3 r : Bool} (h : errors_is_5.f a1 a2 a3 = some r) (hS : St B w (l) hf) :
   Calls prog 92 #[.iface 179 (.agg #[iV a1.why]), .iface 29 (iV a2), .bool a3] w (Ret fun v w => v = .bool r ∧ St B w (l) hf) := by
 have h := Holds.of h
 refine en func92 rfl ntmps92 rfl (sr (pn 1 rfl (ln (RC.block (RC.unroll (RQ.round (RC.block (RC.seq (sr (pn 2 rfl ?_))))))))))
 refine RL.iteB 15 rfl h (fun hc13 h => ?_) fun hc13 h => ?_
 next =>
  refine pn 2 rfl (RL.sg (Vl.ifaceNeq rfl rfl underlying108 rfl) rfl rfl (pn 1 rfl (ln (jfs (RC.seq (sr (pn 1 rfl (tno underlying227 rfl rfl (pn 5 rfl (ln ?_))))))))))
  refine sr (pn 6 rfl (ln (jfs (sr (pn 1 rfl (ln (RC.block (sr ?_))))))))
  refine tys underlying222 rfl rfl (pn 2 rfl (ln (jtr (pn 1 rfl (lnsr (pn 1 rfl ?_))))))
  obtain ⟨t14, hg15, h⟩ := h.bind
  have hc := lane_refusal_Unwrap.ok hg15 hS
  refine RL.e (OW.invoke (F := 191) (u' := .agg #[iV a1.why]) (ls := []) rfl rfl (fun w => by kernel_rfl) call191 rfl hc) rfl rfl ?_
  rintro _ w ⟨rfl, hS⟩
  refine pn 1 rfl (lnsr (pn 1 rfl (RL.s (Vl.bn false rfl rfl) rfl (ln (jf (RC.skip (RQ.inB_n (RQ.inB_n (RQ.then_n (RQ.round (RC.block ?_)))))))))))
  refine RC.seq (sr (pn 2 rfl (RL.re 15 rfl (congrArg Value.bool (id hc13)) (pn 2 rfl (RL.sg (Vl.ifaceInt rfl rfl underlying108 underlying29 type29 rfl) rfl rfl (pn 1 rfl (ln ?_)))))))
  refine RC.iteP 19 rfl h (fun hc17 h => ?_) fun hc17 h => ?_
  next =>
   refine jtr (pn 1 rfl (lr (RQ.ret (ir (RQ.inB_ret ?_)))))
   obtain rfl := h.some
   exact rt results92 rfl ⟨rfl, hS⟩
  refine jfs (RC.seq (sr (pn 1 rfl (tno underlying227 rfl rfl (pn 5 rfl (lnsr (pn 6 rfl (ln ?_))))))))
  refine jfs (sr (pn 1 rfl (ln (RC.block (sr (tno underlying222 rfl rfl (pn 2 rfl (ln (jf ?_)))))))))
  refine sr (tno underlying224 rfl rfl (pn 2 rfl (ln (jf (sr (pn 1 rfl (lnsr (pn 1 rfl (RL.nil ?_)))))))))
  refine tr (RQ.inB_ret (ir (RQ.inB_ret ?_)))
  obtain rfl := h.some
  exact rt results92 rfl ⟨rfl, hS⟩
 refine pn 4 rfl (ln (jfs (RC.seq (sr (pn 1 rfl (tno underlying227 rfl rfl (pn 5 rfl (lnsr ?_))))))))
 refine pn 6 rfl (ln (jfs (sr (pn 1 rfl (ln (RC.block (sr (tys underlying222 rfl rfl (pn 2 rfl ?_)))))))))
 refine ln (jtr (pn 1 rfl (lnsr (pn 1 rfl ?_))))
 obtain ⟨t18, hg19, h⟩ := h.bind
 have hc := lane_refusal_Unwrap.ok hg19 hS
 refine RL.e (OW.invoke (F := 191) (u' := .agg #[iV a1.why]) (ls := []) rfl rfl (fun w => by kernel_rfl) call191 rfl hc) rfl rfl ?_
 rintro _ w ⟨rfl, hS⟩
 refine pn 1 rfl (lnsr (pn 1 rfl (RL.s (Vl.bn false rfl rfl) rfl (ln (jf (RC.skip (RQ.inB_n (RQ.inB_n (RQ.then_n (RQ.round (RC.block ?_)))))))))))
 refine RC.seq (sr (pn 2 rfl (RL.re 15 rfl (congrArg Value.bool (eq_false_of hc13)) (pn 4 rfl (ln (jfs (RC.seq (sr (pn 1 rfl (tno underlying227 rfl rfl ?_))))))))))
 refine pn 5 rfl (lnsr (pn 6 rfl (ln (jfs (sr (pn 1 rfl (ln ?_)))))))
 refine RC.block (sr (tno underlying222 rfl rfl (pn 2 rfl (ln (jf (sr (tno underlying224 rfl rfl (pn 2 rfl (ln (jf (RC.seq ?_)))))))))))
 refine RC.region (pn 1 rfl (lnsr (pn 1 rfl (lr (RQ.inB_ret (ir (RQ.inB_ret ?_)))))))
 obtain rfl := h.some
 exact rt results92 rfl ⟨rfl, hS⟩
def errors_Is_6.f (a1 : lane_refusal) (a2 : Int) : Option (Bool) := ((errors_is_5.f a1 a2 true).bind fun t5 => some t5)
theorem errors_Is_6.ok {a1 : lane_refusal} {a2 : Int} {r : Bool} (h : errors_Is_6.f a1 a2 = some r) (hS : St B w (l) hf) :
   Calls prog 44 #[.iface 179 (.agg #[iV a1.why]), .iface 29 (iV a2)] w (Ret fun v w => v = .bool r ∧ St B w (l) hf) := by
 have h := Holds.of h
 refine en func44 rfl ntmps44 rfl (sr (pn 1 rfl (ln (RC.seq (sr (pn 1 rfl (RL.s (Vl.bn false rfl rfl) rfl (pn 2 rfl (RL.sg (Vl.bn false rfl rfl) rfl rfl (pn 1 rfl (ln ?_)))))))))))
 refine jfs (sr (pn 1 rfl (RL.s (Vl.eX [.tmp 15] (.iface 215 (.agg #[.pointer (some ⟨1, 29, none⟩)])) Ex1 func91 rfl) rfl (RL.s (Vl.iX [] (.bool true) (.agg #[.pointer (some ⟨1, 29, none⟩)]) Ex7 func237 rfl rfl) rfl (pn 1 rfl (lnsr (pn 3 rfl (cF (fun _ hg => errors_is_5.ok hg hS) call92 h rfl rfl rfl ?_))))))))
 rintro t5 h _ w ⟨rfl, hS⟩
 refine pn 1 rfl (lr ?_)
 obtain rfl := h.some
 exact rt results44 rfl ⟨rfl, hS⟩
def lane_told.l2b (a1 : lane_refusal) : Int → Option ((Int) ⊕ (Int))
 | (x39) => (if x39 < 3 then (if 0 ≤ x39 then ((errors_Is_6.f a1 (nth ([180, 9, 181] : List Int) x39)).bind fun t59 => (if t59 = true then some (.inr (nth ([180, 9, 181] : List Int) x39)) else some (.inl (IntKind.i64.wrap (x39 + 1))))) else none) else some (.inr 0))
def lane_told.l2 (a1 : lane_refusal) (s : Int) : Option (Int) := loopR (lane_told.l2b a1) s
def lane_told.f (a1 : lane_refusal) : Option (Int) := lane_told.l2 a1 (0)
theorem lane_told.ok {a1 : lane_refusal} {r : Int} (h : lane_told.f a1 = some r) (hS : St B w (l) hf) :
   Calls prog 49 #[.iface 179 (.agg #[iV a1.why])] w (Ret fun v w => v = iV r ∧ St B w (l) hf) := by
 have h := Holds.of h
 refine en func49 rfl ntmps49 rfl (sr (pn 1 rfl (ln (RC.seq (sr (RL.s (Vl.build (v := .agg #[iV 180, iV 9, iV 181]) (parts := [(0, .const (iV 180)), (1, .const (iV 9)), (2, .const (iV 181))]) rfl (by kernel_rfl)) rfl (pn 1 rfl (ln (RC.block (fun a ha => lp h (fun (s : Int) a w => ∃ x39, s = (x39) ∧ Has 15 [(0, .iface 179 (.agg #[iV a1.why])), (5, .agg #[iV 180, iV 9, iV 181]), (6, iV x39)] a ∧ St B w (l) hf) ⟨_, rfl, ha.tE rfl, hS⟩ ?_))))))))))
 rintro G51 x39 a w ⟨_, rfl, ha, hS⟩ h
 refine ro ha (sr (pn 1 rfl (ln (RC.seq ?_))))
 refine RC.iteP 7 rfl h (fun hc53 h => ?_) fun hc53 h => ?_
 next =>
  refine jt (sk (RC.seq (RC.block (sr ?_))))
  obtain ⟨hq58, h⟩ := h.req
  refine RL.s (Vl.indexMap (f := (Value.int .i64)) (l := ([180, 9, 181] : List Int)) underlying180 sizeOf29 isAgg29 rfl rfl rfl hq58 hc53) rfl (pn 1 rfl (lnsr (r0 3 rfl (cF (fun _ hg => errors_Is_6.ok hg hS) call44 h rfl rfl rfl ?_))))
  rintro t59 h _ w ⟨rfl, hS⟩
  refine ln ?_
  refine RC.iteB 12 rfl h (fun hc61 h => ?_) fun hc61 h => ?_
  next =>
   refine jtr (pn 2 rfl (lr (ir ?_)))
   have h := h.inrS
   refine RQ.ret (ir ?_)
   cases h.some
   exact rt results49 rfl ⟨rfl, hS⟩
  refine jf (RC.skip (RQ.inB_n (RQ.then_n (RC.region (pn 2 rfl (RL.nil ?_))))))
  exact fun a ha => ⟨_, h.some, _, rfl, ha.tE rfl, hS⟩
 refine jf (RC.exit (RQ.exitT ?_))
 have h := h.inrS
 refine RQ.exitT (RQ.inB_hit (tsr (pn 1 rfl (lr ?_))))
 obtain rfl := h.some
 exact rt results49 rfl ⟨rfl, hS⟩
def lane_Lane_Step_1.f (a1 : lane_open) (a3 : api_Message) : Option (Bool) := ((event_One.f a1.by_ a3).bind fun t8 => some t8)
theorem lane_Lane_Step_1.ok {a1 : lane_open} {a3 : api_Message} {b2 : Nat} {r : Bool} (h : lane_Lane_Step_1.f a1 a3 = some r) (hS : St B w (Cl b2 (C_api_Message a3) 48 :: l) hf) :
   Calls prog 50 #[.agg (C_lane_open a1).toArray, pV b2] w (Ret fun v w => v = .bool r ∧ St B w (Cl b2 (C_api_Message a3) 48 :: l) hf) := by
 have h := Holds.of h
 refine en func50 rfl ntmps50 rfl (sr (rr [0, 0] hS ?_))
 refine fun b7 => it fun w hS => lnsr (rr [0, 1, 2] hS ?_)
 refine it fun w hS => cF (fun _ hg => event_One.ok hg hS) call31 h rfl rfl rfl ?_
 rintro t8 h _ w ⟨rfl, hS⟩
 refine pn 1 rfl (lr ?_)
 obtain rfl := h.some
 exact rt results50 rfl ⟨rfl, hS.d0⟩
def log_Log_may.f (a2 : log_Log) (a3 : api_Message) (a4 : Int) : Option (Int) := ((log_Log_Last.f a2).bind fun (y48, y49) => ((event_Check.f a3).bind fun t51 => (if t51 = 0 then (if a3.Anti = true then some 1 else (if a4 < 0 then some 1 else (if 1099511627776 < a4 then some 1 else (if y49 = true then ((event_Before.f y48 a3).bind fun t58 => (if t58 = true then (if a2.stuck = true then some 5 else (if 16384 ≤ (a2.l.length : Int) then some 9 else some 0)) else some 1)) else (if a2.stuck = true then some 5 else (if 16384 ≤ (a2.l.length : Int) then some 9 else some 0)))))) else some 1)))
theorem log_Log_may.ok {a2 : log_Log} {a3 : api_Message} {a4 r : Int} {b1 : Nat} (h : log_Log_may.f a2 a3 a4 = some r) (hS : St B w (O_log_Log hf a2 b1 :: l) hf) :
   Calls prog 98 #[pV b1, .agg (C_api_Message a3).toArray, iV a4] w (Ret fun v w => v = iV r ∧ St B w (O_log_Log hf a2 b1 :: l) hf) := by
 have h := Holds.of h
 refine en func98 rfl ntmps98 rfl (sr (rr [0, 0] hS ?_))
 refine fun b45 => it fun w hS => lnsr (pn 1 rfl (cF (fun _ hg => log_Log_Last.ok hg hS.p1) call61 h rfl rfl rfl ?_))
 rintro ⟨y48, y49⟩ h _ w ⟨rfl, hS⟩
 refine rr [0, 0, 0, 0, 1, 0] hS ?_
 refine fun b50 => it fun w hS => ln (RC.seq (RC.block (sr (rr [3] hS ?_))))
 refine it fun w hS => cF (fun _ hg => event_Check.ok hg hS) call29 h rfl rfl rfl ?_
 rintro t51 h _ w ⟨rfl, hS⟩
 refine pn 2 rfl ?_
 refine RL.iteN 18 rfl h (fun hc53 h => ?_) fun hc53 h => ?_
 next =>
  refine rr [0, 3, 0, 0] hS ?_
  refine it fun w hS => RL.iteB 22 rfl h (fun hc54 h => ?_) fun hc54 h => ?_
  next =>
   refine pn 17 rfl (ln (jtr (pn 1 rfl (lr (ir ?_)))))
   obtain rfl := h.some
   exact rt results98 rfl ⟨rfl, hS.d0.d1⟩
  refine pn 4 rfl ?_
  refine RL.iteP 26 rfl h (fun hc55 h => ?_) fun hc55 h => ?_
  next =>
   refine pn 13 rfl (ln (jtr (pn 1 rfl (lr (ir ?_)))))
   obtain rfl := h.some
   exact rt results98 rfl ⟨rfl, hS.d0.d1⟩
  refine pn 4 rfl ?_
  refine RL.iteP 30 rfl h (fun hc56 h => ?_) fun hc56 h => ?_
  next =>
   refine pn 9 rfl (ln (jtr (pn 1 rfl (lr (ir ?_)))))
   obtain rfl := h.some
   exact rt results98 rfl ⟨rfl, hS.d0.d1⟩
  refine pn 2 rfl ?_
  refine RL.iteB 32 rfl h (fun hc57 h => ?_) fun hc57 h => ?_
  next =>
   refine rr [1, 3] hS ?_
   refine it fun w hS => cF (fun _ hg => event_Before.ok hg hS) call62 h rfl rfl rfl ?_
   rintro t58 h _ w ⟨rfl, hS⟩
   refine pn 4 rfl (ln ?_)
   refine RC.iteM 14 rfl h (fun hc60 h => ?_) fun hc60 h => ?_
   next =>
    refine jf (sr (r0 3 rfl ?_))
    obtain ⟨A61, c62, A64, c65, A67, c68, cs69, hr63, hr66, hx70, hS⟩ := O_log_Log.o hS.p1
    refine rr [1, 0] hS ?_
    refine it fun w hS => ln ?_
    refine RC.iteB 39 rfl h (fun hc71 h => ?_) fun hc71 h => ?_
    next =>
     refine jtr (pn 1 rfl (lr (ir ?_)))
     have hS := O_log_Log.c (x := a2) hr63 hr66 hx70 hS
     obtain rfl := h.some
     exact rt results98 rfl ⟨rfl, hS.d1.d1⟩
    refine jf (sr (rr [0, 0, 0, 1, 0, 0, 0] hS ?_))
    refine it fun w hS => ln ?_
    refine RC.iteP 44 rfl h (fun hc72 h => ?_) fun hc72 h => ?_
    next =>
     refine jtr (pn 1 rfl (lr (ir ?_)))
     have hS := O_log_Log.c (x := a2) hr63 hr66 hx70 hS
     obtain rfl := h.some
     exact rt results98 rfl ⟨rfl, hS.d1.d1⟩
    refine jf (RC.skip (RQ.inB_n (tsr (pn 1 rfl (lr ?_)))))
    have hS := O_log_Log.c (x := a2) hr63 hr66 hx70 hS
    obtain rfl := h.some
    exact rt results98 rfl ⟨rfl, hS.d1.d1⟩
   refine jtr (pn 1 rfl (lr (ir ?_)))
   obtain rfl := h.some
   exact rt results98 rfl ⟨rfl, hS.d0.d1⟩
  refine pn 7 rfl (ln (jf (sr (r0 3 rfl ?_))))
  obtain ⟨A73, c74, A76, c77, A79, c80, cs81, hr75, hr78, hx82, hS⟩ := O_log_Log.o hS.p1
  refine rr [1, 0] hS ?_
  refine it fun w hS => ln ?_
  refine RC.iteB 39 rfl h (fun hc83 h => ?_) fun hc83 h => ?_
  next =>
   refine jtr (pn 1 rfl (lr (ir ?_)))
   have hS := O_log_Log.c (x := a2) hr75 hr78 hx82 hS
   obtain rfl := h.some
   exact rt results98 rfl ⟨rfl, hS.d1.d1⟩
  refine jf (sr (rr [0, 0, 0, 1, 0, 0, 0] hS ?_))
  refine it fun w hS => ln ?_
  refine RC.iteP 44 rfl h (fun hc84 h => ?_) fun hc84 h => ?_
  next =>
   refine jtr (pn 1 rfl (lr (ir ?_)))
   have hS := O_log_Log.c (x := a2) hr75 hr78 hx82 hS
   obtain rfl := h.some
   exact rt results98 rfl ⟨rfl, hS.d1.d1⟩
  refine jf (RC.skip (RQ.inB_n (tsr (pn 1 rfl (lr ?_)))))
  have hS := O_log_Log.c (x := a2) hr75 hr78 hx82 hS
  obtain rfl := h.some
  exact rt results98 rfl ⟨rfl, hS.d1.d1⟩
 refine pn 21 rfl (ln (jtr (pn 1 rfl (lr (ir ?_)))))
 obtain rfl := h.some
 exact rt results98 rfl ⟨rfl, hS.d0.d1⟩
def vm_Sends.l2b (a1 : api_World) (a8 : api_State) (a9 : api_Message) (a10 : List api_Out) (a14 : Int) : List api_Message × Int → Option ((List api_Message × Int) ⊕ (List api_Message))
 | (l134, x137) => (if x137 < (a10.length : Int) then (if 0 ≤ x137 then (if 0 ≤ (nth a10 x137).Link then (if (nth a10 x137).Link < (a1.Links.length : Int) then (if (nth a10 x137).Delay ≤ IntKind.i64.wrap (4611686018427387903 - a9.Key.Time) then (if (l134.length + 1) * 56 ≤ 140737488355328 then some (.inl ((l134 ++ ([(⟨(⟨IntKind.i64.wrap (a9.Key.Time + ((nth a10 x137).Delay)), a1.Self, IntKind.i64.wrap (a8.Sent + x137)⟩ : api_Key), (nth a1.Links ((nth a10 x137).Link)).To, (nth a10 x137).Value, IntKind.i64.wrap (a14 + x137), false⟩ : api_Message)])), IntKind.i64.wrap (x137 + 1))) else none) else some (.inl (l134, IntKind.i64.wrap (x137 + 1)))) else some (.inl (l134, IntKind.i64.wrap (x137 + 1)))) else some (.inl (l134, IntKind.i64.wrap (x137 + 1)))) else none) else some (.inr l134))
def vm_Sends.l2 (a1 : api_World) (a8 : api_State) (a9 : api_Message) (a10 : List api_Out) (a14 : Int) (s : List api_Message × Int) : Option (List api_Message) := loopR (vm_Sends.l2b a1 a8 a9 a10 a14) s
def vm_Sends.f (a1 : api_World) (a8 : api_State) (a9 : api_Message) (a10 : List api_Out) (a14 : Int) : Option (List api_Message) := vm_Sends.l2 a1 a8 a9 a10 a14 ([], 0)
theorem vm_Sends.ok {a1 : api_World} {a8 : api_State} {a9 : api_Message} {a10 : List api_Out} {a14 : Int} {A2 A5 A11 : Option Addr} {c3 c6 c12 : Nat} (hr4 : SlR E_api_Instr.rep hf A2 c3 a1.Prog) (hr7 : SlR E_api_Link.rep hf A5 c6 a1.Links) (hr13 : SlR E_api_Out.rep hf A11 c12 a10) {r : List api_Message} (h : vm_Sends.f a1 a8 a9 a10 a14 = some r) (hS : St B w (l) hf) :
   Calls prog 123 #[.agg (C_api_World a1 A2 c3 A5 c6).toArray, .agg (C_api_State a8).toArray, .agg (C_api_Message a9).toArray, sV A11 a10 c12, iV a14] w (Ret fun v w => ∃ (A_1 : Option Addr) (c_2 : Nat), v = sV A_1 r c_2 ∧ St B w (OSf E_api_Message 48 (sV A_1 r c_2) r :: l) hf) := by
 have h := Holds.of h
 refine en func123 rfl ntmps123 rfl (sr (rr [0, 0, 0, 0] hS ?_))
 refine fun b104 b105 b106 => it fun w hS => lnsr (pn 1 rfl (ln (RC.seq (sr (r0 3 rfl (RL.nil ?_))))))
 refine RQ.then_n (RC.block ?_)
 have hS := hS.nilSl E_api_Message 48
 refine fun a ha => lp h (fun (s : List api_Message × Int) a w => ∃ l134 x137, s = (l134, x137) ∧ ∃ A135 c136, Has 72 [(4, iV a14), (5, pV b104), (6, pV b105), (7, pV b106), (11, sV A135 l134 c136), (14, sV A11 a10 c12), (15, iV (a10.length : Int)), (16, iV x137)] a ∧ St B w (OSf E_api_Message 48 (sV A135 l134 c136) l134 :: Cl b106 (C_api_Message a9) 48 :: Cl b105 (C_api_State a8) 70 :: Cl b104 (C_api_World a1 A2 c3 A5 c6) 91 :: l) hf) ⟨_, _, rfl, _, _, ha.tE rfl, hS⟩ ?_
 rintro G167 _ a w ⟨l134, x137, rfl, A135, c136, ha, hS⟩ h
 refine ro ha (sr (pn 1 rfl (ln (RC.seq ?_))))
 refine RC.iteP 17 rfl h (fun hc169 h => ?_) fun hc169 h => ?_
 next =>
  refine jt (sk (RC.seq (RC.block (sr (pn 1 rfl ?_)))))
  obtain ⟨hq183, h⟩ := h.req
  refine RL.s (Vl.indexAddr underlying231 sizeOf265 rfl rfl ((hr13.2.world hS.sub).adr hq183 hc169) hq183 hc169 rfl) rfl (RL.s (Vl.loadA isAgg265 sizeOf265 rfl rfl ((hr13.2.world hS.sub).cells hq183 hc169)) rfl (rr [0, 0, 1] hS ?_))
  refine fun b184 => it fun w hS => lnsr (rr [0, 1, 0, 0] hS ?_)
  refine it fun w hS => RL.iteP 24 rfl h (fun hc185 h => ?_) fun hc185 h => ?_
  next =>
   refine rr [0, 1, 0, 5, 0, 0, 0, 0] hS ?_
   refine it fun w hS => RL.iteP 32 rfl h (fun hc186 h => ?_) fun hc186 h => ?_
   next =>
    refine rr [0, 1, 0, 0, 3, 0, 0, 0] hS ?_
    refine it fun w hS => ln ?_
    refine RC.iteP 40 rfl h (fun hc187 h => ?_) fun hc187 h => ?_
    next =>
     refine jt (dr [0, 3, 6, 10, 12, 16, 18, 21, 25, 27, 31, 33, 36, 39, 42, 46, 48, 52, 55, 57, 61, 63, 67, 69, 74, 77, 80, 83, 86, 89] [26, 27, 28, 29] hS fun w hS => rq [0, 0, 0, 3, 0, 1, 0, 0, 5, 0, 4, 0, 0, 0, 0, 5, 0, 1] hS ?_)
     refine it (RP.s 0 18 rfl rfl hS (fun w hS => Vl.indexAddr underlying23 sizeOf144 rfl rfl ((hr7.2.world hS.sub).adr hc185 hc186) hc185 hc186 rfl) rfl (RP.s0 19 rfl (fun w => Vl.fieldAddr (a'' := (ad A5).add (((nth a10 x137).Link).toNat * 4 + 1)) underlying144 rfl sizeOf3 rfl (add_add _ _ _)) rfl (RP.s 0 20 rfl rfl hS (fun w hS => Vl.load isAgg3 rfl ((hr7.2.world hS.sub).cell (j := 1) hc185 hc186 rfl)) rfl (rq [0, 1, 0, 0, 0, 0] hS ?_))))
     refine it (RP.e 27 rfl (OW.buildSlice (E := E_api_Message) (xs := [(⟨(⟨IntKind.i64.wrap (a9.Key.Time + ((nth a10 x137).Delay)), a1.Self, IntKind.i64.wrap (a8.Sent + x137)⟩ : api_Key), (nth a1.Links ((nth a10 x137).Link)).To, (nth a10 x137).Value, IntKind.i64.wrap (a14 + x137), false⟩ : api_Message)]) (cs := [iV (IntKind.i64.wrap (a9.Key.Time + ((nth a10 x137).Delay))), iV a1.Self, iV (IntKind.i64.wrap (a8.Sent + x137)), iV ((nth a1.Links ((nth a10 x137).Link)).To), iV ((nth a10 x137).Value), iV (IntKind.i64.wrap (a14 + x137)), .bool false]) hS underlying39 zeroValue48 sizeOf48 (parts := [(0, .tmp 67)]) rfl rfl (by decide) (by decide) (by kernel_rfl) rfl) rfl rfl ?_)
     rintro _ w ⟨b188, rfl, hS⟩
     refine ⟨kp ⟨(by intro hx; cases hx), trivial⟩, ?_⟩
     obtain ⟨hq189, h⟩ := h.req
     refine RP.e 28 rfl (OW.append (E := E_api_Message) (xs := l134) (ys := [(⟨(⟨IntKind.i64.wrap (a9.Key.Time + ((nth a10 x137).Delay)), a1.Self, IntKind.i64.wrap (a8.Sent + x137)⟩ : api_Key), (nth a1.Links ((nth a10 x137).Link)).To, (nth a10 x137).Value, IntKind.i64.wrap (a14 + x137), false⟩ : api_Message)]) 2 hS rfl underlying39 type48 rfl rfl rfl rfl (by decide) rfl rfl rfl (hS.slW 0 rfl).2.2.flat (by simp only [maxLen, List.length_cons, List.length_nil] at *; omega) hq189 rfl) rfl rfl ?_
     rintro v192 w hS
     obtain ⟨A190, c191, rfl, _⟩ := hS.osShape 0 rfl
     have hS : St B w (_ :: _ :: _ :: _ :: _ :: _ :: l) hf := hS
     refine ⟨kp ⟨(by intro hx; cases hx), trivial⟩, ?_⟩
     refine RP.v1 29 rfl (Vl.assign rfl) rfl rfl (RP.nil (RQ.inB_n (RQ.then_n (RC.region (pn 2 rfl (RL.nil ?_))))))
     exact fun a ha => ⟨_, h.some, _, _, rfl, _, _, ha.tE rfl, hS.d1.d1⟩
    refine jf (RC.skip (RQ.inB_n (RQ.then_n (RC.region (pn 2 rfl (RL.nil ?_))))))
    exact fun a ha => ⟨_, h.some, _, _, rfl, _, _, ha.tE rfl, hS.d0⟩
   refine pn 8 rfl (ln (jf (RC.skip (RQ.inB_n (RQ.then_n (RC.region (pn 2 rfl (RL.nil ?_))))))))
   exact fun a ha => ⟨_, h.some, _, _, rfl, _, _, ha.tE rfl, hS.d0⟩
  refine pn 16 rfl (ln (jf (RC.skip (RQ.inB_n (RQ.then_n (RC.region (pn 2 rfl (RL.nil ?_))))))))
  exact fun a ha => ⟨_, h.some, _, _, rfl, _, _, ha.tE rfl, hS.d0⟩
 refine jf (RC.exit (RQ.exitT ?_))
 have h := h.inrS
 refine RQ.exitT (RQ.inB_hit (tsr (pn 2 rfl (lr ?_))))
 obtain rfl := h.some
 exact rt results123 rfl ⟨A135, c136, rfl, hS.d1.d1.d1⟩
end
end Go.Proofs.Gx
