/-
  The walks of functions, each with what it computes: printed by wip/gx.py.
-/
import Derived.Test.YtofgeidjbfmmdaaGreatDoorW0
import Derived.Test.YtofgeidjbfmmdaaGreatDoorW4
import Derived.Test.YtofgeidjbfmmdaaGreatDoorW5
import Derived.Test.YtofgeidjbfmmdaaGreatDoorW6
set_option linter.unusedVariables false
set_option maxRecDepth 100000
set_option maxHeartbeats 4000000
namespace Go.Proofs.Gx
open Go.Sl Tryz
variable {B : Base} {w : World} {l : List HProp} {hf : Hp}
/-! ### (*isochron/vm.cpu).run: function 77 -/
noncomputable def vm_cpu_run.j14 (fn1258 : (Nat → Int)) (x1259 : Int) (l1260 : List api_Out) (x1263 : Int) : Option (((Nat → Int) × Int × List api_Out × Int) ⊕ (vm_fault × (Nat → Int) × Int × List api_Out × Int)) := ((vm_cpu_run_1.f).bind fun _ => some (.inl (fn1258, x1259, l1260, x1263)))
noncomputable def vm_cpu_run.j18 (x1405 : Int) (fn1605 : (Nat → Int)) (x1606 : Int) (l1607 : List api_Out) (x1610 : Int) : Option (((Nat → Int) × Int × List api_Out × Int × Int) ⊕ (((Nat → Int) × Int × List api_Out × Int) ⊕ (vm_fault × (Nat → Int) × Int × List api_Out × Int))) := some (.inl (fn1605, x1606, l1607, x1610, IntKind.i64.wrap (x1405 - 1)))
noncomputable def vm_cpu_run.l17b (a2 : List api_Instr) (a6 : Int) (a7 : List api_Link) (a11 a12 a13 a14 a15 a16 a17 : Int) (a18 : Bool) : (Nat → Int) × Int × List api_Out × Int × Int → Option (((Nat → Int) × Int × List api_Out × Int × Int) ⊕ (((Nat → Int) × Int × List api_Out × Int) ⊕ (vm_fault × (Nat → Int) × Int × List api_Out × Int)))
  | (fn1399, x1400, l1401, x1404, x1405) => (if 0 < x1405 then (if x1404 < (a2.length : Int) then (if 0 ≤ x1404 then (if (nth a2 x1404).Op = 0 then ((vm_cpu_halt.f a2 a6 a7 a11 a12 a13 a14 a15 a16 a17 a18 x1400 l1401 (IntKind.i64.wrap (x1404 + 1)) fn1399 (nth a2 x1404)).bind fun t1614 => vm_cpu_run.j18 x1405 fn1399 x1400 l1401 t1614) else (if (nth a2 x1404).Op = 1 then ((vm_cpu_set.f a2 a6 a7 a11 a12 a13 a14 a15 a16 a17 a18 x1400 l1401 (IntKind.i64.wrap (x1404 + 1)) fn1399 (nth a2 x1404)).bind fun t1617 => vm_cpu_run.j18 x1405 t1617 x1400 l1401 (IntKind.i64.wrap (x1404 + 1))) else (if (nth a2 x1404).Op = 2 then ((vm_cpu_move.f a2 a6 a7 a11 a12 a13 a14 a15 a16 a17 a18 x1400 l1401 (IntKind.i64.wrap (x1404 + 1)) fn1399 (nth a2 x1404)).bind fun t1620 => vm_cpu_run.j18 x1405 t1620 x1400 l1401 (IntKind.i64.wrap (x1404 + 1))) else (if (nth a2 x1404).Op = 3 then ((vm_cpu_add.f a2 a6 a7 a11 a12 a13 a14 a15 a16 a17 a18 x1400 l1401 (IntKind.i64.wrap (x1404 + 1)) fn1399 (nth a2 x1404)).bind fun t1623 => vm_cpu_run.j18 x1405 t1623 x1400 l1401 (IntKind.i64.wrap (x1404 + 1))) else (if (nth a2 x1404).Op = 4 then ((vm_cpu_sub.f a2 a6 a7 a11 a12 a13 a14 a15 a16 a17 a18 x1400 l1401 (IntKind.i64.wrap (x1404 + 1)) fn1399 (nth a2 x1404)).bind fun t1626 => vm_cpu_run.j18 x1405 t1626 x1400 l1401 (IntKind.i64.wrap (x1404 + 1))) else (if (nth a2 x1404).Op = 5 then ((vm_cpu_mul.f a2 a6 a7 a11 a12 a13 a14 a15 a16 a17 a18 x1400 l1401 (IntKind.i64.wrap (x1404 + 1)) fn1399 (nth a2 x1404)).bind fun t1629 => vm_cpu_run.j18 x1405 t1629 x1400 l1401 (IntKind.i64.wrap (x1404 + 1))) else (if (nth a2 x1404).Op = 6 then ((vm_cpu_div.f a2 a6 a7 a11 a12 a13 a14 a15 a16 a17 a18 x1400 l1401 (IntKind.i64.wrap (x1404 + 1)) fn1399 (nth a2 x1404)).bind fun t1632 => vm_cpu_run.j18 x1405 t1632 x1400 l1401 (IntKind.i64.wrap (x1404 + 1))) else (if (nth a2 x1404).Op = 7 then ((vm_cpu_mod.f a2 a6 a7 a11 a12 a13 a14 a15 a16 a17 a18 x1400 l1401 (IntKind.i64.wrap (x1404 + 1)) fn1399 (nth a2 x1404)).bind fun t1635 => vm_cpu_run.j18 x1405 t1635 x1400 l1401 (IntKind.i64.wrap (x1404 + 1))) else (if (nth a2 x1404).Op = 8 then ((vm_cpu_less.f a2 a6 a7 a11 a12 a13 a14 a15 a16 a17 a18 x1400 l1401 (IntKind.i64.wrap (x1404 + 1)) fn1399 (nth a2 x1404)).bind fun t1638 => vm_cpu_run.j18 x1405 t1638 x1400 l1401 (IntKind.i64.wrap (x1404 + 1))) else (if (nth a2 x1404).Op = 9 then ((vm_cpu_same.f a2 a6 a7 a11 a12 a13 a14 a15 a16 a17 a18 x1400 l1401 (IntKind.i64.wrap (x1404 + 1)) fn1399 (nth a2 x1404)).bind fun t1641 => vm_cpu_run.j18 x1405 t1641 x1400 l1401 (IntKind.i64.wrap (x1404 + 1))) else (if (nth a2 x1404).Op = 10 then ((vm_cpu_jump.f a2 a6 a7 a11 a12 a13 a14 a15 a16 a17 a18 x1400 l1401 (IntKind.i64.wrap (x1404 + 1)) fn1399 (nth a2 x1404)).bind fun t1644 => vm_cpu_run.j18 x1405 fn1399 x1400 l1401 t1644) else (if (nth a2 x1404).Op = 11 then ((vm_cpu_zero.f a2 a6 a7 a11 a12 a13 a14 a15 a16 a17 a18 x1400 l1401 (IntKind.i64.wrap (x1404 + 1)) fn1399 (nth a2 x1404)).bind fun t1647 => vm_cpu_run.j18 x1405 fn1399 x1400 l1401 t1647) else (if (nth a2 x1404).Op = 12 then ((vm_cpu_send.f a2 a6 a7 a11 a12 a13 a14 a15 a16 a17 a18 x1400 l1401 (IntKind.i64.wrap (x1404 + 1)) fn1399 (nth a2 x1404)).bind fun t1650 => match t1650 with | .inl y1652 => vm_cpu_run.j18 x1405 fn1399 x1400 y1652 (IntKind.i64.wrap (x1404 + 1)) | .inr (y1655) => (Option.map Sum.inr ((vm_cpu_run_1v2.f y1655).bind fun t1656 => some (.inr ((t1656, fn1399, x1400, l1401, IntKind.i64.wrap (x1404 + 1))))))) else (if (nth a2 x1404).Op = 13 then ((vm_cpu_draw.f a2 a6 a7 a11 a12 a13 a14 a15 a16 a17 a18 x1400 l1401 (IntKind.i64.wrap (x1404 + 1)) fn1399 (nth a2 x1404)).bind fun (y1664, y1665) => vm_cpu_run.j18 x1405 y1664 y1665 l1401 (IntKind.i64.wrap (x1404 + 1))) else (if (nth a2 x1404).Op = 14 then ((vm_cpu_value.f a2 a6 a7 a11 a12 a13 a14 a15 a16 a17 a18 x1400 l1401 (IntKind.i64.wrap (x1404 + 1)) fn1399 (nth a2 x1404)).bind fun t1667 => vm_cpu_run.j18 x1405 t1667 x1400 l1401 (IntKind.i64.wrap (x1404 + 1))) else (if (nth a2 x1404).Op = 15 then ((vm_cpu_time.f a2 a6 a7 a11 a12 a13 a14 a15 a16 a17 a18 x1400 l1401 (IntKind.i64.wrap (x1404 + 1)) fn1399 (nth a2 x1404)).bind fun t1670 => vm_cpu_run.j18 x1405 t1670 x1400 l1401 (IntKind.i64.wrap (x1404 + 1))) else (if (nth a2 x1404).Op = 16 then ((vm_cpu_self.f a2 a6 a7 a11 a12 a13 a14 a15 a16 a17 a18 x1400 l1401 (IntKind.i64.wrap (x1404 + 1)) fn1399 (nth a2 x1404)).bind fun t1673 => vm_cpu_run.j18 x1405 t1673 x1400 l1401 (IntKind.i64.wrap (x1404 + 1))) else none))))))))))))))))) else none) else (Option.map Sum.inr (vm_cpu_run.j14 fn1399 x1400 l1401 x1404))) else (Option.map Sum.inr (vm_cpu_run.j14 fn1399 x1400 l1401 x1404)))
noncomputable def vm_cpu_run.l17 (a2 : List api_Instr) (a6 : Int) (a7 : List api_Link) (a11 a12 a13 a14 a15 a16 a17 : Int) (a18 : Bool) (s : (Nat → Int) × Int × List api_Out × Int × Int) : Option (((Nat → Int) × Int × List api_Out × Int) ⊕ (vm_fault × (Nat → Int) × Int × List api_Out × Int)) := loopR (vm_cpu_run.l17b a2 a6 a7 a11 a12 a13 a14 a15 a16 a17 a18) s
noncomputable def vm_cpu_run.f (a2 : List api_Instr) (a6 : Int) (a7 : List api_Link) (a11 a12 a13 a14 a15 a16 a17 : Int) (a18 : Bool) (a19 : Int) (a22 : List api_Out) (a23 : Int) (fn24 : (Nat → Int)) : Option (((Nat → Int) × Int × List api_Out × Int) ⊕ (vm_fault × (Nat → Int) × Int × List api_Out × Int)) := ((vm_operators.f).bind fun _ => vm_cpu_run.l17 a2 a6 a7 a11 a12 a13 a14 a15 a16 a17 a18 (fn24, a19, a22, a23, 4096))
theorem vm_cpu_run.ok {a2 : List api_Instr} {a6 : Int} {a7 : List api_Link} {a11 a12 a13 a14 a15 a16 a17 : Int} {a18 : Bool} {a19 : Int} {a22 : List api_Out} {a23 : Int} {fn24 : (Nat → Int)} {b1 : Nat} {A3 : Option Addr} {c4 : Nat} {A8 : Option Addr} {c9 : Nat} {A20 : Option Addr} {c21 : Nat} (hr5 : SlR E_api_Instr.rep hf A3 c4 a2) (hr10 : SlR E_api_Link.rep hf A8 c9 a7) {r : ((Nat → Int) × Int × List api_Out × Int) ⊕ (vm_fault × (Nat → Int) × Int × List api_Out × Int)} (h : vm_cpu_run.f a2 a6 a7 a11 a12 a13 a14 a15 a16 a17 a18 a19 a22 a23 fn24 = some r) (hS : St B w (Cl b1 [.slice A3 a2.length c4, .int .i64 a6, .slice A8 a7.length c9, .int .u64 a11, .int .i64 a12, .int .i64 a13, .int .i64 a14, .int .i64 a15, .int .i64 a16, .int .i64 a17, .bool a18, .int .i64 (fn24 0), .int .i64 (fn24 1), .int .i64 (fn24 2), .int .i64 (fn24 3), .int .i64 (fn24 4), .int .i64 (fn24 5), .int .i64 (fn24 6), .int .i64 (fn24 7), .int .i64 (fn24 8), .int .i64 (fn24 9), .int .i64 (fn24 10), .int .i64 (fn24 11), .int .i64 (fn24 12), .int .i64 (fn24 13), .int .i64 (fn24 14), .int .i64 (fn24 15), .int .i64 a19, .slice A20 a22.length c21, .int .i64 a23] 170 :: OSf E_api_Out 176 (.slice A20 a22.length c21) a22 :: l) hf) :
    Calls prog 77 #[.pointer (some ⟨b1, 0, none⟩)] w (Ret fun v w => match (generalizing := false) r with | .inl r_ => ∃ (A_1 : Option Addr) (c_2 : Nat), v = .nilIface ∧ St B w (OSf E_api_Out 176 (.slice A_1 r_.2.2.1.length c_2) r_.2.2.1 :: Cl b1 [.slice A3 a2.length c4, .int .i64 a6, .slice A8 a7.length c9, .int .u64 a11, .int .i64 a12, .int .i64 a13, .int .i64 a14, .int .i64 a15, .int .i64 a16, .int .i64 a17, .bool a18, .int .i64 (r_.1 0), .int .i64 (r_.1 1), .int .i64 (r_.1 2), .int .i64 (r_.1 3), .int .i64 (r_.1 4), .int .i64 (r_.1 5), .int .i64 (r_.1 6), .int .i64 (r_.1 7), .int .i64 (r_.1 8), .int .i64 (r_.1 9), .int .i64 (r_.1 10), .int .i64 (r_.1 11), .int .i64 (r_.1 12), .int .i64 (r_.1 13), .int .i64 (r_.1 14), .int .i64 (r_.1 15), .int .i64 r_.2.1, .slice A_1 r_.2.2.1.length c_2, .int .i64 r_.2.2.2] 170 :: l) hf | .inr (r_) => ∃ (b_3 : Nat) (A_4 : Option Addr) (c_5 : Nat) (A_6 : Option Addr) (c_7 : Nat), v = .iface 186 (.pointer (some ⟨b_3, 0, none⟩)) ∧ St B w (Cl b_3 [.slice A_4 1 c_5] 188 :: OSl 83 1 (.slice A_4 1 c_5) 1 [.iface 173 (.agg #[.int .i64 r_.1.at_, .int .i64 r_.1.why])] :: OSf E_api_Out 176 (.slice A_6 r_.2.2.2.1.length c_7) r_.2.2.2.1 :: Cl b1 [.slice A3 a2.length c4, .int .i64 a6, .slice A8 a7.length c9, .int .u64 a11, .int .i64 a12, .int .i64 a13, .int .i64 a14, .int .i64 a15, .int .i64 a16, .int .i64 a17, .bool a18, .int .i64 (r_.2.1 0), .int .i64 (r_.2.1 1), .int .i64 (r_.2.1 2), .int .i64 (r_.2.1 3), .int .i64 (r_.2.1 4), .int .i64 (r_.2.1 5), .int .i64 (r_.2.1 6), .int .i64 (r_.2.1 7), .int .i64 (r_.2.1 8), .int .i64 (r_.2.1 9), .int .i64 (r_.2.1 10), .int .i64 (r_.2.1 11), .int .i64 (r_.2.1 12), .int .i64 (r_.2.1 13), .int .i64 (r_.2.1 14), .int .i64 (r_.2.1 15), .int .i64 r_.2.2.1, .slice A_6 r_.2.2.2.1.length c_7, .int .i64 r_.2.2.2.2] 170 :: l) hf) := by
  have h := Holds.of h
  refine enterD (args := [.pointer (some ⟨b1, 0, none⟩)]) func77 rfl ntmps77 (Nat.le_of_ble_eq_true rfl) (sr (al hS zeroValue83 rfl rfl rfl fun b850 w hS => lnsr (RL.s (Vl.makeFunc (fi := []) (ca := [.tmp 2]) rfl rfl) rfl (RL.defer rfl (lnsr (cF (fun _ hg => vm_operators.ok hg hS) call93 h rfl rfl rfl ?_))))))
  rintro _ h _ w ⟨b853, rfl, hS⟩
  refine pn 1 rfl (ln ?_)
  refine RC.join (fun (s : (Nat → Int) × Int × List api_Out × Int) a w => ∃ (fn1258 : (Nat → Int)) (x1259 : Int) (l1260 : List api_Out) (x1263 : Int), s = (fn1258, x1259, l1260, x1263) ∧ ∃ (A1261 : Option Addr) (c1262 : Nat), Has ⟨50, [⟨.fn (.func 92) #[.pointer (some ⟨b850, 0, none⟩)], #[]⟩], true⟩ [(2, .pointer (some ⟨b850, 0, none⟩))] a ∧ St B w (OSf E_api_Out 176 (.slice A1261 l1260.length c1262) l1260 :: Cl b850 [.nilIface] 83 :: Cl b1 [.slice A3 a2.length c4, .int .i64 a6, .slice A8 a7.length c9, .int .u64 a11, .int .i64 a12, .int .i64 a13, .int .i64 a14, .int .i64 a15, .int .i64 a16, .int .i64 a17, .bool a18, .int .i64 (fn1258 0), .int .i64 (fn1258 1), .int .i64 (fn1258 2), .int .i64 (fn1258 3), .int .i64 (fn1258 4), .int .i64 (fn1258 5), .int .i64 (fn1258 6), .int .i64 (fn1258 7), .int .i64 (fn1258 8), .int .i64 (fn1258 9), .int .i64 (fn1258 10), .int .i64 (fn1258 11), .int .i64 (fn1258 12), .int .i64 (fn1258 13), .int .i64 (fn1258 14), .int .i64 (fn1258 15), .int .i64 x1259, .slice A1261 l1260.length c1262, .int .i64 x1263] 170 :: l) hf ∧ Holds (· = r) (vm_cpu_run.j14 fn1258 x1259 l1260 x1263)) ?_ ?_
  · rintro _ a w ⟨fn1258, x1259, l1260, x1263, rfl, A1261, c1262, ha, hS, h⟩
    revert a
    show RC _ _ _ _ _ _
    refine sr (RL.e0 (OW.store (vs := [.nilIface]) 1 hS rfl rfl rfl rfl sizeOf83 rfl rfl rfl rfl) rfl ?_)
    rintro _ w ⟨rfl, hS⟩
    have hS : St B w (_ :: Cl _ [_] _ :: _ :: l) hf := hS
    refine lr ?_
    obtain ⟨t1264, hg1265, h⟩ := h.bind
    obtain rfl := h.some
    refine RQ.deferRet results77 (fun w => by kernel_rfl) (vm_cpu_run_1.ok hg1265 hS.p1) ?_
    rintro _ w ⟨rfl, hS⟩
    have hS : St B w (_ :: _ :: _ :: l) hf := hS
    exact ⟨[.nilIface], ⟨⟨_, rfl, run_loadVar1 isAgg83 (hS.cell 0 rfl rfl)⟩, trivial⟩, ⟨A1261, c1262, rfl, hS.d0⟩⟩
  · refine RC.seq ?_
    refine RC.region (pn 1 rfl (ln (RC.block ?_)))
    refine fun a ha => RC.loop (N := ⟨50, [⟨.fn (.func 92) #[.pointer (some ⟨b850, 0, none⟩)], #[]⟩], true⟩) (body := (vm_cpu_run.l17b a2 a6 a7 a11 a12 a13 a14 a15 a16 a17 a18)) (φ := (· = r)) (fun (s : (Nat → Int) × Int × List api_Out × Int × Int) a w => ∃ (fn1399 : (Nat → Int)) (x1400 : Int) (l1401 : List api_Out) (x1404 : Int) (x1405 : Int), s = (fn1399, x1400, l1401, x1404, x1405) ∧ ∃ (A1402 : Option Addr) (c1403 : Nat), Has ⟨50, [⟨.fn (.func 92) #[.pointer (some ⟨b850, 0, none⟩)], #[]⟩], true⟩ [(0, .pointer (some ⟨b1, 0, none⟩)), (2, .pointer (some ⟨b850, 0, none⟩)), (3, .map (some b853)), (4, .int .i64 x1405)] a ∧ St B w (OSf E_api_Out 176 (.slice A1402 l1401.length c1403) l1401 :: MapL b853 [({ key := .int .i64 0, val := .func (.func 100) #[] #[], born := 0 } : MapEntry), ({ key := .int .i64 1, val := .func (.func 101) #[] #[], born := 1 } : MapEntry), ({ key := .int .i64 2, val := .func (.func 102) #[] #[], born := 2 } : MapEntry), ({ key := .int .i64 3, val := .func (.func 103) #[] #[], born := 3 } : MapEntry), ({ key := .int .i64 4, val := .func (.func 104) #[] #[], born := 4 } : MapEntry), ({ key := .int .i64 5, val := .func (.func 105) #[] #[], born := 5 } : MapEntry), ({ key := .int .i64 6, val := .func (.func 106) #[] #[], born := 6 } : MapEntry), ({ key := .int .i64 7, val := .func (.func 107) #[] #[], born := 7 } : MapEntry), ({ key := .int .i64 8, val := .func (.func 108) #[] #[], born := 8 } : MapEntry), ({ key := .int .i64 9, val := .func (.func 109) #[] #[], born := 9 } : MapEntry), ({ key := .int .i64 10, val := .func (.func 110) #[] #[], born := 10 } : MapEntry), ({ key := .int .i64 11, val := .func (.func 111) #[] #[], born := 11 } : MapEntry), ({ key := .int .i64 12, val := .func (.func 112) #[] #[], born := 12 } : MapEntry), ({ key := .int .i64 13, val := .func (.func 113) #[] #[], born := 13 } : MapEntry), ({ key := .int .i64 14, val := .func (.func 114) #[] #[], born := 14 } : MapEntry), ({ key := .int .i64 15, val := .func (.func 115) #[] #[], born := 15 } : MapEntry), ({ key := .int .i64 16, val := .func (.func 116) #[] #[], born := 16 } : MapEntry)] 17 :: Cl b850 [.nilIface] 83 :: Cl b1 [.slice A3 a2.length c4, .int .i64 a6, .slice A8 a7.length c9, .int .u64 a11, .int .i64 a12, .int .i64 a13, .int .i64 a14, .int .i64 a15, .int .i64 a16, .int .i64 a17, .bool a18, .int .i64 (fn1399 0), .int .i64 (fn1399 1), .int .i64 (fn1399 2), .int .i64 (fn1399 3), .int .i64 (fn1399 4), .int .i64 (fn1399 5), .int .i64 (fn1399 6), .int .i64 (fn1399 7), .int .i64 (fn1399 8), .int .i64 (fn1399 9), .int .i64 (fn1399 10), .int .i64 (fn1399 11), .int .i64 (fn1399 12), .int .i64 (fn1399 13), .int .i64 (fn1399 14), .int .i64 (fn1399 15), .int .i64 x1400, .slice A1402 l1401.length c1403, .int .i64 x1404] 170 :: l) hf) ?_ (s0 := (fn24, a19, a22, a23, 4096)) h ⟨fn24, a19, a22, a23, 4096, rfl, A20, c21, ha.to ⟨rfl, rfl, rfl, rfl, trivial⟩, hS.p3⟩
    rintro G1541 _ a w ⟨fn1399, x1400, l1401, x1404, x1405, rfl, A1402, c1403, ha, hS⟩ h
    revert a
    show RC _ _ _ _ _ _
    refine RC.seq (RC.seq (RC.noPan (RC.planS (plD [0, 3, 6, 9, 12, 15, 19, 23, 26, 29, 32, 35, 38, 41, 44]) [13, 14] hS (fun w hS => hS) follows rfl (by kernel_rfl) NoTmp.noPan fun w hS => pp 3 rfl ?_)))
    refine RP.iteP 10 rfl h (fun hc1544 h => ?_) fun hc1544 h => ?_
    next =>
     refine pp 2 rfl (RP.sg0 5 rfl (fun w => Vl.fa 29 underlying170 rfl sizeOf3 rfl rfl) rfl rfl (RP.sg 0 6 rfl rfl hS (fun w hS => Vl.ld 3 hS isAgg3 rfl rfl rfl) rfl rfl (RP.v1 7 rfl (Vl.move rfl) rfl rfl (RP.v1 8 rfl (Vl.nilCheck rfl) rfl rfl (RP.v1 9 rfl (Vl.fa 0 underlying170 rfl sizeOf124 rfl rfl) rfl rfl (RP.v1 10 rfl (Vl.fa 0 underlying124 rfl sizeOf100 rfl rfl) rfl rfl (RP.v1 11 rfl (Vl.ld 3 hS isAgg100 rfl rfl rfl) rfl rfl (RP.v1 12 rfl (Vl.lenSl underlying100 rfl) rfl rfl (RP.v1 13 rfl (Vl.int rfl rfl rfl) rfl rfl (RP.v1 14 rfl (Vl.pickT rfl rfl) rfl rfl (RP.nil (RQ.noPan_n (RQ.then_n ?_)))))))))))))
     refine RC.iteP 22 rfl h (fun hc1545 h => ?_) fun hc1545 h => ?_
     next =>
      refine RC.condT rfl (sk ?_)
      refine RC.join (fun (s : (Nat → Int) × Int × List api_Out × Int) a w => ∃ (fn1605 : (Nat → Int)) (x1606 : Int) (l1607 : List api_Out) (x1610 : Int), s = (fn1605, x1606, l1607, x1610) ∧ ∃ (A1608 : Option Addr) (c1609 : Nat), Has ⟨50, [⟨.fn (.func 92) #[.pointer (some ⟨b850, 0, none⟩)], #[]⟩], true⟩ [(0, .pointer (some ⟨b1, 0, none⟩)), (2, .pointer (some ⟨b850, 0, none⟩)), (3, .map (some b853)), (4, .int .i64 x1405), (11, .pointer (some ⟨b1, 0, none⟩)), (12, .pointer (some ⟨b1, 0, none⟩)), (13, .pointer (some ⟨b1, 29, none⟩)), (14, .int .i64 x1404), (15, .pointer (some ⟨b1, 0, none⟩)), (16, .pointer (some ⟨b1, 0, none⟩)), (17, .pointer (some ⟨b1, 0, none⟩)), (18, .pointer (some ⟨b1, 0, none⟩)), (19, .slice A3 a2.length c4), (20, .int .i64 (a2.length : Int)), (21, .bool (decide (x1404 < (a2.length : Int))))] a ∧ St B w (OSf E_api_Out 176 (.slice A1608 l1607.length c1609) l1607 :: Cl b1 [.slice A3 a2.length c4, .int .i64 a6, .slice A8 a7.length c9, .int .u64 a11, .int .i64 a12, .int .i64 a13, .int .i64 a14, .int .i64 a15, .int .i64 a16, .int .i64 a17, .bool a18, .int .i64 (fn1605 0), .int .i64 (fn1605 1), .int .i64 (fn1605 2), .int .i64 (fn1605 3), .int .i64 (fn1605 4), .int .i64 (fn1605 5), .int .i64 (fn1605 6), .int .i64 (fn1605 7), .int .i64 (fn1605 8), .int .i64 (fn1605 9), .int .i64 (fn1605 10), .int .i64 (fn1605 11), .int .i64 (fn1605 12), .int .i64 (fn1605 13), .int .i64 (fn1605 14), .int .i64 (fn1605 15), .int .i64 x1606, .slice A1608 l1607.length c1609, .int .i64 x1610] 170 :: MapL b853 [({ key := .int .i64 0, val := .func (.func 100) #[] #[], born := 0 } : MapEntry), ({ key := .int .i64 1, val := .func (.func 101) #[] #[], born := 1 } : MapEntry), ({ key := .int .i64 2, val := .func (.func 102) #[] #[], born := 2 } : MapEntry), ({ key := .int .i64 3, val := .func (.func 103) #[] #[], born := 3 } : MapEntry), ({ key := .int .i64 4, val := .func (.func 104) #[] #[], born := 4 } : MapEntry), ({ key := .int .i64 5, val := .func (.func 105) #[] #[], born := 5 } : MapEntry), ({ key := .int .i64 6, val := .func (.func 106) #[] #[], born := 6 } : MapEntry), ({ key := .int .i64 7, val := .func (.func 107) #[] #[], born := 7 } : MapEntry), ({ key := .int .i64 8, val := .func (.func 108) #[] #[], born := 8 } : MapEntry), ({ key := .int .i64 9, val := .func (.func 109) #[] #[], born := 9 } : MapEntry), ({ key := .int .i64 10, val := .func (.func 110) #[] #[], born := 10 } : MapEntry), ({ key := .int .i64 11, val := .func (.func 111) #[] #[], born := 11 } : MapEntry), ({ key := .int .i64 12, val := .func (.func 112) #[] #[], born := 12 } : MapEntry), ({ key := .int .i64 13, val := .func (.func 113) #[] #[], born := 13 } : MapEntry), ({ key := .int .i64 14, val := .func (.func 114) #[] #[], born := 14 } : MapEntry), ({ key := .int .i64 15, val := .func (.func 115) #[] #[], born := 15 } : MapEntry), ({ key := .int .i64 16, val := .func (.func 116) #[] #[], born := 16 } : MapEntry)] 17 :: Cl b850 [.nilIface] 83 :: l) hf ∧ Holds (Sum.elim G1541 (· = r)) (vm_cpu_run.j18 x1405 fn1605 x1606 l1607 x1610)) ?_ ?_
      · rintro _ a w ⟨fn1605, x1606, l1607, x1610, rfl, A1608, c1609, ha, hS, h⟩
        revert a
        show RC _ _ _ _ _ _
        refine RC.region (pn 3 rfl (RL.nil ?_))
        exact fun a ha => ⟨(fn1605, x1606, l1607, x1610, IntKind.i64.wrap (x1405 - 1)), ⟨fn1605, x1606, l1607, x1610, (IntKind.i64.wrap (x1405 - 1)), rfl, A1608, c1609, ha.to ⟨rfl, rfl, rfl, rfl, trivial⟩, hS.p3.p3.p2⟩, h.some⟩
      · refine RC.block ?_
        refine RC.seq (RC.noPan (RC.planS (plD [0, 3, 6, 9, 13, 15, 18, 21, 25, 28, 31, 35, 38]) [12] hS (fun w hS => hS) follows rfl (by kernel_rfl) NoTmp.noPan fun w hS => pp 2 rfl (RP.s0 2 rfl (fun w => Vl.fa 0 underlying170 rfl sizeOf124 rfl rfl) rfl (RP.s0 3 rfl (fun w => Vl.fa 0 underlying124 rfl sizeOf100 rfl rfl) rfl (RP.s 0 4 rfl rfl hS (fun w hS => Vl.ld 3 hS isAgg100 rfl rfl rfl) rfl (pp 2 rfl (RP.s0 7 rfl (fun w => Vl.fa 29 underlying170 rfl sizeOf3 rfl rfl) rfl (RP.s 0 8 rfl rfl hS (fun w hS => Vl.ld 3 hS isAgg3 rfl rfl rfl) rfl ?_))))))))
        obtain ⟨hq1611, h⟩ := h.req
        refine RP.s 0 9 rfl rfl hS (fun w hS => Vl.indexAddr underlying100 sizeOf134 rfl rfl ((hr5.2.world hS.sub).adr hq1611 hc1545) hq1611 hc1545 rfl) rfl (RP.s 0 10 rfl rfl hS (fun w hS => Vl.loadA isAgg134 sizeOf134 rfl rfl ((hr5.2.world hS.sub).cells hq1611 hc1545)) rfl (RP.e 11 rfl (OW.alloc (cs := [.int .i64 0, .int .i64 0, .int .i64 0, .int .i64 0]) hS zeroValue134 rfl) rfl rfl ?_))
        rintro _ w ⟨b1612, rfl, hS⟩
        refine ⟨kp ⟨fun _ => hS.d0, trivial⟩, ?_⟩
        refine RP.e0 12 rfl (OW.store (vs := [.int .i64 ((nth a2 x1404).Op), .int .i64 ((nth a2 x1404).A), .int .i64 ((nth a2 x1404).B), .int .i64 ((nth a2 x1404).C)]) 0 hS rfl rfl rfl rfl sizeOf134 rfl rfl rfl rfl) rfl ?_
        rintro _ w ⟨rfl, hS⟩
        have hS : St B w (Cl _ [_, _, _, _] _ :: _ :: _ :: _ :: _ :: l) hf := hS
        refine ⟨kp ⟨(by intro hx; cases hx), trivial⟩, ?_⟩
        refine RP.nil (RQ.noPan_n (tsr (pn 2 rfl (RL.s (Vl.fa 29 underlying170 rfl sizeOf3 rfl rfl) rfl (RL.s (Vl.ld 4 hS isAgg3 rfl rfl rfl) rfl (pn 2 rfl (RL.s (Vl.fa 29 underlying170 rfl sizeOf3 rfl rfl) rfl (RL.e0 (OW.store (vs := [.int .i64 (IntKind.i64.wrap (x1404 + 1))]) 4 hS rfl rfl rfl rfl sizeOf3 rfl rfl rfl rfl) rfl ?_))))))))
        rintro _ w ⟨rfl, hS⟩
        have hS : St B w (_ :: _ :: _ :: _ :: Cl b1 [.slice A3 a2.length c4, .int .i64 a6, .slice A8 a7.length c9, .int .u64 a11, .int .i64 a12, .int .i64 a13, .int .i64 a14, .int .i64 a15, .int .i64 a16, .int .i64 a17, .bool a18, .int .i64 (fn1399 0), .int .i64 (fn1399 1), .int .i64 (fn1399 2), .int .i64 (fn1399 3), .int .i64 (fn1399 4), .int .i64 (fn1399 5), .int .i64 (fn1399 6), .int .i64 (fn1399 7), .int .i64 (fn1399 8), .int .i64 (fn1399 9), .int .i64 (fn1399 10), .int .i64 (fn1399 11), .int .i64 (fn1399 12), .int .i64 (fn1399 13), .int .i64 (fn1399 14), .int .i64 (fn1399 15), .int .i64 x1400, .slice A1402 l1401.length c1403, .int .i64 (IntKind.i64.wrap (x1404 + 1))] 170 :: l) hf := hS
        refine ln (RC.region (pn 1 rfl (RL.s (Vl.fa 0 underlying134 rfl sizeOf3 rfl rfl) rfl (RL.s (Vl.ld 0 hS isAgg3 rfl rfl rfl) rfl ?_))))
        by_cases hc1613 : (nth a2 x1404).Op = 0
        case pos =>
         have h := h.pos hc1613
         refine RL.s (Vl.lookupL (n' := 0) (j := 0) (v := .func (.func 100) #[] #[]) 2 hS rfl underlying193 underlying3 rfl rfl hc1613 rfl) rfl (pn 1 rfl (RL.s (Vl.lw 0 hS isAgg134 sizeOf134 rfl rfl rfl) rfl ?_))
         obtain ⟨t1614, hg1615, h⟩ := h.bind
         have hc := vm_cpu_halt.ok hr5 hr10 hg1615 hS.p1.p4
         refine RL.e (OW.call (ls := [.tmp 47, .tmp 48]) rfl rfl call100 rfl hc) rfl rfl ?_
         rintro _ w ⟨rfl, hS⟩
         refine RL.nil (RQ.inB_n ?_)
         exact fun a ha => ⟨(fn1399, x1400, l1401, t1614), fn1399, x1400, l1401, t1614, rfl, A1402, c1403, ha.to ⟨rfl, rfl, rfl, rfl, rfl, rfl, rfl, rfl, rfl, rfl, rfl, rfl, rfl, rfl, rfl, trivial⟩, hS.d2.p1, h⟩
        case neg =>
         have h := h.neg hc1613
         by_cases hc1616 : (nth a2 x1404).Op = 1
         case pos =>
          have h := h.pos hc1616
          refine RL.s (Vl.lookupL (n' := 1) (j := 1) (v := .func (.func 101) #[] #[]) 2 hS rfl underlying193 underlying3 rfl rfl hc1616 rfl) rfl (pn 1 rfl (RL.s (Vl.lw 0 hS isAgg134 sizeOf134 rfl rfl rfl) rfl ?_))
          obtain ⟨t1617, hg1618, h⟩ := h.bind
          have hc := vm_cpu_set.ok hr5 hr10 hg1618 hS.p1.p4
          refine RL.e (OW.call (ls := [.tmp 47, .tmp 48]) rfl rfl call101 rfl hc) rfl rfl ?_
          rintro _ w ⟨rfl, hS⟩
          refine RL.nil (RQ.inB_n ?_)
          exact fun a ha => ⟨(t1617, x1400, l1401, IntKind.i64.wrap (x1404 + 1)), t1617, x1400, l1401, (IntKind.i64.wrap (x1404 + 1)), rfl, A1402, c1403, ha.to ⟨rfl, rfl, rfl, rfl, rfl, rfl, rfl, rfl, rfl, rfl, rfl, rfl, rfl, rfl, rfl, trivial⟩, hS.d2.p1, h⟩
         case neg =>
          have h := h.neg hc1616
          by_cases hc1619 : (nth a2 x1404).Op = 2
          case pos =>
           have h := h.pos hc1619
           refine RL.s (Vl.lookupL (n' := 2) (j := 2) (v := .func (.func 102) #[] #[]) 2 hS rfl underlying193 underlying3 rfl rfl hc1619 rfl) rfl (pn 1 rfl (RL.s (Vl.lw 0 hS isAgg134 sizeOf134 rfl rfl rfl) rfl ?_))
           obtain ⟨t1620, hg1621, h⟩ := h.bind
           have hc := vm_cpu_move.ok hr5 hr10 hg1621 hS.p1.p4
           refine RL.e (OW.call (ls := [.tmp 47, .tmp 48]) rfl rfl call102 rfl hc) rfl rfl ?_
           rintro _ w ⟨rfl, hS⟩
           refine RL.nil (RQ.inB_n ?_)
           exact fun a ha => ⟨(t1620, x1400, l1401, IntKind.i64.wrap (x1404 + 1)), t1620, x1400, l1401, (IntKind.i64.wrap (x1404 + 1)), rfl, A1402, c1403, ha.to ⟨rfl, rfl, rfl, rfl, rfl, rfl, rfl, rfl, rfl, rfl, rfl, rfl, rfl, rfl, rfl, trivial⟩, hS.d2.p1, h⟩
          case neg =>
           have h := h.neg hc1619
           by_cases hc1622 : (nth a2 x1404).Op = 3
           case pos =>
            have h := h.pos hc1622
            refine RL.s (Vl.lookupL (n' := 3) (j := 3) (v := .func (.func 103) #[] #[]) 2 hS rfl underlying193 underlying3 rfl rfl hc1622 rfl) rfl (pn 1 rfl (RL.s (Vl.lw 0 hS isAgg134 sizeOf134 rfl rfl rfl) rfl ?_))
            obtain ⟨t1623, hg1624, h⟩ := h.bind
            have hc := vm_cpu_add.ok hr5 hr10 hg1624 hS.p1.p4
            refine RL.e (OW.call (ls := [.tmp 47, .tmp 48]) rfl rfl call103 rfl hc) rfl rfl ?_
            rintro _ w ⟨rfl, hS⟩
            refine RL.nil (RQ.inB_n ?_)
            exact fun a ha => ⟨(t1623, x1400, l1401, IntKind.i64.wrap (x1404 + 1)), t1623, x1400, l1401, (IntKind.i64.wrap (x1404 + 1)), rfl, A1402, c1403, ha.to ⟨rfl, rfl, rfl, rfl, rfl, rfl, rfl, rfl, rfl, rfl, rfl, rfl, rfl, rfl, rfl, trivial⟩, hS.d2.p1, h⟩
           case neg =>
            have h := h.neg hc1622
            by_cases hc1625 : (nth a2 x1404).Op = 4
            case pos =>
             have h := h.pos hc1625
             refine RL.s (Vl.lookupL (n' := 4) (j := 4) (v := .func (.func 104) #[] #[]) 2 hS rfl underlying193 underlying3 rfl rfl hc1625 rfl) rfl (pn 1 rfl (RL.s (Vl.lw 0 hS isAgg134 sizeOf134 rfl rfl rfl) rfl ?_))
             obtain ⟨t1626, hg1627, h⟩ := h.bind
             have hc := vm_cpu_sub.ok hr5 hr10 hg1627 hS.p1.p4
             refine RL.e (OW.call (ls := [.tmp 47, .tmp 48]) rfl rfl call104 rfl hc) rfl rfl ?_
             rintro _ w ⟨rfl, hS⟩
             refine RL.nil (RQ.inB_n ?_)
             exact fun a ha => ⟨(t1626, x1400, l1401, IntKind.i64.wrap (x1404 + 1)), t1626, x1400, l1401, (IntKind.i64.wrap (x1404 + 1)), rfl, A1402, c1403, ha.to ⟨rfl, rfl, rfl, rfl, rfl, rfl, rfl, rfl, rfl, rfl, rfl, rfl, rfl, rfl, rfl, trivial⟩, hS.d2.p1, h⟩
            case neg =>
             have h := h.neg hc1625
             by_cases hc1628 : (nth a2 x1404).Op = 5
             case pos =>
              have h := h.pos hc1628
              refine RL.s (Vl.lookupL (n' := 5) (j := 5) (v := .func (.func 105) #[] #[]) 2 hS rfl underlying193 underlying3 rfl rfl hc1628 rfl) rfl (pn 1 rfl (RL.s (Vl.lw 0 hS isAgg134 sizeOf134 rfl rfl rfl) rfl ?_))
              obtain ⟨t1629, hg1630, h⟩ := h.bind
              have hc := vm_cpu_mul.ok hr5 hr10 hg1630 hS.p1.p4
              refine RL.e (OW.call (ls := [.tmp 47, .tmp 48]) rfl rfl call105 rfl hc) rfl rfl ?_
              rintro _ w ⟨rfl, hS⟩
              refine RL.nil (RQ.inB_n ?_)
              exact fun a ha => ⟨(t1629, x1400, l1401, IntKind.i64.wrap (x1404 + 1)), t1629, x1400, l1401, (IntKind.i64.wrap (x1404 + 1)), rfl, A1402, c1403, ha.to ⟨rfl, rfl, rfl, rfl, rfl, rfl, rfl, rfl, rfl, rfl, rfl, rfl, rfl, rfl, rfl, trivial⟩, hS.d2.p1, h⟩
             case neg =>
              have h := h.neg hc1628
              by_cases hc1631 : (nth a2 x1404).Op = 6
              case pos =>
               have h := h.pos hc1631
               refine RL.s (Vl.lookupL (n' := 6) (j := 6) (v := .func (.func 106) #[] #[]) 2 hS rfl underlying193 underlying3 rfl rfl hc1631 rfl) rfl (pn 1 rfl (RL.s (Vl.lw 0 hS isAgg134 sizeOf134 rfl rfl rfl) rfl ?_))
               obtain ⟨t1632, hg1633, h⟩ := h.bind
               have hc := vm_cpu_div.ok hr5 hr10 hg1633 hS.p1.p4
               refine RL.e (OW.call (ls := [.tmp 47, .tmp 48]) rfl rfl call106 rfl hc) rfl rfl ?_
               rintro _ w ⟨rfl, hS⟩
               refine RL.nil (RQ.inB_n ?_)
               exact fun a ha => ⟨(t1632, x1400, l1401, IntKind.i64.wrap (x1404 + 1)), t1632, x1400, l1401, (IntKind.i64.wrap (x1404 + 1)), rfl, A1402, c1403, ha.to ⟨rfl, rfl, rfl, rfl, rfl, rfl, rfl, rfl, rfl, rfl, rfl, rfl, rfl, rfl, rfl, trivial⟩, hS.d2.p1, h⟩
              case neg =>
               have h := h.neg hc1631
               by_cases hc1634 : (nth a2 x1404).Op = 7
               case pos =>
                have h := h.pos hc1634
                refine RL.s (Vl.lookupL (n' := 7) (j := 7) (v := .func (.func 107) #[] #[]) 2 hS rfl underlying193 underlying3 rfl rfl hc1634 rfl) rfl (pn 1 rfl (RL.s (Vl.lw 0 hS isAgg134 sizeOf134 rfl rfl rfl) rfl ?_))
                obtain ⟨t1635, hg1636, h⟩ := h.bind
                have hc := vm_cpu_mod.ok hr5 hr10 hg1636 hS.p1.p4
                refine RL.e (OW.call (ls := [.tmp 47, .tmp 48]) rfl rfl call107 rfl hc) rfl rfl ?_
                rintro _ w ⟨rfl, hS⟩
                refine RL.nil (RQ.inB_n ?_)
                exact fun a ha => ⟨(t1635, x1400, l1401, IntKind.i64.wrap (x1404 + 1)), t1635, x1400, l1401, (IntKind.i64.wrap (x1404 + 1)), rfl, A1402, c1403, ha.to ⟨rfl, rfl, rfl, rfl, rfl, rfl, rfl, rfl, rfl, rfl, rfl, rfl, rfl, rfl, rfl, trivial⟩, hS.d2.p1, h⟩
               case neg =>
                have h := h.neg hc1634
                by_cases hc1637 : (nth a2 x1404).Op = 8
                case pos =>
                 have h := h.pos hc1637
                 refine RL.s (Vl.lookupL (n' := 8) (j := 8) (v := .func (.func 108) #[] #[]) 2 hS rfl underlying193 underlying3 rfl rfl hc1637 rfl) rfl (pn 1 rfl (RL.s (Vl.lw 0 hS isAgg134 sizeOf134 rfl rfl rfl) rfl ?_))
                 obtain ⟨t1638, hg1639, h⟩ := h.bind
                 have hc := vm_cpu_less.ok hr5 hr10 hg1639 hS.p1.p4
                 refine RL.e (OW.call (ls := [.tmp 47, .tmp 48]) rfl rfl call108 rfl hc) rfl rfl ?_
                 rintro _ w ⟨rfl, hS⟩
                 refine RL.nil (RQ.inB_n ?_)
                 exact fun a ha => ⟨(t1638, x1400, l1401, IntKind.i64.wrap (x1404 + 1)), t1638, x1400, l1401, (IntKind.i64.wrap (x1404 + 1)), rfl, A1402, c1403, ha.to ⟨rfl, rfl, rfl, rfl, rfl, rfl, rfl, rfl, rfl, rfl, rfl, rfl, rfl, rfl, rfl, trivial⟩, hS.d2.p1, h⟩
                case neg =>
                 have h := h.neg hc1637
                 by_cases hc1640 : (nth a2 x1404).Op = 9
                 case pos =>
                  have h := h.pos hc1640
                  refine RL.s (Vl.lookupL (n' := 9) (j := 9) (v := .func (.func 109) #[] #[]) 2 hS rfl underlying193 underlying3 rfl rfl hc1640 rfl) rfl (pn 1 rfl (RL.s (Vl.lw 0 hS isAgg134 sizeOf134 rfl rfl rfl) rfl ?_))
                  obtain ⟨t1641, hg1642, h⟩ := h.bind
                  have hc := vm_cpu_same.ok hr5 hr10 hg1642 hS.p1.p4
                  refine RL.e (OW.call (ls := [.tmp 47, .tmp 48]) rfl rfl call109 rfl hc) rfl rfl ?_
                  rintro _ w ⟨rfl, hS⟩
                  refine RL.nil (RQ.inB_n ?_)
                  exact fun a ha => ⟨(t1641, x1400, l1401, IntKind.i64.wrap (x1404 + 1)), t1641, x1400, l1401, (IntKind.i64.wrap (x1404 + 1)), rfl, A1402, c1403, ha.to ⟨rfl, rfl, rfl, rfl, rfl, rfl, rfl, rfl, rfl, rfl, rfl, rfl, rfl, rfl, rfl, trivial⟩, hS.d2.p1, h⟩
                 case neg =>
                  have h := h.neg hc1640
                  by_cases hc1643 : (nth a2 x1404).Op = 10
                  case pos =>
                   have h := h.pos hc1643
                   refine RL.s (Vl.lookupL (n' := 10) (j := 10) (v := .func (.func 110) #[] #[]) 2 hS rfl underlying193 underlying3 rfl rfl hc1643 rfl) rfl (pn 1 rfl (RL.s (Vl.lw 0 hS isAgg134 sizeOf134 rfl rfl rfl) rfl ?_))
                   obtain ⟨t1644, hg1645, h⟩ := h.bind
                   have hc := vm_cpu_jump.ok hr5 hr10 hg1645 hS.p1.p4
                   refine RL.e (OW.call (ls := [.tmp 47, .tmp 48]) rfl rfl call110 rfl hc) rfl rfl ?_
                   rintro _ w ⟨rfl, hS⟩
                   refine RL.nil (RQ.inB_n ?_)
                   exact fun a ha => ⟨(fn1399, x1400, l1401, t1644), fn1399, x1400, l1401, t1644, rfl, A1402, c1403, ha.to ⟨rfl, rfl, rfl, rfl, rfl, rfl, rfl, rfl, rfl, rfl, rfl, rfl, rfl, rfl, rfl, trivial⟩, hS.d2.p1, h⟩
                  case neg =>
                   have h := h.neg hc1643
                   by_cases hc1646 : (nth a2 x1404).Op = 11
                   case pos =>
                    have h := h.pos hc1646
                    refine RL.s (Vl.lookupL (n' := 11) (j := 11) (v := .func (.func 111) #[] #[]) 2 hS rfl underlying193 underlying3 rfl rfl hc1646 rfl) rfl (pn 1 rfl (RL.s (Vl.lw 0 hS isAgg134 sizeOf134 rfl rfl rfl) rfl ?_))
                    obtain ⟨t1647, hg1648, h⟩ := h.bind
                    have hc := vm_cpu_zero.ok hr5 hr10 hg1648 hS.p1.p4
                    refine RL.e (OW.call (ls := [.tmp 47, .tmp 48]) rfl rfl call111 rfl hc) rfl rfl ?_
                    rintro _ w ⟨rfl, hS⟩
                    refine RL.nil (RQ.inB_n ?_)
                    exact fun a ha => ⟨(fn1399, x1400, l1401, t1647), fn1399, x1400, l1401, t1647, rfl, A1402, c1403, ha.to ⟨rfl, rfl, rfl, rfl, rfl, rfl, rfl, rfl, rfl, rfl, rfl, rfl, rfl, rfl, rfl, trivial⟩, hS.d2.p1, h⟩
                   case neg =>
                    have h := h.neg hc1646
                    by_cases hc1649 : (nth a2 x1404).Op = 12
                    case pos =>
                     have h := h.pos hc1649
                     refine RL.s (Vl.lookupL (n' := 12) (j := 12) (v := .func (.func 112) #[] #[]) 2 hS rfl underlying193 underlying3 rfl rfl hc1649 rfl) rfl (pn 1 rfl (RL.s (Vl.lw 0 hS isAgg134 sizeOf134 rfl rfl rfl) rfl ?_))
                     obtain ⟨t1650, hg1651, h⟩ := h.bind
                     have hc := vm_cpu_send.ok hr5 hr10 hg1651 hS.p1.p4
                     rcases t1650 with y1652 | y1655
                     · refine RL.eP (OWP.call (ls := [.tmp 47, .tmp 48]) rfl rfl call112 rfl hc) rfl rfl ?_ ?_
                       rotate_left
                       · exact fun _ _ (hk : False) => hk.elim
                       rintro _ w ⟨A1653, c1654, rfl, hS⟩
                       have hS : St B w (_ :: _ :: _ :: _ :: _ :: l) hf := hS
                       refine RL.nil (RQ.inB_n ?_)
                       exact fun a ha => ⟨(fn1399, x1400, y1652, IntKind.i64.wrap (x1404 + 1)), fn1399, x1400, y1652, (IntKind.i64.wrap (x1404 + 1)), rfl, A1653, c1654, ha.to ⟨rfl, rfl, rfl, rfl, rfl, rfl, rfl, rfl, rfl, rfl, rfl, rfl, rfl, rfl, rfl, trivial⟩, hS.d2, h⟩
                     · refine RL.eP (OWP.call (ls := [.tmp 47, .tmp 48]) rfl rfl call112 rfl hc) rfl rfl ?_ ?_
                       · exact fun _ _ (hk : False) => hk.elim
                       · rintro _ w ⟨rfl, hS⟩
                         have hS : St B w (_ :: _ :: _ :: _ :: _ :: l) hf := hS
                         refine RQ.panB (RQ.panT ?_)
                         have h := h.inr
                         refine RQ.panT (RQ.panB (RQ.panT ?_))
                         obtain ⟨t1656, hg1657, h⟩ := h.bind
                         obtain rfl := h.some
                         refine RQ.deferPan results77 (fun w => by kernel_rfl) (vm_cpu_run_1v2.ok hg1657 hS.p4) ?_
                         rintro _ w ⟨b1658, A1659, c1660, rfl, hS⟩
                         have hS : St B w (_ :: _ :: _ :: _ :: _ :: _ :: _ :: l) hf := hS
                         exact ⟨[.iface 186 (.pointer (some ⟨b1658, 0, none⟩))], ⟨⟨_, rfl, run_loadVar1 isAgg83 (hS.cell 2 rfl rfl)⟩, trivial⟩, ⟨b1658, A1659, c1660, A1402, c1403, rfl, hS.d2.d4.d4.p3.p2.p2⟩⟩
                    case neg =>
                     have h := h.neg hc1649
                     by_cases hc1661 : (nth a2 x1404).Op = 13
                     case pos =>
                      have h := h.pos hc1661
                      refine RL.s (Vl.lookupL (n' := 13) (j := 13) (v := .func (.func 113) #[] #[]) 2 hS rfl underlying193 underlying3 rfl rfl hc1661 rfl) rfl (pn 1 rfl (RL.s (Vl.lw 0 hS isAgg134 sizeOf134 rfl rfl rfl) rfl ?_))
                      obtain ⟨t1662, hg1663, h⟩ := h.bind
                      have hc := vm_cpu_draw.ok hr5 hr10 hg1663 hS.p1.p4
                      obtain ⟨y1664, y1665⟩ := t1662
                      refine RL.e (OW.call (ls := [.tmp 47, .tmp 48]) rfl rfl call113 rfl hc) rfl rfl ?_
                      rintro _ w ⟨rfl, hS⟩
                      refine RL.nil (RQ.inB_n ?_)
                      exact fun a ha => ⟨(y1664, y1665, l1401, IntKind.i64.wrap (x1404 + 1)), y1664, y1665, l1401, (IntKind.i64.wrap (x1404 + 1)), rfl, A1402, c1403, ha.to ⟨rfl, rfl, rfl, rfl, rfl, rfl, rfl, rfl, rfl, rfl, rfl, rfl, rfl, rfl, rfl, trivial⟩, hS.d2.p1, h⟩
                     case neg =>
                      have h := h.neg hc1661
                      by_cases hc1666 : (nth a2 x1404).Op = 14
                      case pos =>
                       have h := h.pos hc1666
                       refine RL.s (Vl.lookupL (n' := 14) (j := 14) (v := .func (.func 114) #[] #[]) 2 hS rfl underlying193 underlying3 rfl rfl hc1666 rfl) rfl (pn 1 rfl (RL.s (Vl.lw 0 hS isAgg134 sizeOf134 rfl rfl rfl) rfl ?_))
                       obtain ⟨t1667, hg1668, h⟩ := h.bind
                       have hc := vm_cpu_value.ok hr5 hr10 hg1668 hS.p1.p4
                       refine RL.e (OW.call (ls := [.tmp 47, .tmp 48]) rfl rfl call114 rfl hc) rfl rfl ?_
                       rintro _ w ⟨rfl, hS⟩
                       refine RL.nil (RQ.inB_n ?_)
                       exact fun a ha => ⟨(t1667, x1400, l1401, IntKind.i64.wrap (x1404 + 1)), t1667, x1400, l1401, (IntKind.i64.wrap (x1404 + 1)), rfl, A1402, c1403, ha.to ⟨rfl, rfl, rfl, rfl, rfl, rfl, rfl, rfl, rfl, rfl, rfl, rfl, rfl, rfl, rfl, trivial⟩, hS.d2.p1, h⟩
                      case neg =>
                       have h := h.neg hc1666
                       by_cases hc1669 : (nth a2 x1404).Op = 15
                       case pos =>
                        have h := h.pos hc1669
                        refine RL.s (Vl.lookupL (n' := 15) (j := 15) (v := .func (.func 115) #[] #[]) 2 hS rfl underlying193 underlying3 rfl rfl hc1669 rfl) rfl (pn 1 rfl (RL.s (Vl.lw 0 hS isAgg134 sizeOf134 rfl rfl rfl) rfl ?_))
                        obtain ⟨t1670, hg1671, h⟩ := h.bind
                        have hc := vm_cpu_time.ok hr5 hr10 hg1671 hS.p1.p4
                        refine RL.e (OW.call (ls := [.tmp 47, .tmp 48]) rfl rfl call115 rfl hc) rfl rfl ?_
                        rintro _ w ⟨rfl, hS⟩
                        refine RL.nil (RQ.inB_n ?_)
                        exact fun a ha => ⟨(t1670, x1400, l1401, IntKind.i64.wrap (x1404 + 1)), t1670, x1400, l1401, (IntKind.i64.wrap (x1404 + 1)), rfl, A1402, c1403, ha.to ⟨rfl, rfl, rfl, rfl, rfl, rfl, rfl, rfl, rfl, rfl, rfl, rfl, rfl, rfl, rfl, trivial⟩, hS.d2.p1, h⟩
                       case neg =>
                        have h := h.neg hc1669
                        by_cases hc1672 : (nth a2 x1404).Op = 16
                        case pos =>
                         have h := h.pos hc1672
                         refine RL.s (Vl.lookupL (n' := 16) (j := 16) (v := .func (.func 116) #[] #[]) 2 hS rfl underlying193 underlying3 rfl rfl hc1672 rfl) rfl (pn 1 rfl (RL.s (Vl.lw 0 hS isAgg134 sizeOf134 rfl rfl rfl) rfl ?_))
                         obtain ⟨t1673, hg1674, h⟩ := h.bind
                         have hc := vm_cpu_self.ok hr5 hr10 hg1674 hS.p1.p4
                         refine RL.e (OW.call (ls := [.tmp 47, .tmp 48]) rfl rfl call116 rfl hc) rfl rfl ?_
                         rintro _ w ⟨rfl, hS⟩
                         refine RL.nil (RQ.inB_n ?_)
                         exact fun a ha => ⟨(t1673, x1400, l1401, IntKind.i64.wrap (x1404 + 1)), t1673, x1400, l1401, (IntKind.i64.wrap (x1404 + 1)), rfl, A1402, c1403, ha.to ⟨rfl, rfl, rfl, rfl, rfl, rfl, rfl, rfl, rfl, rfl, rfl, rfl, rfl, rfl, rfl, trivial⟩, hS.d2.p1, h⟩
                        case neg =>
                         have h := h.neg hc1672
                         exact h.none
     next =>
      refine RC.condF rfl (RC.exit (RQ.exitT ?_))
      have h := h.inr
      refine RQ.exitT (RQ.inB_hit ?_)
      exact fun a ha => ⟨(fn1399, x1400, l1401, x1404), fn1399, x1400, l1401, x1404, rfl, A1402, c1403, ha.to ⟨rfl, trivial⟩, hS.d1, h⟩
    next =>
     refine pp 3 rfl (RP.nn 0 6 rfl rfl rfl (RP.n1 7 rfl rfl rfl (RP.n1 8 rfl rfl rfl (RP.n1 9 rfl rfl rfl (RP.n1 10 rfl rfl rfl (RP.n1 11 rfl rfl rfl (RP.n1 12 rfl rfl rfl (RP.n1 13 rfl rfl rfl (RP.v1 14 rfl (Vl.pickF rfl rfl) rfl rfl (RP.nil (RQ.noPan_n (RQ.then_n (RC.condF rfl (RC.exit (RQ.exitT ?_)))))))))))))))
     have h := h.inr
     refine RQ.exitT (RQ.inB_hit ?_)
     exact fun a ha => ⟨(fn1399, x1400, l1401, x1404), fn1399, x1400, l1401, x1404, rfl, A1402, c1403, ha.to ⟨rfl, trivial⟩, hS.d1, h⟩

/-! ### errors.As: function 25 -/
noncomputable def errors_As_4.f (a2 : vm_fault) : Option (Bool) := some false
theorem errors_As_4.ok {a2 : vm_fault} {b1 : Nat} {r : Bool} (h : errors_As_4.f a2 = some r) (hS : St B w (Cl b1 [.int .i64 a2.at_, .int .i64 a2.why] 173 :: l) hf) :
    Calls prog 25 #[.nilIface, .iface 174 (.pointer (some ⟨b1, 0, none⟩))] w (Ret fun v w => v = .bool r ∧ St B w (Cl b1 [.int .i64 a2.at_, .int .i64 a2.why] 173 :: l) hf) := by
  have h := Holds.of h
  refine en func25 rfl ntmps25 rfl (sr (pn 1 rfl (ln (RC.seq (sr (pn 1 rfl (RL.s (Vl.bin (v := .bool true) rfl rfl (by kernel_rfl)) rfl (ln (RC.condT rfl (sr ?_))))))))))
  refine pn 1 rfl (lr (RQ.ret ?_))
  obtain rfl := h.some
  exact rt results25 rfl ⟨rfl, hS⟩

/-! ### (*errors.joinError).Unwrap: function 170 -/
noncomputable def errors_joinError_Unwrap_2.f (a4 : vm_fault) : Option (Unit) := some ()
theorem errors_joinError_Unwrap_2.ok {a4 : vm_fault} {b1 : Nat} {A2 : Option Addr} {c3 : Nat} {r : Unit} (h : errors_joinError_Unwrap_2.f a4 = some r) (hS : St B w (OSl 83 1 (.slice A2 1 c3) 1 [.iface 173 (.agg #[.int .i64 a4.at_, .int .i64 a4.why])] :: Cl b1 [.slice A2 1 c3] 188 :: l) hf) :
    Calls prog 170 #[.pointer (some ⟨b1, 0, none⟩)] w (Ret fun v w => v = .slice A2 1 c3 ∧ St B w (OSl 83 1 (.slice A2 1 c3) 1 [.iface 173 (.agg #[.int .i64 a4.at_, .int .i64 a4.why])] :: Cl b1 [.slice A2 1 c3] 188 :: l) hf) := by
  have h := Holds.of h
  refine en func170 rfl ntmps170 rfl (sr (pn 1 rfl (lnsr (pn 2 rfl (RL.s (Vl.fa 0 underlying188 rfl sizeOf157 rfl rfl) rfl (RL.s (Vl.ld 1 hS isAgg157 rfl rfl rfl) rfl (pn 1 rfl (lr ?_))))))))
  exact rt results170 rfl ⟨rfl, hS⟩

/-! ### errors.as: function 48 -/
noncomputable def errors_as_5.f (a1 a3 : vm_fault) : Option (Bool × vm_fault) := some (true, a1)
theorem errors_as_5.ok {a1 a3 : vm_fault} {b2 b4 : Nat} {r : Bool × vm_fault} (h : errors_as_5.f a1 a3 = some r) (hS : St B w (Cl b2 [.int .i64 a3.at_, .int .i64 a3.why] 173 :: Cl b4 [.pointer (some ⟨b2, 0, none⟩)] 174 :: l) hf) :
    Calls prog 48 #[.iface 173 (.agg #[.int .i64 a1.at_, .int .i64 a1.why]), .iface 174 (.pointer (some ⟨b2, 0, none⟩)), .agg #[.pointer (some ⟨1, 174, none⟩), .pointer (some ⟨b4, 0, none⟩), .int .u64 150], .iface 148 (.agg #[.pointer (some ⟨1, 173, none⟩)])] w (Ret fun v w => v = .bool r.1 ∧ St B w (Cl b2 [.int .i64 r.2.at_, .int .i64 r.2.why] 173 :: Cl b4 [.pointer (some ⟨b2, 0, none⟩)] 174 :: l) hf) := by
  have h := Holds.of h
  refine en func48 rfl ntmps48 rfl (sr (bx hS rfl rfl rfl rfl fun b8 w hS => pn 1 rfl (ln (RC.block (RC.unroll (RQ.round (RC.block (RC.seq (sr (pn 1 rfl (RL.s (Vl.extern (ls := [.tmp 16]) (v := .iface 148 (.agg #[.pointer (some ⟨1, 173, none⟩)])) rfl func49 (by kernel_rfl) (by kernel_rfl) (by kernel_rfl) (e := Extern.ReflectliteType.typeOf) (by kernel_rfl) (fun w => by kernel_rfl)) rfl ?_)))))))))))
  refine pn 1 rfl (RL.s (Vl.invokeX (F := 158) (ls := [.tmp 18]) (v := .bool true) (u' := .agg #[.pointer (some ⟨1, 173, none⟩)]) rfl rfl (fun w => by kernel_rfl) func158 (by kernel_rfl) (by kernel_rfl) (by kernel_rfl) (e := (Extern.ReflectliteType.relation "AssignableTo" Extern.ReflectliteType.assignableTo)) (by kernel_rfl) (fun w => by kernel_rfl)) rfl (ln (RC.condT rfl (sr (RL.s (Vl.lw 0 hS isAgg109 sizeOf109 rfl rfl rfl) rfl (RL.s (Vl.externAt (ls := [.tmp 20]) (v := .agg #[.pointer (some ⟨1, 173, none⟩), .pointer (some ⟨b2, 0, none⟩), .int .u64 409]) rfl func71 (by kernel_rfl) (by kernel_rfl) (by kernel_rfl) (e := Extern.ReflectliteValue.method (Extern.ReflectliteValue.valueError "reflectlite.Value.Elem" 0) Extern.ReflectliteValue.elem) (by kernel_rfl) (run_elemV (n := 150) (a := ⟨b4, 0, none⟩) (fun w => by kernel_rfl) underlying174 rfl (hS.cell 2 rfl rfl) (fun w => by kernel_rfl) (fun w => by kernel_rfl))) rfl (pn 1 rfl (RL.e (OW.externNew (ls := [.tmp 22]) (cs := [.int .i64 a1.at_, .int .i64 a1.why]) (T := 173) (v := fun b => .agg #[.pointer (some ⟨1, 173, none⟩), .pointer (some ⟨b, 0, none⟩), .int .u64 153]) hS rfl func45 (by kernel_rfl) (by kernel_rfl) (by kernel_rfl) (e := fun args => Extern.ReflectliteValue.unpack (args.getD 0 (.tuple #[]))) (by kernel_rfl) (fun w => by kernel_rfl)) rfl rfl ?_))))))))
  rintro _ w ⟨b10, rfl, hS⟩
  refine RL.e (OW.setV (ls := [.tmp 21, .tmp 23]) (val := .agg #[.int .i64 a1.at_, .int .i64 a1.why]) (vs := [.int .i64 a1.at_, .int .i64 a1.why]) (n := 409) (m := 153) (a2 := ⟨b10, 0, none⟩) 2 hS rfl rfl func72 (by kernel_rfl) (by kernel_rfl) (by kernel_rfl) (by kernel_rfl) (fun w => by kernel_rfl) (fun w => by kernel_rfl) rfl (fun w => by kernel_rfl) (run_loadVarA (vs := [.int .i64 a1.at_, .int .i64 a1.why]) isAgg173 sizeOf173 rfl (hS.cellsAt 0 rfl rfl)) rfl sizeOf173 rfl rfl rfl rfl) rfl rfl ?_
  rintro _ w ⟨rfl, hS⟩
  have hS : St B w (_ :: _ :: _ :: _ :: l) hf := hS
  refine lnsr (pn 1 rfl (lr (RQ.ret (RQ.inB_ret (RQ.ret (RQ.inB_ret ?_))))))
  obtain rfl := h.some
  exact rt results48 rfl ⟨rfl, hS.d0.d0⟩

/-! ### errors.as: function 48 -/
noncomputable def errors_as_4.f (a4 a6 : vm_fault) : Option (Bool × vm_fault) := ((errors_joinError_Unwrap_2.f a4).bind fun _ => ((errors_as_5.f a4 a6).bind fun (y31, y32) => (if y31 = true then some (true, y32) else some (false, y32))))
theorem errors_as_4.ok {a4 a6 : vm_fault} {b1 : Nat} {A2 : Option Addr} {c3 b5 b7 : Nat} {r : Bool × vm_fault} (h : errors_as_4.f a4 a6 = some r) (hS : St B w (OSl 83 1 (.slice A2 1 c3) 1 [.iface 173 (.agg #[.int .i64 a4.at_, .int .i64 a4.why])] :: Cl b1 [.slice A2 1 c3] 188 :: Cl b5 [.int .i64 a6.at_, .int .i64 a6.why] 173 :: Cl b7 [.pointer (some ⟨b5, 0, none⟩)] 174 :: l) hf) :
    Calls prog 48 #[.iface 186 (.pointer (some ⟨b1, 0, none⟩)), .iface 174 (.pointer (some ⟨b5, 0, none⟩)), .agg #[.pointer (some ⟨1, 174, none⟩), .pointer (some ⟨b7, 0, none⟩), .int .u64 150], .iface 148 (.agg #[.pointer (some ⟨1, 173, none⟩)])] w (Ret fun v w => v = .bool r.1 ∧ St B w (OSl 83 1 (.slice A2 1 c3) 1 [.iface 173 (.agg #[.int .i64 a4.at_, .int .i64 a4.why])] :: Cl b1 [.slice A2 1 c3] 188 :: Cl b5 [.int .i64 r.2.at_, .int .i64 r.2.why] 173 :: Cl b7 [.pointer (some ⟨b5, 0, none⟩)] 174 :: l) hf) := by
  have h := Holds.of h
  refine en func48 rfl ntmps48 rfl (sr (bx hS rfl rfl rfl rfl fun b21 w hS => pn 1 rfl (ln (RC.block (RC.unroll (RQ.round (RC.block (RC.seq (sr (pn 1 rfl (RL.s (Vl.extern (ls := [.tmp 16]) (v := .iface 148 (.agg #[.pointer (some ⟨1, 186, none⟩)])) rfl func49 (by kernel_rfl) (by kernel_rfl) (by kernel_rfl) (e := Extern.ReflectliteType.typeOf) (by kernel_rfl) (fun w => by kernel_rfl)) rfl ?_)))))))))))
  refine pn 1 rfl (RL.s (Vl.invokeX (F := 158) (ls := [.tmp 18]) (v := .bool false) (u' := .agg #[.pointer (some ⟨1, 186, none⟩)]) rfl rfl (fun w => by kernel_rfl) func158 (by kernel_rfl) (by kernel_rfl) (by kernel_rfl) (e := (Extern.ReflectliteType.relation "AssignableTo" Extern.ReflectliteType.assignableTo)) (by kernel_rfl) (fun w => by kernel_rfl)) rfl (ln (RC.condF rfl (sk (RC.seq (sr (pn 1 rfl (RL.s (Vl.tassert (r := .tuple #[.nilIface, .bool false]) rfl (fun w => run_typeAssert_lacksB underlying152 (by kernel_rfl) (by kernel_rfl) _ _ w)) rfl (pn 5 rfl (ln (RC.seq ?_)))))))))))
  refine RC.region (pn 6 rfl (ln (RC.condF rfl (sk (sr (pn 1 rfl (ln (RC.block (sr (RL.s (Vl.tassert (r := .tuple #[.nilIface, .bool false]) rfl (fun w => run_typeAssert_lacksB underlying155 (by kernel_rfl) (by kernel_rfl) _ _ w)) rfl ?_))))))))))
  refine pn 2 rfl (ln (RC.condF rfl (sr (RL.s (Vl.tassert (r := .tuple #[.iface 186 (.pointer (some ⟨b1, 0, none⟩)), .bool true]) rfl (fun w => run_typeAssert_hasB underlying156 (by kernel_rfl) _ _ w)) rfl (pn 2 rfl (ln (RC.condT rfl (sr (pn 1 rfl (ln ?_))))))))))
  refine RC.seq (sr (pn 1 rfl ?_))
  obtain ⟨t22, hg23, h⟩ := h.bind
  have hc := errors_joinError_Unwrap_2.ok hg23 hS.p2.p2
  refine RL.e (OW.invoke (F := 170) (u' := .pointer (some ⟨b1, 0, none⟩)) (ls := []) rfl rfl (fun w => by kernel_rfl) call170 rfl hc) rfl rfl ?_
  rintro _ w ⟨rfl, hS⟩
  refine RL.s (Vl.lenSl underlying157 rfl) rfl (pn 1 rfl (ln (RC.block (RC.unroll (RQ.round (sr (pn 1 rfl (ln (RC.seq (RC.condT rfl (sk ?_)))))))))))
  refine RC.seq (RC.block (sr (RL.s (Vl.indexAddr (a'' := (ad A2).add 0) underlying157 sizeOf83 rfl rfl (hS.litAdr 0 rfl (by decide)) (by decide) (by decide) rfl) rfl (RL.s (Vl.load isAgg83 rfl (hS.litCell 0 rfl rfl)) rfl (pn 1 rfl (ln (RC.seq (sr (pn 1 rfl (RL.s (Vl.bin (v := .bool false) rfl rfl (by kernel_rfl)) rfl (ln ?_)))))))))))
  refine RC.condF rfl (sk (sr (pn 2 rfl (RL.s (Vl.lw 2 hS isAgg109 sizeOf109 rfl rfl rfl) rfl (pn 1 rfl (cF (fun _ hg => errors_as_5.ok hg hS.p4.p4) call48 h rfl rfl rfl ?_))))))
  rintro ⟨y31, y32⟩ h _ w ⟨rfl, hS⟩
  refine ln ?_
  refine RC.iteB 60 rfl h (fun hc33 h => ?_) fun hc33 h => ?_
  next =>
   refine RC.condT rfl (sr (pn 1 rfl (lr (RQ.inB_ret (RQ.ret (RQ.ret (RQ.inB_ret (RQ.ret (RQ.inB_ret (RQ.inB_ret (RQ.ret (RQ.inB_ret ?_))))))))))))
   obtain rfl := h.some
   exact rt results48 rfl ⟨rfl, hS.d4.p3.p3⟩
  next =>
   refine RC.condF rfl (RC.skip (RQ.inB_n (RQ.then_n (RC.region (pn 2 rfl (ln (RQ.round (sr (pn 1 rfl (ln (RC.seq (RC.condF rfl ?_))))))))))))
   refine RC.exit (RQ.exitT (RQ.exitT (RQ.inB_hit (tsr (pn 1 rfl (lr (RQ.inB_ret (RQ.inB_ret (RQ.ret (RQ.inB_ret ?_))))))))))
   obtain rfl := h.some
   exact rt results48 rfl ⟨rfl, hS.d4.p3.p3⟩

/-! ### errors.As: function 25 -/
noncomputable def errors_As_5.f (a4 a6 : vm_fault) : Option (Bool × vm_fault) := ((errors_as_4.f a4 a6).bind fun (y17, y18) => some (y17, y18))
theorem errors_As_5.ok {a4 a6 : vm_fault} {b1 : Nat} {A2 : Option Addr} {c3 b5 : Nat} (hG0 : GlobAt hf 0 (.iface 148 (.agg #[.pointer (some ⟨1, 83, none⟩)]))) {r : Bool × vm_fault} (h : errors_As_5.f a4 a6 = some r) (hS : St B w (OSl 83 1 (.slice A2 1 c3) 1 [.iface 173 (.agg #[.int .i64 a4.at_, .int .i64 a4.why])] :: Cl b1 [.slice A2 1 c3] 188 :: Cl b5 [.int .i64 a6.at_, .int .i64 a6.why] 173 :: l) hf) :
    Calls prog 25 #[.iface 186 (.pointer (some ⟨b1, 0, none⟩)), .iface 174 (.pointer (some ⟨b5, 0, none⟩))] w (Ret fun v w => v = .bool r.1 ∧ St B w (OSl 83 1 (.slice A2 1 c3) 1 [.iface 173 (.agg #[.int .i64 a4.at_, .int .i64 a4.why])] :: Cl b1 [.slice A2 1 c3] 188 :: Cl b5 [.int .i64 r.2.at_, .int .i64 r.2.why] 173 :: l) hf) := by
  have h := Holds.of h
  refine en func25 rfl ntmps25 rfl (sr (pn 1 rfl (ln (RC.seq (sr (pn 1 rfl (RL.s (Vl.bin (v := .bool false) rfl rfl (by kernel_rfl)) rfl (ln (RC.condF rfl (sk ?_))))))))))
  refine RC.seq (sr (pn 1 rfl (RL.s (Vl.bin (v := .bool false) rfl rfl (by kernel_rfl)) rfl (ln (RC.condF rfl (sk (sr (pn 1 rfl (RL.e (OW.externNew (ls := [.tmp 13]) (cs := [.pointer (some ⟨b5, 0, none⟩)]) (T := 174) (v := fun b => .agg #[.pointer (some ⟨1, 174, none⟩), .pointer (some ⟨b, 0, none⟩), .int .u64 150]) hS rfl func45 (by kernel_rfl) (by kernel_rfl) (by kernel_rfl) (e := fun args => Extern.ReflectliteValue.unpack (args.getD 0 (.tuple #[]))) (by kernel_rfl) (fun w => by kernel_rfl)) rfl rfl ?_)))))))))
  rintro _ w ⟨b13, rfl, hS⟩
  refine al hS zeroValue109 rfl rfl rfl fun b14 w hS => RL.e0 (OW.store (vs := [.pointer (some ⟨1, 174, none⟩), .pointer (some ⟨b13, 0, none⟩), .int .u64 150]) 0 hS rfl rfl rfl rfl sizeOf109 rfl rfl rfl rfl) rfl ?_
  rintro _ w ⟨rfl, hS⟩
  have hS : St B w (Cl _ [_, _, _] _ :: _ :: _ :: _ :: _ :: l) hf := hS
  refine lnsr (RL.s (Vl.lw 0 hS isAgg109 sizeOf109 rfl rfl rfl) rfl (RL.s (Vl.extern (ls := [.tmp 15]) (v := .iface 148 (.agg #[.pointer (some ⟨1, 174, none⟩)])) rfl func46 (by kernel_rfl) (by kernel_rfl) (by kernel_rfl) (e := Extern.ReflectliteValue.methodAny (Extern.ReflectliteValue.valueError "reflectlite.Value.Type" 0) fun t _ _ _ => Extern.ReflectliteType.toType t) (by kernel_rfl) (fun w => by kernel_rfl)) rfl (pn 1 rfl (ln (RC.seq (sr (pn 1 rfl (RL.s (Vl.invokeX (F := 146) (ls := []) (v := .int .u8 22) (u' := .pointer (some ⟨1, 174, none⟩)) rfl rfl (fun w => by kernel_rfl) func146 (by kernel_rfl) (by kernel_rfl) (by kernel_rfl) (e := (Extern.ReflectliteType.abiMethod fun t => do pure (.int .u8 (← Extern.Rtype.kind t)))) (by kernel_rfl) (fun w => by kernel_rfl)) rfl (pn 2 rfl (RL.sg (Vl.lw 0 hS isAgg109 sizeOf109 rfl rfl rfl) rfl rfl ?_))))))))))
  refine RL.sg (Vl.externAt (ls := [.tmp 21]) (v := .bool false) rfl func47 (by kernel_rfl) (by kernel_rfl) (by kernel_rfl) (e := Extern.ReflectliteValue.method (Extern.ReflectliteValue.valueError "reflectlite.Value.IsNil" 0) Extern.ReflectliteValue.isNil) (by kernel_rfl) (run_isNil (n := 150) (a := ⟨b13, 0, none⟩) (fun w => by kernel_rfl) underlying174 rfl (hS.cell 1 rfl rfl))) rfl rfl (pn 1 rfl (ln (RC.condF rfl (sk (sr (pn 1 rfl (RL.s (Vl.invokeX (F := 160) (ls := []) (v := .iface 148 (.agg #[.pointer (some ⟨1, 173, none⟩)])) (u' := .agg #[.pointer (some ⟨1, 174, none⟩)]) rfl rfl (fun w => by kernel_rfl) func160 (by kernel_rfl) (by kernel_rfl) (by kernel_rfl) (e := (Extern.ReflectliteType.method Extern.ReflectliteType.elem)) (by kernel_rfl) (fun w => by kernel_rfl)) rfl (pn 1 rfl (ln (RC.seq (RC.seq ?_)))))))))))
  refine RC.region (pn 1 rfl (RL.s (Vl.invokeX (F := 146) (ls := []) (v := .int .u8 25) (u' := .pointer (some ⟨1, 173, none⟩)) rfl rfl (fun w => by kernel_rfl) func146 (by kernel_rfl) (by kernel_rfl) (by kernel_rfl) (e := (Extern.ReflectliteType.abiMethod fun t => do pure (.int .u8 (← Extern.Rtype.kind t)))) (by kernel_rfl) (fun w => by kernel_rfl)) rfl (pn 3 rfl (RL.sg (Vl.load isAgg112 rfl (cellH_world hS.sub hG0)) rfl rfl (RL.sg (Vl.invokeX (F := 161) (ls := [.tmp 32]) (v := .bool true) (u' := .agg #[.pointer (some ⟨1, 173, none⟩)]) rfl rfl (fun w => by kernel_rfl) func161 (by kernel_rfl) (by kernel_rfl) (by kernel_rfl) (e := (Extern.ReflectliteType.relation "Implements" Extern.ReflectliteType.implements_)) (by kernel_rfl) (fun w => by kernel_rfl)) rfl rfl (pn 2 rfl (ln (RC.condF rfl (sk (sr (pn 2 rfl (RL.s (Vl.lw 0 hS isAgg109 sizeOf109 rfl rfl rfl) rfl ?_))))))))))))
  refine pn 1 rfl (cF (fun _ hg => errors_as_4.ok hg hS.p1.p4.p4.p4) call48 h rfl rfl rfl ?_)
  rintro ⟨y17, y18⟩ h _ w ⟨rfl, hS⟩
  refine pn 1 rfl (lr ?_)
  obtain rfl := h.some
  exact rt results25 rfl ⟨rfl, hS.d3.d3⟩

end Go.Proofs.Gx
