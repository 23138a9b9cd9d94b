/-
  The walks of functions, each with what it computes: printed by wip/gx.py.
-/
import Derived.Test.YtjdachfjlajjjaaDoorW0
import Derived.Test.YtjdachfjlajjjaaDoorW1
import Derived.Test.YtjdachfjlajjjaaDoorW2
set_option linter.unusedVariables false
namespace Go.Proofs.Gx
open Go.Sl
/-! ### (*isochron/vm.cpu).self: function 65 -/
noncomputable def vm_cpu_self.f (a1540 : List api_Instr) (a1544 : Int) (a1545 : List api_Link) (a1549 : Int) (a1550 : Int) (a1551 : Int) (a1552 : Int) (a1553 : Int) (a1554 : Int) (a1555 : Int) (a1556 : Bool) (a1557 : Int) (a1561 : List api_Out) (a1562 : Int) (fn1563 : (Nat → Int)) (a1564 : api_Instr) : Option ((Nat → Int)) := (if 0 ≤ a1564.A ∧ a1564.A < 16 then some (upd fn1563 (a1564.A.toNat * 1) a1544) else none)
set_option maxRecDepth 100000 in
set_option maxHeartbeats 4000000 in
theorem vm_cpu_self.ok {B : Base} {w : World} {l : List HProp} {hf : Hp} (a1540 : List api_Instr) (a1544 : Int) (a1545 : List api_Link) (a1549 : Int) (a1550 : Int) (a1551 : Int) (a1552 : Int) (a1553 : Int) (a1554 : Int) (a1555 : Int) (a1556 : Bool) (a1557 : Int) (a1561 : List api_Out) (a1562 : Int) (fn1563 : (Nat → Int)) (a1564 : api_Instr) (b1539 : Nat) (A1541 : Option Addr) (c1542 : Nat) (A1546 : Option Addr) (c1547 : Nat) (A1559 : Option Addr) (c1560 : Nat) (hr1543 : SlR E_api_Instr.rep hf A1541 c1542 a1540) (hr1548 : SlR E_api_Link.rep hf A1546 c1547 a1545) (r : (Nat → Int)) (h : vm_cpu_self.f a1540 a1544 a1545 a1549 a1550 a1551 a1552 a1553 a1554 a1555 a1556 a1557 a1561 a1562 fn1563 a1564 = some r) (hS : St B w (Cl b1539 [.slice A1541 a1540.length c1542, .int .i64 a1544, .slice A1546 a1545.length c1547, .int .u64 a1549, .int .i64 a1550, .int .i64 a1551, .int .i64 a1552, .int .i64 a1553, .int .i64 a1554, .int .i64 a1555, .bool a1556, .int .i64 (fn1563 0), .int .i64 (fn1563 1), .int .i64 (fn1563 2), .int .i64 (fn1563 3), .int .i64 (fn1563 4), .int .i64 (fn1563 5), .int .i64 (fn1563 6), .int .i64 (fn1563 7), .int .i64 (fn1563 8), .int .i64 (fn1563 9), .int .i64 (fn1563 10), .int .i64 (fn1563 11), .int .i64 (fn1563 12), .int .i64 (fn1563 13), .int .i64 (fn1563 14), .int .i64 (fn1563 15), .int .i64 a1557, .slice A1559 a1561.length c1560, .int .i64 a1562] 66 :: OSf E_api_Out 58 (.slice A1559 a1561.length c1560) a1561 :: l) hf) :
    Calls Tryd.prog 65 #[.pointer (some ⟨b1539, 0, none⟩), .agg #[.int .i64 a1564.Op, .int .i64 a1564.A, .int .i64 a1564.B, .int .i64 a1564.C]] w (Ret fun v w => v = .tuple #[] ∧ St B w (Cl b1539 [.slice A1541 a1540.length c1542, .int .i64 a1544, .slice A1546 a1545.length c1547, .int .u64 a1549, .int .i64 a1550, .int .i64 a1551, .int .i64 a1552, .int .i64 a1553, .int .i64 a1554, .int .i64 a1555, .bool a1556, .int .i64 (r 0), .int .i64 (r 1), .int .i64 (r 2), .int .i64 (r 3), .int .i64 (r 4), .int .i64 (r 5), .int .i64 (r 6), .int .i64 (r 7), .int .i64 (r 8), .int .i64 (r 9), .int .i64 (r 10), .int .i64 (r 11), .int .i64 (r 12), .int .i64 (r 13), .int .i64 (r 14), .int .i64 (r 15), .int .i64 a1557, .slice A1559 a1561.length c1560, .int .i64 a1562] 66 :: OSf E_api_Out 58 (.slice A1559 a1561.length c1560) a1561 :: l) hf) := by
  have h := Holds.of h
  refine enter (args := [.pointer (some ⟨b1539, 0, none⟩), .agg #[.int .i64 a1564.Op, .int .i64 a1564.A, .int .i64 a1564.B, .int .i64 a1564.C]]) Tryd.func65 rfl Tryd.ntmps65 (Nat.le_of_ble_eq_true rfl) ?_
  refine RC.seq ?_
  refine RC.region ?_
  refine RL.e (OW.box (cs := [.int .i64 a1564.Op, .int .i64 a1564.A, .int .i64 a1564.B, .int .i64 a1564.C]) hS rfl rfl) rfl rfl ?_
  rintro _ w ⟨b1570, rfl, hS⟩
  have hS : St B w (Cl b1570 [.int .i64 a1564.Op, .int .i64 a1564.A, .int .i64 a1564.B, .int .i64 a1564.C] 48 :: Cl b1539 [.slice A1541 a1540.length c1542, .int .i64 a1544, .slice A1546 a1545.length c1547, .int .u64 a1549, .int .i64 a1550, .int .i64 a1551, .int .i64 a1552, .int .i64 a1553, .int .i64 a1554, .int .i64 a1555, .bool a1556, .int .i64 (fn1563 0), .int .i64 (fn1563 1), .int .i64 (fn1563 2), .int .i64 (fn1563 3), .int .i64 (fn1563 4), .int .i64 (fn1563 5), .int .i64 (fn1563 6), .int .i64 (fn1563 7), .int .i64 (fn1563 8), .int .i64 (fn1563 9), .int .i64 (fn1563 10), .int .i64 (fn1563 11), .int .i64 (fn1563 12), .int .i64 (fn1563 13), .int .i64 (fn1563 14), .int .i64 (fn1563 15), .int .i64 a1557, .slice A1559 a1561.length c1560, .int .i64 a1562] 66 :: OSf E_api_Out 58 (.slice A1559 a1561.length c1560) a1561 :: l) hf := hS
  refine RL.nil ?_
  refine RQ.then_n ?_
  refine RC.plan (.pure 0 (.pure 1 (.cons 2 true (.pure 3 (.pure 4 (.pure 5 (.pure 6 (.cons 7 true (.cons 8 false (.cons 9 false (.cons 10 false (.cons 11 false .nil)))))))))))) [10, 11] (fun w => St B w (Cl b1570 [.int .i64 a1564.Op, .int .i64 a1564.A, .int .i64 a1564.B, .int .i64 a1564.C] 48 :: Cl b1539 [.slice A1541 a1540.length c1542, .int .i64 a1544, .slice A1546 a1545.length c1547, .int .u64 a1549, .int .i64 a1550, .int .i64 a1551, .int .i64 a1552, .int .i64 a1553, .int .i64 a1554, .int .i64 a1555, .bool a1556, .int .i64 (fn1563 0), .int .i64 (fn1563 1), .int .i64 (fn1563 2), .int .i64 (fn1563 3), .int .i64 (fn1563 4), .int .i64 (fn1563 5), .int .i64 (fn1563 6), .int .i64 (fn1563 7), .int .i64 (fn1563 8), .int .i64 (fn1563 9), .int .i64 (fn1563 10), .int .i64 (fn1563 11), .int .i64 (fn1563 12), .int .i64 (fn1563 13), .int .i64 (fn1563 14), .int .i64 (fn1563 15), .int .i64 a1557, .slice A1559 a1561.length c1560, .int .i64 a1562] 66 :: OSf E_api_Out 58 (.slice A1559 a1561.length c1560) a1561 :: l) hf) follows rfl (by kernel_rfl) NoTmp.body ?_
  have hS := hS.same (w' := { w with drawn := w.drawn + 1 }) rfl rfl
  revert hS
  generalize { w with drawn := w.drawn + 1 } = w
  intro hS
  refine RP.s0 0 rfl (fun w => Vl.move rfl) rfl ?_
  refine RP.s0 1 rfl (fun w => Vl.fieldAddr (a'' := ⟨b1570, 1, none⟩) Tryd.underlying48 rfl Tryd.sizeOf3 rfl rfl) rfl ?_
  refine RP.s 2 rfl rfl hS (fun w hS => Vl.load Tryd.isAgg3 rfl (hS.cell 0 rfl rfl)) rfl ?_
  refine RP.s0 3 rfl (fun w => Vl.move rfl) rfl ?_
  refine RP.s0 4 rfl (fun w => Vl.nilCheck rfl) rfl ?_
  refine RP.s0 5 rfl (fun w => Vl.fieldAddr (a'' := ⟨b1539, 0, none⟩) Tryd.underlying66 rfl Tryd.sizeOf26 rfl rfl) rfl ?_
  refine RP.s0 6 rfl (fun w => Vl.fieldAddr (a'' := ⟨b1539, 1, none⟩) Tryd.underlying26 rfl Tryd.sizeOf3 rfl rfl) rfl ?_
  refine RP.s 7 rfl rfl hS (fun w hS => Vl.load Tryd.isAgg3 rfl (hS.cell 1 rfl rfl)) rfl ?_
  refine RP.v1 8 rfl (Vl.nilCheck rfl) rfl rfl ?_
  refine RP.v1 9 rfl (Vl.fieldAddr (a'' := ⟨b1539, 11, none⟩) Tryd.underlying66 rfl Tryd.sizeOf64 rfl rfl) rfl rfl ?_
  obtain ⟨⟨hq1571, hq1572⟩, h⟩ := h.req
  refine RP.v1 10 rfl (Vl.indexAddrA (a'' := ⟨b1539, 11 + a1564.A.toNat * 1, none⟩) Tryd.underlying64 Tryd.sizeOf2 rfl rfl hq1571 hq1572 (add_mk _ _ _)) rfl rfl ?_
  refine RP.e0 11 rfl (OW.storeSeg (mk := (Value.int .i64)) (f := fn1563) (n := 16) (m := 11) (pre := [.slice A1541 a1540.length c1542, .int .i64 a1544, .slice A1546 a1545.length c1547, .int .u64 a1549, .int .i64 a1550, .int .i64 a1551, .int .i64 a1552, .int .i64 a1553, .int .i64 a1554, .int .i64 a1555, .bool a1556]) (post := [.int .i64 a1557, .slice A1559 a1561.length c1560, .int .i64 a1562]) (l' := Cl b1570 [.int .i64 a1564.Op, .int .i64 a1564.A, .int .i64 a1564.B, .int .i64 a1564.C] 48 :: Cl b1539 [.slice A1541 a1540.length c1542, .int .i64 a1544, .slice A1546 a1545.length c1547, .int .u64 a1549, .int .i64 a1550, .int .i64 a1551, .int .i64 a1552, .int .i64 a1553, .int .i64 a1554, .int .i64 a1555, .bool a1556, .int .i64 ((upd fn1563 (a1564.A.toNat * 1) a1544) 0), .int .i64 ((upd fn1563 (a1564.A.toNat * 1) a1544) 1), .int .i64 ((upd fn1563 (a1564.A.toNat * 1) a1544) 2), .int .i64 ((upd fn1563 (a1564.A.toNat * 1) a1544) 3), .int .i64 ((upd fn1563 (a1564.A.toNat * 1) a1544) 4), .int .i64 ((upd fn1563 (a1564.A.toNat * 1) a1544) 5), .int .i64 ((upd fn1563 (a1564.A.toNat * 1) a1544) 6), .int .i64 ((upd fn1563 (a1564.A.toNat * 1) a1544) 7), .int .i64 ((upd fn1563 (a1564.A.toNat * 1) a1544) 8), .int .i64 ((upd fn1563 (a1564.A.toNat * 1) a1544) 9), .int .i64 ((upd fn1563 (a1564.A.toNat * 1) a1544) 10), .int .i64 ((upd fn1563 (a1564.A.toNat * 1) a1544) 11), .int .i64 ((upd fn1563 (a1564.A.toNat * 1) a1544) 12), .int .i64 ((upd fn1563 (a1564.A.toNat * 1) a1544) 13), .int .i64 ((upd fn1563 (a1564.A.toNat * 1) a1544) 14), .int .i64 ((upd fn1563 (a1564.A.toNat * 1) a1544) 15), .int .i64 a1557, .slice A1559 a1561.length c1560, .int .i64 a1562] 66 :: OSf E_api_Out 58 (.slice A1559 a1561.length c1560) a1561 :: l) 1 hS rfl rfl rfl rfl Tryd.sizeOf2 (by omega) (fun _ => rfl) (fun _ => rfl) rfl) rfl ?_
  rintro _ w ⟨rfl, hS⟩
  have hS : St B w (Cl b1570 [.int .i64 a1564.Op, .int .i64 a1564.A, .int .i64 a1564.B, .int .i64 a1564.C] 48 :: Cl b1539 [.slice A1541 a1540.length c1542, .int .i64 a1544, .slice A1546 a1545.length c1547, .int .u64 a1549, .int .i64 a1550, .int .i64 a1551, .int .i64 a1552, .int .i64 a1553, .int .i64 a1554, .int .i64 a1555, .bool a1556, .int .i64 ((upd fn1563 (a1564.A.toNat * 1) a1544) 0), .int .i64 ((upd fn1563 (a1564.A.toNat * 1) a1544) 1), .int .i64 ((upd fn1563 (a1564.A.toNat * 1) a1544) 2), .int .i64 ((upd fn1563 (a1564.A.toNat * 1) a1544) 3), .int .i64 ((upd fn1563 (a1564.A.toNat * 1) a1544) 4), .int .i64 ((upd fn1563 (a1564.A.toNat * 1) a1544) 5), .int .i64 ((upd fn1563 (a1564.A.toNat * 1) a1544) 6), .int .i64 ((upd fn1563 (a1564.A.toNat * 1) a1544) 7), .int .i64 ((upd fn1563 (a1564.A.toNat * 1) a1544) 8), .int .i64 ((upd fn1563 (a1564.A.toNat * 1) a1544) 9), .int .i64 ((upd fn1563 (a1564.A.toNat * 1) a1544) 10), .int .i64 ((upd fn1563 (a1564.A.toNat * 1) a1544) 11), .int .i64 ((upd fn1563 (a1564.A.toNat * 1) a1544) 12), .int .i64 ((upd fn1563 (a1564.A.toNat * 1) a1544) 13), .int .i64 ((upd fn1563 (a1564.A.toNat * 1) a1544) 14), .int .i64 ((upd fn1563 (a1564.A.toNat * 1) a1544) 15), .int .i64 a1557, .slice A1559 a1561.length c1560, .int .i64 a1562] 66 :: OSf E_api_Out 58 (.slice A1559 a1561.length c1560) a1561 :: l) hf := hS
  refine ⟨(by intro hx; cases hx), ?_⟩
  refine RP.nil ?_
  have e := h.some
  subst e
  refine RQ.end0 (vs := []) Tryd.results65 trivial ?_
  exact ⟨rfl, (hS.dropAt 0 rfl)⟩

/-! ### (*isochron/vm.cpu).run$1: function 33 -/
noncomputable def vm_cpu_run_1.f  : Option (Unit) := some ()
set_option maxRecDepth 100000 in
set_option maxHeartbeats 4000000 in
theorem vm_cpu_run_1.ok {B : Base} {w : World} {l : List HProp} {hf : Hp} (b1942 : Nat) (r : Unit) (h : vm_cpu_run_1.f = some r) (hS : St B w (Cl b1942 [.nilIface] 71 :: l) hf) :
    CallsD Tryd.prog 33 #[.pointer (some ⟨b1942, 0, none⟩)] (.returning) w (fun e u' w' => u' = .returning ∧ (Ret fun v w => v = .tuple #[] ∧ St B w (Cl b1942 [.nilIface] 71 :: l) hf) e w') := by
  have h := Holds.of h
  refine deferIdle (args := [.pointer (some ⟨b1942, 0, none⟩)]) Tryd.func33 rfl Tryd.ntmps33 (Nat.le_of_ble_eq_true rfl) rfl ?_
  refine RC.block ?_
  refine RC.seq ?_
  refine RC.region ?_
  refine RL.s (Vl.bin (v := .bool true) rfl rfl (by kernel_rfl)) rfl ?_
  refine RL.nil ?_
  refine RQ.then_n ?_
  refine RC.condT rfl ?_
  refine RC.region ?_
  refine RL.s (Vl.assign rfl) rfl ?_
  refine RL.nil ?_
  refine RQ.inB_n ?_
  have e := h.some
  skip
  refine RQ.end0 (vs := []) Tryd.results33 trivial ?_
  exact ⟨rfl, hS⟩

/-! ### errors.Join: function 34 -/
noncomputable def errors_Join.f (a2363 : vm_fault) : Option (vm_fault) := some a2363
set_option maxRecDepth 100000 in
set_option maxHeartbeats 4000000 in
theorem errors_Join.ok {B : Base} {w : World} {l : List HProp} {hf : Hp} (a2363 : vm_fault) (A2361 : Option Addr) (c2362 : Nat) (r : vm_fault) (h : errors_Join.f a2363 = some r) (hS : St B w (OSl 71 1 (.slice A2361 1 c2362) 1 [.iface 69 (.agg #[.int .i64 a2363.at_, .int .i64 a2363.why])] :: l) hf) :
    Calls Tryd.prog 34 #[.slice A2361 1 c2362] w (Ret fun v w => ∃ (b_1 : Nat) (A_2 : Option Addr) (c_3 : Nat), v = .iface 113 (.pointer (some ⟨b_1, 0, none⟩)) ∧ St B w (Cl b_1 [.slice A_2 1 c_3] 115 :: OSl 71 1 (.slice A_2 1 c_3) 1 [.iface 69 (.agg #[.int .i64 r.at_, .int .i64 r.why])] :: OSl 71 1 (.slice A2361 1 c2362) 1 [.iface 69 (.agg #[.int .i64 a2363.at_, .int .i64 a2363.why])] :: l) hf) := by
  have h := Holds.of h
  refine enter (args := [.slice A2361 1 c2362]) Tryd.func34 rfl Tryd.ntmps34 (Nat.le_of_ble_eq_true rfl) ?_
  refine RC.seq ?_
  refine RC.region ?_
  refine RL.s (Vl.assign rfl) rfl ?_
  refine RL.nil ?_
  refine RQ.then_n ?_
  refine RC.seq ?_
  refine RC.region ?_
  refine RL.s (Vl.assign rfl) rfl ?_
  refine RL.nil ?_
  refine RQ.then_n ?_
  refine RC.seq ?_
  refine RC.seq ?_
  refine RC.region ?_
  refine RL.s (Vl.move rfl) rfl ?_
  refine RL.s (Vl.lenSl Tryd.underlying112 rfl) rfl ?_
  refine RL.s (Vl.move rfl) rfl ?_
  refine RL.nil ?_
  refine RQ.then_n ?_
  refine RC.block ?_
  refine RC.unroll ?_
  refine RQ.round ?_
  refine RC.seq ?_
  refine RC.region ?_
  refine RL.s (Vl.int rfl rfl rfl) rfl ?_
  refine RL.nil ?_
  refine RQ.then_n ?_
  refine RC.seq ?_
  refine RC.condT rfl ?_
  refine RC.skip ?_
  refine RQ.then_n ?_
  refine RC.seq ?_
  refine RC.block ?_
  refine RC.seq ?_
  refine RC.region ?_
  refine RL.s (Vl.indexAddr (a'' := (ad A2361).add 0) Tryd.underlying112 Tryd.sizeOf71 rfl rfl (hS.litAdr 0 rfl (by decide)) (by decide) (by decide) rfl) rfl ?_
  refine RL.s (Vl.load Tryd.isAgg71 rfl (hS.litCell 0 rfl rfl)) rfl ?_
  refine RL.s (Vl.assign rfl) rfl ?_
  refine RL.nil ?_
  refine RQ.then_n ?_
  refine RC.seq ?_
  refine RC.region ?_
  refine RL.s (Vl.move rfl) rfl ?_
  refine RL.s (Vl.bin (v := .bool true) rfl rfl (by kernel_rfl)) rfl ?_
  refine RL.nil ?_
  refine RQ.then_n ?_
  refine RC.condT rfl ?_
  refine RC.region ?_
  refine RL.s (Vl.move rfl) rfl ?_
  refine RL.s (Vl.int rfl rfl rfl) rfl ?_
  refine RL.s (Vl.assign rfl) rfl ?_
  refine RL.nil ?_
  refine RQ.inB_n ?_
  refine RQ.then_n ?_
  refine RC.region ?_
  refine RL.s (Vl.int rfl rfl rfl) rfl ?_
  refine RL.s (Vl.move rfl) rfl ?_
  refine RL.nil ?_
  refine RQ.then_n ?_
  refine RQ.round ?_
  refine RC.seq ?_
  refine RC.region ?_
  refine RL.s (Vl.int rfl rfl rfl) rfl ?_
  refine RL.nil ?_
  refine RQ.then_n ?_
  refine RC.seq ?_
  refine RC.condF rfl ?_
  refine RC.exit ?_
  refine RQ.exitT ?_
  refine RQ.exitT ?_
  refine RQ.inB_hit ?_
  refine RQ.then_n ?_
  refine RC.seq ?_
  refine RC.seq ?_
  refine RC.region ?_
  refine RL.s (Vl.move rfl) rfl ?_
  refine RL.s (Vl.int rfl rfl rfl) rfl ?_
  refine RL.nil ?_
  refine RQ.then_n ?_
  refine RC.condF rfl ?_
  refine RC.skip ?_
  refine RQ.then_n ?_
  refine RC.seq ?_
  refine RC.region ?_
  refine RL.s (Vl.move rfl) rfl ?_
  refine RL.e (OW.make0L (c := 1) (sz := 1) hS Tryd.underlying112 Tryd.type71 rfl rfl rfl rfl (by decide) (by decide)) rfl rfl ?_
  rintro _ w ⟨b2389, rfl, hS⟩
  have hS : St B w (OSl 71 1 (.slice (some ⟨b2389, 0, none⟩) 0 1) 0 [] :: OSl 71 1 (.slice A2361 1 c2362) 1 [.iface 69 (.agg #[.int .i64 a2363.at_, .int .i64 a2363.why])] :: l) hf := hS
  refine RL.s (Vl.build (v := .agg #[.slice (some ⟨b2389, 0, none⟩) 0 1]) (parts := [(0, .tmp 23)]) rfl (by kernel_rfl)) rfl ?_
  refine RL.e (OW.box (cs := [.slice (some ⟨b2389, 0, none⟩) 0 1]) hS rfl rfl) rfl rfl ?_
  rintro _ w ⟨b2391, rfl, hS⟩
  have hS : St B w (Cl b2391 [.slice (some ⟨b2389, 0, none⟩) 0 1] 115 :: OSl 71 1 (.slice (some ⟨b2389, 0, none⟩) 0 1) 0 [] :: OSl 71 1 (.slice A2361 1 c2362) 1 [.iface 69 (.agg #[.int .i64 a2363.at_, .int .i64 a2363.why])] :: l) hf := hS
  refine RL.s (Vl.assign rfl) rfl ?_
  refine RL.nil ?_
  refine RQ.then_n ?_
  refine RC.seq ?_
  refine RC.seq ?_
  refine RC.region ?_
  refine RL.s (Vl.move rfl) rfl ?_
  refine RL.s (Vl.lenSl Tryd.underlying112 rfl) rfl ?_
  refine RL.s (Vl.move rfl) rfl ?_
  refine RL.nil ?_
  refine RQ.then_n ?_
  refine RC.block ?_
  refine RC.unroll ?_
  refine RQ.round ?_
  refine RC.seq ?_
  refine RC.region ?_
  refine RL.s (Vl.int rfl rfl rfl) rfl ?_
  refine RL.nil ?_
  refine RQ.then_n ?_
  refine RC.seq ?_
  refine RC.condT rfl ?_
  refine RC.skip ?_
  refine RQ.then_n ?_
  refine RC.seq ?_
  refine RC.block ?_
  refine RC.seq ?_
  refine RC.region ?_
  refine RL.s (Vl.indexAddr (a'' := (ad A2361).add 0) Tryd.underlying112 Tryd.sizeOf71 rfl rfl (hS.litAdr 2 rfl (by decide)) (by decide) (by decide) rfl) rfl ?_
  refine RL.s (Vl.load Tryd.isAgg71 rfl (hS.litCell 2 rfl rfl)) rfl ?_
  refine RL.s (Vl.assign rfl) rfl ?_
  refine RL.nil ?_
  refine RQ.then_n ?_
  refine RC.seq ?_
  refine RC.region ?_
  refine RL.s (Vl.move rfl) rfl ?_
  refine RL.s (Vl.bin (v := .bool true) rfl rfl (by kernel_rfl)) rfl ?_
  refine RL.nil ?_
  refine RQ.then_n ?_
  refine RC.condT rfl ?_
  refine RC.region ?_
  refine RL.s (Vl.move rfl) rfl ?_
  refine RL.s (Vl.move rfl) rfl ?_
  refine RL.s (Vl.nilCheck rfl) rfl ?_
  refine RL.s (Vl.fieldAddr (a'' := ⟨b2391, 0, none⟩) Tryd.underlying115 rfl Tryd.sizeOf112 rfl rfl) rfl ?_
  refine RL.s (Vl.load Tryd.isAgg112 rfl (hS.cell 0 rfl rfl)) rfl ?_
  refine RL.s (Vl.move rfl) rfl ?_
  refine RL.e (OW.buildSliceR (sz := 1) (cs := [.iface 69 (.agg #[.int .i64 a2363.at_, .int .i64 a2363.why])]) hS Tryd.underlying112 Tryd.zeroValue71 Tryd.sizeOf71 (parts := [(0, .tmp 39)]) rfl rfl (by decide) (by decide) (by kernel_rfl)) rfl rfl ?_
  rintro _ w ⟨b2408, rfl, hS⟩
  have hS : St B w (OSl 71 1 (.slice (some ⟨b2408, 0, none⟩) 1 1) 1 [.iface 69 (.agg #[.int .i64 a2363.at_, .int .i64 a2363.why])] :: Cl b2391 [.slice (some ⟨b2389, 0, none⟩) 0 1] 115 :: OSl 71 1 (.slice (some ⟨b2389, 0, none⟩) 0 1) 0 [] :: OSl 71 1 (.slice A2361 1 c2362) 1 [.iface 69 (.agg #[.int .i64 a2363.at_, .int .i64 a2363.why])] :: l) hf := hS
  refine RL.e (OW.appendL (k := 1) (es := [.iface 69 (.agg #[.int .i64 a2363.at_, .int .i64 a2363.why])]) 2 0 hS rfl rfl Tryd.underlying112 Tryd.type71 rfl rfl rfl rfl (by decide) (by decide) rfl rfl rfl (by decide) rfl rfl rfl) rfl rfl ?_
  rintro _ w ⟨A2410, c2411, rfl, hS⟩
  have hS : St B w (OSl 71 1 (.slice A2410 1 c2411) 1 [.iface 69 (.agg #[.int .i64 a2363.at_, .int .i64 a2363.why])] :: OSl 71 1 (.slice (some ⟨b2408, 0, none⟩) 1 1) 1 [.iface 69 (.agg #[.int .i64 a2363.at_, .int .i64 a2363.why])] :: Cl b2391 [.slice (some ⟨b2389, 0, none⟩) 0 1] 115 :: OSl 71 1 (.slice A2361 1 c2362) 1 [.iface 69 (.agg #[.int .i64 a2363.at_, .int .i64 a2363.why])] :: l) hf := hS
  refine RL.s (Vl.nilCheck rfl) rfl ?_
  refine RL.s (Vl.fieldAddr (a'' := ⟨b2391, 0, none⟩) Tryd.underlying115 rfl Tryd.sizeOf112 rfl rfl) rfl ?_
  refine RL.e0 (OW.store (cs := [.slice (some ⟨b2389, 0, none⟩) 0 1]) (vs := [.slice A2410 1 c2411]) (l' := OSl 71 1 (.slice A2410 1 c2411) 1 [.iface 69 (.agg #[.int .i64 a2363.at_, .int .i64 a2363.why])] :: OSl 71 1 (.slice (some ⟨b2408, 0, none⟩) 1 1) 1 [.iface 69 (.agg #[.int .i64 a2363.at_, .int .i64 a2363.why])] :: Cl b2391 [.slice A2410 1 c2411] 115 :: OSl 71 1 (.slice A2361 1 c2362) 1 [.iface 69 (.agg #[.int .i64 a2363.at_, .int .i64 a2363.why])] :: l) 2 hS rfl rfl rfl rfl Tryd.sizeOf112 rfl rfl rfl rfl) rfl ?_
  rintro _ w ⟨rfl, hS⟩
  have hS : St B w (OSl 71 1 (.slice A2410 1 c2411) 1 [.iface 69 (.agg #[.int .i64 a2363.at_, .int .i64 a2363.why])] :: OSl 71 1 (.slice (some ⟨b2408, 0, none⟩) 1 1) 1 [.iface 69 (.agg #[.int .i64 a2363.at_, .int .i64 a2363.why])] :: Cl b2391 [.slice A2410 1 c2411] 115 :: OSl 71 1 (.slice A2361 1 c2362) 1 [.iface 69 (.agg #[.int .i64 a2363.at_, .int .i64 a2363.why])] :: l) hf := hS
  refine RL.nil ?_
  refine RQ.inB_n ?_
  refine RQ.then_n ?_
  refine RC.region ?_
  refine RL.s (Vl.int rfl rfl rfl) rfl ?_
  refine RL.s (Vl.move rfl) rfl ?_
  refine RL.nil ?_
  refine RQ.then_n ?_
  refine RQ.round ?_
  refine RC.seq ?_
  refine RC.region ?_
  refine RL.s (Vl.int rfl rfl rfl) rfl ?_
  refine RL.nil ?_
  refine RQ.then_n ?_
  refine RC.seq ?_
  refine RC.condF rfl ?_
  refine RC.exit ?_
  refine RQ.exitT ?_
  refine RQ.exitT ?_
  refine RQ.inB_hit ?_
  refine RQ.then_n ?_
  refine RC.seq ?_
  refine RC.region ?_
  refine RL.s (Vl.move rfl) rfl ?_
  refine RL.s (Vl.makeIface Tryd.underlying113 rfl rfl) rfl ?_
  refine RL.s (Vl.assign rfl) rfl ?_
  refine RL.nil ?_
  refine RQ.then_n ?_
  refine RC.ret ?_
  have e := h.some
  subst e
  refine RQ.ret0 (vs := [.iface 113 (.pointer (some ⟨b2391, 0, none⟩))]) Tryd.results34 ⟨rfl, trivial⟩ ?_
  exact ⟨b2391, A2410, c2411, rfl, ((((hS.dropAt 1 rfl).pull 2 rfl rfl).pull 1 rfl rfl).pull 2 rfl rfl)⟩

/-! ### (*isochron/vm.cpu).run$1: function 33 -/
noncomputable def vm_cpu_run_1v2.f (a2355 : vm_fault) : Option (vm_fault) := ((errors_Join.f a2355).bind fun t2425 => some t2425)
set_option maxRecDepth 100000 in
set_option maxHeartbeats 4000000 in
theorem vm_cpu_run_1v2.ok {B : Base} {w : World} {l : List HProp} {hf : Hp} (a2355 : vm_fault) (b2354 : Nat) (r : vm_fault) (h : vm_cpu_run_1v2.f a2355 = some r) (hS : St B w (Cl b2354 [.nilIface] 71 :: l) hf) :
    CallsD Tryd.prog 33 #[.pointer (some ⟨b2354, 0, none⟩)] (.panicking (pan (.iface 69 (.agg #[.int .i64 a2355.at_, .int .i64 a2355.why])))) w (fun e u' w' => u' = .panicking (panR (.iface 69 (.agg #[.int .i64 a2355.at_, .int .i64 a2355.why]))) ∧ (Ret fun v w => ∃ (b_1 : Nat) (A_2 : Option Addr) (c_3 : Nat), v = .tuple #[] ∧ St B w (Cl b_1 [.slice A_2 1 c_3] 115 :: OSl 71 1 (.slice A_2 1 c_3) 1 [.iface 69 (.agg #[.int .i64 r.at_, .int .i64 r.why])] :: Cl b2354 [.iface 113 (.pointer (some ⟨b_1, 0, none⟩))] 71 :: l) hf) e w') := by
  have h := Holds.of h
  refine deferCatch (args := [.pointer (some ⟨b2354, 0, none⟩)]) Tryd.func33 rfl Tryd.ntmps33 (Nat.le_of_ble_eq_true rfl) rfl ?_
  refine RC.block ?_
  refine RC.seq ?_
  refine RC.region ?_
  refine RL.s (Vl.bin (v := .bool false) rfl rfl (by kernel_rfl)) rfl ?_
  refine RL.nil ?_
  refine RQ.then_n ?_
  refine RC.condF rfl ?_
  refine RC.seq ?_
  refine RC.region ?_
  refine RL.s (Vl.tassert (r := .tuple #[.agg #[.int .i64 a2355.at_, .int .i64 a2355.why], .bool true]) rfl (fun w => run_tassert_same Tryd.underlying69 rfl _ _ w)) rfl ?_
  refine RL.s (Vl.extract rfl rfl) rfl ?_
  refine RL.s (Vl.extract rfl rfl) rfl ?_
  refine RL.nil ?_
  refine RQ.then_n ?_
  refine RC.condT rfl ?_
  refine RC.seq ?_
  refine RC.region ?_
  refine RL.e (OW.alloc (cs := [.int .i64 0, .int .i64 0]) hS Tryd.zeroValue69 rfl) rfl rfl ?_
  rintro _ w ⟨b2422, rfl, hS⟩
  have hS : St B w (Cl b2422 [.int .i64 0, .int .i64 0] 69 :: Cl b2354 [.nilIface] 71 :: l) hf := hS
  refine RL.e0 (OW.store (cs := [.int .i64 0, .int .i64 0]) (vs := [.int .i64 a2355.at_, .int .i64 a2355.why]) (l' := Cl b2422 [.int .i64 a2355.at_, .int .i64 a2355.why] 69 :: Cl b2354 [.nilIface] 71 :: l) 0 hS rfl rfl rfl rfl Tryd.sizeOf69 rfl rfl rfl rfl) rfl ?_
  rintro _ w ⟨rfl, hS⟩
  have hS : St B w (Cl b2422 [.int .i64 a2355.at_, .int .i64 a2355.why] 69 :: Cl b2354 [.nilIface] 71 :: l) hf := hS
  refine RL.nil ?_
  refine RQ.then_n ?_
  refine RC.region ?_
  refine RL.s (Vl.loadA (vs := [.int .i64 a2355.at_, .int .i64 a2355.why]) Tryd.isAgg69 Tryd.sizeOf69 rfl rfl (hS.cellsAt 0 rfl rfl)) rfl ?_
  refine RL.s (Vl.makeIface Tryd.underlying69 rfl rfl) rfl ?_
  refine RL.e (OW.buildSliceR (sz := 1) (cs := [.iface 69 (.agg #[.int .i64 a2355.at_, .int .i64 a2355.why])]) hS Tryd.underlying112 Tryd.zeroValue71 Tryd.sizeOf71 (parts := [(0, .tmp 11)]) rfl rfl (by decide) (by decide) (by kernel_rfl)) rfl rfl ?_
  rintro _ w ⟨b2424, rfl, hS⟩
  have hS : St B w (OSl 71 1 (.slice (some ⟨b2424, 0, none⟩) 1 1) 1 [.iface 69 (.agg #[.int .i64 a2355.at_, .int .i64 a2355.why])] :: Cl b2422 [.int .i64 a2355.at_, .int .i64 a2355.why] 69 :: Cl b2354 [.nilIface] 71 :: l) hf := hS
  obtain ⟨t2425, hg2426, h⟩ := h.bind
  refine RL.e (OW.callF (ls := [.tmp 12]) rfl Tryd.call34 (errors_Join.ok a2355 (some ⟨b2424, 0, none⟩) 1 _ hg2426 hS)) rfl rfl ?_
  rintro _ w ⟨b2427, A2429, c2430, rfl, hS⟩
  have hS : St B w (Cl b2427 [.slice A2429 1 c2430] 115 :: OSl 71 1 (.slice A2429 1 c2430) 1 [.iface 69 (.agg #[.int .i64 t2425.at_, .int .i64 t2425.why])] :: OSl 71 1 (.slice (some ⟨b2424, 0, none⟩) 1 1) 1 [.iface 69 (.agg #[.int .i64 a2355.at_, .int .i64 a2355.why])] :: Cl b2422 [.int .i64 a2355.at_, .int .i64 a2355.why] 69 :: Cl b2354 [.nilIface] 71 :: l) hf := hS
  refine RL.e0 (OW.store (cs := [.nilIface]) (vs := [.iface 113 (.pointer (some ⟨b2427, 0, none⟩))]) (l' := Cl b2427 [.slice A2429 1 c2430] 115 :: OSl 71 1 (.slice A2429 1 c2430) 1 [.iface 69 (.agg #[.int .i64 t2425.at_, .int .i64 t2425.why])] :: OSl 71 1 (.slice (some ⟨b2424, 0, none⟩) 1 1) 1 [.iface 69 (.agg #[.int .i64 a2355.at_, .int .i64 a2355.why])] :: Cl b2422 [.int .i64 a2355.at_, .int .i64 a2355.why] 69 :: Cl b2354 [.iface 113 (.pointer (some ⟨b2427, 0, none⟩))] 71 :: l) 4 hS rfl rfl rfl rfl Tryd.sizeOf71 rfl rfl rfl rfl) rfl ?_
  rintro _ w ⟨rfl, hS⟩
  have hS : St B w (Cl b2427 [.slice A2429 1 c2430] 115 :: OSl 71 1 (.slice A2429 1 c2430) 1 [.iface 69 (.agg #[.int .i64 t2425.at_, .int .i64 t2425.why])] :: OSl 71 1 (.slice (some ⟨b2424, 0, none⟩) 1 1) 1 [.iface 69 (.agg #[.int .i64 a2355.at_, .int .i64 a2355.why])] :: Cl b2422 [.int .i64 a2355.at_, .int .i64 a2355.why] 69 :: Cl b2354 [.iface 113 (.pointer (some ⟨b2427, 0, none⟩))] 71 :: l) hf := hS
  refine RL.nil ?_
  refine RQ.inB_n ?_
  have e := h.some
  subst e
  refine RQ.end0 (vs := []) Tryd.results33 trivial ?_
  exact ⟨b2427, A2429, c2430, rfl, ((hS.dropAt 2 rfl).dropAt 2 rfl)⟩

/-! ### (*isochron/vm.cpu).run: function 20 -/
noncomputable def vm_cpu_run.j14 (fn2883 : (Nat → Int)) (x2884 : Int) (l2885 : List api_Out) (x2889 : Int) : Option (((Nat → Int) × Int × List api_Out × Int) ⊕ (vm_fault × (Nat → Int) × Int × List api_Out × Int)) := ((vm_cpu_run_1.f).bind fun _ => some (.inl (fn2883, x2884, l2885, x2889)))
noncomputable def vm_cpu_run.j18 (x3038 : Int) (fn3246 : (Nat → Int)) (x3247 : Int) (l3248 : List api_Out) (x3252 : Int) : Option (((Nat → Int) × Int × List api_Out × Int × Int) ⊕ (((Nat → Int) × Int × List api_Out × Int) ⊕ (vm_fault × (Nat → Int) × Int × List api_Out × Int))) := some (.inl (fn3246, x3247, l3248, x3252, IntKind.i64.wrap (x3038 - 1)))
noncomputable def vm_cpu_run.l17b (a555 : List api_Instr) (a559 : Int) (a560 : List api_Link) (a564 : Int) (a565 : Int) (a566 : Int) (a567 : Int) (a568 : Int) (a569 : Int) (a570 : Int) (a571 : Bool) : (Nat → Int) × Int × List api_Out × Int × Int → Option (((Nat → Int) × Int × List api_Out × Int × Int) ⊕ (((Nat → Int) × Int × List api_Out × Int) ⊕ (vm_fault × (Nat → Int) × Int × List api_Out × Int)))
  | (fn3031, x3032, l3033, x3037, x3038) => (if 0 < x3038 then (if x3037 < (a555.length : Int) then (if 0 ≤ x3037 then (if (nth a555 x3037).Op = 0 then ((vm_cpu_halt.f a555 a559 a560 a564 a565 a566 a567 a568 a569 a570 a571 x3032 l3033 (IntKind.i64.wrap (x3037 + 1)) fn3031 (nth a555 x3037)).bind fun t3257 => vm_cpu_run.j18 x3038 fn3031 x3032 l3033 t3257) else (if (nth a555 x3037).Op = 1 then ((vm_cpu_set.f a555 a559 a560 a564 a565 a566 a567 a568 a569 a570 a571 x3032 l3033 (IntKind.i64.wrap (x3037 + 1)) fn3031 (nth a555 x3037)).bind fun t3260 => vm_cpu_run.j18 x3038 t3260 x3032 l3033 (IntKind.i64.wrap (x3037 + 1))) else (if (nth a555 x3037).Op = 2 then ((vm_cpu_move.f a555 a559 a560 a564 a565 a566 a567 a568 a569 a570 a571 x3032 l3033 (IntKind.i64.wrap (x3037 + 1)) fn3031 (nth a555 x3037)).bind fun t3263 => vm_cpu_run.j18 x3038 t3263 x3032 l3033 (IntKind.i64.wrap (x3037 + 1))) else (if (nth a555 x3037).Op = 3 then ((vm_cpu_add.f a555 a559 a560 a564 a565 a566 a567 a568 a569 a570 a571 x3032 l3033 (IntKind.i64.wrap (x3037 + 1)) fn3031 (nth a555 x3037)).bind fun t3266 => vm_cpu_run.j18 x3038 t3266 x3032 l3033 (IntKind.i64.wrap (x3037 + 1))) else (if (nth a555 x3037).Op = 4 then ((vm_cpu_sub.f a555 a559 a560 a564 a565 a566 a567 a568 a569 a570 a571 x3032 l3033 (IntKind.i64.wrap (x3037 + 1)) fn3031 (nth a555 x3037)).bind fun t3269 => vm_cpu_run.j18 x3038 t3269 x3032 l3033 (IntKind.i64.wrap (x3037 + 1))) else (if (nth a555 x3037).Op = 5 then ((vm_cpu_mul.f a555 a559 a560 a564 a565 a566 a567 a568 a569 a570 a571 x3032 l3033 (IntKind.i64.wrap (x3037 + 1)) fn3031 (nth a555 x3037)).bind fun t3272 => vm_cpu_run.j18 x3038 t3272 x3032 l3033 (IntKind.i64.wrap (x3037 + 1))) else (if (nth a555 x3037).Op = 6 then ((vm_cpu_div.f a555 a559 a560 a564 a565 a566 a567 a568 a569 a570 a571 x3032 l3033 (IntKind.i64.wrap (x3037 + 1)) fn3031 (nth a555 x3037)).bind fun t3275 => vm_cpu_run.j18 x3038 t3275 x3032 l3033 (IntKind.i64.wrap (x3037 + 1))) else (if (nth a555 x3037).Op = 7 then ((vm_cpu_mod.f a555 a559 a560 a564 a565 a566 a567 a568 a569 a570 a571 x3032 l3033 (IntKind.i64.wrap (x3037 + 1)) fn3031 (nth a555 x3037)).bind fun t3278 => vm_cpu_run.j18 x3038 t3278 x3032 l3033 (IntKind.i64.wrap (x3037 + 1))) else (if (nth a555 x3037).Op = 8 then ((vm_cpu_less.f a555 a559 a560 a564 a565 a566 a567 a568 a569 a570 a571 x3032 l3033 (IntKind.i64.wrap (x3037 + 1)) fn3031 (nth a555 x3037)).bind fun t3281 => vm_cpu_run.j18 x3038 t3281 x3032 l3033 (IntKind.i64.wrap (x3037 + 1))) else (if (nth a555 x3037).Op = 9 then ((vm_cpu_same.f a555 a559 a560 a564 a565 a566 a567 a568 a569 a570 a571 x3032 l3033 (IntKind.i64.wrap (x3037 + 1)) fn3031 (nth a555 x3037)).bind fun t3284 => vm_cpu_run.j18 x3038 t3284 x3032 l3033 (IntKind.i64.wrap (x3037 + 1))) else (if (nth a555 x3037).Op = 10 then ((vm_cpu_jump.f a555 a559 a560 a564 a565 a566 a567 a568 a569 a570 a571 x3032 l3033 (IntKind.i64.wrap (x3037 + 1)) fn3031 (nth a555 x3037)).bind fun t3287 => vm_cpu_run.j18 x3038 fn3031 x3032 l3033 t3287) else (if (nth a555 x3037).Op = 11 then ((vm_cpu_zero.f a555 a559 a560 a564 a565 a566 a567 a568 a569 a570 a571 x3032 l3033 (IntKind.i64.wrap (x3037 + 1)) fn3031 (nth a555 x3037)).bind fun t3290 => vm_cpu_run.j18 x3038 fn3031 x3032 l3033 t3290) else (if (nth a555 x3037).Op = 12 then ((vm_cpu_send.f a555 a559 a560 a564 a565 a566 a567 a568 a569 a570 a571 x3032 l3033 (IntKind.i64.wrap (x3037 + 1)) fn3031 (nth a555 x3037)).bind fun t3293 => match t3293 with | .inl y3295 => vm_cpu_run.j18 x3038 fn3031 x3032 y3295 (IntKind.i64.wrap (x3037 + 1)) | .inr (y3299) => (Option.map Sum.inr ((vm_cpu_run_1v2.f y3299).bind fun t3300 => some (.inr ((t3300, fn3031, x3032, l3033, IntKind.i64.wrap (x3037 + 1))))))) else (if (nth a555 x3037).Op = 13 then ((vm_cpu_draw.f a555 a559 a560 a564 a565 a566 a567 a568 a569 a570 a571 x3032 l3033 (IntKind.i64.wrap (x3037 + 1)) fn3031 (nth a555 x3037)).bind fun (y3310, y3311) => vm_cpu_run.j18 x3038 y3310 y3311 l3033 (IntKind.i64.wrap (x3037 + 1))) else (if (nth a555 x3037).Op = 14 then ((vm_cpu_value.f a555 a559 a560 a564 a565 a566 a567 a568 a569 a570 a571 x3032 l3033 (IntKind.i64.wrap (x3037 + 1)) fn3031 (nth a555 x3037)).bind fun t3313 => vm_cpu_run.j18 x3038 t3313 x3032 l3033 (IntKind.i64.wrap (x3037 + 1))) else (if (nth a555 x3037).Op = 15 then ((vm_cpu_time.f a555 a559 a560 a564 a565 a566 a567 a568 a569 a570 a571 x3032 l3033 (IntKind.i64.wrap (x3037 + 1)) fn3031 (nth a555 x3037)).bind fun t3316 => vm_cpu_run.j18 x3038 t3316 x3032 l3033 (IntKind.i64.wrap (x3037 + 1))) else (if (nth a555 x3037).Op = 16 then ((vm_cpu_self.f a555 a559 a560 a564 a565 a566 a567 a568 a569 a570 a571 x3032 l3033 (IntKind.i64.wrap (x3037 + 1)) fn3031 (nth a555 x3037)).bind fun t3319 => vm_cpu_run.j18 x3038 t3319 x3032 l3033 (IntKind.i64.wrap (x3037 + 1))) else none))))))))))))))))) else none) else (Option.map Sum.inr (vm_cpu_run.j14 fn3031 x3032 l3033 x3037))) else (Option.map Sum.inr (vm_cpu_run.j14 fn3031 x3032 l3033 x3037)))
noncomputable def vm_cpu_run.l17 (a555 : List api_Instr) (a559 : Int) (a560 : List api_Link) (a564 : Int) (a565 : Int) (a566 : Int) (a567 : Int) (a568 : Int) (a569 : Int) (a570 : Int) (a571 : Bool) (s : (Nat → Int) × Int × List api_Out × Int × Int) : Option (((Nat → Int) × Int × List api_Out × Int) ⊕ (vm_fault × (Nat → Int) × Int × List api_Out × Int)) := loopR (vm_cpu_run.l17b a555 a559 a560 a564 a565 a566 a567 a568 a569 a570 a571) s
noncomputable def vm_cpu_run.f (a555 : List api_Instr) (a559 : Int) (a560 : List api_Link) (a564 : Int) (a565 : Int) (a566 : Int) (a567 : Int) (a568 : Int) (a569 : Int) (a570 : Int) (a571 : Bool) (a572 : Int) (a576 : List api_Out) (a577 : Int) (fn578 : (Nat → Int)) : Option (((Nat → Int) × Int × List api_Out × Int) ⊕ (vm_fault × (Nat → Int) × Int × List api_Out × Int)) := ((vm_operators.f).bind fun _ => vm_cpu_run.l17 a555 a559 a560 a564 a565 a566 a567 a568 a569 a570 a571 (fn578, a572, a576, a577, 4096))
set_option maxRecDepth 100000 in
set_option maxHeartbeats 4000000 in
theorem vm_cpu_run.ok {B : Base} {w : World} {l : List HProp} {hf : Hp} (a555 : List api_Instr) (a559 : Int) (a560 : List api_Link) (a564 : Int) (a565 : Int) (a566 : Int) (a567 : Int) (a568 : Int) (a569 : Int) (a570 : Int) (a571 : Bool) (a572 : Int) (a576 : List api_Out) (a577 : Int) (fn578 : (Nat → Int)) (b554 : Nat) (A556 : Option Addr) (c557 : Nat) (A561 : Option Addr) (c562 : Nat) (A574 : Option Addr) (c575 : Nat) (hr558 : SlR E_api_Instr.rep hf A556 c557 a555) (hr563 : SlR E_api_Link.rep hf A561 c562 a560) (r : ((Nat → Int) × Int × List api_Out × Int) ⊕ (vm_fault × (Nat → Int) × Int × List api_Out × Int)) (h : vm_cpu_run.f a555 a559 a560 a564 a565 a566 a567 a568 a569 a570 a571 a572 a576 a577 fn578 = some r) (hS : St B w (Cl b554 [.slice A556 a555.length c557, .int .i64 a559, .slice A561 a560.length c562, .int .u64 a564, .int .i64 a565, .int .i64 a566, .int .i64 a567, .int .i64 a568, .int .i64 a569, .int .i64 a570, .bool a571, .int .i64 (fn578 0), .int .i64 (fn578 1), .int .i64 (fn578 2), .int .i64 (fn578 3), .int .i64 (fn578 4), .int .i64 (fn578 5), .int .i64 (fn578 6), .int .i64 (fn578 7), .int .i64 (fn578 8), .int .i64 (fn578 9), .int .i64 (fn578 10), .int .i64 (fn578 11), .int .i64 (fn578 12), .int .i64 (fn578 13), .int .i64 (fn578 14), .int .i64 (fn578 15), .int .i64 a572, .slice A574 a576.length c575, .int .i64 a577] 66 :: OSf E_api_Out 58 (.slice A574 a576.length c575) a576 :: l) hf) :
    Calls Tryd.prog 20 #[.pointer (some ⟨b554, 0, none⟩)] w (Ret fun v w => match r with | .inl r_ => ∃ (A_1 : Option Addr) (c_2 : Nat), v = .nilIface ∧ St B w (OSf E_api_Out 58 (.slice A_1 r_.2.2.1.length c_2) r_.2.2.1 :: Cl b554 [.slice A556 a555.length c557, .int .i64 a559, .slice A561 a560.length c562, .int .u64 a564, .int .i64 a565, .int .i64 a566, .int .i64 a567, .int .i64 a568, .int .i64 a569, .int .i64 a570, .bool a571, .int .i64 (r_.1 0), .int .i64 (r_.1 1), .int .i64 (r_.1 2), .int .i64 (r_.1 3), .int .i64 (r_.1 4), .int .i64 (r_.1 5), .int .i64 (r_.1 6), .int .i64 (r_.1 7), .int .i64 (r_.1 8), .int .i64 (r_.1 9), .int .i64 (r_.1 10), .int .i64 (r_.1 11), .int .i64 (r_.1 12), .int .i64 (r_.1 13), .int .i64 (r_.1 14), .int .i64 (r_.1 15), .int .i64 r_.2.1, .slice A_1 r_.2.2.1.length c_2, .int .i64 r_.2.2.2] 66 :: l) hf | .inr (r_) => ∃ (b_3 : Nat) (A_4 : Option Addr) (c_5 : Nat) (A_6 : Option Addr) (c_7 : Nat), v = .iface 113 (.pointer (some ⟨b_3, 0, none⟩)) ∧ St B w (Cl b_3 [.slice A_4 1 c_5] 115 :: OSl 71 1 (.slice A_4 1 c_5) 1 [.iface 69 (.agg #[.int .i64 r_.1.at_, .int .i64 r_.1.why])] :: OSf E_api_Out 58 (.slice A_6 r_.2.2.2.1.length c_7) r_.2.2.2.1 :: Cl b554 [.slice A556 a555.length c557, .int .i64 a559, .slice A561 a560.length c562, .int .u64 a564, .int .i64 a565, .int .i64 a566, .int .i64 a567, .int .i64 a568, .int .i64 a569, .int .i64 a570, .bool a571, .int .i64 (r_.2.1 0), .int .i64 (r_.2.1 1), .int .i64 (r_.2.1 2), .int .i64 (r_.2.1 3), .int .i64 (r_.2.1 4), .int .i64 (r_.2.1 5), .int .i64 (r_.2.1 6), .int .i64 (r_.2.1 7), .int .i64 (r_.2.1 8), .int .i64 (r_.2.1 9), .int .i64 (r_.2.1 10), .int .i64 (r_.2.1 11), .int .i64 (r_.2.1 12), .int .i64 (r_.2.1 13), .int .i64 (r_.2.1 14), .int .i64 (r_.2.1 15), .int .i64 r_.2.2.1, .slice A_6 r_.2.2.2.1.length c_7, .int .i64 r_.2.2.2.2] 66 :: l) hf) := by
  have h := Holds.of h
  refine enterD (args := [.pointer (some ⟨b554, 0, none⟩)]) Tryd.func20 rfl Tryd.ntmps20 (Nat.le_of_ble_eq_true rfl) ?_
  refine RC.seq ?_
  refine RC.region ?_
  refine RL.e (OW.alloc (cs := [.nilIface]) hS Tryd.zeroValue71 rfl) rfl rfl ?_
  rintro _ w ⟨b2456, rfl, hS⟩
  have hS : St B w (Cl b2456 [.nilIface] 71 :: Cl b554 [.slice A556 a555.length c557, .int .i64 a559, .slice A561 a560.length c562, .int .u64 a564, .int .i64 a565, .int .i64 a566, .int .i64 a567, .int .i64 a568, .int .i64 a569, .int .i64 a570, .bool a571, .int .i64 (fn578 0), .int .i64 (fn578 1), .int .i64 (fn578 2), .int .i64 (fn578 3), .int .i64 (fn578 4), .int .i64 (fn578 5), .int .i64 (fn578 6), .int .i64 (fn578 7), .int .i64 (fn578 8), .int .i64 (fn578 9), .int .i64 (fn578 10), .int .i64 (fn578 11), .int .i64 (fn578 12), .int .i64 (fn578 13), .int .i64 (fn578 14), .int .i64 (fn578 15), .int .i64 a572, .slice A574 a576.length c575, .int .i64 a577] 66 :: OSf E_api_Out 58 (.slice A574 a576.length c575) a576 :: l) hf := hS
  refine RL.nil ?_
  refine RQ.then_n ?_
  refine RC.seq ?_
  refine RC.region ?_
  refine RL.s (Vl.makeFunc (fi := []) (ca := [.tmp 2]) rfl rfl) rfl ?_
  refine RL.defer rfl ?_
  refine RL.nil ?_
  refine RQ.then_n ?_
  refine RC.seq ?_
  refine RC.region ?_
  obtain ⟨t2457, hg2458, h⟩ := h.bind
  refine RL.e (OW.callF (ls := []) rfl Tryd.call35 (vm_operators.ok _ hg2458 hS)) rfl rfl ?_
  rintro _ w ⟨b2459, rfl, hS⟩
  have hS : St B w (MapL b2459 [({ key := .int .i64 0, val := .func (.func 49) #[] #[], born := 0 } : MapEntry), ({ key := .int .i64 1, val := .func (.func 50) #[] #[], born := 1 } : MapEntry), ({ key := .int .i64 2, val := .func (.func 51) #[] #[], born := 2 } : MapEntry), ({ key := .int .i64 3, val := .func (.func 52) #[] #[], born := 3 } : MapEntry), ({ key := .int .i64 4, val := .func (.func 53) #[] #[], born := 4 } : MapEntry), ({ key := .int .i64 5, val := .func (.func 54) #[] #[], born := 5 } : MapEntry), ({ key := .int .i64 6, val := .func (.func 55) #[] #[], born := 6 } : MapEntry), ({ key := .int .i64 7, val := .func (.func 56) #[] #[], born := 7 } : MapEntry), ({ key := .int .i64 8, val := .func (.func 57) #[] #[], born := 8 } : MapEntry), ({ key := .int .i64 9, val := .func (.func 58) #[] #[], born := 9 } : MapEntry), ({ key := .int .i64 10, val := .func (.func 59) #[] #[], born := 10 } : MapEntry), ({ key := .int .i64 11, val := .func (.func 60) #[] #[], born := 11 } : MapEntry), ({ key := .int .i64 12, val := .func (.func 61) #[] #[], born := 12 } : MapEntry), ({ key := .int .i64 13, val := .func (.func 62) #[] #[], born := 13 } : MapEntry), ({ key := .int .i64 14, val := .func (.func 63) #[] #[], born := 14 } : MapEntry), ({ key := .int .i64 15, val := .func (.func 64) #[] #[], born := 15 } : MapEntry), ({ key := .int .i64 16, val := .func (.func 65) #[] #[], born := 16 } : MapEntry)] 17 :: Cl b2456 [.nilIface] 71 :: Cl b554 [.slice A556 a555.length c557, .int .i64 a559, .slice A561 a560.length c562, .int .u64 a564, .int .i64 a565, .int .i64 a566, .int .i64 a567, .int .i64 a568, .int .i64 a569, .int .i64 a570, .bool a571, .int .i64 (fn578 0), .int .i64 (fn578 1), .int .i64 (fn578 2), .int .i64 (fn578 3), .int .i64 (fn578 4), .int .i64 (fn578 5), .int .i64 (fn578 6), .int .i64 (fn578 7), .int .i64 (fn578 8), .int .i64 (fn578 9), .int .i64 (fn578 10), .int .i64 (fn578 11), .int .i64 (fn578 12), .int .i64 (fn578 13), .int .i64 (fn578 14), .int .i64 (fn578 15), .int .i64 a572, .slice A574 a576.length c575, .int .i64 a577] 66 :: OSf E_api_Out 58 (.slice A574 a576.length c575) a576 :: l) hf := hS
  refine RL.s (Vl.assign rfl) rfl ?_
  refine RL.nil ?_
  refine RQ.then_n ?_
  refine RC.join (fun (s : (Nat → Int) × Int × List api_Out × Int) a w => ∃ (fn2883 : (Nat → Int)) (x2884 : Int) (l2885 : List api_Out) (x2889 : Int), s = (fn2883, x2884, l2885, x2889) ∧ ∃ (A2886 : Option Addr) (c2887 : Nat), Has ⟨50, [⟨.fn (.func 33) #[.pointer (some ⟨b2456, 0, none⟩)], #[]⟩]⟩ [(2, .pointer (some ⟨b2456, 0, none⟩))] a ∧ St B w (OSf E_api_Out 58 (.slice A2886 l2885.length c2887) l2885 :: Cl b2456 [.nilIface] 71 :: Cl b554 [.slice A556 a555.length c557, .int .i64 a559, .slice A561 a560.length c562, .int .u64 a564, .int .i64 a565, .int .i64 a566, .int .i64 a567, .int .i64 a568, .int .i64 a569, .int .i64 a570, .bool a571, .int .i64 (fn2883 0), .int .i64 (fn2883 1), .int .i64 (fn2883 2), .int .i64 (fn2883 3), .int .i64 (fn2883 4), .int .i64 (fn2883 5), .int .i64 (fn2883 6), .int .i64 (fn2883 7), .int .i64 (fn2883 8), .int .i64 (fn2883 9), .int .i64 (fn2883 10), .int .i64 (fn2883 11), .int .i64 (fn2883 12), .int .i64 (fn2883 13), .int .i64 (fn2883 14), .int .i64 (fn2883 15), .int .i64 x2884, .slice A2886 l2885.length c2887, .int .i64 x2889] 66 :: l) hf ∧ Holds (· = r) (vm_cpu_run.j14 fn2883 x2884 l2885 x2889)) ?_ ?_
  · rintro _ a w ⟨fn2883, x2884, l2885, x2889, rfl, A2886, c2887, ha, hS, h⟩
    revert a
    show RC _ _ _ _ _ _
    refine RC.seq ?_
    refine RC.region ?_
    refine RL.e0 (OW.store (cs := [.nilIface]) (vs := [.nilIface]) (l' := OSf E_api_Out 58 (.slice A2886 l2885.length c2887) l2885 :: Cl b2456 [.nilIface] 71 :: Cl b554 [.slice A556 a555.length c557, .int .i64 a559, .slice A561 a560.length c562, .int .u64 a564, .int .i64 a565, .int .i64 a566, .int .i64 a567, .int .i64 a568, .int .i64 a569, .int .i64 a570, .bool a571, .int .i64 (fn2883 0), .int .i64 (fn2883 1), .int .i64 (fn2883 2), .int .i64 (fn2883 3), .int .i64 (fn2883 4), .int .i64 (fn2883 5), .int .i64 (fn2883 6), .int .i64 (fn2883 7), .int .i64 (fn2883 8), .int .i64 (fn2883 9), .int .i64 (fn2883 10), .int .i64 (fn2883 11), .int .i64 (fn2883 12), .int .i64 (fn2883 13), .int .i64 (fn2883 14), .int .i64 (fn2883 15), .int .i64 x2884, .slice A2886 l2885.length c2887, .int .i64 x2889] 66 :: l) 1 hS rfl rfl rfl rfl Tryd.sizeOf71 rfl rfl rfl rfl) rfl ?_
    rintro _ w ⟨rfl, hS⟩
    have hS : St B w (OSf E_api_Out 58 (.slice A2886 l2885.length c2887) l2885 :: Cl b2456 [.nilIface] 71 :: Cl b554 [.slice A556 a555.length c557, .int .i64 a559, .slice A561 a560.length c562, .int .u64 a564, .int .i64 a565, .int .i64 a566, .int .i64 a567, .int .i64 a568, .int .i64 a569, .int .i64 a570, .bool a571, .int .i64 (fn2883 0), .int .i64 (fn2883 1), .int .i64 (fn2883 2), .int .i64 (fn2883 3), .int .i64 (fn2883 4), .int .i64 (fn2883 5), .int .i64 (fn2883 6), .int .i64 (fn2883 7), .int .i64 (fn2883 8), .int .i64 (fn2883 9), .int .i64 (fn2883 10), .int .i64 (fn2883 11), .int .i64 (fn2883 12), .int .i64 (fn2883 13), .int .i64 (fn2883 14), .int .i64 (fn2883 15), .int .i64 x2884, .slice A2886 l2885.length c2887, .int .i64 x2889] 66 :: l) hf := hS
    refine RL.nil ?_
    refine RQ.then_n ?_
    refine RC.ret ?_
    obtain ⟨t2890, hg2891, h⟩ := h.bind
    have e := h.some
    subst e
    refine RQ.deferRet Tryd.results20 (fun w => by kernel_rfl) (vm_cpu_run_1.ok b2456 _ hg2891 (((hS.pull 2 rfl rfl).pull 1 rfl rfl).pull 2 rfl rfl)) ?_
    rintro _ w ⟨rfl, hS⟩
    have hS : St B w (Cl b2456 [.nilIface] 71 :: OSf E_api_Out 58 (.slice A2886 l2885.length c2887) l2885 :: Cl b554 [.slice A556 a555.length c557, .int .i64 a559, .slice A561 a560.length c562, .int .u64 a564, .int .i64 a565, .int .i64 a566, .int .i64 a567, .int .i64 a568, .int .i64 a569, .int .i64 a570, .bool a571, .int .i64 (fn2883 0), .int .i64 (fn2883 1), .int .i64 (fn2883 2), .int .i64 (fn2883 3), .int .i64 (fn2883 4), .int .i64 (fn2883 5), .int .i64 (fn2883 6), .int .i64 (fn2883 7), .int .i64 (fn2883 8), .int .i64 (fn2883 9), .int .i64 (fn2883 10), .int .i64 (fn2883 11), .int .i64 (fn2883 12), .int .i64 (fn2883 13), .int .i64 (fn2883 14), .int .i64 (fn2883 15), .int .i64 x2884, .slice A2886 l2885.length c2887, .int .i64 x2889] 66 :: l) hf := hS
    exact ⟨[.nilIface], ⟨⟨_, rfl, run_loadVar1 Tryd.isAgg71 (hS.cell 0 rfl rfl)⟩, trivial⟩, ⟨A2886, c2887, rfl, (hS.dropAt 0 rfl)⟩⟩
  · refine RC.seq ?_
    refine RC.region ?_
    refine RL.s (Vl.assign rfl) rfl ?_
    refine RL.nil ?_
    refine RQ.then_n ?_
    refine RC.block ?_
    refine fun a ha => RC.loop (N := ⟨50, [⟨.fn (.func 33) #[.pointer (some ⟨b2456, 0, none⟩)], #[]⟩]⟩) (body := (vm_cpu_run.l17b a555 a559 a560 a564 a565 a566 a567 a568 a569 a570 a571)) (φ := (· = r)) (fun (s : (Nat → Int) × Int × List api_Out × Int × Int) a w => ∃ (fn3031 : (Nat → Int)) (x3032 : Int) (l3033 : List api_Out) (x3037 : Int) (x3038 : Int), s = (fn3031, x3032, l3033, x3037, x3038) ∧ ∃ (A3034 : Option Addr) (c3035 : Nat), Has ⟨50, [⟨.fn (.func 33) #[.pointer (some ⟨b2456, 0, none⟩)], #[]⟩]⟩ [(0, .pointer (some ⟨b554, 0, none⟩)), (2, .pointer (some ⟨b2456, 0, none⟩)), (3, .map (some b2459)), (4, .int .i64 x3038)] a ∧ St B w (OSf E_api_Out 58 (.slice A3034 l3033.length c3035) l3033 :: MapL b2459 [({ key := .int .i64 0, val := .func (.func 49) #[] #[], born := 0 } : MapEntry), ({ key := .int .i64 1, val := .func (.func 50) #[] #[], born := 1 } : MapEntry), ({ key := .int .i64 2, val := .func (.func 51) #[] #[], born := 2 } : MapEntry), ({ key := .int .i64 3, val := .func (.func 52) #[] #[], born := 3 } : MapEntry), ({ key := .int .i64 4, val := .func (.func 53) #[] #[], born := 4 } : MapEntry), ({ key := .int .i64 5, val := .func (.func 54) #[] #[], born := 5 } : MapEntry), ({ key := .int .i64 6, val := .func (.func 55) #[] #[], born := 6 } : MapEntry), ({ key := .int .i64 7, val := .func (.func 56) #[] #[], born := 7 } : MapEntry), ({ key := .int .i64 8, val := .func (.func 57) #[] #[], born := 8 } : MapEntry), ({ key := .int .i64 9, val := .func (.func 58) #[] #[], born := 9 } : MapEntry), ({ key := .int .i64 10, val := .func (.func 59) #[] #[], born := 10 } : MapEntry), ({ key := .int .i64 11, val := .func (.func 60) #[] #[], born := 11 } : MapEntry), ({ key := .int .i64 12, val := .func (.func 61) #[] #[], born := 12 } : MapEntry), ({ key := .int .i64 13, val := .func (.func 62) #[] #[], born := 13 } : MapEntry), ({ key := .int .i64 14, val := .func (.func 63) #[] #[], born := 14 } : MapEntry), ({ key := .int .i64 15, val := .func (.func 64) #[] #[], born := 15 } : MapEntry), ({ key := .int .i64 16, val := .func (.func 65) #[] #[], born := 16 } : MapEntry)] 17 :: Cl b2456 [.nilIface] 71 :: Cl b554 [.slice A556 a555.length c557, .int .i64 a559, .slice A561 a560.length c562, .int .u64 a564, .int .i64 a565, .int .i64 a566, .int .i64 a567, .int .i64 a568, .int .i64 a569, .int .i64 a570, .bool a571, .int .i64 (fn3031 0), .int .i64 (fn3031 1), .int .i64 (fn3031 2), .int .i64 (fn3031 3), .int .i64 (fn3031 4), .int .i64 (fn3031 5), .int .i64 (fn3031 6), .int .i64 (fn3031 7), .int .i64 (fn3031 8), .int .i64 (fn3031 9), .int .i64 (fn3031 10), .int .i64 (fn3031 11), .int .i64 (fn3031 12), .int .i64 (fn3031 13), .int .i64 (fn3031 14), .int .i64 (fn3031 15), .int .i64 x3032, .slice A3034 l3033.length c3035, .int .i64 x3037] 66 :: l) hf) ?_ (s0 := (fn578, a572, a576, a577, 4096)) h ⟨fn578, a572, a576, a577, 4096, rfl, A574, c575, ha.to ⟨rfl, rfl, rfl, rfl, trivial⟩, ((((hS.pull 2 rfl rfl).pull 2 rfl rfl).pull 2 rfl rfl).pull 3 rfl rfl)⟩
    rintro G3180 _ a w ⟨fn3031, x3032, l3033, x3037, x3038, rfl, A3034, c3035, ha, hS⟩ h
    revert a
    show RC _ _ _ _ _ _
    refine RC.seq ?_
    refine RC.seq ?_
    refine RC.noPan ?_
    refine RC.plan (.pure 0 (.pure 1 (.pure 2 (.pure 3 (.pure 4 (.pure 5 (.cons 6 true (.cons 7 false (.cons 8 false (.cons 9 false (.cons 10 false (.cons 11 false (.cons 12 false (.cons 13 false (.cons 14 false .nil))))))))))))))) [] (fun w => St B w (OSf E_api_Out 58 (.slice A3034 l3033.length c3035) l3033 :: MapL b2459 [({ key := .int .i64 0, val := .func (.func 49) #[] #[], born := 0 } : MapEntry), ({ key := .int .i64 1, val := .func (.func 50) #[] #[], born := 1 } : MapEntry), ({ key := .int .i64 2, val := .func (.func 51) #[] #[], born := 2 } : MapEntry), ({ key := .int .i64 3, val := .func (.func 52) #[] #[], born := 3 } : MapEntry), ({ key := .int .i64 4, val := .func (.func 53) #[] #[], born := 4 } : MapEntry), ({ key := .int .i64 5, val := .func (.func 54) #[] #[], born := 5 } : MapEntry), ({ key := .int .i64 6, val := .func (.func 55) #[] #[], born := 6 } : MapEntry), ({ key := .int .i64 7, val := .func (.func 56) #[] #[], born := 7 } : MapEntry), ({ key := .int .i64 8, val := .func (.func 57) #[] #[], born := 8 } : MapEntry), ({ key := .int .i64 9, val := .func (.func 58) #[] #[], born := 9 } : MapEntry), ({ key := .int .i64 10, val := .func (.func 59) #[] #[], born := 10 } : MapEntry), ({ key := .int .i64 11, val := .func (.func 60) #[] #[], born := 11 } : MapEntry), ({ key := .int .i64 12, val := .func (.func 61) #[] #[], born := 12 } : MapEntry), ({ key := .int .i64 13, val := .func (.func 62) #[] #[], born := 13 } : MapEntry), ({ key := .int .i64 14, val := .func (.func 63) #[] #[], born := 14 } : MapEntry), ({ key := .int .i64 15, val := .func (.func 64) #[] #[], born := 15 } : MapEntry), ({ key := .int .i64 16, val := .func (.func 65) #[] #[], born := 16 } : MapEntry)] 17 :: Cl b2456 [.nilIface] 71 :: Cl b554 [.slice A556 a555.length c557, .int .i64 a559, .slice A561 a560.length c562, .int .u64 a564, .int .i64 a565, .int .i64 a566, .int .i64 a567, .int .i64 a568, .int .i64 a569, .int .i64 a570, .bool a571, .int .i64 (fn3031 0), .int .i64 (fn3031 1), .int .i64 (fn3031 2), .int .i64 (fn3031 3), .int .i64 (fn3031 4), .int .i64 (fn3031 5), .int .i64 (fn3031 6), .int .i64 (fn3031 7), .int .i64 (fn3031 8), .int .i64 (fn3031 9), .int .i64 (fn3031 10), .int .i64 (fn3031 11), .int .i64 (fn3031 12), .int .i64 (fn3031 13), .int .i64 (fn3031 14), .int .i64 (fn3031 15), .int .i64 x3032, .slice A3034 l3033.length c3035, .int .i64 x3037] 66 :: l) hf) follows rfl (by kernel_rfl) NoTmp.noPan ?_
    have hS := hS.same (w' := { w with drawn := w.drawn + 1 }) rfl rfl
    revert hS
    generalize { w with drawn := w.drawn + 1 } = w
    intro hS
    refine RP.s0 0 rfl (fun w => Vl.move rfl) rfl ?_
    refine RP.s0 1 rfl (fun w => Vl.int rfl rfl rfl) rfl ?_
    refine RP.s0 2 rfl (fun w => Vl.move rfl) rfl ?_
    by_cases hc3183 : 0 < x3038
    case pos =>
     have h := h.pos hc3183
     refine RP.re 10 rfl (congrArg Value.bool (decide_eq_true hc3183)) ?_
     refine RP.sg0 3 rfl (fun w => Vl.move rfl) rfl rfl ?_
     refine RP.sg0 4 rfl (fun w => Vl.nilCheck rfl) rfl rfl ?_
     refine RP.sg0 5 rfl (fun w => Vl.fieldAddr (a'' := ⟨b554, 29, none⟩) Tryd.underlying66 rfl Tryd.sizeOf3 rfl rfl) rfl rfl ?_
     refine RP.sg 6 rfl rfl hS (fun w hS => Vl.load Tryd.isAgg3 rfl (hS.cell 3 rfl rfl)) rfl rfl ?_
     refine RP.v1 7 rfl (Vl.move rfl) rfl rfl ?_
     refine RP.v1 8 rfl (Vl.nilCheck rfl) rfl rfl ?_
     refine RP.v1 9 rfl (Vl.fieldAddr (a'' := ⟨b554, 0, none⟩) Tryd.underlying66 rfl Tryd.sizeOf26 rfl rfl) rfl rfl ?_
     refine RP.v1 10 rfl (Vl.fieldAddr (a'' := ⟨b554, 0, none⟩) Tryd.underlying26 rfl Tryd.sizeOf22 rfl rfl) rfl rfl ?_
     refine RP.v1 11 rfl (Vl.load Tryd.isAgg22 rfl (hS.cell 3 rfl rfl)) rfl rfl ?_
     refine RP.v1 12 rfl (Vl.lenSl Tryd.underlying22 rfl) rfl rfl ?_
     refine RP.v1 13 rfl (Vl.int rfl rfl rfl) rfl rfl ?_
     refine RP.v1 14 rfl (Vl.pickT rfl rfl) rfl rfl ?_
     refine RP.nil ?_
     refine RQ.noPan_n ?_
     refine RQ.then_n ?_
     by_cases hc3184 : x3037 < (a555.length : Int)
     case pos =>
      have h := h.pos hc3184
      refine RC.re 22 rfl (congrArg Value.bool (decide_eq_true hc3184)) ?_
      refine RC.condT rfl ?_
      refine RC.skip ?_
      refine RQ.then_n ?_
      refine RC.join (fun (s : (Nat → Int) × Int × List api_Out × Int) a w => ∃ (fn3246 : (Nat → Int)) (x3247 : Int) (l3248 : List api_Out) (x3252 : Int), s = (fn3246, x3247, l3248, x3252) ∧ ∃ (A3249 : Option Addr) (c3250 : Nat), Has ⟨50, [⟨.fn (.func 33) #[.pointer (some ⟨b2456, 0, none⟩)], #[]⟩]⟩ [(0, .pointer (some ⟨b554, 0, none⟩)), (2, .pointer (some ⟨b2456, 0, none⟩)), (3, .map (some b2459)), (4, .int .i64 x3038), (11, .pointer (some ⟨b554, 0, none⟩)), (12, .pointer (some ⟨b554, 0, none⟩)), (13, .pointer (some ⟨b554, 29, none⟩)), (14, .int .i64 x3037), (15, .pointer (some ⟨b554, 0, none⟩)), (16, .pointer (some ⟨b554, 0, none⟩)), (17, .pointer (some ⟨b554, 0, none⟩)), (18, .pointer (some ⟨b554, 0, none⟩)), (19, .slice A556 a555.length c557), (20, .int .i64 (a555.length : Int)), (21, .bool (decide (x3037 < (a555.length : Int))))] a ∧ St B w (OSf E_api_Out 58 (.slice A3249 l3248.length c3250) l3248 :: Cl b554 [.slice A556 a555.length c557, .int .i64 a559, .slice A561 a560.length c562, .int .u64 a564, .int .i64 a565, .int .i64 a566, .int .i64 a567, .int .i64 a568, .int .i64 a569, .int .i64 a570, .bool a571, .int .i64 (fn3246 0), .int .i64 (fn3246 1), .int .i64 (fn3246 2), .int .i64 (fn3246 3), .int .i64 (fn3246 4), .int .i64 (fn3246 5), .int .i64 (fn3246 6), .int .i64 (fn3246 7), .int .i64 (fn3246 8), .int .i64 (fn3246 9), .int .i64 (fn3246 10), .int .i64 (fn3246 11), .int .i64 (fn3246 12), .int .i64 (fn3246 13), .int .i64 (fn3246 14), .int .i64 (fn3246 15), .int .i64 x3247, .slice A3249 l3248.length c3250, .int .i64 x3252] 66 :: MapL b2459 [({ key := .int .i64 0, val := .func (.func 49) #[] #[], born := 0 } : MapEntry), ({ key := .int .i64 1, val := .func (.func 50) #[] #[], born := 1 } : MapEntry), ({ key := .int .i64 2, val := .func (.func 51) #[] #[], born := 2 } : MapEntry), ({ key := .int .i64 3, val := .func (.func 52) #[] #[], born := 3 } : MapEntry), ({ key := .int .i64 4, val := .func (.func 53) #[] #[], born := 4 } : MapEntry), ({ key := .int .i64 5, val := .func (.func 54) #[] #[], born := 5 } : MapEntry), ({ key := .int .i64 6, val := .func (.func 55) #[] #[], born := 6 } : MapEntry), ({ key := .int .i64 7, val := .func (.func 56) #[] #[], born := 7 } : MapEntry), ({ key := .int .i64 8, val := .func (.func 57) #[] #[], born := 8 } : MapEntry), ({ key := .int .i64 9, val := .func (.func 58) #[] #[], born := 9 } : MapEntry), ({ key := .int .i64 10, val := .func (.func 59) #[] #[], born := 10 } : MapEntry), ({ key := .int .i64 11, val := .func (.func 60) #[] #[], born := 11 } : MapEntry), ({ key := .int .i64 12, val := .func (.func 61) #[] #[], born := 12 } : MapEntry), ({ key := .int .i64 13, val := .func (.func 62) #[] #[], born := 13 } : MapEntry), ({ key := .int .i64 14, val := .func (.func 63) #[] #[], born := 14 } : MapEntry), ({ key := .int .i64 15, val := .func (.func 64) #[] #[], born := 15 } : MapEntry), ({ key := .int .i64 16, val := .func (.func 65) #[] #[], born := 16 } : MapEntry)] 17 :: Cl b2456 [.nilIface] 71 :: l) hf ∧ Holds (Sum.elim G3180 (· = r)) (vm_cpu_run.j18 x3038 fn3246 x3247 l3248 x3252)) ?_ ?_
      · rintro _ a w ⟨fn3246, x3247, l3248, x3252, rfl, A3249, c3250, ha, hS, h⟩
        revert a
        show RC _ _ _ _ _ _
        refine RC.region ?_
        refine RL.s (Vl.move rfl) rfl ?_
        refine RL.s (Vl.int rfl rfl rfl) rfl ?_
        refine RL.s (Vl.assign rfl) rfl ?_
        refine RL.nil ?_
        exact fun a ha => ⟨(fn3246, x3247, l3248, x3252, IntKind.i64.wrap (x3038 - 1)), ⟨fn3246, x3247, l3248, x3252, (IntKind.i64.wrap (x3038 - 1)), rfl, A3249, c3250, ha.to ⟨rfl, rfl, rfl, rfl, trivial⟩, ((((hS.pull 1 rfl rfl).pull 3 rfl rfl).pull 3 rfl rfl).pull 3 rfl rfl)⟩, h.some⟩
      · refine RC.block ?_
        refine RC.seq ?_
        refine RC.noPan ?_
        refine RC.plan (.pure 0 (.pure 1 (.pure 2 (.pure 3 (.cons 4 true (.pure 5 (.pure 6 (.pure 7 (.cons 8 true (.cons 9 true (.cons 10 true (.cons 11 false (.cons 12 false .nil))))))))))))) [12] (fun w => St B w (OSf E_api_Out 58 (.slice A3034 l3033.length c3035) l3033 :: MapL b2459 [({ key := .int .i64 0, val := .func (.func 49) #[] #[], born := 0 } : MapEntry), ({ key := .int .i64 1, val := .func (.func 50) #[] #[], born := 1 } : MapEntry), ({ key := .int .i64 2, val := .func (.func 51) #[] #[], born := 2 } : MapEntry), ({ key := .int .i64 3, val := .func (.func 52) #[] #[], born := 3 } : MapEntry), ({ key := .int .i64 4, val := .func (.func 53) #[] #[], born := 4 } : MapEntry), ({ key := .int .i64 5, val := .func (.func 54) #[] #[], born := 5 } : MapEntry), ({ key := .int .i64 6, val := .func (.func 55) #[] #[], born := 6 } : MapEntry), ({ key := .int .i64 7, val := .func (.func 56) #[] #[], born := 7 } : MapEntry), ({ key := .int .i64 8, val := .func (.func 57) #[] #[], born := 8 } : MapEntry), ({ key := .int .i64 9, val := .func (.func 58) #[] #[], born := 9 } : MapEntry), ({ key := .int .i64 10, val := .func (.func 59) #[] #[], born := 10 } : MapEntry), ({ key := .int .i64 11, val := .func (.func 60) #[] #[], born := 11 } : MapEntry), ({ key := .int .i64 12, val := .func (.func 61) #[] #[], born := 12 } : MapEntry), ({ key := .int .i64 13, val := .func (.func 62) #[] #[], born := 13 } : MapEntry), ({ key := .int .i64 14, val := .func (.func 63) #[] #[], born := 14 } : MapEntry), ({ key := .int .i64 15, val := .func (.func 64) #[] #[], born := 15 } : MapEntry), ({ key := .int .i64 16, val := .func (.func 65) #[] #[], born := 16 } : MapEntry)] 17 :: Cl b2456 [.nilIface] 71 :: Cl b554 [.slice A556 a555.length c557, .int .i64 a559, .slice A561 a560.length c562, .int .u64 a564, .int .i64 a565, .int .i64 a566, .int .i64 a567, .int .i64 a568, .int .i64 a569, .int .i64 a570, .bool a571, .int .i64 (fn3031 0), .int .i64 (fn3031 1), .int .i64 (fn3031 2), .int .i64 (fn3031 3), .int .i64 (fn3031 4), .int .i64 (fn3031 5), .int .i64 (fn3031 6), .int .i64 (fn3031 7), .int .i64 (fn3031 8), .int .i64 (fn3031 9), .int .i64 (fn3031 10), .int .i64 (fn3031 11), .int .i64 (fn3031 12), .int .i64 (fn3031 13), .int .i64 (fn3031 14), .int .i64 (fn3031 15), .int .i64 x3032, .slice A3034 l3033.length c3035, .int .i64 x3037] 66 :: l) hf) follows rfl (by kernel_rfl) NoTmp.noPan ?_
        have hS := hS.same (w' := { w with drawn := w.drawn + 1 }) rfl rfl
        revert hS
        generalize { w with drawn := w.drawn + 1 } = w
        intro hS
        refine RP.s0 0 rfl (fun w => Vl.move rfl) rfl ?_
        refine RP.s0 1 rfl (fun w => Vl.nilCheck rfl) rfl ?_
        refine RP.s0 2 rfl (fun w => Vl.fieldAddr (a'' := ⟨b554, 0, none⟩) Tryd.underlying66 rfl Tryd.sizeOf26 rfl rfl) rfl ?_
        refine RP.s0 3 rfl (fun w => Vl.fieldAddr (a'' := ⟨b554, 0, none⟩) Tryd.underlying26 rfl Tryd.sizeOf22 rfl rfl) rfl ?_
        refine RP.s 4 rfl rfl hS (fun w hS => Vl.load Tryd.isAgg22 rfl (hS.cell 3 rfl rfl)) rfl ?_
        refine RP.s0 5 rfl (fun w => Vl.move rfl) rfl ?_
        refine RP.s0 6 rfl (fun w => Vl.nilCheck rfl) rfl ?_
        refine RP.s0 7 rfl (fun w => Vl.fieldAddr (a'' := ⟨b554, 29, none⟩) Tryd.underlying66 rfl Tryd.sizeOf3 rfl rfl) rfl ?_
        refine RP.s 8 rfl rfl hS (fun w hS => Vl.load Tryd.isAgg3 rfl (hS.cell 3 rfl rfl)) rfl ?_
        obtain ⟨hq3253, h⟩ := h.req
        refine RP.s 9 rfl rfl hS (fun w hS => Vl.indexAddr Tryd.underlying22 Tryd.sizeOf48 rfl rfl ((hr558.2.world hS.sub).adr hq3253 hc3184) hq3253 hc3184 rfl) rfl ?_
        refine RP.s 10 rfl rfl hS (fun w hS => Vl.loadA Tryd.isAgg48 Tryd.sizeOf48 rfl rfl ((hr558.2.world hS.sub).cells hq3253 hc3184)) rfl ?_
        refine RP.e 11 rfl (OW.alloc (cs := [.int .i64 0, .int .i64 0, .int .i64 0, .int .i64 0]) hS Tryd.zeroValue48 rfl) rfl rfl ?_
        rintro _ w ⟨b3255, rfl, hS⟩
        have hS : St B w (Cl b3255 [.int .i64 0, .int .i64 0, .int .i64 0, .int .i64 0] 48 :: OSf E_api_Out 58 (.slice A3034 l3033.length c3035) l3033 :: MapL b2459 [({ key := .int .i64 0, val := .func (.func 49) #[] #[], born := 0 } : MapEntry), ({ key := .int .i64 1, val := .func (.func 50) #[] #[], born := 1 } : MapEntry), ({ key := .int .i64 2, val := .func (.func 51) #[] #[], born := 2 } : MapEntry), ({ key := .int .i64 3, val := .func (.func 52) #[] #[], born := 3 } : MapEntry), ({ key := .int .i64 4, val := .func (.func 53) #[] #[], born := 4 } : MapEntry), ({ key := .int .i64 5, val := .func (.func 54) #[] #[], born := 5 } : MapEntry), ({ key := .int .i64 6, val := .func (.func 55) #[] #[], born := 6 } : MapEntry), ({ key := .int .i64 7, val := .func (.func 56) #[] #[], born := 7 } : MapEntry), ({ key := .int .i64 8, val := .func (.func 57) #[] #[], born := 8 } : MapEntry), ({ key := .int .i64 9, val := .func (.func 58) #[] #[], born := 9 } : MapEntry), ({ key := .int .i64 10, val := .func (.func 59) #[] #[], born := 10 } : MapEntry), ({ key := .int .i64 11, val := .func (.func 60) #[] #[], born := 11 } : MapEntry), ({ key := .int .i64 12, val := .func (.func 61) #[] #[], born := 12 } : MapEntry), ({ key := .int .i64 13, val := .func (.func 62) #[] #[], born := 13 } : MapEntry), ({ key := .int .i64 14, val := .func (.func 63) #[] #[], born := 14 } : MapEntry), ({ key := .int .i64 15, val := .func (.func 64) #[] #[], born := 15 } : MapEntry), ({ key := .int .i64 16, val := .func (.func 65) #[] #[], born := 16 } : MapEntry)] 17 :: Cl b2456 [.nilIface] 71 :: Cl b554 [.slice A556 a555.length c557, .int .i64 a559, .slice A561 a560.length c562, .int .u64 a564, .int .i64 a565, .int .i64 a566, .int .i64 a567, .int .i64 a568, .int .i64 a569, .int .i64 a570, .bool a571, .int .i64 (fn3031 0), .int .i64 (fn3031 1), .int .i64 (fn3031 2), .int .i64 (fn3031 3), .int .i64 (fn3031 4), .int .i64 (fn3031 5), .int .i64 (fn3031 6), .int .i64 (fn3031 7), .int .i64 (fn3031 8), .int .i64 (fn3031 9), .int .i64 (fn3031 10), .int .i64 (fn3031 11), .int .i64 (fn3031 12), .int .i64 (fn3031 13), .int .i64 (fn3031 14), .int .i64 (fn3031 15), .int .i64 x3032, .slice A3034 l3033.length c3035, .int .i64 x3037] 66 :: l) hf := hS
        refine ⟨fun _ => (hS.dropAt 0 rfl), ?_⟩
        refine RP.e0 12 rfl (OW.store (cs := [.int .i64 0, .int .i64 0, .int .i64 0, .int .i64 0]) (vs := [.int .i64 ((nth a555 x3037).Op), .int .i64 ((nth a555 x3037).A), .int .i64 ((nth a555 x3037).B), .int .i64 ((nth a555 x3037).C)]) (l' := Cl b3255 [.int .i64 ((nth a555 x3037).Op), .int .i64 ((nth a555 x3037).A), .int .i64 ((nth a555 x3037).B), .int .i64 ((nth a555 x3037).C)] 48 :: OSf E_api_Out 58 (.slice A3034 l3033.length c3035) l3033 :: MapL b2459 [({ key := .int .i64 0, val := .func (.func 49) #[] #[], born := 0 } : MapEntry), ({ key := .int .i64 1, val := .func (.func 50) #[] #[], born := 1 } : MapEntry), ({ key := .int .i64 2, val := .func (.func 51) #[] #[], born := 2 } : MapEntry), ({ key := .int .i64 3, val := .func (.func 52) #[] #[], born := 3 } : MapEntry), ({ key := .int .i64 4, val := .func (.func 53) #[] #[], born := 4 } : MapEntry), ({ key := .int .i64 5, val := .func (.func 54) #[] #[], born := 5 } : MapEntry), ({ key := .int .i64 6, val := .func (.func 55) #[] #[], born := 6 } : MapEntry), ({ key := .int .i64 7, val := .func (.func 56) #[] #[], born := 7 } : MapEntry), ({ key := .int .i64 8, val := .func (.func 57) #[] #[], born := 8 } : MapEntry), ({ key := .int .i64 9, val := .func (.func 58) #[] #[], born := 9 } : MapEntry), ({ key := .int .i64 10, val := .func (.func 59) #[] #[], born := 10 } : MapEntry), ({ key := .int .i64 11, val := .func (.func 60) #[] #[], born := 11 } : MapEntry), ({ key := .int .i64 12, val := .func (.func 61) #[] #[], born := 12 } : MapEntry), ({ key := .int .i64 13, val := .func (.func 62) #[] #[], born := 13 } : MapEntry), ({ key := .int .i64 14, val := .func (.func 63) #[] #[], born := 14 } : MapEntry), ({ key := .int .i64 15, val := .func (.func 64) #[] #[], born := 15 } : MapEntry), ({ key := .int .i64 16, val := .func (.func 65) #[] #[], born := 16 } : MapEntry)] 17 :: Cl b2456 [.nilIface] 71 :: Cl b554 [.slice A556 a555.length c557, .int .i64 a559, .slice A561 a560.length c562, .int .u64 a564, .int .i64 a565, .int .i64 a566, .int .i64 a567, .int .i64 a568, .int .i64 a569, .int .i64 a570, .bool a571, .int .i64 (fn3031 0), .int .i64 (fn3031 1), .int .i64 (fn3031 2), .int .i64 (fn3031 3), .int .i64 (fn3031 4), .int .i64 (fn3031 5), .int .i64 (fn3031 6), .int .i64 (fn3031 7), .int .i64 (fn3031 8), .int .i64 (fn3031 9), .int .i64 (fn3031 10), .int .i64 (fn3031 11), .int .i64 (fn3031 12), .int .i64 (fn3031 13), .int .i64 (fn3031 14), .int .i64 (fn3031 15), .int .i64 x3032, .slice A3034 l3033.length c3035, .int .i64 x3037] 66 :: l) 0 hS rfl rfl rfl rfl Tryd.sizeOf48 rfl rfl rfl rfl) rfl ?_
        rintro _ w ⟨rfl, hS⟩
        have hS : St B w (Cl b3255 [.int .i64 ((nth a555 x3037).Op), .int .i64 ((nth a555 x3037).A), .int .i64 ((nth a555 x3037).B), .int .i64 ((nth a555 x3037).C)] 48 :: OSf E_api_Out 58 (.slice A3034 l3033.length c3035) l3033 :: MapL b2459 [({ key := .int .i64 0, val := .func (.func 49) #[] #[], born := 0 } : MapEntry), ({ key := .int .i64 1, val := .func (.func 50) #[] #[], born := 1 } : MapEntry), ({ key := .int .i64 2, val := .func (.func 51) #[] #[], born := 2 } : MapEntry), ({ key := .int .i64 3, val := .func (.func 52) #[] #[], born := 3 } : MapEntry), ({ key := .int .i64 4, val := .func (.func 53) #[] #[], born := 4 } : MapEntry), ({ key := .int .i64 5, val := .func (.func 54) #[] #[], born := 5 } : MapEntry), ({ key := .int .i64 6, val := .func (.func 55) #[] #[], born := 6 } : MapEntry), ({ key := .int .i64 7, val := .func (.func 56) #[] #[], born := 7 } : MapEntry), ({ key := .int .i64 8, val := .func (.func 57) #[] #[], born := 8 } : MapEntry), ({ key := .int .i64 9, val := .func (.func 58) #[] #[], born := 9 } : MapEntry), ({ key := .int .i64 10, val := .func (.func 59) #[] #[], born := 10 } : MapEntry), ({ key := .int .i64 11, val := .func (.func 60) #[] #[], born := 11 } : MapEntry), ({ key := .int .i64 12, val := .func (.func 61) #[] #[], born := 12 } : MapEntry), ({ key := .int .i64 13, val := .func (.func 62) #[] #[], born := 13 } : MapEntry), ({ key := .int .i64 14, val := .func (.func 63) #[] #[], born := 14 } : MapEntry), ({ key := .int .i64 15, val := .func (.func 64) #[] #[], born := 15 } : MapEntry), ({ key := .int .i64 16, val := .func (.func 65) #[] #[], born := 16 } : MapEntry)] 17 :: Cl b2456 [.nilIface] 71 :: Cl b554 [.slice A556 a555.length c557, .int .i64 a559, .slice A561 a560.length c562, .int .u64 a564, .int .i64 a565, .int .i64 a566, .int .i64 a567, .int .i64 a568, .int .i64 a569, .int .i64 a570, .bool a571, .int .i64 (fn3031 0), .int .i64 (fn3031 1), .int .i64 (fn3031 2), .int .i64 (fn3031 3), .int .i64 (fn3031 4), .int .i64 (fn3031 5), .int .i64 (fn3031 6), .int .i64 (fn3031 7), .int .i64 (fn3031 8), .int .i64 (fn3031 9), .int .i64 (fn3031 10), .int .i64 (fn3031 11), .int .i64 (fn3031 12), .int .i64 (fn3031 13), .int .i64 (fn3031 14), .int .i64 (fn3031 15), .int .i64 x3032, .slice A3034 l3033.length c3035, .int .i64 x3037] 66 :: l) hf := hS
        refine ⟨(by intro hx; cases hx), ?_⟩
        refine RP.nil ?_
        refine RQ.noPan_n ?_
        refine RQ.then_n ?_
        refine RC.seq ?_
        refine RC.region ?_
        refine RL.s (Vl.move rfl) rfl ?_
        refine RL.s (Vl.nilCheck rfl) rfl ?_
        refine RL.s (Vl.fieldAddr (a'' := ⟨b554, 29, none⟩) Tryd.underlying66 rfl Tryd.sizeOf3 rfl rfl) rfl ?_
        refine RL.s (Vl.load Tryd.isAgg3 rfl (hS.cell 4 rfl rfl)) rfl ?_
        refine RL.s (Vl.int rfl rfl rfl) rfl ?_
        refine RL.s (Vl.nilCheck rfl) rfl ?_
        refine RL.s (Vl.fieldAddr (a'' := ⟨b554, 29, none⟩) Tryd.underlying66 rfl Tryd.sizeOf3 rfl rfl) rfl ?_
        refine RL.e0 (OW.store (cs := [.slice A556 a555.length c557, .int .i64 a559, .slice A561 a560.length c562, .int .u64 a564, .int .i64 a565, .int .i64 a566, .int .i64 a567, .int .i64 a568, .int .i64 a569, .int .i64 a570, .bool a571, .int .i64 (fn3031 0), .int .i64 (fn3031 1), .int .i64 (fn3031 2), .int .i64 (fn3031 3), .int .i64 (fn3031 4), .int .i64 (fn3031 5), .int .i64 (fn3031 6), .int .i64 (fn3031 7), .int .i64 (fn3031 8), .int .i64 (fn3031 9), .int .i64 (fn3031 10), .int .i64 (fn3031 11), .int .i64 (fn3031 12), .int .i64 (fn3031 13), .int .i64 (fn3031 14), .int .i64 (fn3031 15), .int .i64 x3032, .slice A3034 l3033.length c3035, .int .i64 x3037]) (vs := [.int .i64 (IntKind.i64.wrap (x3037 + 1))]) (l' := Cl b3255 [.int .i64 ((nth a555 x3037).Op), .int .i64 ((nth a555 x3037).A), .int .i64 ((nth a555 x3037).B), .int .i64 ((nth a555 x3037).C)] 48 :: OSf E_api_Out 58 (.slice A3034 l3033.length c3035) l3033 :: MapL b2459 [({ key := .int .i64 0, val := .func (.func 49) #[] #[], born := 0 } : MapEntry), ({ key := .int .i64 1, val := .func (.func 50) #[] #[], born := 1 } : MapEntry), ({ key := .int .i64 2, val := .func (.func 51) #[] #[], born := 2 } : MapEntry), ({ key := .int .i64 3, val := .func (.func 52) #[] #[], born := 3 } : MapEntry), ({ key := .int .i64 4, val := .func (.func 53) #[] #[], born := 4 } : MapEntry), ({ key := .int .i64 5, val := .func (.func 54) #[] #[], born := 5 } : MapEntry), ({ key := .int .i64 6, val := .func (.func 55) #[] #[], born := 6 } : MapEntry), ({ key := .int .i64 7, val := .func (.func 56) #[] #[], born := 7 } : MapEntry), ({ key := .int .i64 8, val := .func (.func 57) #[] #[], born := 8 } : MapEntry), ({ key := .int .i64 9, val := .func (.func 58) #[] #[], born := 9 } : MapEntry), ({ key := .int .i64 10, val := .func (.func 59) #[] #[], born := 10 } : MapEntry), ({ key := .int .i64 11, val := .func (.func 60) #[] #[], born := 11 } : MapEntry), ({ key := .int .i64 12, val := .func (.func 61) #[] #[], born := 12 } : MapEntry), ({ key := .int .i64 13, val := .func (.func 62) #[] #[], born := 13 } : MapEntry), ({ key := .int .i64 14, val := .func (.func 63) #[] #[], born := 14 } : MapEntry), ({ key := .int .i64 15, val := .func (.func 64) #[] #[], born := 15 } : MapEntry), ({ key := .int .i64 16, val := .func (.func 65) #[] #[], born := 16 } : MapEntry)] 17 :: Cl b2456 [.nilIface] 71 :: Cl b554 [.slice A556 a555.length c557, .int .i64 a559, .slice A561 a560.length c562, .int .u64 a564, .int .i64 a565, .int .i64 a566, .int .i64 a567, .int .i64 a568, .int .i64 a569, .int .i64 a570, .bool a571, .int .i64 (fn3031 0), .int .i64 (fn3031 1), .int .i64 (fn3031 2), .int .i64 (fn3031 3), .int .i64 (fn3031 4), .int .i64 (fn3031 5), .int .i64 (fn3031 6), .int .i64 (fn3031 7), .int .i64 (fn3031 8), .int .i64 (fn3031 9), .int .i64 (fn3031 10), .int .i64 (fn3031 11), .int .i64 (fn3031 12), .int .i64 (fn3031 13), .int .i64 (fn3031 14), .int .i64 (fn3031 15), .int .i64 x3032, .slice A3034 l3033.length c3035, .int .i64 (IntKind.i64.wrap (x3037 + 1))] 66 :: l) 4 hS rfl rfl rfl rfl Tryd.sizeOf3 rfl rfl rfl rfl) rfl ?_
        rintro _ w ⟨rfl, hS⟩
        have hS : St B w (Cl b3255 [.int .i64 ((nth a555 x3037).Op), .int .i64 ((nth a555 x3037).A), .int .i64 ((nth a555 x3037).B), .int .i64 ((nth a555 x3037).C)] 48 :: OSf E_api_Out 58 (.slice A3034 l3033.length c3035) l3033 :: MapL b2459 [({ key := .int .i64 0, val := .func (.func 49) #[] #[], born := 0 } : MapEntry), ({ key := .int .i64 1, val := .func (.func 50) #[] #[], born := 1 } : MapEntry), ({ key := .int .i64 2, val := .func (.func 51) #[] #[], born := 2 } : MapEntry), ({ key := .int .i64 3, val := .func (.func 52) #[] #[], born := 3 } : MapEntry), ({ key := .int .i64 4, val := .func (.func 53) #[] #[], born := 4 } : MapEntry), ({ key := .int .i64 5, val := .func (.func 54) #[] #[], born := 5 } : MapEntry), ({ key := .int .i64 6, val := .func (.func 55) #[] #[], born := 6 } : MapEntry), ({ key := .int .i64 7, val := .func (.func 56) #[] #[], born := 7 } : MapEntry), ({ key := .int .i64 8, val := .func (.func 57) #[] #[], born := 8 } : MapEntry), ({ key := .int .i64 9, val := .func (.func 58) #[] #[], born := 9 } : MapEntry), ({ key := .int .i64 10, val := .func (.func 59) #[] #[], born := 10 } : MapEntry), ({ key := .int .i64 11, val := .func (.func 60) #[] #[], born := 11 } : MapEntry), ({ key := .int .i64 12, val := .func (.func 61) #[] #[], born := 12 } : MapEntry), ({ key := .int .i64 13, val := .func (.func 62) #[] #[], born := 13 } : MapEntry), ({ key := .int .i64 14, val := .func (.func 63) #[] #[], born := 14 } : MapEntry), ({ key := .int .i64 15, val := .func (.func 64) #[] #[], born := 15 } : MapEntry), ({ key := .int .i64 16, val := .func (.func 65) #[] #[], born := 16 } : MapEntry)] 17 :: Cl b2456 [.nilIface] 71 :: Cl b554 [.slice A556 a555.length c557, .int .i64 a559, .slice A561 a560.length c562, .int .u64 a564, .int .i64 a565, .int .i64 a566, .int .i64 a567, .int .i64 a568, .int .i64 a569, .int .i64 a570, .bool a571, .int .i64 (fn3031 0), .int .i64 (fn3031 1), .int .i64 (fn3031 2), .int .i64 (fn3031 3), .int .i64 (fn3031 4), .int .i64 (fn3031 5), .int .i64 (fn3031 6), .int .i64 (fn3031 7), .int .i64 (fn3031 8), .int .i64 (fn3031 9), .int .i64 (fn3031 10), .int .i64 (fn3031 11), .int .i64 (fn3031 12), .int .i64 (fn3031 13), .int .i64 (fn3031 14), .int .i64 (fn3031 15), .int .i64 x3032, .slice A3034 l3033.length c3035, .int .i64 (IntKind.i64.wrap (x3037 + 1))] 66 :: l) hf := hS
        refine RL.nil ?_
        refine RQ.then_n ?_
        refine RC.region ?_
        refine RL.s (Vl.move rfl) rfl ?_
        refine RL.s (Vl.fieldAddr (a'' := ⟨b3255, 0, none⟩) Tryd.underlying48 rfl Tryd.sizeOf3 rfl rfl) rfl ?_
        refine RL.s (Vl.load Tryd.isAgg3 rfl (hS.cell 0 rfl rfl)) rfl ?_
        by_cases hc3256 : (nth a555 x3037).Op = 0
        case pos =>
         have h := h.pos hc3256
         refine RL.s (Vl.lookupL (n' := 0) (j := 0) (v := .func (.func 49) #[] #[]) 2 hS rfl Tryd.underlying90 Tryd.underlying3 rfl rfl hc3256 rfl) rfl ?_
         refine RL.s (Vl.move rfl) rfl ?_
         refine RL.s (Vl.loadA (vs := [.int .i64 ((nth a555 x3037).Op), .int .i64 ((nth a555 x3037).A), .int .i64 ((nth a555 x3037).B), .int .i64 ((nth a555 x3037).C)]) Tryd.isAgg48 Tryd.sizeOf48 rfl rfl (hS.cellsAt 0 rfl rfl)) rfl ?_
         obtain ⟨t3257, hg3258, h⟩ := h.bind
         refine RL.e (OW.call (ls := [.tmp 47, .tmp 48]) rfl rfl Tryd.call49 rfl (vm_cpu_halt.ok a555 a559 a560 a564 a565 a566 a567 a568 a569 a570 a571 x3032 l3033 (IntKind.i64.wrap (x3037 + 1)) fn3031 (nth a555 x3037) b554 A556 c557 A561 c562 A3034 c3035 hr558 hr563 _ hg3258 (((((hS.pull 3 rfl rfl).pull 3 rfl rfl).pull 2 rfl rfl).pull 3 rfl rfl).pull 4 rfl rfl))) rfl rfl ?_
         rintro _ w ⟨rfl, hS⟩
         have hS : St B w (Cl b554 [.slice A556 a555.length c557, .int .i64 a559, .slice A561 a560.length c562, .int .u64 a564, .int .i64 a565, .int .i64 a566, .int .i64 a567, .int .i64 a568, .int .i64 a569, .int .i64 a570, .bool a571, .int .i64 (fn3031 0), .int .i64 (fn3031 1), .int .i64 (fn3031 2), .int .i64 (fn3031 3), .int .i64 (fn3031 4), .int .i64 (fn3031 5), .int .i64 (fn3031 6), .int .i64 (fn3031 7), .int .i64 (fn3031 8), .int .i64 (fn3031 9), .int .i64 (fn3031 10), .int .i64 (fn3031 11), .int .i64 (fn3031 12), .int .i64 (fn3031 13), .int .i64 (fn3031 14), .int .i64 (fn3031 15), .int .i64 x3032, .slice A3034 l3033.length c3035, .int .i64 t3257] 66 :: OSf E_api_Out 58 (.slice A3034 l3033.length c3035) l3033 :: Cl b3255 [.int .i64 ((nth a555 x3037).Op), .int .i64 ((nth a555 x3037).A), .int .i64 ((nth a555 x3037).B), .int .i64 ((nth a555 x3037).C)] 48 :: MapL b2459 [({ key := .int .i64 0, val := .func (.func 49) #[] #[], born := 0 } : MapEntry), ({ key := .int .i64 1, val := .func (.func 50) #[] #[], born := 1 } : MapEntry), ({ key := .int .i64 2, val := .func (.func 51) #[] #[], born := 2 } : MapEntry), ({ key := .int .i64 3, val := .func (.func 52) #[] #[], born := 3 } : MapEntry), ({ key := .int .i64 4, val := .func (.func 53) #[] #[], born := 4 } : MapEntry), ({ key := .int .i64 5, val := .func (.func 54) #[] #[], born := 5 } : MapEntry), ({ key := .int .i64 6, val := .func (.func 55) #[] #[], born := 6 } : MapEntry), ({ key := .int .i64 7, val := .func (.func 56) #[] #[], born := 7 } : MapEntry), ({ key := .int .i64 8, val := .func (.func 57) #[] #[], born := 8 } : MapEntry), ({ key := .int .i64 9, val := .func (.func 58) #[] #[], born := 9 } : MapEntry), ({ key := .int .i64 10, val := .func (.func 59) #[] #[], born := 10 } : MapEntry), ({ key := .int .i64 11, val := .func (.func 60) #[] #[], born := 11 } : MapEntry), ({ key := .int .i64 12, val := .func (.func 61) #[] #[], born := 12 } : MapEntry), ({ key := .int .i64 13, val := .func (.func 62) #[] #[], born := 13 } : MapEntry), ({ key := .int .i64 14, val := .func (.func 63) #[] #[], born := 14 } : MapEntry), ({ key := .int .i64 15, val := .func (.func 64) #[] #[], born := 15 } : MapEntry), ({ key := .int .i64 16, val := .func (.func 65) #[] #[], born := 16 } : MapEntry)] 17 :: Cl b2456 [.nilIface] 71 :: l) hf := hS
         refine RL.nil ?_
         refine RQ.inB_n ?_
         exact fun a ha => ⟨(fn3031, x3032, l3033, t3257), fn3031, x3032, l3033, t3257, rfl, A3034, c3035, ha.to ⟨rfl, rfl, rfl, rfl, rfl, rfl, rfl, rfl, rfl, rfl, rfl, rfl, rfl, rfl, rfl, trivial⟩, (((((hS.dropAt 2 rfl).pull 3 rfl rfl).pull 3 rfl rfl).pull 2 rfl rfl).pull 3 rfl rfl), h⟩
        case neg =>
         have h := h.neg hc3256
         by_cases hc3259 : (nth a555 x3037).Op = 1
         case pos =>
          have h := h.pos hc3259
          refine RL.s (Vl.lookupL (n' := 1) (j := 1) (v := .func (.func 50) #[] #[]) 2 hS rfl Tryd.underlying90 Tryd.underlying3 rfl rfl hc3259 rfl) rfl ?_
          refine RL.s (Vl.move rfl) rfl ?_
          refine RL.s (Vl.loadA (vs := [.int .i64 ((nth a555 x3037).Op), .int .i64 ((nth a555 x3037).A), .int .i64 ((nth a555 x3037).B), .int .i64 ((nth a555 x3037).C)]) Tryd.isAgg48 Tryd.sizeOf48 rfl rfl (hS.cellsAt 0 rfl rfl)) rfl ?_
          obtain ⟨t3260, hg3261, h⟩ := h.bind
          refine RL.e (OW.call (ls := [.tmp 47, .tmp 48]) rfl rfl Tryd.call50 rfl (vm_cpu_set.ok a555 a559 a560 a564 a565 a566 a567 a568 a569 a570 a571 x3032 l3033 (IntKind.i64.wrap (x3037 + 1)) fn3031 (nth a555 x3037) b554 A556 c557 A561 c562 A3034 c3035 hr558 hr563 _ hg3261 (((((hS.pull 3 rfl rfl).pull 3 rfl rfl).pull 2 rfl rfl).pull 3 rfl rfl).pull 4 rfl rfl))) rfl rfl ?_
          rintro _ w ⟨rfl, hS⟩
          have hS : St B w (Cl b554 [.slice A556 a555.length c557, .int .i64 a559, .slice A561 a560.length c562, .int .u64 a564, .int .i64 a565, .int .i64 a566, .int .i64 a567, .int .i64 a568, .int .i64 a569, .int .i64 a570, .bool a571, .int .i64 (t3260 0), .int .i64 (t3260 1), .int .i64 (t3260 2), .int .i64 (t3260 3), .int .i64 (t3260 4), .int .i64 (t3260 5), .int .i64 (t3260 6), .int .i64 (t3260 7), .int .i64 (t3260 8), .int .i64 (t3260 9), .int .i64 (t3260 10), .int .i64 (t3260 11), .int .i64 (t3260 12), .int .i64 (t3260 13), .int .i64 (t3260 14), .int .i64 (t3260 15), .int .i64 x3032, .slice A3034 l3033.length c3035, .int .i64 (IntKind.i64.wrap (x3037 + 1))] 66 :: OSf E_api_Out 58 (.slice A3034 l3033.length c3035) l3033 :: Cl b3255 [.int .i64 ((nth a555 x3037).Op), .int .i64 ((nth a555 x3037).A), .int .i64 ((nth a555 x3037).B), .int .i64 ((nth a555 x3037).C)] 48 :: MapL b2459 [({ key := .int .i64 0, val := .func (.func 49) #[] #[], born := 0 } : MapEntry), ({ key := .int .i64 1, val := .func (.func 50) #[] #[], born := 1 } : MapEntry), ({ key := .int .i64 2, val := .func (.func 51) #[] #[], born := 2 } : MapEntry), ({ key := .int .i64 3, val := .func (.func 52) #[] #[], born := 3 } : MapEntry), ({ key := .int .i64 4, val := .func (.func 53) #[] #[], born := 4 } : MapEntry), ({ key := .int .i64 5, val := .func (.func 54) #[] #[], born := 5 } : MapEntry), ({ key := .int .i64 6, val := .func (.func 55) #[] #[], born := 6 } : MapEntry), ({ key := .int .i64 7, val := .func (.func 56) #[] #[], born := 7 } : MapEntry), ({ key := .int .i64 8, val := .func (.func 57) #[] #[], born := 8 } : MapEntry), ({ key := .int .i64 9, val := .func (.func 58) #[] #[], born := 9 } : MapEntry), ({ key := .int .i64 10, val := .func (.func 59) #[] #[], born := 10 } : MapEntry), ({ key := .int .i64 11, val := .func (.func 60) #[] #[], born := 11 } : MapEntry), ({ key := .int .i64 12, val := .func (.func 61) #[] #[], born := 12 } : MapEntry), ({ key := .int .i64 13, val := .func (.func 62) #[] #[], born := 13 } : MapEntry), ({ key := .int .i64 14, val := .func (.func 63) #[] #[], born := 14 } : MapEntry), ({ key := .int .i64 15, val := .func (.func 64) #[] #[], born := 15 } : MapEntry), ({ key := .int .i64 16, val := .func (.func 65) #[] #[], born := 16 } : MapEntry)] 17 :: Cl b2456 [.nilIface] 71 :: l) hf := hS
          refine RL.nil ?_
          refine RQ.inB_n ?_
          exact fun a ha => ⟨(t3260, x3032, l3033, IntKind.i64.wrap (x3037 + 1)), t3260, x3032, l3033, (IntKind.i64.wrap (x3037 + 1)), rfl, A3034, c3035, ha.to ⟨rfl, rfl, rfl, rfl, rfl, rfl, rfl, rfl, rfl, rfl, rfl, rfl, rfl, rfl, rfl, trivial⟩, (((((hS.dropAt 2 rfl).pull 3 rfl rfl).pull 3 rfl rfl).pull 2 rfl rfl).pull 3 rfl rfl), h⟩
         case neg =>
          have h := h.neg hc3259
          by_cases hc3262 : (nth a555 x3037).Op = 2
          case pos =>
           have h := h.pos hc3262
           refine RL.s (Vl.lookupL (n' := 2) (j := 2) (v := .func (.func 51) #[] #[]) 2 hS rfl Tryd.underlying90 Tryd.underlying3 rfl rfl hc3262 rfl) rfl ?_
           refine RL.s (Vl.move rfl) rfl ?_
           refine RL.s (Vl.loadA (vs := [.int .i64 ((nth a555 x3037).Op), .int .i64 ((nth a555 x3037).A), .int .i64 ((nth a555 x3037).B), .int .i64 ((nth a555 x3037).C)]) Tryd.isAgg48 Tryd.sizeOf48 rfl rfl (hS.cellsAt 0 rfl rfl)) rfl ?_
           obtain ⟨t3263, hg3264, h⟩ := h.bind
           refine RL.e (OW.call (ls := [.tmp 47, .tmp 48]) rfl rfl Tryd.call51 rfl (vm_cpu_move.ok a555 a559 a560 a564 a565 a566 a567 a568 a569 a570 a571 x3032 l3033 (IntKind.i64.wrap (x3037 + 1)) fn3031 (nth a555 x3037) b554 A556 c557 A561 c562 A3034 c3035 hr558 hr563 _ hg3264 (((((hS.pull 3 rfl rfl).pull 3 rfl rfl).pull 2 rfl rfl).pull 3 rfl rfl).pull 4 rfl rfl))) rfl rfl ?_
           rintro _ w ⟨rfl, hS⟩
           have hS : St B w (Cl b554 [.slice A556 a555.length c557, .int .i64 a559, .slice A561 a560.length c562, .int .u64 a564, .int .i64 a565, .int .i64 a566, .int .i64 a567, .int .i64 a568, .int .i64 a569, .int .i64 a570, .bool a571, .int .i64 (t3263 0), .int .i64 (t3263 1), .int .i64 (t3263 2), .int .i64 (t3263 3), .int .i64 (t3263 4), .int .i64 (t3263 5), .int .i64 (t3263 6), .int .i64 (t3263 7), .int .i64 (t3263 8), .int .i64 (t3263 9), .int .i64 (t3263 10), .int .i64 (t3263 11), .int .i64 (t3263 12), .int .i64 (t3263 13), .int .i64 (t3263 14), .int .i64 (t3263 15), .int .i64 x3032, .slice A3034 l3033.length c3035, .int .i64 (IntKind.i64.wrap (x3037 + 1))] 66 :: OSf E_api_Out 58 (.slice A3034 l3033.length c3035) l3033 :: Cl b3255 [.int .i64 ((nth a555 x3037).Op), .int .i64 ((nth a555 x3037).A), .int .i64 ((nth a555 x3037).B), .int .i64 ((nth a555 x3037).C)] 48 :: MapL b2459 [({ key := .int .i64 0, val := .func (.func 49) #[] #[], born := 0 } : MapEntry), ({ key := .int .i64 1, val := .func (.func 50) #[] #[], born := 1 } : MapEntry), ({ key := .int .i64 2, val := .func (.func 51) #[] #[], born := 2 } : MapEntry), ({ key := .int .i64 3, val := .func (.func 52) #[] #[], born := 3 } : MapEntry), ({ key := .int .i64 4, val := .func (.func 53) #[] #[], born := 4 } : MapEntry), ({ key := .int .i64 5, val := .func (.func 54) #[] #[], born := 5 } : MapEntry), ({ key := .int .i64 6, val := .func (.func 55) #[] #[], born := 6 } : MapEntry), ({ key := .int .i64 7, val := .func (.func 56) #[] #[], born := 7 } : MapEntry), ({ key := .int .i64 8, val := .func (.func 57) #[] #[], born := 8 } : MapEntry), ({ key := .int .i64 9, val := .func (.func 58) #[] #[], born := 9 } : MapEntry), ({ key := .int .i64 10, val := .func (.func 59) #[] #[], born := 10 } : MapEntry), ({ key := .int .i64 11, val := .func (.func 60) #[] #[], born := 11 } : MapEntry), ({ key := .int .i64 12, val := .func (.func 61) #[] #[], born := 12 } : MapEntry), ({ key := .int .i64 13, val := .func (.func 62) #[] #[], born := 13 } : MapEntry), ({ key := .int .i64 14, val := .func (.func 63) #[] #[], born := 14 } : MapEntry), ({ key := .int .i64 15, val := .func (.func 64) #[] #[], born := 15 } : MapEntry), ({ key := .int .i64 16, val := .func (.func 65) #[] #[], born := 16 } : MapEntry)] 17 :: Cl b2456 [.nilIface] 71 :: l) hf := hS
           refine RL.nil ?_
           refine RQ.inB_n ?_
           exact fun a ha => ⟨(t3263, x3032, l3033, IntKind.i64.wrap (x3037 + 1)), t3263, x3032, l3033, (IntKind.i64.wrap (x3037 + 1)), rfl, A3034, c3035, ha.to ⟨rfl, rfl, rfl, rfl, rfl, rfl, rfl, rfl, rfl, rfl, rfl, rfl, rfl, rfl, rfl, trivial⟩, (((((hS.dropAt 2 rfl).pull 3 rfl rfl).pull 3 rfl rfl).pull 2 rfl rfl).pull 3 rfl rfl), h⟩
          case neg =>
           have h := h.neg hc3262
           by_cases hc3265 : (nth a555 x3037).Op = 3
           case pos =>
            have h := h.pos hc3265
            refine RL.s (Vl.lookupL (n' := 3) (j := 3) (v := .func (.func 52) #[] #[]) 2 hS rfl Tryd.underlying90 Tryd.underlying3 rfl rfl hc3265 rfl) rfl ?_
            refine RL.s (Vl.move rfl) rfl ?_
            refine RL.s (Vl.loadA (vs := [.int .i64 ((nth a555 x3037).Op), .int .i64 ((nth a555 x3037).A), .int .i64 ((nth a555 x3037).B), .int .i64 ((nth a555 x3037).C)]) Tryd.isAgg48 Tryd.sizeOf48 rfl rfl (hS.cellsAt 0 rfl rfl)) rfl ?_
            obtain ⟨t3266, hg3267, h⟩ := h.bind
            refine RL.e (OW.call (ls := [.tmp 47, .tmp 48]) rfl rfl Tryd.call52 rfl (vm_cpu_add.ok a555 a559 a560 a564 a565 a566 a567 a568 a569 a570 a571 x3032 l3033 (IntKind.i64.wrap (x3037 + 1)) fn3031 (nth a555 x3037) b554 A556 c557 A561 c562 A3034 c3035 hr558 hr563 _ hg3267 (((((hS.pull 3 rfl rfl).pull 3 rfl rfl).pull 2 rfl rfl).pull 3 rfl rfl).pull 4 rfl rfl))) rfl rfl ?_
            rintro _ w ⟨rfl, hS⟩
            have hS : St B w (Cl b554 [.slice A556 a555.length c557, .int .i64 a559, .slice A561 a560.length c562, .int .u64 a564, .int .i64 a565, .int .i64 a566, .int .i64 a567, .int .i64 a568, .int .i64 a569, .int .i64 a570, .bool a571, .int .i64 (t3266 0), .int .i64 (t3266 1), .int .i64 (t3266 2), .int .i64 (t3266 3), .int .i64 (t3266 4), .int .i64 (t3266 5), .int .i64 (t3266 6), .int .i64 (t3266 7), .int .i64 (t3266 8), .int .i64 (t3266 9), .int .i64 (t3266 10), .int .i64 (t3266 11), .int .i64 (t3266 12), .int .i64 (t3266 13), .int .i64 (t3266 14), .int .i64 (t3266 15), .int .i64 x3032, .slice A3034 l3033.length c3035, .int .i64 (IntKind.i64.wrap (x3037 + 1))] 66 :: OSf E_api_Out 58 (.slice A3034 l3033.length c3035) l3033 :: Cl b3255 [.int .i64 ((nth a555 x3037).Op), .int .i64 ((nth a555 x3037).A), .int .i64 ((nth a555 x3037).B), .int .i64 ((nth a555 x3037).C)] 48 :: MapL b2459 [({ key := .int .i64 0, val := .func (.func 49) #[] #[], born := 0 } : MapEntry), ({ key := .int .i64 1, val := .func (.func 50) #[] #[], born := 1 } : MapEntry), ({ key := .int .i64 2, val := .func (.func 51) #[] #[], born := 2 } : MapEntry), ({ key := .int .i64 3, val := .func (.func 52) #[] #[], born := 3 } : MapEntry), ({ key := .int .i64 4, val := .func (.func 53) #[] #[], born := 4 } : MapEntry), ({ key := .int .i64 5, val := .func (.func 54) #[] #[], born := 5 } : MapEntry), ({ key := .int .i64 6, val := .func (.func 55) #[] #[], born := 6 } : MapEntry), ({ key := .int .i64 7, val := .func (.func 56) #[] #[], born := 7 } : MapEntry), ({ key := .int .i64 8, val := .func (.func 57) #[] #[], born := 8 } : MapEntry), ({ key := .int .i64 9, val := .func (.func 58) #[] #[], born := 9 } : MapEntry), ({ key := .int .i64 10, val := .func (.func 59) #[] #[], born := 10 } : MapEntry), ({ key := .int .i64 11, val := .func (.func 60) #[] #[], born := 11 } : MapEntry), ({ key := .int .i64 12, val := .func (.func 61) #[] #[], born := 12 } : MapEntry), ({ key := .int .i64 13, val := .func (.func 62) #[] #[], born := 13 } : MapEntry), ({ key := .int .i64 14, val := .func (.func 63) #[] #[], born := 14 } : MapEntry), ({ key := .int .i64 15, val := .func (.func 64) #[] #[], born := 15 } : MapEntry), ({ key := .int .i64 16, val := .func (.func 65) #[] #[], born := 16 } : MapEntry)] 17 :: Cl b2456 [.nilIface] 71 :: l) hf := hS
            refine RL.nil ?_
            refine RQ.inB_n ?_
            exact fun a ha => ⟨(t3266, x3032, l3033, IntKind.i64.wrap (x3037 + 1)), t3266, x3032, l3033, (IntKind.i64.wrap (x3037 + 1)), rfl, A3034, c3035, ha.to ⟨rfl, rfl, rfl, rfl, rfl, rfl, rfl, rfl, rfl, rfl, rfl, rfl, rfl, rfl, rfl, trivial⟩, (((((hS.dropAt 2 rfl).pull 3 rfl rfl).pull 3 rfl rfl).pull 2 rfl rfl).pull 3 rfl rfl), h⟩
           case neg =>
            have h := h.neg hc3265
            by_cases hc3268 : (nth a555 x3037).Op = 4
            case pos =>
             have h := h.pos hc3268
             refine RL.s (Vl.lookupL (n' := 4) (j := 4) (v := .func (.func 53) #[] #[]) 2 hS rfl Tryd.underlying90 Tryd.underlying3 rfl rfl hc3268 rfl) rfl ?_
             refine RL.s (Vl.move rfl) rfl ?_
             refine RL.s (Vl.loadA (vs := [.int .i64 ((nth a555 x3037).Op), .int .i64 ((nth a555 x3037).A), .int .i64 ((nth a555 x3037).B), .int .i64 ((nth a555 x3037).C)]) Tryd.isAgg48 Tryd.sizeOf48 rfl rfl (hS.cellsAt 0 rfl rfl)) rfl ?_
             obtain ⟨t3269, hg3270, h⟩ := h.bind
             refine RL.e (OW.call (ls := [.tmp 47, .tmp 48]) rfl rfl Tryd.call53 rfl (vm_cpu_sub.ok a555 a559 a560 a564 a565 a566 a567 a568 a569 a570 a571 x3032 l3033 (IntKind.i64.wrap (x3037 + 1)) fn3031 (nth a555 x3037) b554 A556 c557 A561 c562 A3034 c3035 hr558 hr563 _ hg3270 (((((hS.pull 3 rfl rfl).pull 3 rfl rfl).pull 2 rfl rfl).pull 3 rfl rfl).pull 4 rfl rfl))) rfl rfl ?_
             rintro _ w ⟨rfl, hS⟩
             have hS : St B w (Cl b554 [.slice A556 a555.length c557, .int .i64 a559, .slice A561 a560.length c562, .int .u64 a564, .int .i64 a565, .int .i64 a566, .int .i64 a567, .int .i64 a568, .int .i64 a569, .int .i64 a570, .bool a571, .int .i64 (t3269 0), .int .i64 (t3269 1), .int .i64 (t3269 2), .int .i64 (t3269 3), .int .i64 (t3269 4), .int .i64 (t3269 5), .int .i64 (t3269 6), .int .i64 (t3269 7), .int .i64 (t3269 8), .int .i64 (t3269 9), .int .i64 (t3269 10), .int .i64 (t3269 11), .int .i64 (t3269 12), .int .i64 (t3269 13), .int .i64 (t3269 14), .int .i64 (t3269 15), .int .i64 x3032, .slice A3034 l3033.length c3035, .int .i64 (IntKind.i64.wrap (x3037 + 1))] 66 :: OSf E_api_Out 58 (.slice A3034 l3033.length c3035) l3033 :: Cl b3255 [.int .i64 ((nth a555 x3037).Op), .int .i64 ((nth a555 x3037).A), .int .i64 ((nth a555 x3037).B), .int .i64 ((nth a555 x3037).C)] 48 :: MapL b2459 [({ key := .int .i64 0, val := .func (.func 49) #[] #[], born := 0 } : MapEntry), ({ key := .int .i64 1, val := .func (.func 50) #[] #[], born := 1 } : MapEntry), ({ key := .int .i64 2, val := .func (.func 51) #[] #[], born := 2 } : MapEntry), ({ key := .int .i64 3, val := .func (.func 52) #[] #[], born := 3 } : MapEntry), ({ key := .int .i64 4, val := .func (.func 53) #[] #[], born := 4 } : MapEntry), ({ key := .int .i64 5, val := .func (.func 54) #[] #[], born := 5 } : MapEntry), ({ key := .int .i64 6, val := .func (.func 55) #[] #[], born := 6 } : MapEntry), ({ key := .int .i64 7, val := .func (.func 56) #[] #[], born := 7 } : MapEntry), ({ key := .int .i64 8, val := .func (.func 57) #[] #[], born := 8 } : MapEntry), ({ key := .int .i64 9, val := .func (.func 58) #[] #[], born := 9 } : MapEntry), ({ key := .int .i64 10, val := .func (.func 59) #[] #[], born := 10 } : MapEntry), ({ key := .int .i64 11, val := .func (.func 60) #[] #[], born := 11 } : MapEntry), ({ key := .int .i64 12, val := .func (.func 61) #[] #[], born := 12 } : MapEntry), ({ key := .int .i64 13, val := .func (.func 62) #[] #[], born := 13 } : MapEntry), ({ key := .int .i64 14, val := .func (.func 63) #[] #[], born := 14 } : MapEntry), ({ key := .int .i64 15, val := .func (.func 64) #[] #[], born := 15 } : MapEntry), ({ key := .int .i64 16, val := .func (.func 65) #[] #[], born := 16 } : MapEntry)] 17 :: Cl b2456 [.nilIface] 71 :: l) hf := hS
             refine RL.nil ?_
             refine RQ.inB_n ?_
             exact fun a ha => ⟨(t3269, x3032, l3033, IntKind.i64.wrap (x3037 + 1)), t3269, x3032, l3033, (IntKind.i64.wrap (x3037 + 1)), rfl, A3034, c3035, ha.to ⟨rfl, rfl, rfl, rfl, rfl, rfl, rfl, rfl, rfl, rfl, rfl, rfl, rfl, rfl, rfl, trivial⟩, (((((hS.dropAt 2 rfl).pull 3 rfl rfl).pull 3 rfl rfl).pull 2 rfl rfl).pull 3 rfl rfl), h⟩
            case neg =>
             have h := h.neg hc3268
             by_cases hc3271 : (nth a555 x3037).Op = 5
             case pos =>
              have h := h.pos hc3271
              refine RL.s (Vl.lookupL (n' := 5) (j := 5) (v := .func (.func 54) #[] #[]) 2 hS rfl Tryd.underlying90 Tryd.underlying3 rfl rfl hc3271 rfl) rfl ?_
              refine RL.s (Vl.move rfl) rfl ?_
              refine RL.s (Vl.loadA (vs := [.int .i64 ((nth a555 x3037).Op), .int .i64 ((nth a555 x3037).A), .int .i64 ((nth a555 x3037).B), .int .i64 ((nth a555 x3037).C)]) Tryd.isAgg48 Tryd.sizeOf48 rfl rfl (hS.cellsAt 0 rfl rfl)) rfl ?_
              obtain ⟨t3272, hg3273, h⟩ := h.bind
              refine RL.e (OW.call (ls := [.tmp 47, .tmp 48]) rfl rfl Tryd.call54 rfl (vm_cpu_mul.ok a555 a559 a560 a564 a565 a566 a567 a568 a569 a570 a571 x3032 l3033 (IntKind.i64.wrap (x3037 + 1)) fn3031 (nth a555 x3037) b554 A556 c557 A561 c562 A3034 c3035 hr558 hr563 _ hg3273 (((((hS.pull 3 rfl rfl).pull 3 rfl rfl).pull 2 rfl rfl).pull 3 rfl rfl).pull 4 rfl rfl))) rfl rfl ?_
              rintro _ w ⟨rfl, hS⟩
              have hS : St B w (Cl b554 [.slice A556 a555.length c557, .int .i64 a559, .slice A561 a560.length c562, .int .u64 a564, .int .i64 a565, .int .i64 a566, .int .i64 a567, .int .i64 a568, .int .i64 a569, .int .i64 a570, .bool a571, .int .i64 (t3272 0), .int .i64 (t3272 1), .int .i64 (t3272 2), .int .i64 (t3272 3), .int .i64 (t3272 4), .int .i64 (t3272 5), .int .i64 (t3272 6), .int .i64 (t3272 7), .int .i64 (t3272 8), .int .i64 (t3272 9), .int .i64 (t3272 10), .int .i64 (t3272 11), .int .i64 (t3272 12), .int .i64 (t3272 13), .int .i64 (t3272 14), .int .i64 (t3272 15), .int .i64 x3032, .slice A3034 l3033.length c3035, .int .i64 (IntKind.i64.wrap (x3037 + 1))] 66 :: OSf E_api_Out 58 (.slice A3034 l3033.length c3035) l3033 :: Cl b3255 [.int .i64 ((nth a555 x3037).Op), .int .i64 ((nth a555 x3037).A), .int .i64 ((nth a555 x3037).B), .int .i64 ((nth a555 x3037).C)] 48 :: MapL b2459 [({ key := .int .i64 0, val := .func (.func 49) #[] #[], born := 0 } : MapEntry), ({ key := .int .i64 1, val := .func (.func 50) #[] #[], born := 1 } : MapEntry), ({ key := .int .i64 2, val := .func (.func 51) #[] #[], born := 2 } : MapEntry), ({ key := .int .i64 3, val := .func (.func 52) #[] #[], born := 3 } : MapEntry), ({ key := .int .i64 4, val := .func (.func 53) #[] #[], born := 4 } : MapEntry), ({ key := .int .i64 5, val := .func (.func 54) #[] #[], born := 5 } : MapEntry), ({ key := .int .i64 6, val := .func (.func 55) #[] #[], born := 6 } : MapEntry), ({ key := .int .i64 7, val := .func (.func 56) #[] #[], born := 7 } : MapEntry), ({ key := .int .i64 8, val := .func (.func 57) #[] #[], born := 8 } : MapEntry), ({ key := .int .i64 9, val := .func (.func 58) #[] #[], born := 9 } : MapEntry), ({ key := .int .i64 10, val := .func (.func 59) #[] #[], born := 10 } : MapEntry), ({ key := .int .i64 11, val := .func (.func 60) #[] #[], born := 11 } : MapEntry), ({ key := .int .i64 12, val := .func (.func 61) #[] #[], born := 12 } : MapEntry), ({ key := .int .i64 13, val := .func (.func 62) #[] #[], born := 13 } : MapEntry), ({ key := .int .i64 14, val := .func (.func 63) #[] #[], born := 14 } : MapEntry), ({ key := .int .i64 15, val := .func (.func 64) #[] #[], born := 15 } : MapEntry), ({ key := .int .i64 16, val := .func (.func 65) #[] #[], born := 16 } : MapEntry)] 17 :: Cl b2456 [.nilIface] 71 :: l) hf := hS
              refine RL.nil ?_
              refine RQ.inB_n ?_
              exact fun a ha => ⟨(t3272, x3032, l3033, IntKind.i64.wrap (x3037 + 1)), t3272, x3032, l3033, (IntKind.i64.wrap (x3037 + 1)), rfl, A3034, c3035, ha.to ⟨rfl, rfl, rfl, rfl, rfl, rfl, rfl, rfl, rfl, rfl, rfl, rfl, rfl, rfl, rfl, trivial⟩, (((((hS.dropAt 2 rfl).pull 3 rfl rfl).pull 3 rfl rfl).pull 2 rfl rfl).pull 3 rfl rfl), h⟩
             case neg =>
              have h := h.neg hc3271
              by_cases hc3274 : (nth a555 x3037).Op = 6
              case pos =>
               have h := h.pos hc3274
               refine RL.s (Vl.lookupL (n' := 6) (j := 6) (v := .func (.func 55) #[] #[]) 2 hS rfl Tryd.underlying90 Tryd.underlying3 rfl rfl hc3274 rfl) rfl ?_
               refine RL.s (Vl.move rfl) rfl ?_
               refine RL.s (Vl.loadA (vs := [.int .i64 ((nth a555 x3037).Op), .int .i64 ((nth a555 x3037).A), .int .i64 ((nth a555 x3037).B), .int .i64 ((nth a555 x3037).C)]) Tryd.isAgg48 Tryd.sizeOf48 rfl rfl (hS.cellsAt 0 rfl rfl)) rfl ?_
               obtain ⟨t3275, hg3276, h⟩ := h.bind
               refine RL.e (OW.call (ls := [.tmp 47, .tmp 48]) rfl rfl Tryd.call55 rfl (vm_cpu_div.ok a555 a559 a560 a564 a565 a566 a567 a568 a569 a570 a571 x3032 l3033 (IntKind.i64.wrap (x3037 + 1)) fn3031 (nth a555 x3037) b554 A556 c557 A561 c562 A3034 c3035 hr558 hr563 _ hg3276 (((((hS.pull 3 rfl rfl).pull 3 rfl rfl).pull 2 rfl rfl).pull 3 rfl rfl).pull 4 rfl rfl))) rfl rfl ?_
               rintro _ w ⟨rfl, hS⟩
               have hS : St B w (Cl b554 [.slice A556 a555.length c557, .int .i64 a559, .slice A561 a560.length c562, .int .u64 a564, .int .i64 a565, .int .i64 a566, .int .i64 a567, .int .i64 a568, .int .i64 a569, .int .i64 a570, .bool a571, .int .i64 (t3275 0), .int .i64 (t3275 1), .int .i64 (t3275 2), .int .i64 (t3275 3), .int .i64 (t3275 4), .int .i64 (t3275 5), .int .i64 (t3275 6), .int .i64 (t3275 7), .int .i64 (t3275 8), .int .i64 (t3275 9), .int .i64 (t3275 10), .int .i64 (t3275 11), .int .i64 (t3275 12), .int .i64 (t3275 13), .int .i64 (t3275 14), .int .i64 (t3275 15), .int .i64 x3032, .slice A3034 l3033.length c3035, .int .i64 (IntKind.i64.wrap (x3037 + 1))] 66 :: OSf E_api_Out 58 (.slice A3034 l3033.length c3035) l3033 :: Cl b3255 [.int .i64 ((nth a555 x3037).Op), .int .i64 ((nth a555 x3037).A), .int .i64 ((nth a555 x3037).B), .int .i64 ((nth a555 x3037).C)] 48 :: MapL b2459 [({ key := .int .i64 0, val := .func (.func 49) #[] #[], born := 0 } : MapEntry), ({ key := .int .i64 1, val := .func (.func 50) #[] #[], born := 1 } : MapEntry), ({ key := .int .i64 2, val := .func (.func 51) #[] #[], born := 2 } : MapEntry), ({ key := .int .i64 3, val := .func (.func 52) #[] #[], born := 3 } : MapEntry), ({ key := .int .i64 4, val := .func (.func 53) #[] #[], born := 4 } : MapEntry), ({ key := .int .i64 5, val := .func (.func 54) #[] #[], born := 5 } : MapEntry), ({ key := .int .i64 6, val := .func (.func 55) #[] #[], born := 6 } : MapEntry), ({ key := .int .i64 7, val := .func (.func 56) #[] #[], born := 7 } : MapEntry), ({ key := .int .i64 8, val := .func (.func 57) #[] #[], born := 8 } : MapEntry), ({ key := .int .i64 9, val := .func (.func 58) #[] #[], born := 9 } : MapEntry), ({ key := .int .i64 10, val := .func (.func 59) #[] #[], born := 10 } : MapEntry), ({ key := .int .i64 11, val := .func (.func 60) #[] #[], born := 11 } : MapEntry), ({ key := .int .i64 12, val := .func (.func 61) #[] #[], born := 12 } : MapEntry), ({ key := .int .i64 13, val := .func (.func 62) #[] #[], born := 13 } : MapEntry), ({ key := .int .i64 14, val := .func (.func 63) #[] #[], born := 14 } : MapEntry), ({ key := .int .i64 15, val := .func (.func 64) #[] #[], born := 15 } : MapEntry), ({ key := .int .i64 16, val := .func (.func 65) #[] #[], born := 16 } : MapEntry)] 17 :: Cl b2456 [.nilIface] 71 :: l) hf := hS
               refine RL.nil ?_
               refine RQ.inB_n ?_
               exact fun a ha => ⟨(t3275, x3032, l3033, IntKind.i64.wrap (x3037 + 1)), t3275, x3032, l3033, (IntKind.i64.wrap (x3037 + 1)), rfl, A3034, c3035, ha.to ⟨rfl, rfl, rfl, rfl, rfl, rfl, rfl, rfl, rfl, rfl, rfl, rfl, rfl, rfl, rfl, trivial⟩, (((((hS.dropAt 2 rfl).pull 3 rfl rfl).pull 3 rfl rfl).pull 2 rfl rfl).pull 3 rfl rfl), h⟩
              case neg =>
               have h := h.neg hc3274
               by_cases hc3277 : (nth a555 x3037).Op = 7
               case pos =>
                have h := h.pos hc3277
                refine RL.s (Vl.lookupL (n' := 7) (j := 7) (v := .func (.func 56) #[] #[]) 2 hS rfl Tryd.underlying90 Tryd.underlying3 rfl rfl hc3277 rfl) rfl ?_
                refine RL.s (Vl.move rfl) rfl ?_
                refine RL.s (Vl.loadA (vs := [.int .i64 ((nth a555 x3037).Op), .int .i64 ((nth a555 x3037).A), .int .i64 ((nth a555 x3037).B), .int .i64 ((nth a555 x3037).C)]) Tryd.isAgg48 Tryd.sizeOf48 rfl rfl (hS.cellsAt 0 rfl rfl)) rfl ?_
                obtain ⟨t3278, hg3279, h⟩ := h.bind
                refine RL.e (OW.call (ls := [.tmp 47, .tmp 48]) rfl rfl Tryd.call56 rfl (vm_cpu_mod.ok a555 a559 a560 a564 a565 a566 a567 a568 a569 a570 a571 x3032 l3033 (IntKind.i64.wrap (x3037 + 1)) fn3031 (nth a555 x3037) b554 A556 c557 A561 c562 A3034 c3035 hr558 hr563 _ hg3279 (((((hS.pull 3 rfl rfl).pull 3 rfl rfl).pull 2 rfl rfl).pull 3 rfl rfl).pull 4 rfl rfl))) rfl rfl ?_
                rintro _ w ⟨rfl, hS⟩
                have hS : St B w (Cl b554 [.slice A556 a555.length c557, .int .i64 a559, .slice A561 a560.length c562, .int .u64 a564, .int .i64 a565, .int .i64 a566, .int .i64 a567, .int .i64 a568, .int .i64 a569, .int .i64 a570, .bool a571, .int .i64 (t3278 0), .int .i64 (t3278 1), .int .i64 (t3278 2), .int .i64 (t3278 3), .int .i64 (t3278 4), .int .i64 (t3278 5), .int .i64 (t3278 6), .int .i64 (t3278 7), .int .i64 (t3278 8), .int .i64 (t3278 9), .int .i64 (t3278 10), .int .i64 (t3278 11), .int .i64 (t3278 12), .int .i64 (t3278 13), .int .i64 (t3278 14), .int .i64 (t3278 15), .int .i64 x3032, .slice A3034 l3033.length c3035, .int .i64 (IntKind.i64.wrap (x3037 + 1))] 66 :: OSf E_api_Out 58 (.slice A3034 l3033.length c3035) l3033 :: Cl b3255 [.int .i64 ((nth a555 x3037).Op), .int .i64 ((nth a555 x3037).A), .int .i64 ((nth a555 x3037).B), .int .i64 ((nth a555 x3037).C)] 48 :: MapL b2459 [({ key := .int .i64 0, val := .func (.func 49) #[] #[], born := 0 } : MapEntry), ({ key := .int .i64 1, val := .func (.func 50) #[] #[], born := 1 } : MapEntry), ({ key := .int .i64 2, val := .func (.func 51) #[] #[], born := 2 } : MapEntry), ({ key := .int .i64 3, val := .func (.func 52) #[] #[], born := 3 } : MapEntry), ({ key := .int .i64 4, val := .func (.func 53) #[] #[], born := 4 } : MapEntry), ({ key := .int .i64 5, val := .func (.func 54) #[] #[], born := 5 } : MapEntry), ({ key := .int .i64 6, val := .func (.func 55) #[] #[], born := 6 } : MapEntry), ({ key := .int .i64 7, val := .func (.func 56) #[] #[], born := 7 } : MapEntry), ({ key := .int .i64 8, val := .func (.func 57) #[] #[], born := 8 } : MapEntry), ({ key := .int .i64 9, val := .func (.func 58) #[] #[], born := 9 } : MapEntry), ({ key := .int .i64 10, val := .func (.func 59) #[] #[], born := 10 } : MapEntry), ({ key := .int .i64 11, val := .func (.func 60) #[] #[], born := 11 } : MapEntry), ({ key := .int .i64 12, val := .func (.func 61) #[] #[], born := 12 } : MapEntry), ({ key := .int .i64 13, val := .func (.func 62) #[] #[], born := 13 } : MapEntry), ({ key := .int .i64 14, val := .func (.func 63) #[] #[], born := 14 } : MapEntry), ({ key := .int .i64 15, val := .func (.func 64) #[] #[], born := 15 } : MapEntry), ({ key := .int .i64 16, val := .func (.func 65) #[] #[], born := 16 } : MapEntry)] 17 :: Cl b2456 [.nilIface] 71 :: l) hf := hS
                refine RL.nil ?_
                refine RQ.inB_n ?_
                exact fun a ha => ⟨(t3278, x3032, l3033, IntKind.i64.wrap (x3037 + 1)), t3278, x3032, l3033, (IntKind.i64.wrap (x3037 + 1)), rfl, A3034, c3035, ha.to ⟨rfl, rfl, rfl, rfl, rfl, rfl, rfl, rfl, rfl, rfl, rfl, rfl, rfl, rfl, rfl, trivial⟩, (((((hS.dropAt 2 rfl).pull 3 rfl rfl).pull 3 rfl rfl).pull 2 rfl rfl).pull 3 rfl rfl), h⟩
               case neg =>
                have h := h.neg hc3277
                by_cases hc3280 : (nth a555 x3037).Op = 8
                case pos =>
                 have h := h.pos hc3280
                 refine RL.s (Vl.lookupL (n' := 8) (j := 8) (v := .func (.func 57) #[] #[]) 2 hS rfl Tryd.underlying90 Tryd.underlying3 rfl rfl hc3280 rfl) rfl ?_
                 refine RL.s (Vl.move rfl) rfl ?_
                 refine RL.s (Vl.loadA (vs := [.int .i64 ((nth a555 x3037).Op), .int .i64 ((nth a555 x3037).A), .int .i64 ((nth a555 x3037).B), .int .i64 ((nth a555 x3037).C)]) Tryd.isAgg48 Tryd.sizeOf48 rfl rfl (hS.cellsAt 0 rfl rfl)) rfl ?_
                 obtain ⟨t3281, hg3282, h⟩ := h.bind
                 refine RL.e (OW.call (ls := [.tmp 47, .tmp 48]) rfl rfl Tryd.call57 rfl (vm_cpu_less.ok a555 a559 a560 a564 a565 a566 a567 a568 a569 a570 a571 x3032 l3033 (IntKind.i64.wrap (x3037 + 1)) fn3031 (nth a555 x3037) b554 A556 c557 A561 c562 A3034 c3035 hr558 hr563 _ hg3282 (((((hS.pull 3 rfl rfl).pull 3 rfl rfl).pull 2 rfl rfl).pull 3 rfl rfl).pull 4 rfl rfl))) rfl rfl ?_
                 rintro _ w ⟨rfl, hS⟩
                 have hS : St B w (Cl b554 [.slice A556 a555.length c557, .int .i64 a559, .slice A561 a560.length c562, .int .u64 a564, .int .i64 a565, .int .i64 a566, .int .i64 a567, .int .i64 a568, .int .i64 a569, .int .i64 a570, .bool a571, .int .i64 (t3281 0), .int .i64 (t3281 1), .int .i64 (t3281 2), .int .i64 (t3281 3), .int .i64 (t3281 4), .int .i64 (t3281 5), .int .i64 (t3281 6), .int .i64 (t3281 7), .int .i64 (t3281 8), .int .i64 (t3281 9), .int .i64 (t3281 10), .int .i64 (t3281 11), .int .i64 (t3281 12), .int .i64 (t3281 13), .int .i64 (t3281 14), .int .i64 (t3281 15), .int .i64 x3032, .slice A3034 l3033.length c3035, .int .i64 (IntKind.i64.wrap (x3037 + 1))] 66 :: OSf E_api_Out 58 (.slice A3034 l3033.length c3035) l3033 :: Cl b3255 [.int .i64 ((nth a555 x3037).Op), .int .i64 ((nth a555 x3037).A), .int .i64 ((nth a555 x3037).B), .int .i64 ((nth a555 x3037).C)] 48 :: MapL b2459 [({ key := .int .i64 0, val := .func (.func 49) #[] #[], born := 0 } : MapEntry), ({ key := .int .i64 1, val := .func (.func 50) #[] #[], born := 1 } : MapEntry), ({ key := .int .i64 2, val := .func (.func 51) #[] #[], born := 2 } : MapEntry), ({ key := .int .i64 3, val := .func (.func 52) #[] #[], born := 3 } : MapEntry), ({ key := .int .i64 4, val := .func (.func 53) #[] #[], born := 4 } : MapEntry), ({ key := .int .i64 5, val := .func (.func 54) #[] #[], born := 5 } : MapEntry), ({ key := .int .i64 6, val := .func (.func 55) #[] #[], born := 6 } : MapEntry), ({ key := .int .i64 7, val := .func (.func 56) #[] #[], born := 7 } : MapEntry), ({ key := .int .i64 8, val := .func (.func 57) #[] #[], born := 8 } : MapEntry), ({ key := .int .i64 9, val := .func (.func 58) #[] #[], born := 9 } : MapEntry), ({ key := .int .i64 10, val := .func (.func 59) #[] #[], born := 10 } : MapEntry), ({ key := .int .i64 11, val := .func (.func 60) #[] #[], born := 11 } : MapEntry), ({ key := .int .i64 12, val := .func (.func 61) #[] #[], born := 12 } : MapEntry), ({ key := .int .i64 13, val := .func (.func 62) #[] #[], born := 13 } : MapEntry), ({ key := .int .i64 14, val := .func (.func 63) #[] #[], born := 14 } : MapEntry), ({ key := .int .i64 15, val := .func (.func 64) #[] #[], born := 15 } : MapEntry), ({ key := .int .i64 16, val := .func (.func 65) #[] #[], born := 16 } : MapEntry)] 17 :: Cl b2456 [.nilIface] 71 :: l) hf := hS
                 refine RL.nil ?_
                 refine RQ.inB_n ?_
                 exact fun a ha => ⟨(t3281, x3032, l3033, IntKind.i64.wrap (x3037 + 1)), t3281, x3032, l3033, (IntKind.i64.wrap (x3037 + 1)), rfl, A3034, c3035, ha.to ⟨rfl, rfl, rfl, rfl, rfl, rfl, rfl, rfl, rfl, rfl, rfl, rfl, rfl, rfl, rfl, trivial⟩, (((((hS.dropAt 2 rfl).pull 3 rfl rfl).pull 3 rfl rfl).pull 2 rfl rfl).pull 3 rfl rfl), h⟩
                case neg =>
                 have h := h.neg hc3280
                 by_cases hc3283 : (nth a555 x3037).Op = 9
                 case pos =>
                  have h := h.pos hc3283
                  refine RL.s (Vl.lookupL (n' := 9) (j := 9) (v := .func (.func 58) #[] #[]) 2 hS rfl Tryd.underlying90 Tryd.underlying3 rfl rfl hc3283 rfl) rfl ?_
                  refine RL.s (Vl.move rfl) rfl ?_
                  refine RL.s (Vl.loadA (vs := [.int .i64 ((nth a555 x3037).Op), .int .i64 ((nth a555 x3037).A), .int .i64 ((nth a555 x3037).B), .int .i64 ((nth a555 x3037).C)]) Tryd.isAgg48 Tryd.sizeOf48 rfl rfl (hS.cellsAt 0 rfl rfl)) rfl ?_
                  obtain ⟨t3284, hg3285, h⟩ := h.bind
                  refine RL.e (OW.call (ls := [.tmp 47, .tmp 48]) rfl rfl Tryd.call58 rfl (vm_cpu_same.ok a555 a559 a560 a564 a565 a566 a567 a568 a569 a570 a571 x3032 l3033 (IntKind.i64.wrap (x3037 + 1)) fn3031 (nth a555 x3037) b554 A556 c557 A561 c562 A3034 c3035 hr558 hr563 _ hg3285 (((((hS.pull 3 rfl rfl).pull 3 rfl rfl).pull 2 rfl rfl).pull 3 rfl rfl).pull 4 rfl rfl))) rfl rfl ?_
                  rintro _ w ⟨rfl, hS⟩
                  have hS : St B w (Cl b554 [.slice A556 a555.length c557, .int .i64 a559, .slice A561 a560.length c562, .int .u64 a564, .int .i64 a565, .int .i64 a566, .int .i64 a567, .int .i64 a568, .int .i64 a569, .int .i64 a570, .bool a571, .int .i64 (t3284 0), .int .i64 (t3284 1), .int .i64 (t3284 2), .int .i64 (t3284 3), .int .i64 (t3284 4), .int .i64 (t3284 5), .int .i64 (t3284 6), .int .i64 (t3284 7), .int .i64 (t3284 8), .int .i64 (t3284 9), .int .i64 (t3284 10), .int .i64 (t3284 11), .int .i64 (t3284 12), .int .i64 (t3284 13), .int .i64 (t3284 14), .int .i64 (t3284 15), .int .i64 x3032, .slice A3034 l3033.length c3035, .int .i64 (IntKind.i64.wrap (x3037 + 1))] 66 :: OSf E_api_Out 58 (.slice A3034 l3033.length c3035) l3033 :: Cl b3255 [.int .i64 ((nth a555 x3037).Op), .int .i64 ((nth a555 x3037).A), .int .i64 ((nth a555 x3037).B), .int .i64 ((nth a555 x3037).C)] 48 :: MapL b2459 [({ key := .int .i64 0, val := .func (.func 49) #[] #[], born := 0 } : MapEntry), ({ key := .int .i64 1, val := .func (.func 50) #[] #[], born := 1 } : MapEntry), ({ key := .int .i64 2, val := .func (.func 51) #[] #[], born := 2 } : MapEntry), ({ key := .int .i64 3, val := .func (.func 52) #[] #[], born := 3 } : MapEntry), ({ key := .int .i64 4, val := .func (.func 53) #[] #[], born := 4 } : MapEntry), ({ key := .int .i64 5, val := .func (.func 54) #[] #[], born := 5 } : MapEntry), ({ key := .int .i64 6, val := .func (.func 55) #[] #[], born := 6 } : MapEntry), ({ key := .int .i64 7, val := .func (.func 56) #[] #[], born := 7 } : MapEntry), ({ key := .int .i64 8, val := .func (.func 57) #[] #[], born := 8 } : MapEntry), ({ key := .int .i64 9, val := .func (.func 58) #[] #[], born := 9 } : MapEntry), ({ key := .int .i64 10, val := .func (.func 59) #[] #[], born := 10 } : MapEntry), ({ key := .int .i64 11, val := .func (.func 60) #[] #[], born := 11 } : MapEntry), ({ key := .int .i64 12, val := .func (.func 61) #[] #[], born := 12 } : MapEntry), ({ key := .int .i64 13, val := .func (.func 62) #[] #[], born := 13 } : MapEntry), ({ key := .int .i64 14, val := .func (.func 63) #[] #[], born := 14 } : MapEntry), ({ key := .int .i64 15, val := .func (.func 64) #[] #[], born := 15 } : MapEntry), ({ key := .int .i64 16, val := .func (.func 65) #[] #[], born := 16 } : MapEntry)] 17 :: Cl b2456 [.nilIface] 71 :: l) hf := hS
                  refine RL.nil ?_
                  refine RQ.inB_n ?_
                  exact fun a ha => ⟨(t3284, x3032, l3033, IntKind.i64.wrap (x3037 + 1)), t3284, x3032, l3033, (IntKind.i64.wrap (x3037 + 1)), rfl, A3034, c3035, ha.to ⟨rfl, rfl, rfl, rfl, rfl, rfl, rfl, rfl, rfl, rfl, rfl, rfl, rfl, rfl, rfl, trivial⟩, (((((hS.dropAt 2 rfl).pull 3 rfl rfl).pull 3 rfl rfl).pull 2 rfl rfl).pull 3 rfl rfl), h⟩
                 case neg =>
                  have h := h.neg hc3283
                  by_cases hc3286 : (nth a555 x3037).Op = 10
                  case pos =>
                   have h := h.pos hc3286
                   refine RL.s (Vl.lookupL (n' := 10) (j := 10) (v := .func (.func 59) #[] #[]) 2 hS rfl Tryd.underlying90 Tryd.underlying3 rfl rfl hc3286 rfl) rfl ?_
                   refine RL.s (Vl.move rfl) rfl ?_
                   refine RL.s (Vl.loadA (vs := [.int .i64 ((nth a555 x3037).Op), .int .i64 ((nth a555 x3037).A), .int .i64 ((nth a555 x3037).B), .int .i64 ((nth a555 x3037).C)]) Tryd.isAgg48 Tryd.sizeOf48 rfl rfl (hS.cellsAt 0 rfl rfl)) rfl ?_
                   obtain ⟨t3287, hg3288, h⟩ := h.bind
                   refine RL.e (OW.call (ls := [.tmp 47, .tmp 48]) rfl rfl Tryd.call59 rfl (vm_cpu_jump.ok a555 a559 a560 a564 a565 a566 a567 a568 a569 a570 a571 x3032 l3033 (IntKind.i64.wrap (x3037 + 1)) fn3031 (nth a555 x3037) b554 A556 c557 A561 c562 A3034 c3035 hr558 hr563 _ hg3288 (((((hS.pull 3 rfl rfl).pull 3 rfl rfl).pull 2 rfl rfl).pull 3 rfl rfl).pull 4 rfl rfl))) rfl rfl ?_
                   rintro _ w ⟨rfl, hS⟩
                   have hS : St B w (Cl b554 [.slice A556 a555.length c557, .int .i64 a559, .slice A561 a560.length c562, .int .u64 a564, .int .i64 a565, .int .i64 a566, .int .i64 a567, .int .i64 a568, .int .i64 a569, .int .i64 a570, .bool a571, .int .i64 (fn3031 0), .int .i64 (fn3031 1), .int .i64 (fn3031 2), .int .i64 (fn3031 3), .int .i64 (fn3031 4), .int .i64 (fn3031 5), .int .i64 (fn3031 6), .int .i64 (fn3031 7), .int .i64 (fn3031 8), .int .i64 (fn3031 9), .int .i64 (fn3031 10), .int .i64 (fn3031 11), .int .i64 (fn3031 12), .int .i64 (fn3031 13), .int .i64 (fn3031 14), .int .i64 (fn3031 15), .int .i64 x3032, .slice A3034 l3033.length c3035, .int .i64 t3287] 66 :: OSf E_api_Out 58 (.slice A3034 l3033.length c3035) l3033 :: Cl b3255 [.int .i64 ((nth a555 x3037).Op), .int .i64 ((nth a555 x3037).A), .int .i64 ((nth a555 x3037).B), .int .i64 ((nth a555 x3037).C)] 48 :: MapL b2459 [({ key := .int .i64 0, val := .func (.func 49) #[] #[], born := 0 } : MapEntry), ({ key := .int .i64 1, val := .func (.func 50) #[] #[], born := 1 } : MapEntry), ({ key := .int .i64 2, val := .func (.func 51) #[] #[], born := 2 } : MapEntry), ({ key := .int .i64 3, val := .func (.func 52) #[] #[], born := 3 } : MapEntry), ({ key := .int .i64 4, val := .func (.func 53) #[] #[], born := 4 } : MapEntry), ({ key := .int .i64 5, val := .func (.func 54) #[] #[], born := 5 } : MapEntry), ({ key := .int .i64 6, val := .func (.func 55) #[] #[], born := 6 } : MapEntry), ({ key := .int .i64 7, val := .func (.func 56) #[] #[], born := 7 } : MapEntry), ({ key := .int .i64 8, val := .func (.func 57) #[] #[], born := 8 } : MapEntry), ({ key := .int .i64 9, val := .func (.func 58) #[] #[], born := 9 } : MapEntry), ({ key := .int .i64 10, val := .func (.func 59) #[] #[], born := 10 } : MapEntry), ({ key := .int .i64 11, val := .func (.func 60) #[] #[], born := 11 } : MapEntry), ({ key := .int .i64 12, val := .func (.func 61) #[] #[], born := 12 } : MapEntry), ({ key := .int .i64 13, val := .func (.func 62) #[] #[], born := 13 } : MapEntry), ({ key := .int .i64 14, val := .func (.func 63) #[] #[], born := 14 } : MapEntry), ({ key := .int .i64 15, val := .func (.func 64) #[] #[], born := 15 } : MapEntry), ({ key := .int .i64 16, val := .func (.func 65) #[] #[], born := 16 } : MapEntry)] 17 :: Cl b2456 [.nilIface] 71 :: l) hf := hS
                   refine RL.nil ?_
                   refine RQ.inB_n ?_
                   exact fun a ha => ⟨(fn3031, x3032, l3033, t3287), fn3031, x3032, l3033, t3287, rfl, A3034, c3035, ha.to ⟨rfl, rfl, rfl, rfl, rfl, rfl, rfl, rfl, rfl, rfl, rfl, rfl, rfl, rfl, rfl, trivial⟩, (((((hS.dropAt 2 rfl).pull 3 rfl rfl).pull 3 rfl rfl).pull 2 rfl rfl).pull 3 rfl rfl), h⟩
                  case neg =>
                   have h := h.neg hc3286
                   by_cases hc3289 : (nth a555 x3037).Op = 11
                   case pos =>
                    have h := h.pos hc3289
                    refine RL.s (Vl.lookupL (n' := 11) (j := 11) (v := .func (.func 60) #[] #[]) 2 hS rfl Tryd.underlying90 Tryd.underlying3 rfl rfl hc3289 rfl) rfl ?_
                    refine RL.s (Vl.move rfl) rfl ?_
                    refine RL.s (Vl.loadA (vs := [.int .i64 ((nth a555 x3037).Op), .int .i64 ((nth a555 x3037).A), .int .i64 ((nth a555 x3037).B), .int .i64 ((nth a555 x3037).C)]) Tryd.isAgg48 Tryd.sizeOf48 rfl rfl (hS.cellsAt 0 rfl rfl)) rfl ?_
                    obtain ⟨t3290, hg3291, h⟩ := h.bind
                    refine RL.e (OW.call (ls := [.tmp 47, .tmp 48]) rfl rfl Tryd.call60 rfl (vm_cpu_zero.ok a555 a559 a560 a564 a565 a566 a567 a568 a569 a570 a571 x3032 l3033 (IntKind.i64.wrap (x3037 + 1)) fn3031 (nth a555 x3037) b554 A556 c557 A561 c562 A3034 c3035 hr558 hr563 _ hg3291 (((((hS.pull 3 rfl rfl).pull 3 rfl rfl).pull 2 rfl rfl).pull 3 rfl rfl).pull 4 rfl rfl))) rfl rfl ?_
                    rintro _ w ⟨rfl, hS⟩
                    have hS : St B w (Cl b554 [.slice A556 a555.length c557, .int .i64 a559, .slice A561 a560.length c562, .int .u64 a564, .int .i64 a565, .int .i64 a566, .int .i64 a567, .int .i64 a568, .int .i64 a569, .int .i64 a570, .bool a571, .int .i64 (fn3031 0), .int .i64 (fn3031 1), .int .i64 (fn3031 2), .int .i64 (fn3031 3), .int .i64 (fn3031 4), .int .i64 (fn3031 5), .int .i64 (fn3031 6), .int .i64 (fn3031 7), .int .i64 (fn3031 8), .int .i64 (fn3031 9), .int .i64 (fn3031 10), .int .i64 (fn3031 11), .int .i64 (fn3031 12), .int .i64 (fn3031 13), .int .i64 (fn3031 14), .int .i64 (fn3031 15), .int .i64 x3032, .slice A3034 l3033.length c3035, .int .i64 t3290] 66 :: OSf E_api_Out 58 (.slice A3034 l3033.length c3035) l3033 :: Cl b3255 [.int .i64 ((nth a555 x3037).Op), .int .i64 ((nth a555 x3037).A), .int .i64 ((nth a555 x3037).B), .int .i64 ((nth a555 x3037).C)] 48 :: MapL b2459 [({ key := .int .i64 0, val := .func (.func 49) #[] #[], born := 0 } : MapEntry), ({ key := .int .i64 1, val := .func (.func 50) #[] #[], born := 1 } : MapEntry), ({ key := .int .i64 2, val := .func (.func 51) #[] #[], born := 2 } : MapEntry), ({ key := .int .i64 3, val := .func (.func 52) #[] #[], born := 3 } : MapEntry), ({ key := .int .i64 4, val := .func (.func 53) #[] #[], born := 4 } : MapEntry), ({ key := .int .i64 5, val := .func (.func 54) #[] #[], born := 5 } : MapEntry), ({ key := .int .i64 6, val := .func (.func 55) #[] #[], born := 6 } : MapEntry), ({ key := .int .i64 7, val := .func (.func 56) #[] #[], born := 7 } : MapEntry), ({ key := .int .i64 8, val := .func (.func 57) #[] #[], born := 8 } : MapEntry), ({ key := .int .i64 9, val := .func (.func 58) #[] #[], born := 9 } : MapEntry), ({ key := .int .i64 10, val := .func (.func 59) #[] #[], born := 10 } : MapEntry), ({ key := .int .i64 11, val := .func (.func 60) #[] #[], born := 11 } : MapEntry), ({ key := .int .i64 12, val := .func (.func 61) #[] #[], born := 12 } : MapEntry), ({ key := .int .i64 13, val := .func (.func 62) #[] #[], born := 13 } : MapEntry), ({ key := .int .i64 14, val := .func (.func 63) #[] #[], born := 14 } : MapEntry), ({ key := .int .i64 15, val := .func (.func 64) #[] #[], born := 15 } : MapEntry), ({ key := .int .i64 16, val := .func (.func 65) #[] #[], born := 16 } : MapEntry)] 17 :: Cl b2456 [.nilIface] 71 :: l) hf := hS
                    refine RL.nil ?_
                    refine RQ.inB_n ?_
                    exact fun a ha => ⟨(fn3031, x3032, l3033, t3290), fn3031, x3032, l3033, t3290, rfl, A3034, c3035, ha.to ⟨rfl, rfl, rfl, rfl, rfl, rfl, rfl, rfl, rfl, rfl, rfl, rfl, rfl, rfl, rfl, trivial⟩, (((((hS.dropAt 2 rfl).pull 3 rfl rfl).pull 3 rfl rfl).pull 2 rfl rfl).pull 3 rfl rfl), h⟩
                   case neg =>
                    have h := h.neg hc3289
                    by_cases hc3292 : (nth a555 x3037).Op = 12
                    case pos =>
                     have h := h.pos hc3292
                     refine RL.s (Vl.lookupL (n' := 12) (j := 12) (v := .func (.func 61) #[] #[]) 2 hS rfl Tryd.underlying90 Tryd.underlying3 rfl rfl hc3292 rfl) rfl ?_
                     refine RL.s (Vl.move rfl) rfl ?_
                     refine RL.s (Vl.loadA (vs := [.int .i64 ((nth a555 x3037).Op), .int .i64 ((nth a555 x3037).A), .int .i64 ((nth a555 x3037).B), .int .i64 ((nth a555 x3037).C)]) Tryd.isAgg48 Tryd.sizeOf48 rfl rfl (hS.cellsAt 0 rfl rfl)) rfl ?_
                     obtain ⟨t3293, hg3294, h⟩ := h.bind
                     rcases t3293 with y3295 | y3299
                     · refine RL.eP (OWP.call (ls := [.tmp 47, .tmp 48]) rfl rfl Tryd.call61 rfl (vm_cpu_send.ok a555 a559 a560 a564 a565 a566 a567 a568 a569 a570 a571 x3032 l3033 (IntKind.i64.wrap (x3037 + 1)) fn3031 (nth a555 x3037) b554 A556 c557 A561 c562 A3034 c3035 hr558 hr563 _ hg3294 (((((hS.pull 3 rfl rfl).pull 3 rfl rfl).pull 2 rfl rfl).pull 3 rfl rfl).pull 4 rfl rfl))) rfl rfl ?_ ?_
                       rotate_left
                       · exact fun _ _ (hk : False) => hk.elim
                       rintro _ w ⟨A3296, c3297, rfl, hS⟩
                       have hS : St B w (OSf E_api_Out 58 (.slice A3296 y3295.length c3297) y3295 :: Cl b554 [.slice A556 a555.length c557, .int .i64 a559, .slice A561 a560.length c562, .int .u64 a564, .int .i64 a565, .int .i64 a566, .int .i64 a567, .int .i64 a568, .int .i64 a569, .int .i64 a570, .bool a571, .int .i64 (fn3031 0), .int .i64 (fn3031 1), .int .i64 (fn3031 2), .int .i64 (fn3031 3), .int .i64 (fn3031 4), .int .i64 (fn3031 5), .int .i64 (fn3031 6), .int .i64 (fn3031 7), .int .i64 (fn3031 8), .int .i64 (fn3031 9), .int .i64 (fn3031 10), .int .i64 (fn3031 11), .int .i64 (fn3031 12), .int .i64 (fn3031 13), .int .i64 (fn3031 14), .int .i64 (fn3031 15), .int .i64 x3032, .slice A3296 y3295.length c3297, .int .i64 (IntKind.i64.wrap (x3037 + 1))] 66 :: Cl b3255 [.int .i64 ((nth a555 x3037).Op), .int .i64 ((nth a555 x3037).A), .int .i64 ((nth a555 x3037).B), .int .i64 ((nth a555 x3037).C)] 48 :: MapL b2459 [({ key := .int .i64 0, val := .func (.func 49) #[] #[], born := 0 } : MapEntry), ({ key := .int .i64 1, val := .func (.func 50) #[] #[], born := 1 } : MapEntry), ({ key := .int .i64 2, val := .func (.func 51) #[] #[], born := 2 } : MapEntry), ({ key := .int .i64 3, val := .func (.func 52) #[] #[], born := 3 } : MapEntry), ({ key := .int .i64 4, val := .func (.func 53) #[] #[], born := 4 } : MapEntry), ({ key := .int .i64 5, val := .func (.func 54) #[] #[], born := 5 } : MapEntry), ({ key := .int .i64 6, val := .func (.func 55) #[] #[], born := 6 } : MapEntry), ({ key := .int .i64 7, val := .func (.func 56) #[] #[], born := 7 } : MapEntry), ({ key := .int .i64 8, val := .func (.func 57) #[] #[], born := 8 } : MapEntry), ({ key := .int .i64 9, val := .func (.func 58) #[] #[], born := 9 } : MapEntry), ({ key := .int .i64 10, val := .func (.func 59) #[] #[], born := 10 } : MapEntry), ({ key := .int .i64 11, val := .func (.func 60) #[] #[], born := 11 } : MapEntry), ({ key := .int .i64 12, val := .func (.func 61) #[] #[], born := 12 } : MapEntry), ({ key := .int .i64 13, val := .func (.func 62) #[] #[], born := 13 } : MapEntry), ({ key := .int .i64 14, val := .func (.func 63) #[] #[], born := 14 } : MapEntry), ({ key := .int .i64 15, val := .func (.func 64) #[] #[], born := 15 } : MapEntry), ({ key := .int .i64 16, val := .func (.func 65) #[] #[], born := 16 } : MapEntry)] 17 :: Cl b2456 [.nilIface] 71 :: l) hf := hS
                       refine RL.nil ?_
                       refine RQ.inB_n ?_
                       exact fun a ha => ⟨(fn3031, x3032, y3295, IntKind.i64.wrap (x3037 + 1)), fn3031, x3032, y3295, (IntKind.i64.wrap (x3037 + 1)), rfl, A3296, c3297, ha.to ⟨rfl, rfl, rfl, rfl, rfl, rfl, rfl, rfl, rfl, rfl, rfl, rfl, rfl, rfl, rfl, trivial⟩, (hS.dropAt 2 rfl), h⟩
                     · refine RL.eP (OWP.call (ls := [.tmp 47, .tmp 48]) rfl rfl Tryd.call61 rfl (vm_cpu_send.ok a555 a559 a560 a564 a565 a566 a567 a568 a569 a570 a571 x3032 l3033 (IntKind.i64.wrap (x3037 + 1)) fn3031 (nth a555 x3037) b554 A556 c557 A561 c562 A3034 c3035 hr558 hr563 _ hg3294 (((((hS.pull 3 rfl rfl).pull 3 rfl rfl).pull 2 rfl rfl).pull 3 rfl rfl).pull 4 rfl rfl))) rfl rfl ?_ ?_
                       · exact fun _ _ (hk : False) => hk.elim
                       · rintro _ w ⟨rfl, hS⟩
                         have hS : St B w (Cl b554 [.slice A556 a555.length c557, .int .i64 a559, .slice A561 a560.length c562, .int .u64 a564, .int .i64 a565, .int .i64 a566, .int .i64 a567, .int .i64 a568, .int .i64 a569, .int .i64 a570, .bool a571, .int .i64 (fn3031 0), .int .i64 (fn3031 1), .int .i64 (fn3031 2), .int .i64 (fn3031 3), .int .i64 (fn3031 4), .int .i64 (fn3031 5), .int .i64 (fn3031 6), .int .i64 (fn3031 7), .int .i64 (fn3031 8), .int .i64 (fn3031 9), .int .i64 (fn3031 10), .int .i64 (fn3031 11), .int .i64 (fn3031 12), .int .i64 (fn3031 13), .int .i64 (fn3031 14), .int .i64 (fn3031 15), .int .i64 x3032, .slice A3034 l3033.length c3035, .int .i64 (IntKind.i64.wrap (x3037 + 1))] 66 :: OSf E_api_Out 58 (.slice A3034 l3033.length c3035) l3033 :: Cl b3255 [.int .i64 ((nth a555 x3037).Op), .int .i64 ((nth a555 x3037).A), .int .i64 ((nth a555 x3037).B), .int .i64 ((nth a555 x3037).C)] 48 :: MapL b2459 [({ key := .int .i64 0, val := .func (.func 49) #[] #[], born := 0 } : MapEntry), ({ key := .int .i64 1, val := .func (.func 50) #[] #[], born := 1 } : MapEntry), ({ key := .int .i64 2, val := .func (.func 51) #[] #[], born := 2 } : MapEntry), ({ key := .int .i64 3, val := .func (.func 52) #[] #[], born := 3 } : MapEntry), ({ key := .int .i64 4, val := .func (.func 53) #[] #[], born := 4 } : MapEntry), ({ key := .int .i64 5, val := .func (.func 54) #[] #[], born := 5 } : MapEntry), ({ key := .int .i64 6, val := .func (.func 55) #[] #[], born := 6 } : MapEntry), ({ key := .int .i64 7, val := .func (.func 56) #[] #[], born := 7 } : MapEntry), ({ key := .int .i64 8, val := .func (.func 57) #[] #[], born := 8 } : MapEntry), ({ key := .int .i64 9, val := .func (.func 58) #[] #[], born := 9 } : MapEntry), ({ key := .int .i64 10, val := .func (.func 59) #[] #[], born := 10 } : MapEntry), ({ key := .int .i64 11, val := .func (.func 60) #[] #[], born := 11 } : MapEntry), ({ key := .int .i64 12, val := .func (.func 61) #[] #[], born := 12 } : MapEntry), ({ key := .int .i64 13, val := .func (.func 62) #[] #[], born := 13 } : MapEntry), ({ key := .int .i64 14, val := .func (.func 63) #[] #[], born := 14 } : MapEntry), ({ key := .int .i64 15, val := .func (.func 64) #[] #[], born := 15 } : MapEntry), ({ key := .int .i64 16, val := .func (.func 65) #[] #[], born := 16 } : MapEntry)] 17 :: Cl b2456 [.nilIface] 71 :: l) hf := hS
                         refine RQ.panB ?_
                         refine RQ.panT ?_
                         have h := h.inr
                         refine RQ.panT ?_
                         refine RQ.panB ?_
                         refine RQ.panT ?_
                         obtain ⟨t3300, hg3301, h⟩ := h.bind
                         have e := h.some
                         subst e
                         refine RQ.deferPan Tryd.results20 (fun w => by kernel_rfl) (vm_cpu_run_1v2.ok y3299 b2456 _ hg3301 (((((hS.pull 3 rfl rfl).pull 3 rfl rfl).pull 3 rfl rfl).pull 3 rfl rfl).pull 4 rfl rfl)) ?_
                         rintro _ w ⟨b3302, A3304, c3305, rfl, hS⟩
                         have hS : St B w (Cl b3302 [.slice A3304 1 c3305] 115 :: OSl 71 1 (.slice A3304 1 c3305) 1 [.iface 69 (.agg #[.int .i64 t3300.at_, .int .i64 t3300.why])] :: Cl b2456 [.iface 113 (.pointer (some ⟨b3302, 0, none⟩))] 71 :: Cl b554 [.slice A556 a555.length c557, .int .i64 a559, .slice A561 a560.length c562, .int .u64 a564, .int .i64 a565, .int .i64 a566, .int .i64 a567, .int .i64 a568, .int .i64 a569, .int .i64 a570, .bool a571, .int .i64 (fn3031 0), .int .i64 (fn3031 1), .int .i64 (fn3031 2), .int .i64 (fn3031 3), .int .i64 (fn3031 4), .int .i64 (fn3031 5), .int .i64 (fn3031 6), .int .i64 (fn3031 7), .int .i64 (fn3031 8), .int .i64 (fn3031 9), .int .i64 (fn3031 10), .int .i64 (fn3031 11), .int .i64 (fn3031 12), .int .i64 (fn3031 13), .int .i64 (fn3031 14), .int .i64 (fn3031 15), .int .i64 x3032, .slice A3034 l3033.length c3035, .int .i64 (IntKind.i64.wrap (x3037 + 1))] 66 :: OSf E_api_Out 58 (.slice A3034 l3033.length c3035) l3033 :: Cl b3255 [.int .i64 ((nth a555 x3037).Op), .int .i64 ((nth a555 x3037).A), .int .i64 ((nth a555 x3037).B), .int .i64 ((nth a555 x3037).C)] 48 :: MapL b2459 [({ key := .int .i64 0, val := .func (.func 49) #[] #[], born := 0 } : MapEntry), ({ key := .int .i64 1, val := .func (.func 50) #[] #[], born := 1 } : MapEntry), ({ key := .int .i64 2, val := .func (.func 51) #[] #[], born := 2 } : MapEntry), ({ key := .int .i64 3, val := .func (.func 52) #[] #[], born := 3 } : MapEntry), ({ key := .int .i64 4, val := .func (.func 53) #[] #[], born := 4 } : MapEntry), ({ key := .int .i64 5, val := .func (.func 54) #[] #[], born := 5 } : MapEntry), ({ key := .int .i64 6, val := .func (.func 55) #[] #[], born := 6 } : MapEntry), ({ key := .int .i64 7, val := .func (.func 56) #[] #[], born := 7 } : MapEntry), ({ key := .int .i64 8, val := .func (.func 57) #[] #[], born := 8 } : MapEntry), ({ key := .int .i64 9, val := .func (.func 58) #[] #[], born := 9 } : MapEntry), ({ key := .int .i64 10, val := .func (.func 59) #[] #[], born := 10 } : MapEntry), ({ key := .int .i64 11, val := .func (.func 60) #[] #[], born := 11 } : MapEntry), ({ key := .int .i64 12, val := .func (.func 61) #[] #[], born := 12 } : MapEntry), ({ key := .int .i64 13, val := .func (.func 62) #[] #[], born := 13 } : MapEntry), ({ key := .int .i64 14, val := .func (.func 63) #[] #[], born := 14 } : MapEntry), ({ key := .int .i64 15, val := .func (.func 64) #[] #[], born := 15 } : MapEntry), ({ key := .int .i64 16, val := .func (.func 65) #[] #[], born := 16 } : MapEntry)] 17 :: l) hf := hS
                         exact ⟨[.iface 113 (.pointer (some ⟨b3302, 0, none⟩))], ⟨⟨_, rfl, run_loadVar1 Tryd.isAgg71 (hS.cell 2 rfl rfl)⟩, trivial⟩, ⟨b3302, A3304, c3305, A3034, c3035, rfl, (((((((hS.dropAt 2 rfl).dropAt 4 rfl).dropAt 4 rfl).pull 2 rfl rfl).pull 3 rfl rfl).pull 3 rfl rfl).pull 3 rfl rfl)⟩⟩
                    case neg =>
                     have h := h.neg hc3292
                     by_cases hc3307 : (nth a555 x3037).Op = 13
                     case pos =>
                      have h := h.pos hc3307
                      refine RL.s (Vl.lookupL (n' := 13) (j := 13) (v := .func (.func 62) #[] #[]) 2 hS rfl Tryd.underlying90 Tryd.underlying3 rfl rfl hc3307 rfl) rfl ?_
                      refine RL.s (Vl.move rfl) rfl ?_
                      refine RL.s (Vl.loadA (vs := [.int .i64 ((nth a555 x3037).Op), .int .i64 ((nth a555 x3037).A), .int .i64 ((nth a555 x3037).B), .int .i64 ((nth a555 x3037).C)]) Tryd.isAgg48 Tryd.sizeOf48 rfl rfl (hS.cellsAt 0 rfl rfl)) rfl ?_
                      obtain ⟨t3308, hg3309, h⟩ := h.bind
                      obtain ⟨y3310, y3311⟩ := t3308
                      refine RL.e (OW.call (ls := [.tmp 47, .tmp 48]) rfl rfl Tryd.call62 rfl (vm_cpu_draw.ok a555 a559 a560 a564 a565 a566 a567 a568 a569 a570 a571 x3032 l3033 (IntKind.i64.wrap (x3037 + 1)) fn3031 (nth a555 x3037) b554 A556 c557 A561 c562 A3034 c3035 hr558 hr563 _ hg3309 (((((hS.pull 3 rfl rfl).pull 3 rfl rfl).pull 2 rfl rfl).pull 3 rfl rfl).pull 4 rfl rfl))) rfl rfl ?_
                      rintro _ w ⟨rfl, hS⟩
                      have hS : St B w (Cl b554 [.slice A556 a555.length c557, .int .i64 a559, .slice A561 a560.length c562, .int .u64 a564, .int .i64 a565, .int .i64 a566, .int .i64 a567, .int .i64 a568, .int .i64 a569, .int .i64 a570, .bool a571, .int .i64 (y3310 0), .int .i64 (y3310 1), .int .i64 (y3310 2), .int .i64 (y3310 3), .int .i64 (y3310 4), .int .i64 (y3310 5), .int .i64 (y3310 6), .int .i64 (y3310 7), .int .i64 (y3310 8), .int .i64 (y3310 9), .int .i64 (y3310 10), .int .i64 (y3310 11), .int .i64 (y3310 12), .int .i64 (y3310 13), .int .i64 (y3310 14), .int .i64 (y3310 15), .int .i64 y3311, .slice A3034 l3033.length c3035, .int .i64 (IntKind.i64.wrap (x3037 + 1))] 66 :: OSf E_api_Out 58 (.slice A3034 l3033.length c3035) l3033 :: Cl b3255 [.int .i64 ((nth a555 x3037).Op), .int .i64 ((nth a555 x3037).A), .int .i64 ((nth a555 x3037).B), .int .i64 ((nth a555 x3037).C)] 48 :: MapL b2459 [({ key := .int .i64 0, val := .func (.func 49) #[] #[], born := 0 } : MapEntry), ({ key := .int .i64 1, val := .func (.func 50) #[] #[], born := 1 } : MapEntry), ({ key := .int .i64 2, val := .func (.func 51) #[] #[], born := 2 } : MapEntry), ({ key := .int .i64 3, val := .func (.func 52) #[] #[], born := 3 } : MapEntry), ({ key := .int .i64 4, val := .func (.func 53) #[] #[], born := 4 } : MapEntry), ({ key := .int .i64 5, val := .func (.func 54) #[] #[], born := 5 } : MapEntry), ({ key := .int .i64 6, val := .func (.func 55) #[] #[], born := 6 } : MapEntry), ({ key := .int .i64 7, val := .func (.func 56) #[] #[], born := 7 } : MapEntry), ({ key := .int .i64 8, val := .func (.func 57) #[] #[], born := 8 } : MapEntry), ({ key := .int .i64 9, val := .func (.func 58) #[] #[], born := 9 } : MapEntry), ({ key := .int .i64 10, val := .func (.func 59) #[] #[], born := 10 } : MapEntry), ({ key := .int .i64 11, val := .func (.func 60) #[] #[], born := 11 } : MapEntry), ({ key := .int .i64 12, val := .func (.func 61) #[] #[], born := 12 } : MapEntry), ({ key := .int .i64 13, val := .func (.func 62) #[] #[], born := 13 } : MapEntry), ({ key := .int .i64 14, val := .func (.func 63) #[] #[], born := 14 } : MapEntry), ({ key := .int .i64 15, val := .func (.func 64) #[] #[], born := 15 } : MapEntry), ({ key := .int .i64 16, val := .func (.func 65) #[] #[], born := 16 } : MapEntry)] 17 :: Cl b2456 [.nilIface] 71 :: l) hf := hS
                      refine RL.nil ?_
                      refine RQ.inB_n ?_
                      exact fun a ha => ⟨(y3310, y3311, l3033, IntKind.i64.wrap (x3037 + 1)), y3310, y3311, l3033, (IntKind.i64.wrap (x3037 + 1)), rfl, A3034, c3035, ha.to ⟨rfl, rfl, rfl, rfl, rfl, rfl, rfl, rfl, rfl, rfl, rfl, rfl, rfl, rfl, rfl, trivial⟩, (((((hS.dropAt 2 rfl).pull 3 rfl rfl).pull 3 rfl rfl).pull 2 rfl rfl).pull 3 rfl rfl), h⟩
                     case neg =>
                      have h := h.neg hc3307
                      by_cases hc3312 : (nth a555 x3037).Op = 14
                      case pos =>
                       have h := h.pos hc3312
                       refine RL.s (Vl.lookupL (n' := 14) (j := 14) (v := .func (.func 63) #[] #[]) 2 hS rfl Tryd.underlying90 Tryd.underlying3 rfl rfl hc3312 rfl) rfl ?_
                       refine RL.s (Vl.move rfl) rfl ?_
                       refine RL.s (Vl.loadA (vs := [.int .i64 ((nth a555 x3037).Op), .int .i64 ((nth a555 x3037).A), .int .i64 ((nth a555 x3037).B), .int .i64 ((nth a555 x3037).C)]) Tryd.isAgg48 Tryd.sizeOf48 rfl rfl (hS.cellsAt 0 rfl rfl)) rfl ?_
                       obtain ⟨t3313, hg3314, h⟩ := h.bind
                       refine RL.e (OW.call (ls := [.tmp 47, .tmp 48]) rfl rfl Tryd.call63 rfl (vm_cpu_value.ok a555 a559 a560 a564 a565 a566 a567 a568 a569 a570 a571 x3032 l3033 (IntKind.i64.wrap (x3037 + 1)) fn3031 (nth a555 x3037) b554 A556 c557 A561 c562 A3034 c3035 hr558 hr563 _ hg3314 (((((hS.pull 3 rfl rfl).pull 3 rfl rfl).pull 2 rfl rfl).pull 3 rfl rfl).pull 4 rfl rfl))) rfl rfl ?_
                       rintro _ w ⟨rfl, hS⟩
                       have hS : St B w (Cl b554 [.slice A556 a555.length c557, .int .i64 a559, .slice A561 a560.length c562, .int .u64 a564, .int .i64 a565, .int .i64 a566, .int .i64 a567, .int .i64 a568, .int .i64 a569, .int .i64 a570, .bool a571, .int .i64 (t3313 0), .int .i64 (t3313 1), .int .i64 (t3313 2), .int .i64 (t3313 3), .int .i64 (t3313 4), .int .i64 (t3313 5), .int .i64 (t3313 6), .int .i64 (t3313 7), .int .i64 (t3313 8), .int .i64 (t3313 9), .int .i64 (t3313 10), .int .i64 (t3313 11), .int .i64 (t3313 12), .int .i64 (t3313 13), .int .i64 (t3313 14), .int .i64 (t3313 15), .int .i64 x3032, .slice A3034 l3033.length c3035, .int .i64 (IntKind.i64.wrap (x3037 + 1))] 66 :: OSf E_api_Out 58 (.slice A3034 l3033.length c3035) l3033 :: Cl b3255 [.int .i64 ((nth a555 x3037).Op), .int .i64 ((nth a555 x3037).A), .int .i64 ((nth a555 x3037).B), .int .i64 ((nth a555 x3037).C)] 48 :: MapL b2459 [({ key := .int .i64 0, val := .func (.func 49) #[] #[], born := 0 } : MapEntry), ({ key := .int .i64 1, val := .func (.func 50) #[] #[], born := 1 } : MapEntry), ({ key := .int .i64 2, val := .func (.func 51) #[] #[], born := 2 } : MapEntry), ({ key := .int .i64 3, val := .func (.func 52) #[] #[], born := 3 } : MapEntry), ({ key := .int .i64 4, val := .func (.func 53) #[] #[], born := 4 } : MapEntry), ({ key := .int .i64 5, val := .func (.func 54) #[] #[], born := 5 } : MapEntry), ({ key := .int .i64 6, val := .func (.func 55) #[] #[], born := 6 } : MapEntry), ({ key := .int .i64 7, val := .func (.func 56) #[] #[], born := 7 } : MapEntry), ({ key := .int .i64 8, val := .func (.func 57) #[] #[], born := 8 } : MapEntry), ({ key := .int .i64 9, val := .func (.func 58) #[] #[], born := 9 } : MapEntry), ({ key := .int .i64 10, val := .func (.func 59) #[] #[], born := 10 } : MapEntry), ({ key := .int .i64 11, val := .func (.func 60) #[] #[], born := 11 } : MapEntry), ({ key := .int .i64 12, val := .func (.func 61) #[] #[], born := 12 } : MapEntry), ({ key := .int .i64 13, val := .func (.func 62) #[] #[], born := 13 } : MapEntry), ({ key := .int .i64 14, val := .func (.func 63) #[] #[], born := 14 } : MapEntry), ({ key := .int .i64 15, val := .func (.func 64) #[] #[], born := 15 } : MapEntry), ({ key := .int .i64 16, val := .func (.func 65) #[] #[], born := 16 } : MapEntry)] 17 :: Cl b2456 [.nilIface] 71 :: l) hf := hS
                       refine RL.nil ?_
                       refine RQ.inB_n ?_
                       exact fun a ha => ⟨(t3313, x3032, l3033, IntKind.i64.wrap (x3037 + 1)), t3313, x3032, l3033, (IntKind.i64.wrap (x3037 + 1)), rfl, A3034, c3035, ha.to ⟨rfl, rfl, rfl, rfl, rfl, rfl, rfl, rfl, rfl, rfl, rfl, rfl, rfl, rfl, rfl, trivial⟩, (((((hS.dropAt 2 rfl).pull 3 rfl rfl).pull 3 rfl rfl).pull 2 rfl rfl).pull 3 rfl rfl), h⟩
                      case neg =>
                       have h := h.neg hc3312
                       by_cases hc3315 : (nth a555 x3037).Op = 15
                       case pos =>
                        have h := h.pos hc3315
                        refine RL.s (Vl.lookupL (n' := 15) (j := 15) (v := .func (.func 64) #[] #[]) 2 hS rfl Tryd.underlying90 Tryd.underlying3 rfl rfl hc3315 rfl) rfl ?_
                        refine RL.s (Vl.move rfl) rfl ?_
                        refine RL.s (Vl.loadA (vs := [.int .i64 ((nth a555 x3037).Op), .int .i64 ((nth a555 x3037).A), .int .i64 ((nth a555 x3037).B), .int .i64 ((nth a555 x3037).C)]) Tryd.isAgg48 Tryd.sizeOf48 rfl rfl (hS.cellsAt 0 rfl rfl)) rfl ?_
                        obtain ⟨t3316, hg3317, h⟩ := h.bind
                        refine RL.e (OW.call (ls := [.tmp 47, .tmp 48]) rfl rfl Tryd.call64 rfl (vm_cpu_time.ok a555 a559 a560 a564 a565 a566 a567 a568 a569 a570 a571 x3032 l3033 (IntKind.i64.wrap (x3037 + 1)) fn3031 (nth a555 x3037) b554 A556 c557 A561 c562 A3034 c3035 hr558 hr563 _ hg3317 (((((hS.pull 3 rfl rfl).pull 3 rfl rfl).pull 2 rfl rfl).pull 3 rfl rfl).pull 4 rfl rfl))) rfl rfl ?_
                        rintro _ w ⟨rfl, hS⟩
                        have hS : St B w (Cl b554 [.slice A556 a555.length c557, .int .i64 a559, .slice A561 a560.length c562, .int .u64 a564, .int .i64 a565, .int .i64 a566, .int .i64 a567, .int .i64 a568, .int .i64 a569, .int .i64 a570, .bool a571, .int .i64 (t3316 0), .int .i64 (t3316 1), .int .i64 (t3316 2), .int .i64 (t3316 3), .int .i64 (t3316 4), .int .i64 (t3316 5), .int .i64 (t3316 6), .int .i64 (t3316 7), .int .i64 (t3316 8), .int .i64 (t3316 9), .int .i64 (t3316 10), .int .i64 (t3316 11), .int .i64 (t3316 12), .int .i64 (t3316 13), .int .i64 (t3316 14), .int .i64 (t3316 15), .int .i64 x3032, .slice A3034 l3033.length c3035, .int .i64 (IntKind.i64.wrap (x3037 + 1))] 66 :: OSf E_api_Out 58 (.slice A3034 l3033.length c3035) l3033 :: Cl b3255 [.int .i64 ((nth a555 x3037).Op), .int .i64 ((nth a555 x3037).A), .int .i64 ((nth a555 x3037).B), .int .i64 ((nth a555 x3037).C)] 48 :: MapL b2459 [({ key := .int .i64 0, val := .func (.func 49) #[] #[], born := 0 } : MapEntry), ({ key := .int .i64 1, val := .func (.func 50) #[] #[], born := 1 } : MapEntry), ({ key := .int .i64 2, val := .func (.func 51) #[] #[], born := 2 } : MapEntry), ({ key := .int .i64 3, val := .func (.func 52) #[] #[], born := 3 } : MapEntry), ({ key := .int .i64 4, val := .func (.func 53) #[] #[], born := 4 } : MapEntry), ({ key := .int .i64 5, val := .func (.func 54) #[] #[], born := 5 } : MapEntry), ({ key := .int .i64 6, val := .func (.func 55) #[] #[], born := 6 } : MapEntry), ({ key := .int .i64 7, val := .func (.func 56) #[] #[], born := 7 } : MapEntry), ({ key := .int .i64 8, val := .func (.func 57) #[] #[], born := 8 } : MapEntry), ({ key := .int .i64 9, val := .func (.func 58) #[] #[], born := 9 } : MapEntry), ({ key := .int .i64 10, val := .func (.func 59) #[] #[], born := 10 } : MapEntry), ({ key := .int .i64 11, val := .func (.func 60) #[] #[], born := 11 } : MapEntry), ({ key := .int .i64 12, val := .func (.func 61) #[] #[], born := 12 } : MapEntry), ({ key := .int .i64 13, val := .func (.func 62) #[] #[], born := 13 } : MapEntry), ({ key := .int .i64 14, val := .func (.func 63) #[] #[], born := 14 } : MapEntry), ({ key := .int .i64 15, val := .func (.func 64) #[] #[], born := 15 } : MapEntry), ({ key := .int .i64 16, val := .func (.func 65) #[] #[], born := 16 } : MapEntry)] 17 :: Cl b2456 [.nilIface] 71 :: l) hf := hS
                        refine RL.nil ?_
                        refine RQ.inB_n ?_
                        exact fun a ha => ⟨(t3316, x3032, l3033, IntKind.i64.wrap (x3037 + 1)), t3316, x3032, l3033, (IntKind.i64.wrap (x3037 + 1)), rfl, A3034, c3035, ha.to ⟨rfl, rfl, rfl, rfl, rfl, rfl, rfl, rfl, rfl, rfl, rfl, rfl, rfl, rfl, rfl, trivial⟩, (((((hS.dropAt 2 rfl).pull 3 rfl rfl).pull 3 rfl rfl).pull 2 rfl rfl).pull 3 rfl rfl), h⟩
                       case neg =>
                        have h := h.neg hc3315
                        by_cases hc3318 : (nth a555 x3037).Op = 16
                        case pos =>
                         have h := h.pos hc3318
                         refine RL.s (Vl.lookupL (n' := 16) (j := 16) (v := .func (.func 65) #[] #[]) 2 hS rfl Tryd.underlying90 Tryd.underlying3 rfl rfl hc3318 rfl) rfl ?_
                         refine RL.s (Vl.move rfl) rfl ?_
                         refine RL.s (Vl.loadA (vs := [.int .i64 ((nth a555 x3037).Op), .int .i64 ((nth a555 x3037).A), .int .i64 ((nth a555 x3037).B), .int .i64 ((nth a555 x3037).C)]) Tryd.isAgg48 Tryd.sizeOf48 rfl rfl (hS.cellsAt 0 rfl rfl)) rfl ?_
                         obtain ⟨t3319, hg3320, h⟩ := h.bind
                         refine RL.e (OW.call (ls := [.tmp 47, .tmp 48]) rfl rfl Tryd.call65 rfl (vm_cpu_self.ok a555 a559 a560 a564 a565 a566 a567 a568 a569 a570 a571 x3032 l3033 (IntKind.i64.wrap (x3037 + 1)) fn3031 (nth a555 x3037) b554 A556 c557 A561 c562 A3034 c3035 hr558 hr563 _ hg3320 (((((hS.pull 3 rfl rfl).pull 3 rfl rfl).pull 2 rfl rfl).pull 3 rfl rfl).pull 4 rfl rfl))) rfl rfl ?_
                         rintro _ w ⟨rfl, hS⟩
                         have hS : St B w (Cl b554 [.slice A556 a555.length c557, .int .i64 a559, .slice A561 a560.length c562, .int .u64 a564, .int .i64 a565, .int .i64 a566, .int .i64 a567, .int .i64 a568, .int .i64 a569, .int .i64 a570, .bool a571, .int .i64 (t3319 0), .int .i64 (t3319 1), .int .i64 (t3319 2), .int .i64 (t3319 3), .int .i64 (t3319 4), .int .i64 (t3319 5), .int .i64 (t3319 6), .int .i64 (t3319 7), .int .i64 (t3319 8), .int .i64 (t3319 9), .int .i64 (t3319 10), .int .i64 (t3319 11), .int .i64 (t3319 12), .int .i64 (t3319 13), .int .i64 (t3319 14), .int .i64 (t3319 15), .int .i64 x3032, .slice A3034 l3033.length c3035, .int .i64 (IntKind.i64.wrap (x3037 + 1))] 66 :: OSf E_api_Out 58 (.slice A3034 l3033.length c3035) l3033 :: Cl b3255 [.int .i64 ((nth a555 x3037).Op), .int .i64 ((nth a555 x3037).A), .int .i64 ((nth a555 x3037).B), .int .i64 ((nth a555 x3037).C)] 48 :: MapL b2459 [({ key := .int .i64 0, val := .func (.func 49) #[] #[], born := 0 } : MapEntry), ({ key := .int .i64 1, val := .func (.func 50) #[] #[], born := 1 } : MapEntry), ({ key := .int .i64 2, val := .func (.func 51) #[] #[], born := 2 } : MapEntry), ({ key := .int .i64 3, val := .func (.func 52) #[] #[], born := 3 } : MapEntry), ({ key := .int .i64 4, val := .func (.func 53) #[] #[], born := 4 } : MapEntry), ({ key := .int .i64 5, val := .func (.func 54) #[] #[], born := 5 } : MapEntry), ({ key := .int .i64 6, val := .func (.func 55) #[] #[], born := 6 } : MapEntry), ({ key := .int .i64 7, val := .func (.func 56) #[] #[], born := 7 } : MapEntry), ({ key := .int .i64 8, val := .func (.func 57) #[] #[], born := 8 } : MapEntry), ({ key := .int .i64 9, val := .func (.func 58) #[] #[], born := 9 } : MapEntry), ({ key := .int .i64 10, val := .func (.func 59) #[] #[], born := 10 } : MapEntry), ({ key := .int .i64 11, val := .func (.func 60) #[] #[], born := 11 } : MapEntry), ({ key := .int .i64 12, val := .func (.func 61) #[] #[], born := 12 } : MapEntry), ({ key := .int .i64 13, val := .func (.func 62) #[] #[], born := 13 } : MapEntry), ({ key := .int .i64 14, val := .func (.func 63) #[] #[], born := 14 } : MapEntry), ({ key := .int .i64 15, val := .func (.func 64) #[] #[], born := 15 } : MapEntry), ({ key := .int .i64 16, val := .func (.func 65) #[] #[], born := 16 } : MapEntry)] 17 :: Cl b2456 [.nilIface] 71 :: l) hf := hS
                         refine RL.nil ?_
                         refine RQ.inB_n ?_
                         exact fun a ha => ⟨(t3319, x3032, l3033, IntKind.i64.wrap (x3037 + 1)), t3319, x3032, l3033, (IntKind.i64.wrap (x3037 + 1)), rfl, A3034, c3035, ha.to ⟨rfl, rfl, rfl, rfl, rfl, rfl, rfl, rfl, rfl, rfl, rfl, rfl, rfl, rfl, rfl, trivial⟩, (((((hS.dropAt 2 rfl).pull 3 rfl rfl).pull 3 rfl rfl).pull 2 rfl rfl).pull 3 rfl rfl), h⟩
                        case neg =>
                         have h := h.neg hc3318
                         exact h.none
     case neg =>
      have h := h.neg hc3184
      refine RC.re 22 rfl (congrArg Value.bool (decide_eq_false hc3184)) ?_
      refine RC.condF rfl ?_
      refine RC.exit ?_
      refine RQ.exitT ?_
      have h := h.inr
      refine RQ.exitT ?_
      refine RQ.inB_hit ?_
      exact fun a ha => ⟨(fn3031, x3032, l3033, x3037), fn3031, x3032, l3033, x3037, rfl, A3034, c3035, ha.to ⟨rfl, trivial⟩, (hS.dropAt 1 rfl), h⟩
    case neg =>
     have h := h.neg hc3183
     refine RP.re 10 rfl (congrArg Value.bool (decide_eq_false hc3183)) ?_
     refine RP.nn0 3 rfl rfl rfl ?_
     refine RP.nn0 4 rfl rfl rfl ?_
     refine RP.nn0 5 rfl rfl rfl ?_
     refine RP.nn 6 rfl rfl rfl ?_
     refine RP.n1 7 rfl rfl rfl ?_
     refine RP.n1 8 rfl rfl rfl ?_
     refine RP.n1 9 rfl rfl rfl ?_
     refine RP.n1 10 rfl rfl rfl ?_
     refine RP.n1 11 rfl rfl rfl ?_
     refine RP.n1 12 rfl rfl rfl ?_
     refine RP.n1 13 rfl rfl rfl ?_
     refine RP.v1 14 rfl (Vl.pickF rfl rfl) rfl rfl ?_
     refine RP.nil ?_
     refine RQ.noPan_n ?_
     refine RQ.then_n ?_
     refine RC.condF rfl ?_
     refine RC.exit ?_
     refine RQ.exitT ?_
     have h := h.inr
     refine RQ.exitT ?_
     refine RQ.inB_hit ?_
     exact fun a ha => ⟨(fn3031, x3032, l3033, x3037), fn3031, x3032, l3033, x3037, rfl, A3034, c3035, ha.to ⟨rfl, trivial⟩, (hS.dropAt 1 rfl), h⟩

/-! ### errors.As: function 21 -/
noncomputable def errors_As.f (a3336 : vm_fault) : Option (Bool) := some false
set_option maxRecDepth 100000 in
set_option maxHeartbeats 4000000 in
theorem errors_As.ok {B : Base} {w : World} {l : List HProp} {hf : Hp} (a3336 : vm_fault) (b3335 : Nat) (r : Bool) (h : errors_As.f a3336 = some r) (hS : St B w (Cl b3335 [.int .i64 a3336.at_, .int .i64 a3336.why] 69 :: l) hf) :
    Calls Tryd.prog 21 #[.nilIface, .iface 74 (.pointer (some ⟨b3335, 0, none⟩))] w (Ret fun v w => v = .bool r ∧ St B w (Cl b3335 [.int .i64 a3336.at_, .int .i64 a3336.why] 69 :: l) hf) := by
  have h := Holds.of h
  refine enter (args := [.nilIface, .iface 74 (.pointer (some ⟨b3335, 0, none⟩))]) Tryd.func21 rfl Tryd.ntmps21 (Nat.le_of_ble_eq_true rfl) ?_
  refine RC.seq ?_
  refine RC.region ?_
  refine RL.s (Vl.assign rfl) rfl ?_
  refine RL.nil ?_
  refine RQ.then_n ?_
  refine RC.seq ?_
  refine RC.seq ?_
  refine RC.region ?_
  refine RL.s (Vl.move rfl) rfl ?_
  refine RL.s (Vl.bin (v := .bool true) rfl rfl (by kernel_rfl)) rfl ?_
  refine RL.nil ?_
  refine RQ.then_n ?_
  refine RC.condT rfl ?_
  refine RC.seq ?_
  refine RC.region ?_
  refine RL.s (Vl.assign rfl) rfl ?_
  refine RL.nil ?_
  refine RQ.then_n ?_
  refine RC.ret ?_
  refine RQ.ret ?_
  have e := h.some
  subst e
  refine RQ.ret0 (vs := [.bool false]) Tryd.results21 ⟨rfl, trivial⟩ ?_
  exact ⟨rfl, hS⟩

/-! ### (*errors.joinError).Unwrap: function 108 -/
noncomputable def errors_joinError_Unwrap.f (a3384 : vm_fault) : Option (Unit) := some ()
set_option maxRecDepth 100000 in
set_option maxHeartbeats 4000000 in
theorem errors_joinError_Unwrap.ok {B : Base} {w : World} {l : List HProp} {hf : Hp} (a3384 : vm_fault) (b3380 : Nat) (A3382 : Option Addr) (c3383 : Nat) (r : Unit) (h : errors_joinError_Unwrap.f a3384 = some r) (hS : St B w (OSl 71 1 (.slice A3382 1 c3383) 1 [.iface 69 (.agg #[.int .i64 a3384.at_, .int .i64 a3384.why])] :: Cl b3380 [.slice A3382 1 c3383] 115 :: l) hf) :
    Calls Tryd.prog 108 #[.pointer (some ⟨b3380, 0, none⟩)] w (Ret fun v w => v = .slice A3382 1 c3383 ∧ St B w (OSl 71 1 (.slice A3382 1 c3383) 1 [.iface 69 (.agg #[.int .i64 a3384.at_, .int .i64 a3384.why])] :: Cl b3380 [.slice A3382 1 c3383] 115 :: l) hf) := by
  have h := Holds.of h
  refine enter (args := [.pointer (some ⟨b3380, 0, none⟩)]) Tryd.func108 rfl Tryd.ntmps108 (Nat.le_of_ble_eq_true rfl) ?_
  refine RC.seq ?_
  refine RC.region ?_
  refine RL.s (Vl.assign rfl) rfl ?_
  refine RL.nil ?_
  refine RQ.then_n ?_
  refine RC.seq ?_
  refine RC.region ?_
  refine RL.s (Vl.move rfl) rfl ?_
  refine RL.s (Vl.nilCheck rfl) rfl ?_
  refine RL.s (Vl.fieldAddr (a'' := ⟨b3380, 0, none⟩) Tryd.underlying115 rfl Tryd.sizeOf112 rfl rfl) rfl ?_
  refine RL.s (Vl.load Tryd.isAgg112 rfl (hS.cell 1 rfl rfl)) rfl ?_
  refine RL.s (Vl.assign rfl) rfl ?_
  refine RL.nil ?_
  refine RQ.then_n ?_
  refine RC.ret ?_
  have e := h.some
  skip
  refine RQ.ret0 (vs := [.slice A3382 1 c3383]) Tryd.results108 ⟨rfl, trivial⟩ ?_
  exact ⟨rfl, hS⟩

/-! ### errors.as: function 39 -/
noncomputable def errors_as_2.f (a3387 : vm_fault) (a3390 : vm_fault) : Option (Bool × vm_fault) := some (true, a3387)
set_option maxRecDepth 100000 in
set_option maxHeartbeats 4000000 in
theorem errors_as_2.ok {B : Base} {w : World} {l : List HProp} {hf : Hp} (a3387 : vm_fault) (a3390 : vm_fault) (b3389 : Nat) (b3392 : Nat) (r : Bool × vm_fault) (h : errors_as_2.f a3387 a3390 = some r) (hS : St B w (Cl b3389 [.int .i64 a3390.at_, .int .i64 a3390.why] 69 :: Cl b3392 [.pointer (some ⟨b3389, 0, none⟩)] 74 :: l) hf) :
    Calls Tryd.prog 39 #[.iface 69 (.agg #[.int .i64 a3387.at_, .int .i64 a3387.why]), .iface 74 (.pointer (some ⟨b3389, 0, none⟩)), .agg #[.pointer (some ⟨1, 74, none⟩), .pointer (some ⟨b3392, 0, none⟩), .int .u64 150], .iface 118 (.agg #[.pointer (some ⟨1, 69, none⟩)])] w (Ret fun v w => v = .bool r.1 ∧ St B w (Cl b3389 [.int .i64 r.2.at_, .int .i64 r.2.why] 69 :: Cl b3392 [.pointer (some ⟨b3389, 0, none⟩)] 74 :: l) hf) := by
  have h := Holds.of h
  refine enter (args := [.iface 69 (.agg #[.int .i64 a3387.at_, .int .i64 a3387.why]), .iface 74 (.pointer (some ⟨b3389, 0, none⟩)), .agg #[.pointer (some ⟨1, 74, none⟩), .pointer (some ⟨b3392, 0, none⟩), .int .u64 150], .iface 118 (.agg #[.pointer (some ⟨1, 69, none⟩)])]) Tryd.func39 rfl Tryd.ntmps39 (Nat.le_of_ble_eq_true rfl) ?_
  refine RC.seq ?_
  refine RC.region ?_
  refine RL.e (OW.box (cs := [.pointer (some ⟨1, 74, none⟩), .pointer (some ⟨b3392, 0, none⟩), .int .u64 150]) hS rfl rfl) rfl rfl ?_
  rintro _ w ⟨b3400, rfl, hS⟩
  have hS : St B w (Cl b3400 [.pointer (some ⟨1, 74, none⟩), .pointer (some ⟨b3392, 0, none⟩), .int .u64 150] 97 :: Cl b3389 [.int .i64 a3390.at_, .int .i64 a3390.why] 69 :: Cl b3392 [.pointer (some ⟨b3389, 0, none⟩)] 74 :: l) hf := hS
  refine RL.s (Vl.assign rfl) rfl ?_
  refine RL.nil ?_
  refine RQ.then_n ?_
  refine RC.block ?_
  refine RC.unroll ?_
  refine RQ.round ?_
  refine RC.block ?_
  refine RC.seq ?_
  refine RC.seq ?_
  refine RC.region ?_
  refine RL.s (Vl.move rfl) rfl ?_
  refine RL.s (Vl.extern (ls := [.tmp 16]) (v := .iface 118 (.agg #[.pointer (some ⟨1, 69, none⟩)])) rfl Tryd.func66 (by kernel_rfl) (by kernel_rfl) (by kernel_rfl) (e := Extern.ReflectliteType.typeOf) (by kernel_rfl) (fun w => by kernel_rfl)) rfl ?_
  refine RL.s (Vl.move rfl) rfl ?_
  refine RL.s (Vl.invokeX (F := 110) (ls := [.tmp 18]) (v := .bool true) (u' := .agg #[.pointer (some ⟨1, 69, none⟩)]) rfl rfl (fun w => by kernel_rfl) Tryd.func110 (by kernel_rfl) (by kernel_rfl) (by kernel_rfl) (e := (Extern.ReflectliteType.relation "AssignableTo" Extern.ReflectliteType.assignableTo)) (by kernel_rfl) (fun w => by kernel_rfl)) rfl ?_
  refine RL.nil ?_
  refine RQ.then_n ?_
  refine RC.condT rfl ?_
  refine RC.seq ?_
  refine RC.region ?_
  refine RL.s (Vl.loadA (vs := [.pointer (some ⟨1, 74, none⟩), .pointer (some ⟨b3392, 0, none⟩), .int .u64 150]) Tryd.isAgg97 Tryd.sizeOf97 rfl rfl (hS.cellsAt 0 rfl rfl)) rfl ?_
  refine RL.s (Vl.externAt (ls := [.tmp 20]) (v := .agg #[.pointer (some ⟨1, 69, none⟩), .pointer (some ⟨b3389, 0, none⟩), .int .u64 409]) rfl Tryd.func67 (by kernel_rfl) (by kernel_rfl) (by kernel_rfl) (e := Extern.ReflectliteValue.method (Extern.ReflectliteValue.valueError "reflectlite.Value.Elem" 0) Extern.ReflectliteValue.elem) (by kernel_rfl) (run_elemV (n := 150) (a := ⟨b3392, 0, none⟩) (fun w => by kernel_rfl) Tryd.underlying74 rfl (hS.cell 2 rfl rfl) (fun w => by kernel_rfl) (fun w => by kernel_rfl))) rfl ?_
  refine RL.s (Vl.move rfl) rfl ?_
  refine RL.e (OW.externNew (ls := [.tmp 22]) (cs := [.int .i64 a3387.at_, .int .i64 a3387.why]) (T := 69) (v := fun b => .agg #[.pointer (some ⟨1, 69, none⟩), .pointer (some ⟨b, 0, none⟩), .int .u64 153]) hS rfl Tryd.func36 (by kernel_rfl) (by kernel_rfl) (by kernel_rfl) (e := fun args => Extern.ReflectliteValue.unpack (args.getD 0 (.tuple #[]))) (by kernel_rfl) (fun w => by kernel_rfl)) rfl rfl ?_
  rintro _ w ⟨b3404, rfl, hS⟩
  have hS : St B w (Cl b3404 [.int .i64 a3387.at_, .int .i64 a3387.why] 69 :: Cl b3400 [.pointer (some ⟨1, 74, none⟩), .pointer (some ⟨b3392, 0, none⟩), .int .u64 150] 97 :: Cl b3389 [.int .i64 a3390.at_, .int .i64 a3390.why] 69 :: Cl b3392 [.pointer (some ⟨b3389, 0, none⟩)] 74 :: l) hf := hS
  refine RL.e (OW.setV (ls := [.tmp 21, .tmp 23]) (val := .agg #[.int .i64 a3387.at_, .int .i64 a3387.why]) (vs := [.int .i64 a3387.at_, .int .i64 a3387.why]) (n := 409) (m := 153) (a2 := ⟨b3404, 0, none⟩) 2 hS rfl rfl Tryd.func68 (by kernel_rfl) (by kernel_rfl) (by kernel_rfl) (by kernel_rfl) (fun w => by kernel_rfl) (fun w => by kernel_rfl) rfl (fun w => by kernel_rfl) (run_loadVarA (vs := [.int .i64 a3387.at_, .int .i64 a3387.why]) Tryd.isAgg69 Tryd.sizeOf69 rfl (hS.cellsAt 0 rfl rfl)) rfl Tryd.sizeOf69 rfl rfl rfl rfl) rfl rfl ?_
  rintro _ w ⟨rfl, hS⟩
  have hS : St B w (Cl b3404 [.int .i64 a3387.at_, .int .i64 a3387.why] 69 :: Cl b3400 [.pointer (some ⟨1, 74, none⟩), .pointer (some ⟨b3392, 0, none⟩), .int .u64 150] 97 :: Cl b3389 [.int .i64 a3387.at_, .int .i64 a3387.why] 69 :: Cl b3392 [.pointer (some ⟨b3389, 0, none⟩)] 74 :: l) hf := hS
  refine RL.nil ?_
  refine RQ.then_n ?_
  refine RC.seq ?_
  refine RC.region ?_
  refine RL.s (Vl.assign rfl) rfl ?_
  refine RL.nil ?_
  refine RQ.then_n ?_
  refine RC.ret ?_
  refine RQ.ret ?_
  refine RQ.inB_ret ?_
  refine RQ.ret ?_
  refine RQ.inB_ret ?_
  have e := h.some
  subst e
  refine RQ.ret0 (vs := [.bool true]) Tryd.results39 ⟨rfl, trivial⟩ ?_
  exact ⟨rfl, ((hS.dropAt 0 rfl).dropAt 0 rfl)⟩

/-! ### errors.as: function 39 -/
noncomputable def errors_as.f (a3371 : vm_fault) (a3374 : vm_fault) : Option (Bool × vm_fault) := ((errors_joinError_Unwrap.f a3371).bind fun _ => ((errors_as_2.f a3371 a3374).bind fun (y3426, y3427) => (if y3426 = true then some (true, y3427) else some (false, y3427))))
set_option maxRecDepth 100000 in
set_option maxHeartbeats 4000000 in
theorem errors_as.ok {B : Base} {w : World} {l : List HProp} {hf : Hp} (a3371 : vm_fault) (a3374 : vm_fault) (b3367 : Nat) (A3369 : Option Addr) (c3370 : Nat) (b3373 : Nat) (b3376 : Nat) (r : Bool × vm_fault) (h : errors_as.f a3371 a3374 = some r) (hS : St B w (OSl 71 1 (.slice A3369 1 c3370) 1 [.iface 69 (.agg #[.int .i64 a3371.at_, .int .i64 a3371.why])] :: Cl b3367 [.slice A3369 1 c3370] 115 :: Cl b3373 [.int .i64 a3374.at_, .int .i64 a3374.why] 69 :: Cl b3376 [.pointer (some ⟨b3373, 0, none⟩)] 74 :: l) hf) :
    Calls Tryd.prog 39 #[.iface 113 (.pointer (some ⟨b3367, 0, none⟩)), .iface 74 (.pointer (some ⟨b3373, 0, none⟩)), .agg #[.pointer (some ⟨1, 74, none⟩), .pointer (some ⟨b3376, 0, none⟩), .int .u64 150], .iface 118 (.agg #[.pointer (some ⟨1, 69, none⟩)])] w (Ret fun v w => v = .bool r.1 ∧ St B w (OSl 71 1 (.slice A3369 1 c3370) 1 [.iface 69 (.agg #[.int .i64 a3371.at_, .int .i64 a3371.why])] :: Cl b3367 [.slice A3369 1 c3370] 115 :: Cl b3373 [.int .i64 r.2.at_, .int .i64 r.2.why] 69 :: Cl b3376 [.pointer (some ⟨b3373, 0, none⟩)] 74 :: l) hf) := by
  have h := Holds.of h
  refine enter (args := [.iface 113 (.pointer (some ⟨b3367, 0, none⟩)), .iface 74 (.pointer (some ⟨b3373, 0, none⟩)), .agg #[.pointer (some ⟨1, 74, none⟩), .pointer (some ⟨b3376, 0, none⟩), .int .u64 150], .iface 118 (.agg #[.pointer (some ⟨1, 69, none⟩)])]) Tryd.func39 rfl Tryd.ntmps39 (Nat.le_of_ble_eq_true rfl) ?_
  refine RC.seq ?_
  refine RC.region ?_
  refine RL.e (OW.box (cs := [.pointer (some ⟨1, 74, none⟩), .pointer (some ⟨b3376, 0, none⟩), .int .u64 150]) hS rfl rfl) rfl rfl ?_
  rintro _ w ⟨b3416, rfl, hS⟩
  have hS : St B w (Cl b3416 [.pointer (some ⟨1, 74, none⟩), .pointer (some ⟨b3376, 0, none⟩), .int .u64 150] 97 :: OSl 71 1 (.slice A3369 1 c3370) 1 [.iface 69 (.agg #[.int .i64 a3371.at_, .int .i64 a3371.why])] :: Cl b3367 [.slice A3369 1 c3370] 115 :: Cl b3373 [.int .i64 a3374.at_, .int .i64 a3374.why] 69 :: Cl b3376 [.pointer (some ⟨b3373, 0, none⟩)] 74 :: l) hf := hS
  refine RL.s (Vl.assign rfl) rfl ?_
  refine RL.nil ?_
  refine RQ.then_n ?_
  refine RC.block ?_
  refine RC.unroll ?_
  refine RQ.round ?_
  refine RC.block ?_
  refine RC.seq ?_
  refine RC.seq ?_
  refine RC.region ?_
  refine RL.s (Vl.move rfl) rfl ?_
  refine RL.s (Vl.extern (ls := [.tmp 16]) (v := .iface 118 (.agg #[.pointer (some ⟨1, 113, none⟩)])) rfl Tryd.func66 (by kernel_rfl) (by kernel_rfl) (by kernel_rfl) (e := Extern.ReflectliteType.typeOf) (by kernel_rfl) (fun w => by kernel_rfl)) rfl ?_
  refine RL.s (Vl.move rfl) rfl ?_
  refine RL.s (Vl.invokeX (F := 110) (ls := [.tmp 18]) (v := .bool false) (u' := .agg #[.pointer (some ⟨1, 113, none⟩)]) rfl rfl (fun w => by kernel_rfl) Tryd.func110 (by kernel_rfl) (by kernel_rfl) (by kernel_rfl) (e := (Extern.ReflectliteType.relation "AssignableTo" Extern.ReflectliteType.assignableTo)) (by kernel_rfl) (fun w => by kernel_rfl)) rfl ?_
  refine RL.nil ?_
  refine RQ.then_n ?_
  refine RC.condF rfl ?_
  refine RC.skip ?_
  refine RQ.then_n ?_
  refine RC.seq ?_
  refine RC.seq ?_
  refine RC.region ?_
  refine RL.s (Vl.move rfl) rfl ?_
  refine RL.s (Vl.tassert (r := .tuple #[.nilIface, .bool false]) rfl (fun w => run_typeAssert_lacksB Tryd.underlying123 (by kernel_rfl) (by kernel_rfl) _ _ w)) rfl ?_
  refine RL.s (Vl.move rfl) rfl ?_
  refine RL.s (Vl.extract rfl rfl) rfl ?_
  refine RL.s (Vl.extract rfl rfl) rfl ?_
  refine RL.s (Vl.assign rfl) rfl ?_
  refine RL.s (Vl.assign rfl) rfl ?_
  refine RL.nil ?_
  refine RQ.then_n ?_
  refine RC.seq ?_
  refine RC.region ?_
  refine RL.s (Vl.move rfl) rfl ?_
  refine RL.s (Vl.move rfl) rfl ?_
  refine RL.nn rfl rfl ?_
  refine RL.nn rfl rfl ?_
  refine RL.nn rfl rfl ?_
  refine RL.s (Vl.pickF rfl rfl) rfl ?_
  refine RL.nil ?_
  refine RQ.then_n ?_
  refine RC.condF rfl ?_
  refine RC.skip ?_
  refine RQ.then_n ?_
  refine RC.seq ?_
  refine RC.region ?_
  refine RL.s (Vl.move rfl) rfl ?_
  refine RL.nil ?_
  refine RQ.then_n ?_
  refine RC.block ?_
  refine RC.seq ?_
  refine RC.region ?_
  refine RL.s (Vl.tassert (r := .tuple #[.nilIface, .bool false]) rfl (fun w => run_typeAssert_lacksB Tryd.underlying126 (by kernel_rfl) (by kernel_rfl) _ _ w)) rfl ?_
  refine RL.s (Vl.extract rfl rfl) rfl ?_
  refine RL.s (Vl.extract rfl rfl) rfl ?_
  refine RL.nil ?_
  refine RQ.then_n ?_
  refine RC.condF rfl ?_
  refine RC.seq ?_
  refine RC.region ?_
  refine RL.s (Vl.tassert (r := .tuple #[.iface 113 (.pointer (some ⟨b3367, 0, none⟩)), .bool true]) rfl (fun w => run_typeAssert_hasB Tryd.underlying127 (by kernel_rfl) _ _ w)) rfl ?_
  refine RL.s (Vl.extract rfl rfl) rfl ?_
  refine RL.s (Vl.extract rfl rfl) rfl ?_
  refine RL.nil ?_
  refine RQ.then_n ?_
  refine RC.condT rfl ?_
  refine RC.seq ?_
  refine RC.region ?_
  refine RL.s (Vl.assign rfl) rfl ?_
  refine RL.nil ?_
  refine RQ.then_n ?_
  refine RC.seq ?_
  refine RC.seq ?_
  refine RC.region ?_
  refine RL.s (Vl.move rfl) rfl ?_
  obtain ⟨t3417, hg3418, h⟩ := h.bind
  refine RL.e (OW.invoke (F := 108) (u' := .pointer (some ⟨b3367, 0, none⟩)) (ls := []) rfl rfl (fun w => by kernel_rfl) Tryd.call108 rfl (errors_joinError_Unwrap.ok a3371 b3367 A3369 c3370 _ hg3418 (((((hS.pull 4 rfl rfl).pull 4 rfl rfl).pull 2 rfl rfl).pull 4 rfl rfl).pull 4 rfl rfl))) rfl rfl ?_
  rintro _ w ⟨rfl, hS⟩
  have hS : St B w (OSl 71 1 (.slice A3369 1 c3370) 1 [.iface 69 (.agg #[.int .i64 a3371.at_, .int .i64 a3371.why])] :: Cl b3367 [.slice A3369 1 c3370] 115 :: Cl b3416 [.pointer (some ⟨1, 74, none⟩), .pointer (some ⟨b3376, 0, none⟩), .int .u64 150] 97 :: Cl b3373 [.int .i64 a3374.at_, .int .i64 a3374.why] 69 :: Cl b3376 [.pointer (some ⟨b3373, 0, none⟩)] 74 :: l) hf := hS
  refine RL.s (Vl.lenSl Tryd.underlying112 rfl) rfl ?_
  refine RL.s (Vl.move rfl) rfl ?_
  refine RL.nil ?_
  refine RQ.then_n ?_
  refine RC.block ?_
  refine RC.unroll ?_
  refine RQ.round ?_
  refine RC.seq ?_
  refine RC.region ?_
  refine RL.s (Vl.int rfl rfl rfl) rfl ?_
  refine RL.nil ?_
  refine RQ.then_n ?_
  refine RC.seq ?_
  refine RC.condT rfl ?_
  refine RC.skip ?_
  refine RQ.then_n ?_
  refine RC.seq ?_
  refine RC.block ?_
  refine RC.seq ?_
  refine RC.region ?_
  refine RL.s (Vl.indexAddr (a'' := (ad A3369).add 0) Tryd.underlying112 Tryd.sizeOf71 rfl rfl (hS.litAdr 0 rfl (by decide)) (by decide) (by decide) rfl) rfl ?_
  refine RL.s (Vl.load Tryd.isAgg71 rfl (hS.litCell 0 rfl rfl)) rfl ?_
  refine RL.s (Vl.assign rfl) rfl ?_
  refine RL.nil ?_
  refine RQ.then_n ?_
  refine RC.seq ?_
  refine RC.seq ?_
  refine RC.region ?_
  refine RL.s (Vl.move rfl) rfl ?_
  refine RL.s (Vl.bin (v := .bool false) rfl rfl (by kernel_rfl)) rfl ?_
  refine RL.nil ?_
  refine RQ.then_n ?_
  refine RC.condF rfl ?_
  refine RC.skip ?_
  refine RQ.then_n ?_
  refine RC.seq ?_
  refine RC.region ?_
  refine RL.s (Vl.move rfl) rfl ?_
  refine RL.s (Vl.move rfl) rfl ?_
  refine RL.s (Vl.loadA (vs := [.pointer (some ⟨1, 74, none⟩), .pointer (some ⟨b3376, 0, none⟩), .int .u64 150]) Tryd.isAgg97 Tryd.sizeOf97 rfl rfl (hS.cellsAt 2 rfl rfl)) rfl ?_
  refine RL.s (Vl.move rfl) rfl ?_
  obtain ⟨t3424, hg3425, h⟩ := h.bind
  obtain ⟨y3426, y3427⟩ := t3424
  refine RL.e (OW.callF (ls := [.tmp 56, .tmp 57, .tmp 58, .tmp 59]) rfl Tryd.call39 (errors_as_2.ok a3371 a3374 b3373 b3376 _ hg3425 (((((hS.pull 2 rfl rfl).pull 2 rfl rfl).pull 2 rfl rfl).pull 4 rfl rfl).pull 4 rfl rfl))) rfl rfl ?_
  rintro _ w ⟨rfl, hS⟩
  have hS : St B w (Cl b3373 [.int .i64 y3427.at_, .int .i64 y3427.why] 69 :: Cl b3376 [.pointer (some ⟨b3373, 0, none⟩)] 74 :: OSl 71 1 (.slice A3369 1 c3370) 1 [.iface 69 (.agg #[.int .i64 a3371.at_, .int .i64 a3371.why])] :: Cl b3367 [.slice A3369 1 c3370] 115 :: Cl b3416 [.pointer (some ⟨1, 74, none⟩), .pointer (some ⟨b3376, 0, none⟩), .int .u64 150] 97 :: l) hf := hS
  refine RL.nil ?_
  refine RQ.then_n ?_
  by_cases hc3428 : y3426 = true
  case pos =>
   have h := h.pos hc3428
   refine RC.re 60 rfl (congrArg Value.bool (id hc3428)) ?_
   refine RC.condT rfl ?_
   refine RC.seq ?_
   refine RC.region ?_
   refine RL.s (Vl.assign rfl) rfl ?_
   refine RL.nil ?_
   refine RQ.then_n ?_
   refine RC.ret ?_
   refine RQ.inB_ret ?_
   refine RQ.ret ?_
   refine RQ.ret ?_
   refine RQ.inB_ret ?_
   refine RQ.ret ?_
   refine RQ.inB_ret ?_
   refine RQ.inB_ret ?_
   refine RQ.ret ?_
   refine RQ.inB_ret ?_
   have e := h.some
   subst e
   refine RQ.ret0 (vs := [.bool true]) Tryd.results39 ⟨rfl, trivial⟩ ?_
   exact ⟨rfl, (((((hS.dropAt 4 rfl).pull 1 rfl rfl).pull 1 rfl rfl).pull 3 rfl rfl).pull 3 rfl rfl)⟩
  case neg =>
   have h := h.neg hc3428
   refine RC.re 60 rfl (congrArg Value.bool (eq_false_of hc3428)) ?_
   refine RC.condF rfl ?_
   refine RC.skip ?_
   refine RQ.inB_n ?_
   refine RQ.then_n ?_
   refine RC.region ?_
   refine RL.s (Vl.int rfl rfl rfl) rfl ?_
   refine RL.s (Vl.move rfl) rfl ?_
   refine RL.nil ?_
   refine RQ.then_n ?_
   refine RQ.round ?_
   refine RC.seq ?_
   refine RC.region ?_
   refine RL.s (Vl.int rfl rfl rfl) rfl ?_
   refine RL.nil ?_
   refine RQ.then_n ?_
   refine RC.seq ?_
   refine RC.condF rfl ?_
   refine RC.exit ?_
   refine RQ.exitT ?_
   refine RQ.exitT ?_
   refine RQ.inB_hit ?_
   refine RQ.then_n ?_
   refine RC.seq ?_
   refine RC.region ?_
   refine RL.s (Vl.assign rfl) rfl ?_
   refine RL.nil ?_
   refine RQ.then_n ?_
   refine RC.ret ?_
   refine RQ.inB_ret ?_
   refine RQ.inB_ret ?_
   refine RQ.ret ?_
   refine RQ.inB_ret ?_
   have e := h.some
   subst e
   refine RQ.ret0 (vs := [.bool false]) Tryd.results39 ⟨rfl, trivial⟩ ?_
   exact ⟨rfl, (((((hS.dropAt 4 rfl).pull 1 rfl rfl).pull 1 rfl rfl).pull 3 rfl rfl).pull 3 rfl rfl)⟩

/-! ### errors.As: function 21 -/
noncomputable def errors_As_2.f (a3358 : vm_fault) (a3361 : vm_fault) : Option (Bool × vm_fault) := ((errors_as.f a3358 a3361).bind fun (y3439, y3440) => some (y3439, y3440))
set_option maxRecDepth 100000 in
set_option maxHeartbeats 4000000 in
theorem errors_As_2.ok {B : Base} {w : World} {l : List HProp} {hf : Hp} (a3358 : vm_fault) (a3361 : vm_fault) (b3354 : Nat) (A3356 : Option Addr) (c3357 : Nat) (b3360 : Nat) (hG0 : GlobAt hf 0 (.iface 118 (.agg #[.pointer (some ⟨1, 71, none⟩)]))) (r : Bool × vm_fault) (h : errors_As_2.f a3358 a3361 = some r) (hS : St B w (OSl 71 1 (.slice A3356 1 c3357) 1 [.iface 69 (.agg #[.int .i64 a3358.at_, .int .i64 a3358.why])] :: Cl b3354 [.slice A3356 1 c3357] 115 :: Cl b3360 [.int .i64 a3361.at_, .int .i64 a3361.why] 69 :: l) hf) :
    Calls Tryd.prog 21 #[.iface 113 (.pointer (some ⟨b3354, 0, none⟩)), .iface 74 (.pointer (some ⟨b3360, 0, none⟩))] w (Ret fun v w => v = .bool r.1 ∧ St B w (OSl 71 1 (.slice A3356 1 c3357) 1 [.iface 69 (.agg #[.int .i64 a3358.at_, .int .i64 a3358.why])] :: Cl b3354 [.slice A3356 1 c3357] 115 :: Cl b3360 [.int .i64 r.2.at_, .int .i64 r.2.why] 69 :: l) hf) := by
  have h := Holds.of h
  refine enter (args := [.iface 113 (.pointer (some ⟨b3354, 0, none⟩)), .iface 74 (.pointer (some ⟨b3360, 0, none⟩))]) Tryd.func21 rfl Tryd.ntmps21 (Nat.le_of_ble_eq_true rfl) ?_
  refine RC.seq ?_
  refine RC.region ?_
  refine RL.s (Vl.assign rfl) rfl ?_
  refine RL.nil ?_
  refine RQ.then_n ?_
  refine RC.seq ?_
  refine RC.seq ?_
  refine RC.region ?_
  refine RL.s (Vl.move rfl) rfl ?_
  refine RL.s (Vl.bin (v := .bool false) rfl rfl (by kernel_rfl)) rfl ?_
  refine RL.nil ?_
  refine RQ.then_n ?_
  refine RC.condF rfl ?_
  refine RC.skip ?_
  refine RQ.then_n ?_
  refine RC.seq ?_
  refine RC.seq ?_
  refine RC.region ?_
  refine RL.s (Vl.move rfl) rfl ?_
  refine RL.s (Vl.bin (v := .bool false) rfl rfl (by kernel_rfl)) rfl ?_
  refine RL.nil ?_
  refine RQ.then_n ?_
  refine RC.condF rfl ?_
  refine RC.skip ?_
  refine RQ.then_n ?_
  refine RC.seq ?_
  refine RC.region ?_
  refine RL.s (Vl.move rfl) rfl ?_
  refine RL.e (OW.externNew (ls := [.tmp 13]) (cs := [.pointer (some ⟨b3360, 0, none⟩)]) (T := 74) (v := fun b => .agg #[.pointer (some ⟨1, 74, none⟩), .pointer (some ⟨b, 0, none⟩), .int .u64 150]) hS rfl Tryd.func36 (by kernel_rfl) (by kernel_rfl) (by kernel_rfl) (e := fun args => Extern.ReflectliteValue.unpack (args.getD 0 (.tuple #[]))) (by kernel_rfl) (fun w => by kernel_rfl)) rfl rfl ?_
  rintro _ w ⟨b3434, rfl, hS⟩
  have hS : St B w (Cl b3434 [.pointer (some ⟨b3360, 0, none⟩)] 74 :: OSl 71 1 (.slice A3356 1 c3357) 1 [.iface 69 (.agg #[.int .i64 a3358.at_, .int .i64 a3358.why])] :: Cl b3354 [.slice A3356 1 c3357] 115 :: Cl b3360 [.int .i64 a3361.at_, .int .i64 a3361.why] 69 :: l) hf := hS
  refine RL.e (OW.alloc (cs := [.pointer none, .pointer none, .int .u64 0]) hS Tryd.zeroValue97 rfl) rfl rfl ?_
  rintro _ w ⟨b3436, rfl, hS⟩
  have hS : St B w (Cl b3436 [.pointer none, .pointer none, .int .u64 0] 97 :: Cl b3434 [.pointer (some ⟨b3360, 0, none⟩)] 74 :: OSl 71 1 (.slice A3356 1 c3357) 1 [.iface 69 (.agg #[.int .i64 a3358.at_, .int .i64 a3358.why])] :: Cl b3354 [.slice A3356 1 c3357] 115 :: Cl b3360 [.int .i64 a3361.at_, .int .i64 a3361.why] 69 :: l) hf := hS
  refine RL.e0 (OW.store (cs := [.pointer none, .pointer none, .int .u64 0]) (vs := [.pointer (some ⟨1, 74, none⟩), .pointer (some ⟨b3434, 0, none⟩), .int .u64 150]) (l' := Cl b3436 [.pointer (some ⟨1, 74, none⟩), .pointer (some ⟨b3434, 0, none⟩), .int .u64 150] 97 :: Cl b3434 [.pointer (some ⟨b3360, 0, none⟩)] 74 :: OSl 71 1 (.slice A3356 1 c3357) 1 [.iface 69 (.agg #[.int .i64 a3358.at_, .int .i64 a3358.why])] :: Cl b3354 [.slice A3356 1 c3357] 115 :: Cl b3360 [.int .i64 a3361.at_, .int .i64 a3361.why] 69 :: l) 0 hS rfl rfl rfl rfl Tryd.sizeOf97 rfl rfl rfl rfl) rfl ?_
  rintro _ w ⟨rfl, hS⟩
  have hS : St B w (Cl b3436 [.pointer (some ⟨1, 74, none⟩), .pointer (some ⟨b3434, 0, none⟩), .int .u64 150] 97 :: Cl b3434 [.pointer (some ⟨b3360, 0, none⟩)] 74 :: OSl 71 1 (.slice A3356 1 c3357) 1 [.iface 69 (.agg #[.int .i64 a3358.at_, .int .i64 a3358.why])] :: Cl b3354 [.slice A3356 1 c3357] 115 :: Cl b3360 [.int .i64 a3361.at_, .int .i64 a3361.why] 69 :: l) hf := hS
  refine RL.nil ?_
  refine RQ.then_n ?_
  refine RC.seq ?_
  refine RC.region ?_
  refine RL.s (Vl.loadA (vs := [.pointer (some ⟨1, 74, none⟩), .pointer (some ⟨b3434, 0, none⟩), .int .u64 150]) Tryd.isAgg97 Tryd.sizeOf97 rfl rfl (hS.cellsAt 0 rfl rfl)) rfl ?_
  refine RL.s (Vl.extern (ls := [.tmp 15]) (v := .iface 118 (.agg #[.pointer (some ⟨1, 74, none⟩)])) rfl Tryd.func37 (by kernel_rfl) (by kernel_rfl) (by kernel_rfl) (e := Extern.ReflectliteValue.methodAny (Extern.ReflectliteValue.valueError "reflectlite.Value.Type" 0) fun t _ _ _ => Extern.ReflectliteType.toType t) (by kernel_rfl) (fun w => by kernel_rfl)) rfl ?_
  refine RL.s (Vl.assign rfl) rfl ?_
  refine RL.nil ?_
  refine RQ.then_n ?_
  refine RC.seq ?_
  refine RC.seq ?_
  refine RC.region ?_
  refine RL.s (Vl.move rfl) rfl ?_
  refine RL.s (Vl.invokeX (F := 99) (ls := []) (v := .int .u8 22) (u' := .pointer (some ⟨1, 74, none⟩)) rfl rfl (fun w => by kernel_rfl) Tryd.func99 (by kernel_rfl) (by kernel_rfl) (by kernel_rfl) (e := (Extern.ReflectliteType.abiMethod fun t => do pure (.int .u8 (← Extern.Rtype.kind t)))) (by kernel_rfl) (fun w => by kernel_rfl)) rfl ?_
  refine RL.s (Vl.int rfl rfl rfl) rfl ?_
  refine RL.s (Vl.move rfl) rfl ?_
  refine RL.sg (Vl.loadA (vs := [.pointer (some ⟨1, 74, none⟩), .pointer (some ⟨b3434, 0, none⟩), .int .u64 150]) Tryd.isAgg97 Tryd.sizeOf97 rfl rfl (hS.cellsAt 0 rfl rfl)) rfl rfl ?_
  refine RL.sg (Vl.externAt (ls := [.tmp 21]) (v := .bool false) rfl Tryd.func38 (by kernel_rfl) (by kernel_rfl) (by kernel_rfl) (e := Extern.ReflectliteValue.method (Extern.ReflectliteValue.valueError "reflectlite.Value.IsNil" 0) Extern.ReflectliteValue.isNil) (by kernel_rfl) (run_isNil (n := 150) (a := ⟨b3434, 0, none⟩) (fun w => by kernel_rfl) Tryd.underlying74 rfl (hS.cell 1 rfl rfl))) rfl rfl ?_
  refine RL.s (Vl.pickF rfl rfl) rfl ?_
  refine RL.nil ?_
  refine RQ.then_n ?_
  refine RC.condF rfl ?_
  refine RC.skip ?_
  refine RQ.then_n ?_
  refine RC.seq ?_
  refine RC.region ?_
  refine RL.s (Vl.move rfl) rfl ?_
  refine RL.s (Vl.invokeX (F := 112) (ls := []) (v := .iface 118 (.agg #[.pointer (some ⟨1, 69, none⟩)])) (u' := .agg #[.pointer (some ⟨1, 74, none⟩)]) rfl rfl (fun w => by kernel_rfl) Tryd.func112 (by kernel_rfl) (by kernel_rfl) (by kernel_rfl) (e := (Extern.ReflectliteType.method Extern.ReflectliteType.elem)) (by kernel_rfl) (fun w => by kernel_rfl)) rfl ?_
  refine RL.s (Vl.assign rfl) rfl ?_
  refine RL.nil ?_
  refine RQ.then_n ?_
  refine RC.seq ?_
  refine RC.seq ?_
  refine RC.region ?_
  refine RL.s (Vl.move rfl) rfl ?_
  refine RL.s (Vl.invokeX (F := 99) (ls := []) (v := .int .u8 25) (u' := .pointer (some ⟨1, 69, none⟩)) rfl rfl (fun w => by kernel_rfl) Tryd.func99 (by kernel_rfl) (by kernel_rfl) (by kernel_rfl) (e := (Extern.ReflectliteType.abiMethod fun t => do pure (.int .u8 (← Extern.Rtype.kind t)))) (by kernel_rfl) (fun w => by kernel_rfl)) rfl ?_
  refine RL.s (Vl.int rfl rfl rfl) rfl ?_
  refine RL.s (Vl.move rfl) rfl ?_
  refine RL.sg (Vl.move rfl) rfl rfl ?_
  refine RL.sg (Vl.load Tryd.isAgg100 rfl (cellH_world hS.sub hG0)) rfl rfl ?_
  refine RL.sg (Vl.invokeX (F := 113) (ls := [.tmp 32]) (v := .bool true) (u' := .agg #[.pointer (some ⟨1, 69, none⟩)]) rfl rfl (fun w => by kernel_rfl) Tryd.func113 (by kernel_rfl) (by kernel_rfl) (by kernel_rfl) (e := (Extern.ReflectliteType.relation "Implements" Extern.ReflectliteType.implements_)) (by kernel_rfl) (fun w => by kernel_rfl)) rfl rfl ?_
  refine RL.sg (Vl.not rfl) rfl rfl ?_
  refine RL.s (Vl.pickT rfl rfl) rfl ?_
  refine RL.nil ?_
  refine RQ.then_n ?_
  refine RC.condF rfl ?_
  refine RC.skip ?_
  refine RQ.then_n ?_
  refine RC.seq ?_
  refine RC.region ?_
  refine RL.s (Vl.move rfl) rfl ?_
  refine RL.s (Vl.move rfl) rfl ?_
  refine RL.s (Vl.loadA (vs := [.pointer (some ⟨1, 74, none⟩), .pointer (some ⟨b3434, 0, none⟩), .int .u64 150]) Tryd.isAgg97 Tryd.sizeOf97 rfl rfl (hS.cellsAt 0 rfl rfl)) rfl ?_
  refine RL.s (Vl.move rfl) rfl ?_
  obtain ⟨t3437, hg3438, h⟩ := h.bind
  obtain ⟨y3439, y3440⟩ := t3437
  refine RL.e (OW.callF (ls := [.tmp 37, .tmp 38, .tmp 39, .tmp 40]) rfl Tryd.call39 (errors_as.ok a3358 a3361 b3354 A3356 c3357 b3360 b3434 _ hg3438 (((((hS.pull 0 rfl rfl).pull 1 rfl rfl).pull 4 rfl rfl).pull 4 rfl rfl).pull 4 rfl rfl))) rfl rfl ?_
  rintro _ w ⟨rfl, hS⟩
  have hS : St B w (OSl 71 1 (.slice A3356 1 c3357) 1 [.iface 69 (.agg #[.int .i64 a3358.at_, .int .i64 a3358.why])] :: Cl b3354 [.slice A3356 1 c3357] 115 :: Cl b3360 [.int .i64 y3440.at_, .int .i64 y3440.why] 69 :: Cl b3434 [.pointer (some ⟨b3360, 0, none⟩)] 74 :: Cl b3436 [.pointer (some ⟨1, 74, none⟩), .pointer (some ⟨b3434, 0, none⟩), .int .u64 150] 97 :: l) hf := hS
  refine RL.s (Vl.assign rfl) rfl ?_
  refine RL.nil ?_
  refine RQ.then_n ?_
  refine RC.ret ?_
  have e := h.some
  subst e
  refine RQ.ret0 (vs := [.bool y3439]) Tryd.results21 ⟨rfl, trivial⟩ ?_
  exact ⟨rfl, ((hS.dropAt 3 rfl).dropAt 3 rfl)⟩

end Go.Proofs.Gx
