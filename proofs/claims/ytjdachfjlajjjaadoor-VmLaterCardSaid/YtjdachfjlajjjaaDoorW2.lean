/-
  The walks of functions, each with what it computes: printed by wip/gx.py.
-/
import Derived.Test.YtjdachfjlajjjaaDoorW0
import Derived.Test.YtjdachfjlajjjaaDoorW1
set_option linter.unusedVariables false
namespace Go.Proofs.Gx
open Go.Sl
/-! ### (*isochron/vm.cpu).mul: function 54 -/
noncomputable def vm_cpu_mul.f (a804 : List api_Instr) (a808 : Int) (a809 : List api_Link) (a813 : Int) (a814 : Int) (a815 : Int) (a816 : Int) (a817 : Int) (a818 : Int) (a819 : Int) (a820 : Bool) (a821 : Int) (a825 : List api_Out) (a826 : Int) (fn827 : (Nat → Int)) (a828 : api_Instr) : Option ((Nat → Int)) := (if 0 ≤ a828.B ∧ a828.B < 16 then (if 0 ≤ a828.C ∧ a828.C < 16 then (if 0 ≤ a828.A ∧ a828.A < 16 then some (upd fn827 (a828.A.toNat * 1) (IntKind.i64.wrap ((fn827 (a828.B.toNat * 1)) * (fn827 (a828.C.toNat * 1))))) else none) else none) else none)
set_option maxRecDepth 100000 in
set_option maxHeartbeats 4000000 in
theorem vm_cpu_mul.ok {B : Base} {w : World} {l : List HProp} {hf : Hp} (a804 : List api_Instr) (a808 : Int) (a809 : List api_Link) (a813 : Int) (a814 : Int) (a815 : Int) (a816 : Int) (a817 : Int) (a818 : Int) (a819 : Int) (a820 : Bool) (a821 : Int) (a825 : List api_Out) (a826 : Int) (fn827 : (Nat → Int)) (a828 : api_Instr) (b803 : Nat) (A805 : Option Addr) (c806 : Nat) (A810 : Option Addr) (c811 : Nat) (A823 : Option Addr) (c824 : Nat) (hr807 : SlR E_api_Instr.rep hf A805 c806 a804) (hr812 : SlR E_api_Link.rep hf A810 c811 a809) (r : (Nat → Int)) (h : vm_cpu_mul.f a804 a808 a809 a813 a814 a815 a816 a817 a818 a819 a820 a821 a825 a826 fn827 a828 = some r) (hS : St B w (Cl b803 [.slice A805 a804.length c806, .int .i64 a808, .slice A810 a809.length c811, .int .u64 a813, .int .i64 a814, .int .i64 a815, .int .i64 a816, .int .i64 a817, .int .i64 a818, .int .i64 a819, .bool a820, .int .i64 (fn827 0), .int .i64 (fn827 1), .int .i64 (fn827 2), .int .i64 (fn827 3), .int .i64 (fn827 4), .int .i64 (fn827 5), .int .i64 (fn827 6), .int .i64 (fn827 7), .int .i64 (fn827 8), .int .i64 (fn827 9), .int .i64 (fn827 10), .int .i64 (fn827 11), .int .i64 (fn827 12), .int .i64 (fn827 13), .int .i64 (fn827 14), .int .i64 (fn827 15), .int .i64 a821, .slice A823 a825.length c824, .int .i64 a826] 66 :: OSf E_api_Out 58 (.slice A823 a825.length c824) a825 :: l) hf) :
    Calls Tryd.prog 54 #[.pointer (some ⟨b803, 0, none⟩), .agg #[.int .i64 a828.Op, .int .i64 a828.A, .int .i64 a828.B, .int .i64 a828.C]] w (Ret fun v w => v = .tuple #[] ∧ St B w (Cl b803 [.slice A805 a804.length c806, .int .i64 a808, .slice A810 a809.length c811, .int .u64 a813, .int .i64 a814, .int .i64 a815, .int .i64 a816, .int .i64 a817, .int .i64 a818, .int .i64 a819, .bool a820, .int .i64 (r 0), .int .i64 (r 1), .int .i64 (r 2), .int .i64 (r 3), .int .i64 (r 4), .int .i64 (r 5), .int .i64 (r 6), .int .i64 (r 7), .int .i64 (r 8), .int .i64 (r 9), .int .i64 (r 10), .int .i64 (r 11), .int .i64 (r 12), .int .i64 (r 13), .int .i64 (r 14), .int .i64 (r 15), .int .i64 a821, .slice A823 a825.length c824, .int .i64 a826] 66 :: OSf E_api_Out 58 (.slice A823 a825.length c824) a825 :: l) hf) := by
  have h := Holds.of h
  refine enter (args := [.pointer (some ⟨b803, 0, none⟩), .agg #[.int .i64 a828.Op, .int .i64 a828.A, .int .i64 a828.B, .int .i64 a828.C]]) Tryd.func54 rfl Tryd.ntmps54 (Nat.le_of_ble_eq_true rfl) ?_
  refine RC.seq ?_
  refine RC.region ?_
  refine RL.e (OW.box (cs := [.int .i64 a828.Op, .int .i64 a828.A, .int .i64 a828.B, .int .i64 a828.C]) hS rfl rfl) rfl rfl ?_
  rintro _ w ⟨b838, rfl, hS⟩
  have hS : St B w (Cl b838 [.int .i64 a828.Op, .int .i64 a828.A, .int .i64 a828.B, .int .i64 a828.C] 48 :: Cl b803 [.slice A805 a804.length c806, .int .i64 a808, .slice A810 a809.length c811, .int .u64 a813, .int .i64 a814, .int .i64 a815, .int .i64 a816, .int .i64 a817, .int .i64 a818, .int .i64 a819, .bool a820, .int .i64 (fn827 0), .int .i64 (fn827 1), .int .i64 (fn827 2), .int .i64 (fn827 3), .int .i64 (fn827 4), .int .i64 (fn827 5), .int .i64 (fn827 6), .int .i64 (fn827 7), .int .i64 (fn827 8), .int .i64 (fn827 9), .int .i64 (fn827 10), .int .i64 (fn827 11), .int .i64 (fn827 12), .int .i64 (fn827 13), .int .i64 (fn827 14), .int .i64 (fn827 15), .int .i64 a821, .slice A823 a825.length c824, .int .i64 a826] 66 :: OSf E_api_Out 58 (.slice A823 a825.length c824) a825 :: l) hf := hS
  refine RL.nil ?_
  refine RQ.then_n ?_
  refine RC.plan (.pure 0 (.pure 1 (.cons 2 true (.pure 3 (.pure 4 (.cons 5 true (.pure 6 (.pure 7 (.pure 8 (.cons 9 true (.pure 10 (.pure 11 (.cons 12 true (.pure 13 (.pure 14 (.pure 15 (.cons 16 true (.pure 17 (.cons 18 false (.cons 19 false (.cons 20 false (.cons 21 false .nil)))))))))))))))))))))) [20, 21] (fun w => St B w (Cl b838 [.int .i64 a828.Op, .int .i64 a828.A, .int .i64 a828.B, .int .i64 a828.C] 48 :: Cl b803 [.slice A805 a804.length c806, .int .i64 a808, .slice A810 a809.length c811, .int .u64 a813, .int .i64 a814, .int .i64 a815, .int .i64 a816, .int .i64 a817, .int .i64 a818, .int .i64 a819, .bool a820, .int .i64 (fn827 0), .int .i64 (fn827 1), .int .i64 (fn827 2), .int .i64 (fn827 3), .int .i64 (fn827 4), .int .i64 (fn827 5), .int .i64 (fn827 6), .int .i64 (fn827 7), .int .i64 (fn827 8), .int .i64 (fn827 9), .int .i64 (fn827 10), .int .i64 (fn827 11), .int .i64 (fn827 12), .int .i64 (fn827 13), .int .i64 (fn827 14), .int .i64 (fn827 15), .int .i64 a821, .slice A823 a825.length c824, .int .i64 a826] 66 :: OSf E_api_Out 58 (.slice A823 a825.length c824) a825 :: l) hf) follows rfl (by kernel_rfl) NoTmp.body ?_
  have hS := hS.same (w' := { w with drawn := w.drawn + 1 }) rfl rfl
  revert hS
  generalize { w with drawn := w.drawn + 1 } = w
  intro hS
  refine RP.s0 0 rfl (fun w => Vl.move rfl) rfl ?_
  refine RP.s0 1 rfl (fun w => Vl.fieldAddr (a'' := ⟨b838, 1, none⟩) Tryd.underlying48 rfl Tryd.sizeOf3 rfl rfl) rfl ?_
  refine RP.s 2 rfl rfl hS (fun w hS => Vl.load Tryd.isAgg3 rfl (hS.cell 0 rfl rfl)) rfl ?_
  refine RP.s0 3 rfl (fun w => Vl.move rfl) rfl ?_
  refine RP.s0 4 rfl (fun w => Vl.fieldAddr (a'' := ⟨b838, 2, none⟩) Tryd.underlying48 rfl Tryd.sizeOf3 rfl rfl) rfl ?_
  refine RP.s 5 rfl rfl hS (fun w hS => Vl.load Tryd.isAgg3 rfl (hS.cell 0 rfl rfl)) rfl ?_
  refine RP.s0 6 rfl (fun w => Vl.nilCheck rfl) rfl ?_
  refine RP.s0 7 rfl (fun w => Vl.fieldAddr (a'' := ⟨b803, 11, none⟩) Tryd.underlying66 rfl Tryd.sizeOf64 rfl rfl) rfl ?_
  obtain ⟨⟨hq839, hq840⟩, h⟩ := h.req
  refine RP.s0 8 rfl (fun w => Vl.indexAddrA (a'' := ⟨b803, 11 + a828.B.toNat * 1, none⟩) Tryd.underlying64 Tryd.sizeOf2 rfl rfl hq839 hq840 (add_mk _ _ _)) rfl ?_
  refine RP.s 9 rfl rfl hS (fun w hS => Vl.load Tryd.isAgg2 rfl (hS.cell (off := 11 + a828.B.toNat * 1) (cs := [.slice A805 a804.length c806, .int .i64 a808, .slice A810 a809.length c811, .int .u64 a813, .int .i64 a814, .int .i64 a815, .int .i64 a816, .int .i64 a817, .int .i64 a818, .int .i64 a819, .bool a820] ++ (fc (Value.int .i64) 16 fn827 ++ [.int .i64 a821, .slice A823 a825.length c824, .int .i64 a826])) 1 rfl (seg_get rfl (by omega)))) rfl ?_
  refine RP.s0 10 rfl (fun w => Vl.move rfl) rfl ?_
  refine RP.s0 11 rfl (fun w => Vl.fieldAddr (a'' := ⟨b838, 3, none⟩) Tryd.underlying48 rfl Tryd.sizeOf3 rfl rfl) rfl ?_
  refine RP.s 12 rfl rfl hS (fun w hS => Vl.load Tryd.isAgg3 rfl (hS.cell 0 rfl rfl)) rfl ?_
  refine RP.s0 13 rfl (fun w => Vl.nilCheck rfl) rfl ?_
  refine RP.s0 14 rfl (fun w => Vl.fieldAddr (a'' := ⟨b803, 11, none⟩) Tryd.underlying66 rfl Tryd.sizeOf64 rfl rfl) rfl ?_
  obtain ⟨⟨hq841, hq842⟩, h⟩ := h.req
  refine RP.s0 15 rfl (fun w => Vl.indexAddrA (a'' := ⟨b803, 11 + a828.C.toNat * 1, none⟩) Tryd.underlying64 Tryd.sizeOf2 rfl rfl hq841 hq842 (add_mk _ _ _)) rfl ?_
  refine RP.s 16 rfl rfl hS (fun w hS => Vl.load Tryd.isAgg2 rfl (hS.cell (off := 11 + a828.C.toNat * 1) (cs := [.slice A805 a804.length c806, .int .i64 a808, .slice A810 a809.length c811, .int .u64 a813, .int .i64 a814, .int .i64 a815, .int .i64 a816, .int .i64 a817, .int .i64 a818, .int .i64 a819, .bool a820] ++ (fc (Value.int .i64) 16 fn827 ++ [.int .i64 a821, .slice A823 a825.length c824, .int .i64 a826])) 1 rfl (seg_get rfl (by omega)))) rfl ?_
  refine RP.s0 17 rfl (fun w => Vl.int rfl rfl rfl) rfl ?_
  refine RP.v1 18 rfl (Vl.nilCheck rfl) rfl rfl ?_
  refine RP.v1 19 rfl (Vl.fieldAddr (a'' := ⟨b803, 11, none⟩) Tryd.underlying66 rfl Tryd.sizeOf64 rfl rfl) rfl rfl ?_
  obtain ⟨⟨hq843, hq844⟩, h⟩ := h.req
  refine RP.v1 20 rfl (Vl.indexAddrA (a'' := ⟨b803, 11 + a828.A.toNat * 1, none⟩) Tryd.underlying64 Tryd.sizeOf2 rfl rfl hq843 hq844 (add_mk _ _ _)) rfl rfl ?_
  refine RP.e0 21 rfl (OW.storeSeg (mk := (Value.int .i64)) (f := fn827) (n := 16) (m := 11) (pre := [.slice A805 a804.length c806, .int .i64 a808, .slice A810 a809.length c811, .int .u64 a813, .int .i64 a814, .int .i64 a815, .int .i64 a816, .int .i64 a817, .int .i64 a818, .int .i64 a819, .bool a820]) (post := [.int .i64 a821, .slice A823 a825.length c824, .int .i64 a826]) (l' := Cl b838 [.int .i64 a828.Op, .int .i64 a828.A, .int .i64 a828.B, .int .i64 a828.C] 48 :: Cl b803 [.slice A805 a804.length c806, .int .i64 a808, .slice A810 a809.length c811, .int .u64 a813, .int .i64 a814, .int .i64 a815, .int .i64 a816, .int .i64 a817, .int .i64 a818, .int .i64 a819, .bool a820, .int .i64 ((upd fn827 (a828.A.toNat * 1) (IntKind.i64.wrap ((fn827 (a828.B.toNat * 1)) * (fn827 (a828.C.toNat * 1))))) 0), .int .i64 ((upd fn827 (a828.A.toNat * 1) (IntKind.i64.wrap ((fn827 (a828.B.toNat * 1)) * (fn827 (a828.C.toNat * 1))))) 1), .int .i64 ((upd fn827 (a828.A.toNat * 1) (IntKind.i64.wrap ((fn827 (a828.B.toNat * 1)) * (fn827 (a828.C.toNat * 1))))) 2), .int .i64 ((upd fn827 (a828.A.toNat * 1) (IntKind.i64.wrap ((fn827 (a828.B.toNat * 1)) * (fn827 (a828.C.toNat * 1))))) 3), .int .i64 ((upd fn827 (a828.A.toNat * 1) (IntKind.i64.wrap ((fn827 (a828.B.toNat * 1)) * (fn827 (a828.C.toNat * 1))))) 4), .int .i64 ((upd fn827 (a828.A.toNat * 1) (IntKind.i64.wrap ((fn827 (a828.B.toNat * 1)) * (fn827 (a828.C.toNat * 1))))) 5), .int .i64 ((upd fn827 (a828.A.toNat * 1) (IntKind.i64.wrap ((fn827 (a828.B.toNat * 1)) * (fn827 (a828.C.toNat * 1))))) 6), .int .i64 ((upd fn827 (a828.A.toNat * 1) (IntKind.i64.wrap ((fn827 (a828.B.toNat * 1)) * (fn827 (a828.C.toNat * 1))))) 7), .int .i64 ((upd fn827 (a828.A.toNat * 1) (IntKind.i64.wrap ((fn827 (a828.B.toNat * 1)) * (fn827 (a828.C.toNat * 1))))) 8), .int .i64 ((upd fn827 (a828.A.toNat * 1) (IntKind.i64.wrap ((fn827 (a828.B.toNat * 1)) * (fn827 (a828.C.toNat * 1))))) 9), .int .i64 ((upd fn827 (a828.A.toNat * 1) (IntKind.i64.wrap ((fn827 (a828.B.toNat * 1)) * (fn827 (a828.C.toNat * 1))))) 10), .int .i64 ((upd fn827 (a828.A.toNat * 1) (IntKind.i64.wrap ((fn827 (a828.B.toNat * 1)) * (fn827 (a828.C.toNat * 1))))) 11), .int .i64 ((upd fn827 (a828.A.toNat * 1) (IntKind.i64.wrap ((fn827 (a828.B.toNat * 1)) * (fn827 (a828.C.toNat * 1))))) 12), .int .i64 ((upd fn827 (a828.A.toNat * 1) (IntKind.i64.wrap ((fn827 (a828.B.toNat * 1)) * (fn827 (a828.C.toNat * 1))))) 13), .int .i64 ((upd fn827 (a828.A.toNat * 1) (IntKind.i64.wrap ((fn827 (a828.B.toNat * 1)) * (fn827 (a828.C.toNat * 1))))) 14), .int .i64 ((upd fn827 (a828.A.toNat * 1) (IntKind.i64.wrap ((fn827 (a828.B.toNat * 1)) * (fn827 (a828.C.toNat * 1))))) 15), .int .i64 a821, .slice A823 a825.length c824, .int .i64 a826] 66 :: OSf E_api_Out 58 (.slice A823 a825.length c824) a825 :: l) 1 hS rfl rfl rfl rfl Tryd.sizeOf2 (by omega) (fun _ => rfl) (fun _ => rfl) rfl) rfl ?_
  rintro _ w ⟨rfl, hS⟩
  have hS : St B w (Cl b838 [.int .i64 a828.Op, .int .i64 a828.A, .int .i64 a828.B, .int .i64 a828.C] 48 :: Cl b803 [.slice A805 a804.length c806, .int .i64 a808, .slice A810 a809.length c811, .int .u64 a813, .int .i64 a814, .int .i64 a815, .int .i64 a816, .int .i64 a817, .int .i64 a818, .int .i64 a819, .bool a820, .int .i64 ((upd fn827 (a828.A.toNat * 1) (IntKind.i64.wrap ((fn827 (a828.B.toNat * 1)) * (fn827 (a828.C.toNat * 1))))) 0), .int .i64 ((upd fn827 (a828.A.toNat * 1) (IntKind.i64.wrap ((fn827 (a828.B.toNat * 1)) * (fn827 (a828.C.toNat * 1))))) 1), .int .i64 ((upd fn827 (a828.A.toNat * 1) (IntKind.i64.wrap ((fn827 (a828.B.toNat * 1)) * (fn827 (a828.C.toNat * 1))))) 2), .int .i64 ((upd fn827 (a828.A.toNat * 1) (IntKind.i64.wrap ((fn827 (a828.B.toNat * 1)) * (fn827 (a828.C.toNat * 1))))) 3), .int .i64 ((upd fn827 (a828.A.toNat * 1) (IntKind.i64.wrap ((fn827 (a828.B.toNat * 1)) * (fn827 (a828.C.toNat * 1))))) 4), .int .i64 ((upd fn827 (a828.A.toNat * 1) (IntKind.i64.wrap ((fn827 (a828.B.toNat * 1)) * (fn827 (a828.C.toNat * 1))))) 5), .int .i64 ((upd fn827 (a828.A.toNat * 1) (IntKind.i64.wrap ((fn827 (a828.B.toNat * 1)) * (fn827 (a828.C.toNat * 1))))) 6), .int .i64 ((upd fn827 (a828.A.toNat * 1) (IntKind.i64.wrap ((fn827 (a828.B.toNat * 1)) * (fn827 (a828.C.toNat * 1))))) 7), .int .i64 ((upd fn827 (a828.A.toNat * 1) (IntKind.i64.wrap ((fn827 (a828.B.toNat * 1)) * (fn827 (a828.C.toNat * 1))))) 8), .int .i64 ((upd fn827 (a828.A.toNat * 1) (IntKind.i64.wrap ((fn827 (a828.B.toNat * 1)) * (fn827 (a828.C.toNat * 1))))) 9), .int .i64 ((upd fn827 (a828.A.toNat * 1) (IntKind.i64.wrap ((fn827 (a828.B.toNat * 1)) * (fn827 (a828.C.toNat * 1))))) 10), .int .i64 ((upd fn827 (a828.A.toNat * 1) (IntKind.i64.wrap ((fn827 (a828.B.toNat * 1)) * (fn827 (a828.C.toNat * 1))))) 11), .int .i64 ((upd fn827 (a828.A.toNat * 1) (IntKind.i64.wrap ((fn827 (a828.B.toNat * 1)) * (fn827 (a828.C.toNat * 1))))) 12), .int .i64 ((upd fn827 (a828.A.toNat * 1) (IntKind.i64.wrap ((fn827 (a828.B.toNat * 1)) * (fn827 (a828.C.toNat * 1))))) 13), .int .i64 ((upd fn827 (a828.A.toNat * 1) (IntKind.i64.wrap ((fn827 (a828.B.toNat * 1)) * (fn827 (a828.C.toNat * 1))))) 14), .int .i64 ((upd fn827 (a828.A.toNat * 1) (IntKind.i64.wrap ((fn827 (a828.B.toNat * 1)) * (fn827 (a828.C.toNat * 1))))) 15), .int .i64 a821, .slice A823 a825.length c824, .int .i64 a826] 66 :: OSf E_api_Out 58 (.slice A823 a825.length c824) a825 :: l) hf := hS
  refine ⟨(by intro hx; cases hx), ?_⟩
  refine RP.nil ?_
  have e := h.some
  subst e
  refine RQ.end0 (vs := []) Tryd.results54 trivial ?_
  exact ⟨rfl, (hS.dropAt 0 rfl)⟩

/-! ### isochron/vm.quotient: function 74 -/
noncomputable def vm_quotient.j2 (a881 : Int) (a882 : Int) : Option (Int × Int) := (if ¬ a882 = 0 then some (IntKind.i64.wrap (Int.tdiv a881 a882), Int.tmod a881 a882) else none)
noncomputable def vm_quotient.f (a881 : Int) (a882 : Int) : Option (Int × Int) := (if a882 = 0 then some (0, 0) else (if a882 = (-1) then (if a881 = (-9223372036854775808) then some (a881, 0) else vm_quotient.j2 a881 a882) else vm_quotient.j2 a881 a882))
set_option maxRecDepth 100000 in
set_option maxHeartbeats 4000000 in
theorem vm_quotient.ok {B : Base} {w : World} {l : List HProp} {hf : Hp} (a881 : Int) (a882 : Int) (r : Int × Int) (h : vm_quotient.f a881 a882 = some r) (hS : St B w (l) hf) :
    Calls Tryd.prog 74 #[.int .i64 a881, .int .i64 a882] w (Ret fun v w => v = .tuple #[.int .i64 r.1, .int .i64 r.2] ∧ St B w (l) hf) := by
  have h := Holds.of h
  refine enter (args := [.int .i64 a881, .int .i64 a882]) Tryd.func74 rfl Tryd.ntmps74 (Nat.le_of_ble_eq_true rfl) ?_
  refine RC.seq ?_
  refine RC.region ?_
  refine RL.s (Vl.assign rfl) rfl ?_
  refine RL.s (Vl.assign rfl) rfl ?_
  refine RL.nil ?_
  refine RQ.then_n ?_
  refine RC.join (fun (s : Unit) a w => s = () ∧ Has 23 [(0, .int .i64 a881), (1, .int .i64 a882)] a ∧ St B w (l) hf ∧ Holds (· = r) (vm_quotient.j2 a881 a882)) ?_ ?_
  · rintro _ a w ⟨rfl, ha, hS, h⟩
    revert a
    show RC _ _ _ _ _ _
    refine RC.seq ?_
    refine RC.plan (.pure 0 (.pure 1 (.pure 2 (.pure 3 (.pure 4 (.pure 5 (.cons 6 false (.cons 7 false .nil)))))))) [6, 7] (fun w => St B w (l) hf) follows rfl (by kernel_rfl) (NoTmp.then NoTmp.body) ?_
    have hS := hS.same (w' := { w with drawn := w.drawn + 1 }) rfl rfl
    revert hS
    generalize { w with drawn := w.drawn + 1 } = w
    intro hS
    refine RP.s0 0 rfl (fun w => Vl.move rfl) rfl ?_
    refine RP.s0 1 rfl (fun w => Vl.move rfl) rfl ?_
    obtain ⟨hq893, h⟩ := h.req
    refine RP.s0 2 rfl (fun w => Vl.quo rfl rfl hq893) rfl ?_
    refine RP.s0 3 rfl (fun w => Vl.move rfl) rfl ?_
    refine RP.s0 4 rfl (fun w => Vl.move rfl) rfl ?_
    refine RP.s0 5 rfl (fun w => Vl.rem rfl rfl hq893) rfl ?_
    refine RP.v1 6 rfl (Vl.assign rfl) rfl rfl ?_
    refine RP.v1 7 rfl (Vl.assign rfl) rfl rfl ?_
    refine RP.nil ?_
    refine RQ.then_n ?_
    refine RC.ret ?_
    have e := h.some
    subst e
    refine RQ.ret0 (vs := [.int .i64 (IntKind.i64.wrap (Int.tdiv a881 a882)), .int .i64 (Int.tmod a881 a882)]) Tryd.results74 ⟨rfl, rfl, trivial⟩ ?_
    exact ⟨rfl, hS⟩
  · refine RC.block ?_
    refine RC.seq ?_
    refine RC.region ?_
    refine RL.s (Vl.move rfl) rfl ?_
    refine RL.s (Vl.int rfl rfl rfl) rfl ?_
    refine RL.s (Vl.assign rfl) rfl ?_
    refine RL.nil ?_
    refine RQ.then_n ?_
    by_cases hc894 : a882 = 0
    case pos =>
     have h := h.pos hc894
     refine RC.re 6 rfl (congrArg Value.bool (decide_eq_true hc894)) ?_
     refine RC.condT rfl ?_
     refine RC.seq ?_
     refine RC.region ?_
     refine RL.s (Vl.assign rfl) rfl ?_
     refine RL.s (Vl.assign rfl) rfl ?_
     refine RL.nil ?_
     refine RQ.then_n ?_
     refine RC.ret ?_
     refine RQ.inB_ret ?_
     refine RQ.ret ?_
     have e := h.some
     subst e
     refine RQ.ret0 (vs := [.int .i64 0, .int .i64 0]) Tryd.results74 ⟨rfl, rfl, trivial⟩ ?_
     exact ⟨rfl, hS⟩
    case neg =>
     have h := h.neg hc894
     refine RC.re 6 rfl (congrArg Value.bool (decide_eq_false hc894)) ?_
     refine RC.condF rfl ?_
     refine RC.seq ?_
     refine RC.region ?_
     refine RL.s (Vl.move rfl) rfl ?_
     refine RL.s (Vl.int rfl rfl rfl) rfl ?_
     refine RL.s (Vl.move rfl) rfl ?_
     by_cases hc895 : a882 = (-1)
     case pos =>
      have h := h.pos hc895
      refine RL.re 12 rfl (congrArg Value.bool (decide_eq_true hc895)) ?_
      refine RL.sg (Vl.move rfl) rfl rfl ?_
      refine RL.sg (Vl.int rfl rfl rfl) rfl rfl ?_
      refine RL.s (Vl.pickT rfl rfl) rfl ?_
      refine RL.s (Vl.assign rfl) rfl ?_
      refine RL.nil ?_
      refine RQ.then_n ?_
      by_cases hc896 : a881 = (-9223372036854775808)
      case pos =>
       have h := h.pos hc896
       refine RC.re 9 rfl (congrArg Value.bool (decide_eq_true hc896)) ?_
       refine RC.condT rfl ?_
       refine RC.seq ?_
       refine RC.region ?_
       refine RL.s (Vl.move rfl) rfl ?_
       refine RL.s (Vl.assign rfl) rfl ?_
       refine RL.s (Vl.assign rfl) rfl ?_
       refine RL.nil ?_
       refine RQ.then_n ?_
       refine RC.ret ?_
       refine RQ.inB_ret ?_
       refine RQ.ret ?_
       have e := h.some
       subst e
       refine RQ.ret0 (vs := [.int .i64 a881, .int .i64 0]) Tryd.results74 ⟨rfl, rfl, trivial⟩ ?_
       exact ⟨rfl, hS⟩
      case neg =>
       have h := h.neg hc896
       refine RC.re 9 rfl (congrArg Value.bool (decide_eq_false hc896)) ?_
       refine RC.condF rfl ?_
       refine RC.skip ?_
       refine RQ.inB_n ?_
       exact fun a ha => ⟨(), rfl, ha.to ⟨rfl, rfl, trivial⟩, hS, h⟩
     case neg =>
      have h := h.neg hc895
      refine RL.re 12 rfl (congrArg Value.bool (decide_eq_false hc895)) ?_
      refine RL.nn rfl rfl ?_
      refine RL.nn rfl rfl ?_
      refine RL.s (Vl.pickF rfl rfl) rfl ?_
      refine RL.s (Vl.assign rfl) rfl ?_
      refine RL.nil ?_
      refine RQ.then_n ?_
      refine RC.condF rfl ?_
      refine RC.skip ?_
      refine RQ.inB_n ?_
      exact fun a ha => ⟨(), rfl, ha.to ⟨rfl, rfl, trivial⟩, hS, h⟩

/-! ### (*isochron/vm.cpu).div: function 55 -/
noncomputable def vm_cpu_div.f (a850 : List api_Instr) (a854 : Int) (a855 : List api_Link) (a859 : Int) (a860 : Int) (a861 : Int) (a862 : Int) (a863 : Int) (a864 : Int) (a865 : Int) (a866 : Bool) (a867 : Int) (a871 : List api_Out) (a872 : Int) (fn873 : (Nat → Int)) (a874 : api_Instr) : Option ((Nat → Int)) := (if 0 ≤ a874.B ∧ a874.B < 16 then (if 0 ≤ a874.C ∧ a874.C < 16 then ((vm_quotient.f (fn873 (a874.B.toNat * 1)) (fn873 (a874.C.toNat * 1))).bind fun (y911, y912) => (if 0 ≤ a874.A ∧ a874.A < 16 then some (upd fn873 (a874.A.toNat * 1) y911) else none)) else none) else none)
set_option maxRecDepth 100000 in
set_option maxHeartbeats 4000000 in
theorem vm_cpu_div.ok {B : Base} {w : World} {l : List HProp} {hf : Hp} (a850 : List api_Instr) (a854 : Int) (a855 : List api_Link) (a859 : Int) (a860 : Int) (a861 : Int) (a862 : Int) (a863 : Int) (a864 : Int) (a865 : Int) (a866 : Bool) (a867 : Int) (a871 : List api_Out) (a872 : Int) (fn873 : (Nat → Int)) (a874 : api_Instr) (b849 : Nat) (A851 : Option Addr) (c852 : Nat) (A856 : Option Addr) (c857 : Nat) (A869 : Option Addr) (c870 : Nat) (hr853 : SlR E_api_Instr.rep hf A851 c852 a850) (hr858 : SlR E_api_Link.rep hf A856 c857 a855) (r : (Nat → Int)) (h : vm_cpu_div.f a850 a854 a855 a859 a860 a861 a862 a863 a864 a865 a866 a867 a871 a872 fn873 a874 = some r) (hS : St B w (Cl b849 [.slice A851 a850.length c852, .int .i64 a854, .slice A856 a855.length c857, .int .u64 a859, .int .i64 a860, .int .i64 a861, .int .i64 a862, .int .i64 a863, .int .i64 a864, .int .i64 a865, .bool a866, .int .i64 (fn873 0), .int .i64 (fn873 1), .int .i64 (fn873 2), .int .i64 (fn873 3), .int .i64 (fn873 4), .int .i64 (fn873 5), .int .i64 (fn873 6), .int .i64 (fn873 7), .int .i64 (fn873 8), .int .i64 (fn873 9), .int .i64 (fn873 10), .int .i64 (fn873 11), .int .i64 (fn873 12), .int .i64 (fn873 13), .int .i64 (fn873 14), .int .i64 (fn873 15), .int .i64 a867, .slice A869 a871.length c870, .int .i64 a872] 66 :: OSf E_api_Out 58 (.slice A869 a871.length c870) a871 :: l) hf) :
    Calls Tryd.prog 55 #[.pointer (some ⟨b849, 0, none⟩), .agg #[.int .i64 a874.Op, .int .i64 a874.A, .int .i64 a874.B, .int .i64 a874.C]] w (Ret fun v w => v = .tuple #[] ∧ St B w (Cl b849 [.slice A851 a850.length c852, .int .i64 a854, .slice A856 a855.length c857, .int .u64 a859, .int .i64 a860, .int .i64 a861, .int .i64 a862, .int .i64 a863, .int .i64 a864, .int .i64 a865, .bool a866, .int .i64 (r 0), .int .i64 (r 1), .int .i64 (r 2), .int .i64 (r 3), .int .i64 (r 4), .int .i64 (r 5), .int .i64 (r 6), .int .i64 (r 7), .int .i64 (r 8), .int .i64 (r 9), .int .i64 (r 10), .int .i64 (r 11), .int .i64 (r 12), .int .i64 (r 13), .int .i64 (r 14), .int .i64 (r 15), .int .i64 a867, .slice A869 a871.length c870, .int .i64 a872] 66 :: OSf E_api_Out 58 (.slice A869 a871.length c870) a871 :: l) hf) := by
  have h := Holds.of h
  refine enter (args := [.pointer (some ⟨b849, 0, none⟩), .agg #[.int .i64 a874.Op, .int .i64 a874.A, .int .i64 a874.B, .int .i64 a874.C]]) Tryd.func55 rfl Tryd.ntmps55 (Nat.le_of_ble_eq_true rfl) ?_
  refine RC.seq ?_
  refine RC.region ?_
  refine RL.e (OW.box (cs := [.int .i64 a874.Op, .int .i64 a874.A, .int .i64 a874.B, .int .i64 a874.C]) hS rfl rfl) rfl rfl ?_
  rintro _ w ⟨b904, rfl, hS⟩
  have hS : St B w (Cl b904 [.int .i64 a874.Op, .int .i64 a874.A, .int .i64 a874.B, .int .i64 a874.C] 48 :: Cl b849 [.slice A851 a850.length c852, .int .i64 a854, .slice A856 a855.length c857, .int .u64 a859, .int .i64 a860, .int .i64 a861, .int .i64 a862, .int .i64 a863, .int .i64 a864, .int .i64 a865, .bool a866, .int .i64 (fn873 0), .int .i64 (fn873 1), .int .i64 (fn873 2), .int .i64 (fn873 3), .int .i64 (fn873 4), .int .i64 (fn873 5), .int .i64 (fn873 6), .int .i64 (fn873 7), .int .i64 (fn873 8), .int .i64 (fn873 9), .int .i64 (fn873 10), .int .i64 (fn873 11), .int .i64 (fn873 12), .int .i64 (fn873 13), .int .i64 (fn873 14), .int .i64 (fn873 15), .int .i64 a867, .slice A869 a871.length c870, .int .i64 a872] 66 :: OSf E_api_Out 58 (.slice A869 a871.length c870) a871 :: l) hf := hS
  refine RL.nil ?_
  refine RQ.then_n ?_
  refine RC.plan (.pure 0 (.pure 1 (.cons 2 true (.pure 3 (.pure 4 (.cons 5 true (.pure 6 (.pure 7 (.pure 8 (.cons 9 true (.pure 10 (.pure 11 (.cons 12 true (.pure 13 (.pure 14 (.pure 15 (.cons 16 true (.pure 21 (.pure 22 (.cons 17 false (.pure 18 (.pure 19 (.pure 20 (.cons 23 false (.cons 24 false .nil))))))))))))))))))))))))) [23, 24] (fun w => St B w (Cl b904 [.int .i64 a874.Op, .int .i64 a874.A, .int .i64 a874.B, .int .i64 a874.C] 48 :: Cl b849 [.slice A851 a850.length c852, .int .i64 a854, .slice A856 a855.length c857, .int .u64 a859, .int .i64 a860, .int .i64 a861, .int .i64 a862, .int .i64 a863, .int .i64 a864, .int .i64 a865, .bool a866, .int .i64 (fn873 0), .int .i64 (fn873 1), .int .i64 (fn873 2), .int .i64 (fn873 3), .int .i64 (fn873 4), .int .i64 (fn873 5), .int .i64 (fn873 6), .int .i64 (fn873 7), .int .i64 (fn873 8), .int .i64 (fn873 9), .int .i64 (fn873 10), .int .i64 (fn873 11), .int .i64 (fn873 12), .int .i64 (fn873 13), .int .i64 (fn873 14), .int .i64 (fn873 15), .int .i64 a867, .slice A869 a871.length c870, .int .i64 a872] 66 :: OSf E_api_Out 58 (.slice A869 a871.length c870) a871 :: l) hf) follows rfl (by kernel_rfl) NoTmp.body ?_
  have hS := hS.same (w' := { w with drawn := w.drawn + 1 }) rfl rfl
  revert hS
  generalize { w with drawn := w.drawn + 1 } = w
  intro hS
  refine RP.s0 0 rfl (fun w => Vl.move rfl) rfl ?_
  refine RP.s0 1 rfl (fun w => Vl.fieldAddr (a'' := ⟨b904, 1, none⟩) Tryd.underlying48 rfl Tryd.sizeOf3 rfl rfl) rfl ?_
  refine RP.s 2 rfl rfl hS (fun w hS => Vl.load Tryd.isAgg3 rfl (hS.cell 0 rfl rfl)) rfl ?_
  refine RP.s0 3 rfl (fun w => Vl.move rfl) rfl ?_
  refine RP.s0 4 rfl (fun w => Vl.fieldAddr (a'' := ⟨b904, 2, none⟩) Tryd.underlying48 rfl Tryd.sizeOf3 rfl rfl) rfl ?_
  refine RP.s 5 rfl rfl hS (fun w hS => Vl.load Tryd.isAgg3 rfl (hS.cell 0 rfl rfl)) rfl ?_
  refine RP.s0 6 rfl (fun w => Vl.nilCheck rfl) rfl ?_
  refine RP.s0 7 rfl (fun w => Vl.fieldAddr (a'' := ⟨b849, 11, none⟩) Tryd.underlying66 rfl Tryd.sizeOf64 rfl rfl) rfl ?_
  obtain ⟨⟨hq905, hq906⟩, h⟩ := h.req
  refine RP.s0 8 rfl (fun w => Vl.indexAddrA (a'' := ⟨b849, 11 + a874.B.toNat * 1, none⟩) Tryd.underlying64 Tryd.sizeOf2 rfl rfl hq905 hq906 (add_mk _ _ _)) rfl ?_
  refine RP.s 9 rfl rfl hS (fun w hS => Vl.load Tryd.isAgg2 rfl (hS.cell (off := 11 + a874.B.toNat * 1) (cs := [.slice A851 a850.length c852, .int .i64 a854, .slice A856 a855.length c857, .int .u64 a859, .int .i64 a860, .int .i64 a861, .int .i64 a862, .int .i64 a863, .int .i64 a864, .int .i64 a865, .bool a866] ++ (fc (Value.int .i64) 16 fn873 ++ [.int .i64 a867, .slice A869 a871.length c870, .int .i64 a872])) 1 rfl (seg_get rfl (by omega)))) rfl ?_
  refine RP.s0 10 rfl (fun w => Vl.move rfl) rfl ?_
  refine RP.s0 11 rfl (fun w => Vl.fieldAddr (a'' := ⟨b904, 3, none⟩) Tryd.underlying48 rfl Tryd.sizeOf3 rfl rfl) rfl ?_
  refine RP.s 12 rfl rfl hS (fun w hS => Vl.load Tryd.isAgg3 rfl (hS.cell 0 rfl rfl)) rfl ?_
  refine RP.s0 13 rfl (fun w => Vl.nilCheck rfl) rfl ?_
  refine RP.s0 14 rfl (fun w => Vl.fieldAddr (a'' := ⟨b849, 11, none⟩) Tryd.underlying66 rfl Tryd.sizeOf64 rfl rfl) rfl ?_
  obtain ⟨⟨hq907, hq908⟩, h⟩ := h.req
  refine RP.s0 15 rfl (fun w => Vl.indexAddrA (a'' := ⟨b849, 11 + a874.C.toNat * 1, none⟩) Tryd.underlying64 Tryd.sizeOf2 rfl rfl hq907 hq908 (add_mk _ _ _)) rfl ?_
  refine RP.s 16 rfl rfl hS (fun w hS => Vl.load Tryd.isAgg2 rfl (hS.cell (off := 11 + a874.C.toNat * 1) (cs := [.slice A851 a850.length c852, .int .i64 a854, .slice A856 a855.length c857, .int .u64 a859, .int .i64 a860, .int .i64 a861, .int .i64 a862, .int .i64 a863, .int .i64 a864, .int .i64 a865, .bool a866] ++ (fc (Value.int .i64) 16 fn873 ++ [.int .i64 a867, .slice A869 a871.length c870, .int .i64 a872])) 1 rfl (seg_get rfl (by omega)))) rfl ?_
  refine RP.s0 21 rfl (fun w => Vl.nilCheck rfl) rfl ?_
  refine RP.s0 22 rfl (fun w => Vl.fieldAddr (a'' := ⟨b849, 11, none⟩) Tryd.underlying66 rfl Tryd.sizeOf64 rfl rfl) rfl ?_
  obtain ⟨t909, hg910, h⟩ := h.bind
  obtain ⟨y911, y912⟩ := t909
  refine RP.e 17 rfl (OW.callF (ls := [.tmp 14, .tmp 21]) rfl Tryd.call74 (vm_quotient.ok (fn873 (a874.B.toNat * 1)) (fn873 (a874.C.toNat * 1)) _ hg910 hS)) rfl rfl ?_
  rintro _ w ⟨rfl, hS⟩
  have hS : St B w (Cl b904 [.int .i64 a874.Op, .int .i64 a874.A, .int .i64 a874.B, .int .i64 a874.C] 48 :: Cl b849 [.slice A851 a850.length c852, .int .i64 a854, .slice A856 a855.length c857, .int .u64 a859, .int .i64 a860, .int .i64 a861, .int .i64 a862, .int .i64 a863, .int .i64 a864, .int .i64 a865, .bool a866, .int .i64 (fn873 0), .int .i64 (fn873 1), .int .i64 (fn873 2), .int .i64 (fn873 3), .int .i64 (fn873 4), .int .i64 (fn873 5), .int .i64 (fn873 6), .int .i64 (fn873 7), .int .i64 (fn873 8), .int .i64 (fn873 9), .int .i64 (fn873 10), .int .i64 (fn873 11), .int .i64 (fn873 12), .int .i64 (fn873 13), .int .i64 (fn873 14), .int .i64 (fn873 15), .int .i64 a867, .slice A869 a871.length c870, .int .i64 a872] 66 :: OSf E_api_Out 58 (.slice A869 a871.length c870) a871 :: l) hf := hS
  refine ⟨fun _ => hS, ?_⟩
  refine RP.s0 18 rfl (fun w => Vl.move rfl) rfl ?_
  refine RP.s0 19 rfl (fun w => Vl.extract rfl rfl) rfl ?_
  refine RP.s0 20 rfl (fun w => Vl.extract rfl rfl) rfl ?_
  obtain ⟨⟨hq913, hq914⟩, h⟩ := h.req
  refine RP.v1 23 rfl (Vl.indexAddrA (a'' := ⟨b849, 11 + a874.A.toNat * 1, none⟩) Tryd.underlying64 Tryd.sizeOf2 rfl rfl hq913 hq914 (add_mk _ _ _)) rfl rfl ?_
  refine RP.e0 24 rfl (OW.storeSeg (mk := (Value.int .i64)) (f := fn873) (n := 16) (m := 11) (pre := [.slice A851 a850.length c852, .int .i64 a854, .slice A856 a855.length c857, .int .u64 a859, .int .i64 a860, .int .i64 a861, .int .i64 a862, .int .i64 a863, .int .i64 a864, .int .i64 a865, .bool a866]) (post := [.int .i64 a867, .slice A869 a871.length c870, .int .i64 a872]) (l' := Cl b904 [.int .i64 a874.Op, .int .i64 a874.A, .int .i64 a874.B, .int .i64 a874.C] 48 :: Cl b849 [.slice A851 a850.length c852, .int .i64 a854, .slice A856 a855.length c857, .int .u64 a859, .int .i64 a860, .int .i64 a861, .int .i64 a862, .int .i64 a863, .int .i64 a864, .int .i64 a865, .bool a866, .int .i64 ((upd fn873 (a874.A.toNat * 1) y911) 0), .int .i64 ((upd fn873 (a874.A.toNat * 1) y911) 1), .int .i64 ((upd fn873 (a874.A.toNat * 1) y911) 2), .int .i64 ((upd fn873 (a874.A.toNat * 1) y911) 3), .int .i64 ((upd fn873 (a874.A.toNat * 1) y911) 4), .int .i64 ((upd fn873 (a874.A.toNat * 1) y911) 5), .int .i64 ((upd fn873 (a874.A.toNat * 1) y911) 6), .int .i64 ((upd fn873 (a874.A.toNat * 1) y911) 7), .int .i64 ((upd fn873 (a874.A.toNat * 1) y911) 8), .int .i64 ((upd fn873 (a874.A.toNat * 1) y911) 9), .int .i64 ((upd fn873 (a874.A.toNat * 1) y911) 10), .int .i64 ((upd fn873 (a874.A.toNat * 1) y911) 11), .int .i64 ((upd fn873 (a874.A.toNat * 1) y911) 12), .int .i64 ((upd fn873 (a874.A.toNat * 1) y911) 13), .int .i64 ((upd fn873 (a874.A.toNat * 1) y911) 14), .int .i64 ((upd fn873 (a874.A.toNat * 1) y911) 15), .int .i64 a867, .slice A869 a871.length c870, .int .i64 a872] 66 :: OSf E_api_Out 58 (.slice A869 a871.length c870) a871 :: l) 1 hS rfl rfl rfl rfl Tryd.sizeOf2 (by omega) (fun _ => rfl) (fun _ => rfl) rfl) rfl ?_
  rintro _ w ⟨rfl, hS⟩
  have hS : St B w (Cl b904 [.int .i64 a874.Op, .int .i64 a874.A, .int .i64 a874.B, .int .i64 a874.C] 48 :: Cl b849 [.slice A851 a850.length c852, .int .i64 a854, .slice A856 a855.length c857, .int .u64 a859, .int .i64 a860, .int .i64 a861, .int .i64 a862, .int .i64 a863, .int .i64 a864, .int .i64 a865, .bool a866, .int .i64 ((upd fn873 (a874.A.toNat * 1) y911) 0), .int .i64 ((upd fn873 (a874.A.toNat * 1) y911) 1), .int .i64 ((upd fn873 (a874.A.toNat * 1) y911) 2), .int .i64 ((upd fn873 (a874.A.toNat * 1) y911) 3), .int .i64 ((upd fn873 (a874.A.toNat * 1) y911) 4), .int .i64 ((upd fn873 (a874.A.toNat * 1) y911) 5), .int .i64 ((upd fn873 (a874.A.toNat * 1) y911) 6), .int .i64 ((upd fn873 (a874.A.toNat * 1) y911) 7), .int .i64 ((upd fn873 (a874.A.toNat * 1) y911) 8), .int .i64 ((upd fn873 (a874.A.toNat * 1) y911) 9), .int .i64 ((upd fn873 (a874.A.toNat * 1) y911) 10), .int .i64 ((upd fn873 (a874.A.toNat * 1) y911) 11), .int .i64 ((upd fn873 (a874.A.toNat * 1) y911) 12), .int .i64 ((upd fn873 (a874.A.toNat * 1) y911) 13), .int .i64 ((upd fn873 (a874.A.toNat * 1) y911) 14), .int .i64 ((upd fn873 (a874.A.toNat * 1) y911) 15), .int .i64 a867, .slice A869 a871.length c870, .int .i64 a872] 66 :: OSf E_api_Out 58 (.slice A869 a871.length c870) a871 :: l) hf := hS
  refine ⟨(by intro hx; cases hx), ?_⟩
  refine RP.nil ?_
  have e := h.some
  subst e
  refine RQ.end0 (vs := []) Tryd.results55 trivial ?_
  exact ⟨rfl, (hS.dropAt 0 rfl)⟩

/-! ### (*isochron/vm.cpu).mod: function 56 -/
noncomputable def vm_cpu_mod.f (a920 : List api_Instr) (a924 : Int) (a925 : List api_Link) (a929 : Int) (a930 : Int) (a931 : Int) (a932 : Int) (a933 : Int) (a934 : Int) (a935 : Int) (a936 : Bool) (a937 : Int) (a941 : List api_Out) (a942 : Int) (fn943 : (Nat → Int)) (a944 : api_Instr) : Option ((Nat → Int)) := (if 0 ≤ a944.B ∧ a944.B < 16 then (if 0 ≤ a944.C ∧ a944.C < 16 then ((vm_quotient.f (fn943 (a944.B.toNat * 1)) (fn943 (a944.C.toNat * 1))).bind fun (y965, y966) => (if 0 ≤ a944.A ∧ a944.A < 16 then some (upd fn943 (a944.A.toNat * 1) y966) else none)) else none) else none)
set_option maxRecDepth 100000 in
set_option maxHeartbeats 4000000 in
theorem vm_cpu_mod.ok {B : Base} {w : World} {l : List HProp} {hf : Hp} (a920 : List api_Instr) (a924 : Int) (a925 : List api_Link) (a929 : Int) (a930 : Int) (a931 : Int) (a932 : Int) (a933 : Int) (a934 : Int) (a935 : Int) (a936 : Bool) (a937 : Int) (a941 : List api_Out) (a942 : Int) (fn943 : (Nat → Int)) (a944 : api_Instr) (b919 : Nat) (A921 : Option Addr) (c922 : Nat) (A926 : Option Addr) (c927 : Nat) (A939 : Option Addr) (c940 : Nat) (hr923 : SlR E_api_Instr.rep hf A921 c922 a920) (hr928 : SlR E_api_Link.rep hf A926 c927 a925) (r : (Nat → Int)) (h : vm_cpu_mod.f a920 a924 a925 a929 a930 a931 a932 a933 a934 a935 a936 a937 a941 a942 fn943 a944 = some r) (hS : St B w (Cl b919 [.slice A921 a920.length c922, .int .i64 a924, .slice A926 a925.length c927, .int .u64 a929, .int .i64 a930, .int .i64 a931, .int .i64 a932, .int .i64 a933, .int .i64 a934, .int .i64 a935, .bool a936, .int .i64 (fn943 0), .int .i64 (fn943 1), .int .i64 (fn943 2), .int .i64 (fn943 3), .int .i64 (fn943 4), .int .i64 (fn943 5), .int .i64 (fn943 6), .int .i64 (fn943 7), .int .i64 (fn943 8), .int .i64 (fn943 9), .int .i64 (fn943 10), .int .i64 (fn943 11), .int .i64 (fn943 12), .int .i64 (fn943 13), .int .i64 (fn943 14), .int .i64 (fn943 15), .int .i64 a937, .slice A939 a941.length c940, .int .i64 a942] 66 :: OSf E_api_Out 58 (.slice A939 a941.length c940) a941 :: l) hf) :
    Calls Tryd.prog 56 #[.pointer (some ⟨b919, 0, none⟩), .agg #[.int .i64 a944.Op, .int .i64 a944.A, .int .i64 a944.B, .int .i64 a944.C]] w (Ret fun v w => v = .tuple #[] ∧ St B w (Cl b919 [.slice A921 a920.length c922, .int .i64 a924, .slice A926 a925.length c927, .int .u64 a929, .int .i64 a930, .int .i64 a931, .int .i64 a932, .int .i64 a933, .int .i64 a934, .int .i64 a935, .bool a936, .int .i64 (r 0), .int .i64 (r 1), .int .i64 (r 2), .int .i64 (r 3), .int .i64 (r 4), .int .i64 (r 5), .int .i64 (r 6), .int .i64 (r 7), .int .i64 (r 8), .int .i64 (r 9), .int .i64 (r 10), .int .i64 (r 11), .int .i64 (r 12), .int .i64 (r 13), .int .i64 (r 14), .int .i64 (r 15), .int .i64 a937, .slice A939 a941.length c940, .int .i64 a942] 66 :: OSf E_api_Out 58 (.slice A939 a941.length c940) a941 :: l) hf) := by
  have h := Holds.of h
  refine enter (args := [.pointer (some ⟨b919, 0, none⟩), .agg #[.int .i64 a944.Op, .int .i64 a944.A, .int .i64 a944.B, .int .i64 a944.C]]) Tryd.func56 rfl Tryd.ntmps56 (Nat.le_of_ble_eq_true rfl) ?_
  refine RC.seq ?_
  refine RC.region ?_
  refine RL.e (OW.box (cs := [.int .i64 a944.Op, .int .i64 a944.A, .int .i64 a944.B, .int .i64 a944.C]) hS rfl rfl) rfl rfl ?_
  rintro _ w ⟨b958, rfl, hS⟩
  have hS : St B w (Cl b958 [.int .i64 a944.Op, .int .i64 a944.A, .int .i64 a944.B, .int .i64 a944.C] 48 :: Cl b919 [.slice A921 a920.length c922, .int .i64 a924, .slice A926 a925.length c927, .int .u64 a929, .int .i64 a930, .int .i64 a931, .int .i64 a932, .int .i64 a933, .int .i64 a934, .int .i64 a935, .bool a936, .int .i64 (fn943 0), .int .i64 (fn943 1), .int .i64 (fn943 2), .int .i64 (fn943 3), .int .i64 (fn943 4), .int .i64 (fn943 5), .int .i64 (fn943 6), .int .i64 (fn943 7), .int .i64 (fn943 8), .int .i64 (fn943 9), .int .i64 (fn943 10), .int .i64 (fn943 11), .int .i64 (fn943 12), .int .i64 (fn943 13), .int .i64 (fn943 14), .int .i64 (fn943 15), .int .i64 a937, .slice A939 a941.length c940, .int .i64 a942] 66 :: OSf E_api_Out 58 (.slice A939 a941.length c940) a941 :: l) hf := hS
  refine RL.nil ?_
  refine RQ.then_n ?_
  refine RC.plan (.pure 0 (.pure 1 (.cons 2 true (.pure 3 (.pure 4 (.cons 5 true (.pure 6 (.pure 7 (.pure 8 (.cons 9 true (.pure 10 (.pure 11 (.cons 12 true (.pure 13 (.pure 14 (.pure 15 (.cons 16 true (.pure 21 (.pure 22 (.cons 17 false (.pure 18 (.pure 19 (.cons 20 false (.cons 23 false (.cons 24 false .nil))))))))))))))))))))))))) [23, 24] (fun w => St B w (Cl b958 [.int .i64 a944.Op, .int .i64 a944.A, .int .i64 a944.B, .int .i64 a944.C] 48 :: Cl b919 [.slice A921 a920.length c922, .int .i64 a924, .slice A926 a925.length c927, .int .u64 a929, .int .i64 a930, .int .i64 a931, .int .i64 a932, .int .i64 a933, .int .i64 a934, .int .i64 a935, .bool a936, .int .i64 (fn943 0), .int .i64 (fn943 1), .int .i64 (fn943 2), .int .i64 (fn943 3), .int .i64 (fn943 4), .int .i64 (fn943 5), .int .i64 (fn943 6), .int .i64 (fn943 7), .int .i64 (fn943 8), .int .i64 (fn943 9), .int .i64 (fn943 10), .int .i64 (fn943 11), .int .i64 (fn943 12), .int .i64 (fn943 13), .int .i64 (fn943 14), .int .i64 (fn943 15), .int .i64 a937, .slice A939 a941.length c940, .int .i64 a942] 66 :: OSf E_api_Out 58 (.slice A939 a941.length c940) a941 :: l) hf) follows rfl (by kernel_rfl) NoTmp.body ?_
  have hS := hS.same (w' := { w with drawn := w.drawn + 1 }) rfl rfl
  revert hS
  generalize { w with drawn := w.drawn + 1 } = w
  intro hS
  refine RP.s0 0 rfl (fun w => Vl.move rfl) rfl ?_
  refine RP.s0 1 rfl (fun w => Vl.fieldAddr (a'' := ⟨b958, 1, none⟩) Tryd.underlying48 rfl Tryd.sizeOf3 rfl rfl) rfl ?_
  refine RP.s 2 rfl rfl hS (fun w hS => Vl.load Tryd.isAgg3 rfl (hS.cell 0 rfl rfl)) rfl ?_
  refine RP.s0 3 rfl (fun w => Vl.move rfl) rfl ?_
  refine RP.s0 4 rfl (fun w => Vl.fieldAddr (a'' := ⟨b958, 2, none⟩) Tryd.underlying48 rfl Tryd.sizeOf3 rfl rfl) rfl ?_
  refine RP.s 5 rfl rfl hS (fun w hS => Vl.load Tryd.isAgg3 rfl (hS.cell 0 rfl rfl)) rfl ?_
  refine RP.s0 6 rfl (fun w => Vl.nilCheck rfl) rfl ?_
  refine RP.s0 7 rfl (fun w => Vl.fieldAddr (a'' := ⟨b919, 11, none⟩) Tryd.underlying66 rfl Tryd.sizeOf64 rfl rfl) rfl ?_
  obtain ⟨⟨hq959, hq960⟩, h⟩ := h.req
  refine RP.s0 8 rfl (fun w => Vl.indexAddrA (a'' := ⟨b919, 11 + a944.B.toNat * 1, none⟩) Tryd.underlying64 Tryd.sizeOf2 rfl rfl hq959 hq960 (add_mk _ _ _)) rfl ?_
  refine RP.s 9 rfl rfl hS (fun w hS => Vl.load Tryd.isAgg2 rfl (hS.cell (off := 11 + a944.B.toNat * 1) (cs := [.slice A921 a920.length c922, .int .i64 a924, .slice A926 a925.length c927, .int .u64 a929, .int .i64 a930, .int .i64 a931, .int .i64 a932, .int .i64 a933, .int .i64 a934, .int .i64 a935, .bool a936] ++ (fc (Value.int .i64) 16 fn943 ++ [.int .i64 a937, .slice A939 a941.length c940, .int .i64 a942])) 1 rfl (seg_get rfl (by omega)))) rfl ?_
  refine RP.s0 10 rfl (fun w => Vl.move rfl) rfl ?_
  refine RP.s0 11 rfl (fun w => Vl.fieldAddr (a'' := ⟨b958, 3, none⟩) Tryd.underlying48 rfl Tryd.sizeOf3 rfl rfl) rfl ?_
  refine RP.s 12 rfl rfl hS (fun w hS => Vl.load Tryd.isAgg3 rfl (hS.cell 0 rfl rfl)) rfl ?_
  refine RP.s0 13 rfl (fun w => Vl.nilCheck rfl) rfl ?_
  refine RP.s0 14 rfl (fun w => Vl.fieldAddr (a'' := ⟨b919, 11, none⟩) Tryd.underlying66 rfl Tryd.sizeOf64 rfl rfl) rfl ?_
  obtain ⟨⟨hq961, hq962⟩, h⟩ := h.req
  refine RP.s0 15 rfl (fun w => Vl.indexAddrA (a'' := ⟨b919, 11 + a944.C.toNat * 1, none⟩) Tryd.underlying64 Tryd.sizeOf2 rfl rfl hq961 hq962 (add_mk _ _ _)) rfl ?_
  refine RP.s 16 rfl rfl hS (fun w hS => Vl.load Tryd.isAgg2 rfl (hS.cell (off := 11 + a944.C.toNat * 1) (cs := [.slice A921 a920.length c922, .int .i64 a924, .slice A926 a925.length c927, .int .u64 a929, .int .i64 a930, .int .i64 a931, .int .i64 a932, .int .i64 a933, .int .i64 a934, .int .i64 a935, .bool a936] ++ (fc (Value.int .i64) 16 fn943 ++ [.int .i64 a937, .slice A939 a941.length c940, .int .i64 a942])) 1 rfl (seg_get rfl (by omega)))) rfl ?_
  refine RP.s0 21 rfl (fun w => Vl.nilCheck rfl) rfl ?_
  refine RP.s0 22 rfl (fun w => Vl.fieldAddr (a'' := ⟨b919, 11, none⟩) Tryd.underlying66 rfl Tryd.sizeOf64 rfl rfl) rfl ?_
  obtain ⟨t963, hg964, h⟩ := h.bind
  obtain ⟨y965, y966⟩ := t963
  refine RP.e 17 rfl (OW.callF (ls := [.tmp 14, .tmp 21]) rfl Tryd.call74 (vm_quotient.ok (fn943 (a944.B.toNat * 1)) (fn943 (a944.C.toNat * 1)) _ hg964 hS)) rfl rfl ?_
  rintro _ w ⟨rfl, hS⟩
  have hS : St B w (Cl b958 [.int .i64 a944.Op, .int .i64 a944.A, .int .i64 a944.B, .int .i64 a944.C] 48 :: Cl b919 [.slice A921 a920.length c922, .int .i64 a924, .slice A926 a925.length c927, .int .u64 a929, .int .i64 a930, .int .i64 a931, .int .i64 a932, .int .i64 a933, .int .i64 a934, .int .i64 a935, .bool a936, .int .i64 (fn943 0), .int .i64 (fn943 1), .int .i64 (fn943 2), .int .i64 (fn943 3), .int .i64 (fn943 4), .int .i64 (fn943 5), .int .i64 (fn943 6), .int .i64 (fn943 7), .int .i64 (fn943 8), .int .i64 (fn943 9), .int .i64 (fn943 10), .int .i64 (fn943 11), .int .i64 (fn943 12), .int .i64 (fn943 13), .int .i64 (fn943 14), .int .i64 (fn943 15), .int .i64 a937, .slice A939 a941.length c940, .int .i64 a942] 66 :: OSf E_api_Out 58 (.slice A939 a941.length c940) a941 :: l) hf := hS
  refine ⟨fun _ => hS, ?_⟩
  refine RP.s0 18 rfl (fun w => Vl.move rfl) rfl ?_
  refine RP.s0 19 rfl (fun w => Vl.extract rfl rfl) rfl ?_
  refine RP.v1 20 rfl (Vl.extract rfl rfl) rfl rfl ?_
  obtain ⟨⟨hq967, hq968⟩, h⟩ := h.req
  refine RP.v1 23 rfl (Vl.indexAddrA (a'' := ⟨b919, 11 + a944.A.toNat * 1, none⟩) Tryd.underlying64 Tryd.sizeOf2 rfl rfl hq967 hq968 (add_mk _ _ _)) rfl rfl ?_
  refine RP.e0 24 rfl (OW.storeSeg (mk := (Value.int .i64)) (f := fn943) (n := 16) (m := 11) (pre := [.slice A921 a920.length c922, .int .i64 a924, .slice A926 a925.length c927, .int .u64 a929, .int .i64 a930, .int .i64 a931, .int .i64 a932, .int .i64 a933, .int .i64 a934, .int .i64 a935, .bool a936]) (post := [.int .i64 a937, .slice A939 a941.length c940, .int .i64 a942]) (l' := Cl b958 [.int .i64 a944.Op, .int .i64 a944.A, .int .i64 a944.B, .int .i64 a944.C] 48 :: Cl b919 [.slice A921 a920.length c922, .int .i64 a924, .slice A926 a925.length c927, .int .u64 a929, .int .i64 a930, .int .i64 a931, .int .i64 a932, .int .i64 a933, .int .i64 a934, .int .i64 a935, .bool a936, .int .i64 ((upd fn943 (a944.A.toNat * 1) y966) 0), .int .i64 ((upd fn943 (a944.A.toNat * 1) y966) 1), .int .i64 ((upd fn943 (a944.A.toNat * 1) y966) 2), .int .i64 ((upd fn943 (a944.A.toNat * 1) y966) 3), .int .i64 ((upd fn943 (a944.A.toNat * 1) y966) 4), .int .i64 ((upd fn943 (a944.A.toNat * 1) y966) 5), .int .i64 ((upd fn943 (a944.A.toNat * 1) y966) 6), .int .i64 ((upd fn943 (a944.A.toNat * 1) y966) 7), .int .i64 ((upd fn943 (a944.A.toNat * 1) y966) 8), .int .i64 ((upd fn943 (a944.A.toNat * 1) y966) 9), .int .i64 ((upd fn943 (a944.A.toNat * 1) y966) 10), .int .i64 ((upd fn943 (a944.A.toNat * 1) y966) 11), .int .i64 ((upd fn943 (a944.A.toNat * 1) y966) 12), .int .i64 ((upd fn943 (a944.A.toNat * 1) y966) 13), .int .i64 ((upd fn943 (a944.A.toNat * 1) y966) 14), .int .i64 ((upd fn943 (a944.A.toNat * 1) y966) 15), .int .i64 a937, .slice A939 a941.length c940, .int .i64 a942] 66 :: OSf E_api_Out 58 (.slice A939 a941.length c940) a941 :: l) 1 hS rfl rfl rfl rfl Tryd.sizeOf2 (by omega) (fun _ => rfl) (fun _ => rfl) rfl) rfl ?_
  rintro _ w ⟨rfl, hS⟩
  have hS : St B w (Cl b958 [.int .i64 a944.Op, .int .i64 a944.A, .int .i64 a944.B, .int .i64 a944.C] 48 :: Cl b919 [.slice A921 a920.length c922, .int .i64 a924, .slice A926 a925.length c927, .int .u64 a929, .int .i64 a930, .int .i64 a931, .int .i64 a932, .int .i64 a933, .int .i64 a934, .int .i64 a935, .bool a936, .int .i64 ((upd fn943 (a944.A.toNat * 1) y966) 0), .int .i64 ((upd fn943 (a944.A.toNat * 1) y966) 1), .int .i64 ((upd fn943 (a944.A.toNat * 1) y966) 2), .int .i64 ((upd fn943 (a944.A.toNat * 1) y966) 3), .int .i64 ((upd fn943 (a944.A.toNat * 1) y966) 4), .int .i64 ((upd fn943 (a944.A.toNat * 1) y966) 5), .int .i64 ((upd fn943 (a944.A.toNat * 1) y966) 6), .int .i64 ((upd fn943 (a944.A.toNat * 1) y966) 7), .int .i64 ((upd fn943 (a944.A.toNat * 1) y966) 8), .int .i64 ((upd fn943 (a944.A.toNat * 1) y966) 9), .int .i64 ((upd fn943 (a944.A.toNat * 1) y966) 10), .int .i64 ((upd fn943 (a944.A.toNat * 1) y966) 11), .int .i64 ((upd fn943 (a944.A.toNat * 1) y966) 12), .int .i64 ((upd fn943 (a944.A.toNat * 1) y966) 13), .int .i64 ((upd fn943 (a944.A.toNat * 1) y966) 14), .int .i64 ((upd fn943 (a944.A.toNat * 1) y966) 15), .int .i64 a937, .slice A939 a941.length c940, .int .i64 a942] 66 :: OSf E_api_Out 58 (.slice A939 a941.length c940) a941 :: l) hf := hS
  refine ⟨(by intro hx; cases hx), ?_⟩
  refine RP.nil ?_
  have e := h.some
  subst e
  refine RQ.end0 (vs := []) Tryd.results56 trivial ?_
  exact ⟨rfl, (hS.dropAt 0 rfl)⟩

/-! ### isochron/vm.truth: function 75 -/
noncomputable def vm_truth.f (a1005 : Bool) : Option (Int) := (if a1005 = true then some 1 else some 0)
set_option maxRecDepth 100000 in
set_option maxHeartbeats 4000000 in
theorem vm_truth.ok {B : Base} {w : World} {l : List HProp} {hf : Hp} (a1005 : Bool) (r : Int) (h : vm_truth.f a1005 = some r) (hS : St B w (l) hf) :
    Calls Tryd.prog 75 #[.bool a1005] w (Ret fun v w => v = .int .i64 r ∧ St B w (l) hf) := by
  have h := Holds.of h
  refine enter (args := [.bool a1005]) Tryd.func75 rfl Tryd.ntmps75 (Nat.le_of_ble_eq_true rfl) ?_
  refine RC.seq ?_
  refine RC.region ?_
  refine RL.s (Vl.assign rfl) rfl ?_
  refine RL.nil ?_
  refine RQ.then_n ?_
  refine RC.seq ?_
  refine RC.seq ?_
  refine RC.region ?_
  refine RL.s (Vl.move rfl) rfl ?_
  refine RL.nil ?_
  refine RQ.then_n ?_
  by_cases hc1007 : a1005 = true
  case pos =>
   have h := h.pos hc1007
   refine RC.re 3 rfl (congrArg Value.bool (id hc1007)) ?_
   refine RC.condT rfl ?_
   refine RC.seq ?_
   refine RC.region ?_
   refine RL.s (Vl.assign rfl) rfl ?_
   refine RL.nil ?_
   refine RQ.then_n ?_
   refine RC.ret ?_
   refine RQ.ret ?_
   have e := h.some
   subst e
   refine RQ.ret0 (vs := [.int .i64 1]) Tryd.results75 ⟨rfl, trivial⟩ ?_
   exact ⟨rfl, hS⟩
  case neg =>
   have h := h.neg hc1007
   refine RC.re 3 rfl (congrArg Value.bool (eq_false_of hc1007)) ?_
   refine RC.condF rfl ?_
   refine RC.skip ?_
   refine RQ.then_n ?_
   refine RC.seq ?_
   refine RC.region ?_
   refine RL.s (Vl.assign rfl) rfl ?_
   refine RL.nil ?_
   refine RQ.then_n ?_
   refine RC.ret ?_
   have e := h.some
   subst e
   refine RQ.ret0 (vs := [.int .i64 0]) Tryd.results75 ⟨rfl, trivial⟩ ?_
   exact ⟨rfl, hS⟩

/-! ### (*isochron/vm.cpu).less: function 57 -/
noncomputable def vm_cpu_less.f (a974 : List api_Instr) (a978 : Int) (a979 : List api_Link) (a983 : Int) (a984 : Int) (a985 : Int) (a986 : Int) (a987 : Int) (a988 : Int) (a989 : Int) (a990 : Bool) (a991 : Int) (a995 : List api_Out) (a996 : Int) (fn997 : (Nat → Int)) (a998 : api_Instr) : Option ((Nat → Int)) := (if 0 ≤ a998.B ∧ a998.B < 16 then (if 0 ≤ a998.C ∧ a998.C < 16 then ((vm_truth.f (decide (fn997 (a998.B.toNat * 1) < fn997 (a998.C.toNat * 1)))).bind fun t1018 => (if 0 ≤ a998.A ∧ a998.A < 16 then some (upd fn997 (a998.A.toNat * 1) t1018) else none)) else none) else none)
set_option maxRecDepth 100000 in
set_option maxHeartbeats 4000000 in
theorem vm_cpu_less.ok {B : Base} {w : World} {l : List HProp} {hf : Hp} (a974 : List api_Instr) (a978 : Int) (a979 : List api_Link) (a983 : Int) (a984 : Int) (a985 : Int) (a986 : Int) (a987 : Int) (a988 : Int) (a989 : Int) (a990 : Bool) (a991 : Int) (a995 : List api_Out) (a996 : Int) (fn997 : (Nat → Int)) (a998 : api_Instr) (b973 : Nat) (A975 : Option Addr) (c976 : Nat) (A980 : Option Addr) (c981 : Nat) (A993 : Option Addr) (c994 : Nat) (hr977 : SlR E_api_Instr.rep hf A975 c976 a974) (hr982 : SlR E_api_Link.rep hf A980 c981 a979) (r : (Nat → Int)) (h : vm_cpu_less.f a974 a978 a979 a983 a984 a985 a986 a987 a988 a989 a990 a991 a995 a996 fn997 a998 = some r) (hS : St B w (Cl b973 [.slice A975 a974.length c976, .int .i64 a978, .slice A980 a979.length c981, .int .u64 a983, .int .i64 a984, .int .i64 a985, .int .i64 a986, .int .i64 a987, .int .i64 a988, .int .i64 a989, .bool a990, .int .i64 (fn997 0), .int .i64 (fn997 1), .int .i64 (fn997 2), .int .i64 (fn997 3), .int .i64 (fn997 4), .int .i64 (fn997 5), .int .i64 (fn997 6), .int .i64 (fn997 7), .int .i64 (fn997 8), .int .i64 (fn997 9), .int .i64 (fn997 10), .int .i64 (fn997 11), .int .i64 (fn997 12), .int .i64 (fn997 13), .int .i64 (fn997 14), .int .i64 (fn997 15), .int .i64 a991, .slice A993 a995.length c994, .int .i64 a996] 66 :: OSf E_api_Out 58 (.slice A993 a995.length c994) a995 :: l) hf) :
    Calls Tryd.prog 57 #[.pointer (some ⟨b973, 0, none⟩), .agg #[.int .i64 a998.Op, .int .i64 a998.A, .int .i64 a998.B, .int .i64 a998.C]] w (Ret fun v w => v = .tuple #[] ∧ St B w (Cl b973 [.slice A975 a974.length c976, .int .i64 a978, .slice A980 a979.length c981, .int .u64 a983, .int .i64 a984, .int .i64 a985, .int .i64 a986, .int .i64 a987, .int .i64 a988, .int .i64 a989, .bool a990, .int .i64 (r 0), .int .i64 (r 1), .int .i64 (r 2), .int .i64 (r 3), .int .i64 (r 4), .int .i64 (r 5), .int .i64 (r 6), .int .i64 (r 7), .int .i64 (r 8), .int .i64 (r 9), .int .i64 (r 10), .int .i64 (r 11), .int .i64 (r 12), .int .i64 (r 13), .int .i64 (r 14), .int .i64 (r 15), .int .i64 a991, .slice A993 a995.length c994, .int .i64 a996] 66 :: OSf E_api_Out 58 (.slice A993 a995.length c994) a995 :: l) hf) := by
  have h := Holds.of h
  refine enter (args := [.pointer (some ⟨b973, 0, none⟩), .agg #[.int .i64 a998.Op, .int .i64 a998.A, .int .i64 a998.B, .int .i64 a998.C]]) Tryd.func57 rfl Tryd.ntmps57 (Nat.le_of_ble_eq_true rfl) ?_
  refine RC.seq ?_
  refine RC.region ?_
  refine RL.e (OW.box (cs := [.int .i64 a998.Op, .int .i64 a998.A, .int .i64 a998.B, .int .i64 a998.C]) hS rfl rfl) rfl rfl ?_
  rintro _ w ⟨b1013, rfl, hS⟩
  have hS : St B w (Cl b1013 [.int .i64 a998.Op, .int .i64 a998.A, .int .i64 a998.B, .int .i64 a998.C] 48 :: Cl b973 [.slice A975 a974.length c976, .int .i64 a978, .slice A980 a979.length c981, .int .u64 a983, .int .i64 a984, .int .i64 a985, .int .i64 a986, .int .i64 a987, .int .i64 a988, .int .i64 a989, .bool a990, .int .i64 (fn997 0), .int .i64 (fn997 1), .int .i64 (fn997 2), .int .i64 (fn997 3), .int .i64 (fn997 4), .int .i64 (fn997 5), .int .i64 (fn997 6), .int .i64 (fn997 7), .int .i64 (fn997 8), .int .i64 (fn997 9), .int .i64 (fn997 10), .int .i64 (fn997 11), .int .i64 (fn997 12), .int .i64 (fn997 13), .int .i64 (fn997 14), .int .i64 (fn997 15), .int .i64 a991, .slice A993 a995.length c994, .int .i64 a996] 66 :: OSf E_api_Out 58 (.slice A993 a995.length c994) a995 :: l) hf := hS
  refine RL.nil ?_
  refine RQ.then_n ?_
  refine RC.plan (.pure 0 (.pure 1 (.cons 2 true (.pure 3 (.pure 4 (.cons 5 true (.pure 6 (.pure 7 (.pure 8 (.cons 9 true (.pure 10 (.pure 11 (.cons 12 true (.pure 13 (.pure 14 (.pure 15 (.cons 16 true (.pure 17 (.pure 19 (.pure 20 (.cons 18 false (.cons 21 false (.cons 22 false .nil))))))))))))))))))))))) [21, 22] (fun w => St B w (Cl b1013 [.int .i64 a998.Op, .int .i64 a998.A, .int .i64 a998.B, .int .i64 a998.C] 48 :: Cl b973 [.slice A975 a974.length c976, .int .i64 a978, .slice A980 a979.length c981, .int .u64 a983, .int .i64 a984, .int .i64 a985, .int .i64 a986, .int .i64 a987, .int .i64 a988, .int .i64 a989, .bool a990, .int .i64 (fn997 0), .int .i64 (fn997 1), .int .i64 (fn997 2), .int .i64 (fn997 3), .int .i64 (fn997 4), .int .i64 (fn997 5), .int .i64 (fn997 6), .int .i64 (fn997 7), .int .i64 (fn997 8), .int .i64 (fn997 9), .int .i64 (fn997 10), .int .i64 (fn997 11), .int .i64 (fn997 12), .int .i64 (fn997 13), .int .i64 (fn997 14), .int .i64 (fn997 15), .int .i64 a991, .slice A993 a995.length c994, .int .i64 a996] 66 :: OSf E_api_Out 58 (.slice A993 a995.length c994) a995 :: l) hf) follows rfl (by kernel_rfl) NoTmp.body ?_
  have hS := hS.same (w' := { w with drawn := w.drawn + 1 }) rfl rfl
  revert hS
  generalize { w with drawn := w.drawn + 1 } = w
  intro hS
  refine RP.s0 0 rfl (fun w => Vl.move rfl) rfl ?_
  refine RP.s0 1 rfl (fun w => Vl.fieldAddr (a'' := ⟨b1013, 1, none⟩) Tryd.underlying48 rfl Tryd.sizeOf3 rfl rfl) rfl ?_
  refine RP.s 2 rfl rfl hS (fun w hS => Vl.load Tryd.isAgg3 rfl (hS.cell 0 rfl rfl)) rfl ?_
  refine RP.s0 3 rfl (fun w => Vl.move rfl) rfl ?_
  refine RP.s0 4 rfl (fun w => Vl.fieldAddr (a'' := ⟨b1013, 2, none⟩) Tryd.underlying48 rfl Tryd.sizeOf3 rfl rfl) rfl ?_
  refine RP.s 5 rfl rfl hS (fun w hS => Vl.load Tryd.isAgg3 rfl (hS.cell 0 rfl rfl)) rfl ?_
  refine RP.s0 6 rfl (fun w => Vl.nilCheck rfl) rfl ?_
  refine RP.s0 7 rfl (fun w => Vl.fieldAddr (a'' := ⟨b973, 11, none⟩) Tryd.underlying66 rfl Tryd.sizeOf64 rfl rfl) rfl ?_
  obtain ⟨⟨hq1014, hq1015⟩, h⟩ := h.req
  refine RP.s0 8 rfl (fun w => Vl.indexAddrA (a'' := ⟨b973, 11 + a998.B.toNat * 1, none⟩) Tryd.underlying64 Tryd.sizeOf2 rfl rfl hq1014 hq1015 (add_mk _ _ _)) rfl ?_
  refine RP.s 9 rfl rfl hS (fun w hS => Vl.load Tryd.isAgg2 rfl (hS.cell (off := 11 + a998.B.toNat * 1) (cs := [.slice A975 a974.length c976, .int .i64 a978, .slice A980 a979.length c981, .int .u64 a983, .int .i64 a984, .int .i64 a985, .int .i64 a986, .int .i64 a987, .int .i64 a988, .int .i64 a989, .bool a990] ++ (fc (Value.int .i64) 16 fn997 ++ [.int .i64 a991, .slice A993 a995.length c994, .int .i64 a996])) 1 rfl (seg_get rfl (by omega)))) rfl ?_
  refine RP.s0 10 rfl (fun w => Vl.move rfl) rfl ?_
  refine RP.s0 11 rfl (fun w => Vl.fieldAddr (a'' := ⟨b1013, 3, none⟩) Tryd.underlying48 rfl Tryd.sizeOf3 rfl rfl) rfl ?_
  refine RP.s 12 rfl rfl hS (fun w hS => Vl.load Tryd.isAgg3 rfl (hS.cell 0 rfl rfl)) rfl ?_
  refine RP.s0 13 rfl (fun w => Vl.nilCheck rfl) rfl ?_
  refine RP.s0 14 rfl (fun w => Vl.fieldAddr (a'' := ⟨b973, 11, none⟩) Tryd.underlying66 rfl Tryd.sizeOf64 rfl rfl) rfl ?_
  obtain ⟨⟨hq1016, hq1017⟩, h⟩ := h.req
  refine RP.s0 15 rfl (fun w => Vl.indexAddrA (a'' := ⟨b973, 11 + a998.C.toNat * 1, none⟩) Tryd.underlying64 Tryd.sizeOf2 rfl rfl hq1016 hq1017 (add_mk _ _ _)) rfl ?_
  refine RP.s 16 rfl rfl hS (fun w hS => Vl.load Tryd.isAgg2 rfl (hS.cell (off := 11 + a998.C.toNat * 1) (cs := [.slice A975 a974.length c976, .int .i64 a978, .slice A980 a979.length c981, .int .u64 a983, .int .i64 a984, .int .i64 a985, .int .i64 a986, .int .i64 a987, .int .i64 a988, .int .i64 a989, .bool a990] ++ (fc (Value.int .i64) 16 fn997 ++ [.int .i64 a991, .slice A993 a995.length c994, .int .i64 a996])) 1 rfl (seg_get rfl (by omega)))) rfl ?_
  refine RP.s0 17 rfl (fun w => Vl.int rfl rfl rfl) rfl ?_
  refine RP.s0 19 rfl (fun w => Vl.nilCheck rfl) rfl ?_
  refine RP.s0 20 rfl (fun w => Vl.fieldAddr (a'' := ⟨b973, 11, none⟩) Tryd.underlying66 rfl Tryd.sizeOf64 rfl rfl) rfl ?_
  obtain ⟨t1018, hg1019, h⟩ := h.bind
  refine RP.e 18 rfl (OW.callF (ls := [.tmp 21]) rfl Tryd.call75 (vm_truth.ok (decide (fn997 (a998.B.toNat * 1) < fn997 (a998.C.toNat * 1))) _ hg1019 hS)) rfl rfl ?_
  rintro _ w ⟨rfl, hS⟩
  have hS : St B w (Cl b1013 [.int .i64 a998.Op, .int .i64 a998.A, .int .i64 a998.B, .int .i64 a998.C] 48 :: Cl b973 [.slice A975 a974.length c976, .int .i64 a978, .slice A980 a979.length c981, .int .u64 a983, .int .i64 a984, .int .i64 a985, .int .i64 a986, .int .i64 a987, .int .i64 a988, .int .i64 a989, .bool a990, .int .i64 (fn997 0), .int .i64 (fn997 1), .int .i64 (fn997 2), .int .i64 (fn997 3), .int .i64 (fn997 4), .int .i64 (fn997 5), .int .i64 (fn997 6), .int .i64 (fn997 7), .int .i64 (fn997 8), .int .i64 (fn997 9), .int .i64 (fn997 10), .int .i64 (fn997 11), .int .i64 (fn997 12), .int .i64 (fn997 13), .int .i64 (fn997 14), .int .i64 (fn997 15), .int .i64 a991, .slice A993 a995.length c994, .int .i64 a996] 66 :: OSf E_api_Out 58 (.slice A993 a995.length c994) a995 :: l) hf := hS
  refine ⟨fun _ => hS, ?_⟩
  obtain ⟨⟨hq1020, hq1021⟩, h⟩ := h.req
  refine RP.v1 21 rfl (Vl.indexAddrA (a'' := ⟨b973, 11 + a998.A.toNat * 1, none⟩) Tryd.underlying64 Tryd.sizeOf2 rfl rfl hq1020 hq1021 (add_mk _ _ _)) rfl rfl ?_
  refine RP.e0 22 rfl (OW.storeSeg (mk := (Value.int .i64)) (f := fn997) (n := 16) (m := 11) (pre := [.slice A975 a974.length c976, .int .i64 a978, .slice A980 a979.length c981, .int .u64 a983, .int .i64 a984, .int .i64 a985, .int .i64 a986, .int .i64 a987, .int .i64 a988, .int .i64 a989, .bool a990]) (post := [.int .i64 a991, .slice A993 a995.length c994, .int .i64 a996]) (l' := Cl b1013 [.int .i64 a998.Op, .int .i64 a998.A, .int .i64 a998.B, .int .i64 a998.C] 48 :: Cl b973 [.slice A975 a974.length c976, .int .i64 a978, .slice A980 a979.length c981, .int .u64 a983, .int .i64 a984, .int .i64 a985, .int .i64 a986, .int .i64 a987, .int .i64 a988, .int .i64 a989, .bool a990, .int .i64 ((upd fn997 (a998.A.toNat * 1) t1018) 0), .int .i64 ((upd fn997 (a998.A.toNat * 1) t1018) 1), .int .i64 ((upd fn997 (a998.A.toNat * 1) t1018) 2), .int .i64 ((upd fn997 (a998.A.toNat * 1) t1018) 3), .int .i64 ((upd fn997 (a998.A.toNat * 1) t1018) 4), .int .i64 ((upd fn997 (a998.A.toNat * 1) t1018) 5), .int .i64 ((upd fn997 (a998.A.toNat * 1) t1018) 6), .int .i64 ((upd fn997 (a998.A.toNat * 1) t1018) 7), .int .i64 ((upd fn997 (a998.A.toNat * 1) t1018) 8), .int .i64 ((upd fn997 (a998.A.toNat * 1) t1018) 9), .int .i64 ((upd fn997 (a998.A.toNat * 1) t1018) 10), .int .i64 ((upd fn997 (a998.A.toNat * 1) t1018) 11), .int .i64 ((upd fn997 (a998.A.toNat * 1) t1018) 12), .int .i64 ((upd fn997 (a998.A.toNat * 1) t1018) 13), .int .i64 ((upd fn997 (a998.A.toNat * 1) t1018) 14), .int .i64 ((upd fn997 (a998.A.toNat * 1) t1018) 15), .int .i64 a991, .slice A993 a995.length c994, .int .i64 a996] 66 :: OSf E_api_Out 58 (.slice A993 a995.length c994) a995 :: l) 1 hS rfl rfl rfl rfl Tryd.sizeOf2 (by omega) (fun _ => rfl) (fun _ => rfl) rfl) rfl ?_
  rintro _ w ⟨rfl, hS⟩
  have hS : St B w (Cl b1013 [.int .i64 a998.Op, .int .i64 a998.A, .int .i64 a998.B, .int .i64 a998.C] 48 :: Cl b973 [.slice A975 a974.length c976, .int .i64 a978, .slice A980 a979.length c981, .int .u64 a983, .int .i64 a984, .int .i64 a985, .int .i64 a986, .int .i64 a987, .int .i64 a988, .int .i64 a989, .bool a990, .int .i64 ((upd fn997 (a998.A.toNat * 1) t1018) 0), .int .i64 ((upd fn997 (a998.A.toNat * 1) t1018) 1), .int .i64 ((upd fn997 (a998.A.toNat * 1) t1018) 2), .int .i64 ((upd fn997 (a998.A.toNat * 1) t1018) 3), .int .i64 ((upd fn997 (a998.A.toNat * 1) t1018) 4), .int .i64 ((upd fn997 (a998.A.toNat * 1) t1018) 5), .int .i64 ((upd fn997 (a998.A.toNat * 1) t1018) 6), .int .i64 ((upd fn997 (a998.A.toNat * 1) t1018) 7), .int .i64 ((upd fn997 (a998.A.toNat * 1) t1018) 8), .int .i64 ((upd fn997 (a998.A.toNat * 1) t1018) 9), .int .i64 ((upd fn997 (a998.A.toNat * 1) t1018) 10), .int .i64 ((upd fn997 (a998.A.toNat * 1) t1018) 11), .int .i64 ((upd fn997 (a998.A.toNat * 1) t1018) 12), .int .i64 ((upd fn997 (a998.A.toNat * 1) t1018) 13), .int .i64 ((upd fn997 (a998.A.toNat * 1) t1018) 14), .int .i64 ((upd fn997 (a998.A.toNat * 1) t1018) 15), .int .i64 a991, .slice A993 a995.length c994, .int .i64 a996] 66 :: OSf E_api_Out 58 (.slice A993 a995.length c994) a995 :: l) hf := hS
  refine ⟨(by intro hx; cases hx), ?_⟩
  refine RP.nil ?_
  have e := h.some
  subst e
  refine RQ.end0 (vs := []) Tryd.results57 trivial ?_
  exact ⟨rfl, (hS.dropAt 0 rfl)⟩

/-! ### (*isochron/vm.cpu).same: function 58 -/
noncomputable def vm_cpu_same.f (a1027 : List api_Instr) (a1031 : Int) (a1032 : List api_Link) (a1036 : Int) (a1037 : Int) (a1038 : Int) (a1039 : Int) (a1040 : Int) (a1041 : Int) (a1042 : Int) (a1043 : Bool) (a1044 : Int) (a1048 : List api_Out) (a1049 : Int) (fn1050 : (Nat → Int)) (a1051 : api_Instr) : Option ((Nat → Int)) := (if 0 ≤ a1051.B ∧ a1051.B < 16 then (if 0 ≤ a1051.C ∧ a1051.C < 16 then ((vm_truth.f (decide (fn1050 (a1051.B.toNat * 1) = fn1050 (a1051.C.toNat * 1)))).bind fun t1068 => (if 0 ≤ a1051.A ∧ a1051.A < 16 then some (upd fn1050 (a1051.A.toNat * 1) t1068) else none)) else none) else none)
set_option maxRecDepth 100000 in
set_option maxHeartbeats 4000000 in
theorem vm_cpu_same.ok {B : Base} {w : World} {l : List HProp} {hf : Hp} (a1027 : List api_Instr) (a1031 : Int) (a1032 : List api_Link) (a1036 : Int) (a1037 : Int) (a1038 : Int) (a1039 : Int) (a1040 : Int) (a1041 : Int) (a1042 : Int) (a1043 : Bool) (a1044 : Int) (a1048 : List api_Out) (a1049 : Int) (fn1050 : (Nat → Int)) (a1051 : api_Instr) (b1026 : Nat) (A1028 : Option Addr) (c1029 : Nat) (A1033 : Option Addr) (c1034 : Nat) (A1046 : Option Addr) (c1047 : Nat) (hr1030 : SlR E_api_Instr.rep hf A1028 c1029 a1027) (hr1035 : SlR E_api_Link.rep hf A1033 c1034 a1032) (r : (Nat → Int)) (h : vm_cpu_same.f a1027 a1031 a1032 a1036 a1037 a1038 a1039 a1040 a1041 a1042 a1043 a1044 a1048 a1049 fn1050 a1051 = some r) (hS : St B w (Cl b1026 [.slice A1028 a1027.length c1029, .int .i64 a1031, .slice A1033 a1032.length c1034, .int .u64 a1036, .int .i64 a1037, .int .i64 a1038, .int .i64 a1039, .int .i64 a1040, .int .i64 a1041, .int .i64 a1042, .bool a1043, .int .i64 (fn1050 0), .int .i64 (fn1050 1), .int .i64 (fn1050 2), .int .i64 (fn1050 3), .int .i64 (fn1050 4), .int .i64 (fn1050 5), .int .i64 (fn1050 6), .int .i64 (fn1050 7), .int .i64 (fn1050 8), .int .i64 (fn1050 9), .int .i64 (fn1050 10), .int .i64 (fn1050 11), .int .i64 (fn1050 12), .int .i64 (fn1050 13), .int .i64 (fn1050 14), .int .i64 (fn1050 15), .int .i64 a1044, .slice A1046 a1048.length c1047, .int .i64 a1049] 66 :: OSf E_api_Out 58 (.slice A1046 a1048.length c1047) a1048 :: l) hf) :
    Calls Tryd.prog 58 #[.pointer (some ⟨b1026, 0, none⟩), .agg #[.int .i64 a1051.Op, .int .i64 a1051.A, .int .i64 a1051.B, .int .i64 a1051.C]] w (Ret fun v w => v = .tuple #[] ∧ St B w (Cl b1026 [.slice A1028 a1027.length c1029, .int .i64 a1031, .slice A1033 a1032.length c1034, .int .u64 a1036, .int .i64 a1037, .int .i64 a1038, .int .i64 a1039, .int .i64 a1040, .int .i64 a1041, .int .i64 a1042, .bool a1043, .int .i64 (r 0), .int .i64 (r 1), .int .i64 (r 2), .int .i64 (r 3), .int .i64 (r 4), .int .i64 (r 5), .int .i64 (r 6), .int .i64 (r 7), .int .i64 (r 8), .int .i64 (r 9), .int .i64 (r 10), .int .i64 (r 11), .int .i64 (r 12), .int .i64 (r 13), .int .i64 (r 14), .int .i64 (r 15), .int .i64 a1044, .slice A1046 a1048.length c1047, .int .i64 a1049] 66 :: OSf E_api_Out 58 (.slice A1046 a1048.length c1047) a1048 :: l) hf) := by
  have h := Holds.of h
  refine enter (args := [.pointer (some ⟨b1026, 0, none⟩), .agg #[.int .i64 a1051.Op, .int .i64 a1051.A, .int .i64 a1051.B, .int .i64 a1051.C]]) Tryd.func58 rfl Tryd.ntmps58 (Nat.le_of_ble_eq_true rfl) ?_
  refine RC.seq ?_
  refine RC.region ?_
  refine RL.e (OW.box (cs := [.int .i64 a1051.Op, .int .i64 a1051.A, .int .i64 a1051.B, .int .i64 a1051.C]) hS rfl rfl) rfl rfl ?_
  rintro _ w ⟨b1063, rfl, hS⟩
  have hS : St B w (Cl b1063 [.int .i64 a1051.Op, .int .i64 a1051.A, .int .i64 a1051.B, .int .i64 a1051.C] 48 :: Cl b1026 [.slice A1028 a1027.length c1029, .int .i64 a1031, .slice A1033 a1032.length c1034, .int .u64 a1036, .int .i64 a1037, .int .i64 a1038, .int .i64 a1039, .int .i64 a1040, .int .i64 a1041, .int .i64 a1042, .bool a1043, .int .i64 (fn1050 0), .int .i64 (fn1050 1), .int .i64 (fn1050 2), .int .i64 (fn1050 3), .int .i64 (fn1050 4), .int .i64 (fn1050 5), .int .i64 (fn1050 6), .int .i64 (fn1050 7), .int .i64 (fn1050 8), .int .i64 (fn1050 9), .int .i64 (fn1050 10), .int .i64 (fn1050 11), .int .i64 (fn1050 12), .int .i64 (fn1050 13), .int .i64 (fn1050 14), .int .i64 (fn1050 15), .int .i64 a1044, .slice A1046 a1048.length c1047, .int .i64 a1049] 66 :: OSf E_api_Out 58 (.slice A1046 a1048.length c1047) a1048 :: l) hf := hS
  refine RL.nil ?_
  refine RQ.then_n ?_
  refine RC.plan (.pure 0 (.pure 1 (.cons 2 true (.pure 3 (.pure 4 (.cons 5 true (.pure 6 (.pure 7 (.pure 8 (.cons 9 true (.pure 10 (.pure 11 (.cons 12 true (.pure 13 (.pure 14 (.pure 15 (.cons 16 true (.pure 17 (.pure 19 (.pure 20 (.cons 18 false (.cons 21 false (.cons 22 false .nil))))))))))))))))))))))) [21, 22] (fun w => St B w (Cl b1063 [.int .i64 a1051.Op, .int .i64 a1051.A, .int .i64 a1051.B, .int .i64 a1051.C] 48 :: Cl b1026 [.slice A1028 a1027.length c1029, .int .i64 a1031, .slice A1033 a1032.length c1034, .int .u64 a1036, .int .i64 a1037, .int .i64 a1038, .int .i64 a1039, .int .i64 a1040, .int .i64 a1041, .int .i64 a1042, .bool a1043, .int .i64 (fn1050 0), .int .i64 (fn1050 1), .int .i64 (fn1050 2), .int .i64 (fn1050 3), .int .i64 (fn1050 4), .int .i64 (fn1050 5), .int .i64 (fn1050 6), .int .i64 (fn1050 7), .int .i64 (fn1050 8), .int .i64 (fn1050 9), .int .i64 (fn1050 10), .int .i64 (fn1050 11), .int .i64 (fn1050 12), .int .i64 (fn1050 13), .int .i64 (fn1050 14), .int .i64 (fn1050 15), .int .i64 a1044, .slice A1046 a1048.length c1047, .int .i64 a1049] 66 :: OSf E_api_Out 58 (.slice A1046 a1048.length c1047) a1048 :: l) hf) follows rfl (by kernel_rfl) NoTmp.body ?_
  have hS := hS.same (w' := { w with drawn := w.drawn + 1 }) rfl rfl
  revert hS
  generalize { w with drawn := w.drawn + 1 } = w
  intro hS
  refine RP.s0 0 rfl (fun w => Vl.move rfl) rfl ?_
  refine RP.s0 1 rfl (fun w => Vl.fieldAddr (a'' := ⟨b1063, 1, none⟩) Tryd.underlying48 rfl Tryd.sizeOf3 rfl rfl) rfl ?_
  refine RP.s 2 rfl rfl hS (fun w hS => Vl.load Tryd.isAgg3 rfl (hS.cell 0 rfl rfl)) rfl ?_
  refine RP.s0 3 rfl (fun w => Vl.move rfl) rfl ?_
  refine RP.s0 4 rfl (fun w => Vl.fieldAddr (a'' := ⟨b1063, 2, none⟩) Tryd.underlying48 rfl Tryd.sizeOf3 rfl rfl) rfl ?_
  refine RP.s 5 rfl rfl hS (fun w hS => Vl.load Tryd.isAgg3 rfl (hS.cell 0 rfl rfl)) rfl ?_
  refine RP.s0 6 rfl (fun w => Vl.nilCheck rfl) rfl ?_
  refine RP.s0 7 rfl (fun w => Vl.fieldAddr (a'' := ⟨b1026, 11, none⟩) Tryd.underlying66 rfl Tryd.sizeOf64 rfl rfl) rfl ?_
  obtain ⟨⟨hq1064, hq1065⟩, h⟩ := h.req
  refine RP.s0 8 rfl (fun w => Vl.indexAddrA (a'' := ⟨b1026, 11 + a1051.B.toNat * 1, none⟩) Tryd.underlying64 Tryd.sizeOf2 rfl rfl hq1064 hq1065 (add_mk _ _ _)) rfl ?_
  refine RP.s 9 rfl rfl hS (fun w hS => Vl.load Tryd.isAgg2 rfl (hS.cell (off := 11 + a1051.B.toNat * 1) (cs := [.slice A1028 a1027.length c1029, .int .i64 a1031, .slice A1033 a1032.length c1034, .int .u64 a1036, .int .i64 a1037, .int .i64 a1038, .int .i64 a1039, .int .i64 a1040, .int .i64 a1041, .int .i64 a1042, .bool a1043] ++ (fc (Value.int .i64) 16 fn1050 ++ [.int .i64 a1044, .slice A1046 a1048.length c1047, .int .i64 a1049])) 1 rfl (seg_get rfl (by omega)))) rfl ?_
  refine RP.s0 10 rfl (fun w => Vl.move rfl) rfl ?_
  refine RP.s0 11 rfl (fun w => Vl.fieldAddr (a'' := ⟨b1063, 3, none⟩) Tryd.underlying48 rfl Tryd.sizeOf3 rfl rfl) rfl ?_
  refine RP.s 12 rfl rfl hS (fun w hS => Vl.load Tryd.isAgg3 rfl (hS.cell 0 rfl rfl)) rfl ?_
  refine RP.s0 13 rfl (fun w => Vl.nilCheck rfl) rfl ?_
  refine RP.s0 14 rfl (fun w => Vl.fieldAddr (a'' := ⟨b1026, 11, none⟩) Tryd.underlying66 rfl Tryd.sizeOf64 rfl rfl) rfl ?_
  obtain ⟨⟨hq1066, hq1067⟩, h⟩ := h.req
  refine RP.s0 15 rfl (fun w => Vl.indexAddrA (a'' := ⟨b1026, 11 + a1051.C.toNat * 1, none⟩) Tryd.underlying64 Tryd.sizeOf2 rfl rfl hq1066 hq1067 (add_mk _ _ _)) rfl ?_
  refine RP.s 16 rfl rfl hS (fun w hS => Vl.load Tryd.isAgg2 rfl (hS.cell (off := 11 + a1051.C.toNat * 1) (cs := [.slice A1028 a1027.length c1029, .int .i64 a1031, .slice A1033 a1032.length c1034, .int .u64 a1036, .int .i64 a1037, .int .i64 a1038, .int .i64 a1039, .int .i64 a1040, .int .i64 a1041, .int .i64 a1042, .bool a1043] ++ (fc (Value.int .i64) 16 fn1050 ++ [.int .i64 a1044, .slice A1046 a1048.length c1047, .int .i64 a1049])) 1 rfl (seg_get rfl (by omega)))) rfl ?_
  refine RP.s0 17 rfl (fun w => Vl.int rfl rfl rfl) rfl ?_
  refine RP.s0 19 rfl (fun w => Vl.nilCheck rfl) rfl ?_
  refine RP.s0 20 rfl (fun w => Vl.fieldAddr (a'' := ⟨b1026, 11, none⟩) Tryd.underlying66 rfl Tryd.sizeOf64 rfl rfl) rfl ?_
  obtain ⟨t1068, hg1069, h⟩ := h.bind
  refine RP.e 18 rfl (OW.callF (ls := [.tmp 21]) rfl Tryd.call75 (vm_truth.ok (decide (fn1050 (a1051.B.toNat * 1) = fn1050 (a1051.C.toNat * 1))) _ hg1069 hS)) rfl rfl ?_
  rintro _ w ⟨rfl, hS⟩
  have hS : St B w (Cl b1063 [.int .i64 a1051.Op, .int .i64 a1051.A, .int .i64 a1051.B, .int .i64 a1051.C] 48 :: Cl b1026 [.slice A1028 a1027.length c1029, .int .i64 a1031, .slice A1033 a1032.length c1034, .int .u64 a1036, .int .i64 a1037, .int .i64 a1038, .int .i64 a1039, .int .i64 a1040, .int .i64 a1041, .int .i64 a1042, .bool a1043, .int .i64 (fn1050 0), .int .i64 (fn1050 1), .int .i64 (fn1050 2), .int .i64 (fn1050 3), .int .i64 (fn1050 4), .int .i64 (fn1050 5), .int .i64 (fn1050 6), .int .i64 (fn1050 7), .int .i64 (fn1050 8), .int .i64 (fn1050 9), .int .i64 (fn1050 10), .int .i64 (fn1050 11), .int .i64 (fn1050 12), .int .i64 (fn1050 13), .int .i64 (fn1050 14), .int .i64 (fn1050 15), .int .i64 a1044, .slice A1046 a1048.length c1047, .int .i64 a1049] 66 :: OSf E_api_Out 58 (.slice A1046 a1048.length c1047) a1048 :: l) hf := hS
  refine ⟨fun _ => hS, ?_⟩
  obtain ⟨⟨hq1070, hq1071⟩, h⟩ := h.req
  refine RP.v1 21 rfl (Vl.indexAddrA (a'' := ⟨b1026, 11 + a1051.A.toNat * 1, none⟩) Tryd.underlying64 Tryd.sizeOf2 rfl rfl hq1070 hq1071 (add_mk _ _ _)) rfl rfl ?_
  refine RP.e0 22 rfl (OW.storeSeg (mk := (Value.int .i64)) (f := fn1050) (n := 16) (m := 11) (pre := [.slice A1028 a1027.length c1029, .int .i64 a1031, .slice A1033 a1032.length c1034, .int .u64 a1036, .int .i64 a1037, .int .i64 a1038, .int .i64 a1039, .int .i64 a1040, .int .i64 a1041, .int .i64 a1042, .bool a1043]) (post := [.int .i64 a1044, .slice A1046 a1048.length c1047, .int .i64 a1049]) (l' := Cl b1063 [.int .i64 a1051.Op, .int .i64 a1051.A, .int .i64 a1051.B, .int .i64 a1051.C] 48 :: Cl b1026 [.slice A1028 a1027.length c1029, .int .i64 a1031, .slice A1033 a1032.length c1034, .int .u64 a1036, .int .i64 a1037, .int .i64 a1038, .int .i64 a1039, .int .i64 a1040, .int .i64 a1041, .int .i64 a1042, .bool a1043, .int .i64 ((upd fn1050 (a1051.A.toNat * 1) t1068) 0), .int .i64 ((upd fn1050 (a1051.A.toNat * 1) t1068) 1), .int .i64 ((upd fn1050 (a1051.A.toNat * 1) t1068) 2), .int .i64 ((upd fn1050 (a1051.A.toNat * 1) t1068) 3), .int .i64 ((upd fn1050 (a1051.A.toNat * 1) t1068) 4), .int .i64 ((upd fn1050 (a1051.A.toNat * 1) t1068) 5), .int .i64 ((upd fn1050 (a1051.A.toNat * 1) t1068) 6), .int .i64 ((upd fn1050 (a1051.A.toNat * 1) t1068) 7), .int .i64 ((upd fn1050 (a1051.A.toNat * 1) t1068) 8), .int .i64 ((upd fn1050 (a1051.A.toNat * 1) t1068) 9), .int .i64 ((upd fn1050 (a1051.A.toNat * 1) t1068) 10), .int .i64 ((upd fn1050 (a1051.A.toNat * 1) t1068) 11), .int .i64 ((upd fn1050 (a1051.A.toNat * 1) t1068) 12), .int .i64 ((upd fn1050 (a1051.A.toNat * 1) t1068) 13), .int .i64 ((upd fn1050 (a1051.A.toNat * 1) t1068) 14), .int .i64 ((upd fn1050 (a1051.A.toNat * 1) t1068) 15), .int .i64 a1044, .slice A1046 a1048.length c1047, .int .i64 a1049] 66 :: OSf E_api_Out 58 (.slice A1046 a1048.length c1047) a1048 :: l) 1 hS rfl rfl rfl rfl Tryd.sizeOf2 (by omega) (fun _ => rfl) (fun _ => rfl) rfl) rfl ?_
  rintro _ w ⟨rfl, hS⟩
  have hS : St B w (Cl b1063 [.int .i64 a1051.Op, .int .i64 a1051.A, .int .i64 a1051.B, .int .i64 a1051.C] 48 :: Cl b1026 [.slice A1028 a1027.length c1029, .int .i64 a1031, .slice A1033 a1032.length c1034, .int .u64 a1036, .int .i64 a1037, .int .i64 a1038, .int .i64 a1039, .int .i64 a1040, .int .i64 a1041, .int .i64 a1042, .bool a1043, .int .i64 ((upd fn1050 (a1051.A.toNat * 1) t1068) 0), .int .i64 ((upd fn1050 (a1051.A.toNat * 1) t1068) 1), .int .i64 ((upd fn1050 (a1051.A.toNat * 1) t1068) 2), .int .i64 ((upd fn1050 (a1051.A.toNat * 1) t1068) 3), .int .i64 ((upd fn1050 (a1051.A.toNat * 1) t1068) 4), .int .i64 ((upd fn1050 (a1051.A.toNat * 1) t1068) 5), .int .i64 ((upd fn1050 (a1051.A.toNat * 1) t1068) 6), .int .i64 ((upd fn1050 (a1051.A.toNat * 1) t1068) 7), .int .i64 ((upd fn1050 (a1051.A.toNat * 1) t1068) 8), .int .i64 ((upd fn1050 (a1051.A.toNat * 1) t1068) 9), .int .i64 ((upd fn1050 (a1051.A.toNat * 1) t1068) 10), .int .i64 ((upd fn1050 (a1051.A.toNat * 1) t1068) 11), .int .i64 ((upd fn1050 (a1051.A.toNat * 1) t1068) 12), .int .i64 ((upd fn1050 (a1051.A.toNat * 1) t1068) 13), .int .i64 ((upd fn1050 (a1051.A.toNat * 1) t1068) 14), .int .i64 ((upd fn1050 (a1051.A.toNat * 1) t1068) 15), .int .i64 a1044, .slice A1046 a1048.length c1047, .int .i64 a1049] 66 :: OSf E_api_Out 58 (.slice A1046 a1048.length c1047) a1048 :: l) hf := hS
  refine ⟨(by intro hx; cases hx), ?_⟩
  refine RP.nil ?_
  have e := h.some
  subst e
  refine RQ.end0 (vs := []) Tryd.results58 trivial ?_
  exact ⟨rfl, (hS.dropAt 0 rfl)⟩

/-! ### (*isochron/vm.cpu).jump: function 59 -/
noncomputable def vm_cpu_jump.f (a1077 : List api_Instr) (a1081 : Int) (a1082 : List api_Link) (a1086 : Int) (a1087 : Int) (a1088 : Int) (a1089 : Int) (a1090 : Int) (a1091 : Int) (a1092 : Int) (a1093 : Bool) (a1094 : Int) (a1098 : List api_Out) (a1099 : Int) (fn1100 : (Nat → Int)) (a1101 : api_Instr) : Option (Int) := some a1101.A
set_option maxRecDepth 100000 in
set_option maxHeartbeats 4000000 in
theorem vm_cpu_jump.ok {B : Base} {w : World} {l : List HProp} {hf : Hp} (a1077 : List api_Instr) (a1081 : Int) (a1082 : List api_Link) (a1086 : Int) (a1087 : Int) (a1088 : Int) (a1089 : Int) (a1090 : Int) (a1091 : Int) (a1092 : Int) (a1093 : Bool) (a1094 : Int) (a1098 : List api_Out) (a1099 : Int) (fn1100 : (Nat → Int)) (a1101 : api_Instr) (b1076 : Nat) (A1078 : Option Addr) (c1079 : Nat) (A1083 : Option Addr) (c1084 : Nat) (A1096 : Option Addr) (c1097 : Nat) (hr1080 : SlR E_api_Instr.rep hf A1078 c1079 a1077) (hr1085 : SlR E_api_Link.rep hf A1083 c1084 a1082) (r : Int) (h : vm_cpu_jump.f a1077 a1081 a1082 a1086 a1087 a1088 a1089 a1090 a1091 a1092 a1093 a1094 a1098 a1099 fn1100 a1101 = some r) (hS : St B w (Cl b1076 [.slice A1078 a1077.length c1079, .int .i64 a1081, .slice A1083 a1082.length c1084, .int .u64 a1086, .int .i64 a1087, .int .i64 a1088, .int .i64 a1089, .int .i64 a1090, .int .i64 a1091, .int .i64 a1092, .bool a1093, .int .i64 (fn1100 0), .int .i64 (fn1100 1), .int .i64 (fn1100 2), .int .i64 (fn1100 3), .int .i64 (fn1100 4), .int .i64 (fn1100 5), .int .i64 (fn1100 6), .int .i64 (fn1100 7), .int .i64 (fn1100 8), .int .i64 (fn1100 9), .int .i64 (fn1100 10), .int .i64 (fn1100 11), .int .i64 (fn1100 12), .int .i64 (fn1100 13), .int .i64 (fn1100 14), .int .i64 (fn1100 15), .int .i64 a1094, .slice A1096 a1098.length c1097, .int .i64 a1099] 66 :: OSf E_api_Out 58 (.slice A1096 a1098.length c1097) a1098 :: l) hf) :
    Calls Tryd.prog 59 #[.pointer (some ⟨b1076, 0, none⟩), .agg #[.int .i64 a1101.Op, .int .i64 a1101.A, .int .i64 a1101.B, .int .i64 a1101.C]] w (Ret fun v w => v = .tuple #[] ∧ St B w (Cl b1076 [.slice A1078 a1077.length c1079, .int .i64 a1081, .slice A1083 a1082.length c1084, .int .u64 a1086, .int .i64 a1087, .int .i64 a1088, .int .i64 a1089, .int .i64 a1090, .int .i64 a1091, .int .i64 a1092, .bool a1093, .int .i64 (fn1100 0), .int .i64 (fn1100 1), .int .i64 (fn1100 2), .int .i64 (fn1100 3), .int .i64 (fn1100 4), .int .i64 (fn1100 5), .int .i64 (fn1100 6), .int .i64 (fn1100 7), .int .i64 (fn1100 8), .int .i64 (fn1100 9), .int .i64 (fn1100 10), .int .i64 (fn1100 11), .int .i64 (fn1100 12), .int .i64 (fn1100 13), .int .i64 (fn1100 14), .int .i64 (fn1100 15), .int .i64 a1094, .slice A1096 a1098.length c1097, .int .i64 r] 66 :: OSf E_api_Out 58 (.slice A1096 a1098.length c1097) a1098 :: l) hf) := by
  have h := Holds.of h
  refine enter (args := [.pointer (some ⟨b1076, 0, none⟩), .agg #[.int .i64 a1101.Op, .int .i64 a1101.A, .int .i64 a1101.B, .int .i64 a1101.C]]) Tryd.func59 rfl Tryd.ntmps59 (Nat.le_of_ble_eq_true rfl) ?_
  refine RC.seq ?_
  refine RC.region ?_
  refine RL.e (OW.box (cs := [.int .i64 a1101.Op, .int .i64 a1101.A, .int .i64 a1101.B, .int .i64 a1101.C]) hS rfl rfl) rfl rfl ?_
  rintro _ w ⟨b1105, rfl, hS⟩
  have hS : St B w (Cl b1105 [.int .i64 a1101.Op, .int .i64 a1101.A, .int .i64 a1101.B, .int .i64 a1101.C] 48 :: Cl b1076 [.slice A1078 a1077.length c1079, .int .i64 a1081, .slice A1083 a1082.length c1084, .int .u64 a1086, .int .i64 a1087, .int .i64 a1088, .int .i64 a1089, .int .i64 a1090, .int .i64 a1091, .int .i64 a1092, .bool a1093, .int .i64 (fn1100 0), .int .i64 (fn1100 1), .int .i64 (fn1100 2), .int .i64 (fn1100 3), .int .i64 (fn1100 4), .int .i64 (fn1100 5), .int .i64 (fn1100 6), .int .i64 (fn1100 7), .int .i64 (fn1100 8), .int .i64 (fn1100 9), .int .i64 (fn1100 10), .int .i64 (fn1100 11), .int .i64 (fn1100 12), .int .i64 (fn1100 13), .int .i64 (fn1100 14), .int .i64 (fn1100 15), .int .i64 a1094, .slice A1096 a1098.length c1097, .int .i64 a1099] 66 :: OSf E_api_Out 58 (.slice A1096 a1098.length c1097) a1098 :: l) hf := hS
  refine RL.nil ?_
  refine RQ.then_n ?_
  refine RC.region ?_
  refine RL.s (Vl.move rfl) rfl ?_
  refine RL.s (Vl.fieldAddr (a'' := ⟨b1105, 1, none⟩) Tryd.underlying48 rfl Tryd.sizeOf3 rfl rfl) rfl ?_
  refine RL.s (Vl.load Tryd.isAgg3 rfl (hS.cell 0 rfl rfl)) rfl ?_
  refine RL.s (Vl.nilCheck rfl) rfl ?_
  refine RL.s (Vl.fieldAddr (a'' := ⟨b1076, 29, none⟩) Tryd.underlying66 rfl Tryd.sizeOf3 rfl rfl) rfl ?_
  refine RL.e0 (OW.store (cs := [.slice A1078 a1077.length c1079, .int .i64 a1081, .slice A1083 a1082.length c1084, .int .u64 a1086, .int .i64 a1087, .int .i64 a1088, .int .i64 a1089, .int .i64 a1090, .int .i64 a1091, .int .i64 a1092, .bool a1093, .int .i64 (fn1100 0), .int .i64 (fn1100 1), .int .i64 (fn1100 2), .int .i64 (fn1100 3), .int .i64 (fn1100 4), .int .i64 (fn1100 5), .int .i64 (fn1100 6), .int .i64 (fn1100 7), .int .i64 (fn1100 8), .int .i64 (fn1100 9), .int .i64 (fn1100 10), .int .i64 (fn1100 11), .int .i64 (fn1100 12), .int .i64 (fn1100 13), .int .i64 (fn1100 14), .int .i64 (fn1100 15), .int .i64 a1094, .slice A1096 a1098.length c1097, .int .i64 a1099]) (vs := [.int .i64 a1101.A]) (l' := Cl b1105 [.int .i64 a1101.Op, .int .i64 a1101.A, .int .i64 a1101.B, .int .i64 a1101.C] 48 :: Cl b1076 [.slice A1078 a1077.length c1079, .int .i64 a1081, .slice A1083 a1082.length c1084, .int .u64 a1086, .int .i64 a1087, .int .i64 a1088, .int .i64 a1089, .int .i64 a1090, .int .i64 a1091, .int .i64 a1092, .bool a1093, .int .i64 (fn1100 0), .int .i64 (fn1100 1), .int .i64 (fn1100 2), .int .i64 (fn1100 3), .int .i64 (fn1100 4), .int .i64 (fn1100 5), .int .i64 (fn1100 6), .int .i64 (fn1100 7), .int .i64 (fn1100 8), .int .i64 (fn1100 9), .int .i64 (fn1100 10), .int .i64 (fn1100 11), .int .i64 (fn1100 12), .int .i64 (fn1100 13), .int .i64 (fn1100 14), .int .i64 (fn1100 15), .int .i64 a1094, .slice A1096 a1098.length c1097, .int .i64 a1101.A] 66 :: OSf E_api_Out 58 (.slice A1096 a1098.length c1097) a1098 :: l) 1 hS rfl rfl rfl rfl Tryd.sizeOf3 rfl rfl rfl rfl) rfl ?_
  rintro _ w ⟨rfl, hS⟩
  have hS : St B w (Cl b1105 [.int .i64 a1101.Op, .int .i64 a1101.A, .int .i64 a1101.B, .int .i64 a1101.C] 48 :: Cl b1076 [.slice A1078 a1077.length c1079, .int .i64 a1081, .slice A1083 a1082.length c1084, .int .u64 a1086, .int .i64 a1087, .int .i64 a1088, .int .i64 a1089, .int .i64 a1090, .int .i64 a1091, .int .i64 a1092, .bool a1093, .int .i64 (fn1100 0), .int .i64 (fn1100 1), .int .i64 (fn1100 2), .int .i64 (fn1100 3), .int .i64 (fn1100 4), .int .i64 (fn1100 5), .int .i64 (fn1100 6), .int .i64 (fn1100 7), .int .i64 (fn1100 8), .int .i64 (fn1100 9), .int .i64 (fn1100 10), .int .i64 (fn1100 11), .int .i64 (fn1100 12), .int .i64 (fn1100 13), .int .i64 (fn1100 14), .int .i64 (fn1100 15), .int .i64 a1094, .slice A1096 a1098.length c1097, .int .i64 a1101.A] 66 :: OSf E_api_Out 58 (.slice A1096 a1098.length c1097) a1098 :: l) hf := hS
  refine RL.nil ?_
  have e := h.some
  subst e
  refine RQ.end0 (vs := []) Tryd.results59 trivial ?_
  exact ⟨rfl, (hS.dropAt 0 rfl)⟩

/-! ### (*isochron/vm.cpu).zero: function 60 -/
noncomputable def vm_cpu_zero.f (a1111 : List api_Instr) (a1115 : Int) (a1116 : List api_Link) (a1120 : Int) (a1121 : Int) (a1122 : Int) (a1123 : Int) (a1124 : Int) (a1125 : Int) (a1126 : Int) (a1127 : Bool) (a1128 : Int) (a1132 : List api_Out) (a1133 : Int) (fn1134 : (Nat → Int)) (a1135 : api_Instr) : Option (Int) := (if 0 ≤ a1135.A ∧ a1135.A < 16 then (if fn1134 (a1135.A.toNat * 1) = 0 then some a1135.B else some a1133) else none)
set_option maxRecDepth 100000 in
set_option maxHeartbeats 4000000 in
theorem vm_cpu_zero.ok {B : Base} {w : World} {l : List HProp} {hf : Hp} (a1111 : List api_Instr) (a1115 : Int) (a1116 : List api_Link) (a1120 : Int) (a1121 : Int) (a1122 : Int) (a1123 : Int) (a1124 : Int) (a1125 : Int) (a1126 : Int) (a1127 : Bool) (a1128 : Int) (a1132 : List api_Out) (a1133 : Int) (fn1134 : (Nat → Int)) (a1135 : api_Instr) (b1110 : Nat) (A1112 : Option Addr) (c1113 : Nat) (A1117 : Option Addr) (c1118 : Nat) (A1130 : Option Addr) (c1131 : Nat) (hr1114 : SlR E_api_Instr.rep hf A1112 c1113 a1111) (hr1119 : SlR E_api_Link.rep hf A1117 c1118 a1116) (r : Int) (h : vm_cpu_zero.f a1111 a1115 a1116 a1120 a1121 a1122 a1123 a1124 a1125 a1126 a1127 a1128 a1132 a1133 fn1134 a1135 = some r) (hS : St B w (Cl b1110 [.slice A1112 a1111.length c1113, .int .i64 a1115, .slice A1117 a1116.length c1118, .int .u64 a1120, .int .i64 a1121, .int .i64 a1122, .int .i64 a1123, .int .i64 a1124, .int .i64 a1125, .int .i64 a1126, .bool a1127, .int .i64 (fn1134 0), .int .i64 (fn1134 1), .int .i64 (fn1134 2), .int .i64 (fn1134 3), .int .i64 (fn1134 4), .int .i64 (fn1134 5), .int .i64 (fn1134 6), .int .i64 (fn1134 7), .int .i64 (fn1134 8), .int .i64 (fn1134 9), .int .i64 (fn1134 10), .int .i64 (fn1134 11), .int .i64 (fn1134 12), .int .i64 (fn1134 13), .int .i64 (fn1134 14), .int .i64 (fn1134 15), .int .i64 a1128, .slice A1130 a1132.length c1131, .int .i64 a1133] 66 :: OSf E_api_Out 58 (.slice A1130 a1132.length c1131) a1132 :: l) hf) :
    Calls Tryd.prog 60 #[.pointer (some ⟨b1110, 0, none⟩), .agg #[.int .i64 a1135.Op, .int .i64 a1135.A, .int .i64 a1135.B, .int .i64 a1135.C]] w (Ret fun v w => v = .tuple #[] ∧ St B w (Cl b1110 [.slice A1112 a1111.length c1113, .int .i64 a1115, .slice A1117 a1116.length c1118, .int .u64 a1120, .int .i64 a1121, .int .i64 a1122, .int .i64 a1123, .int .i64 a1124, .int .i64 a1125, .int .i64 a1126, .bool a1127, .int .i64 (fn1134 0), .int .i64 (fn1134 1), .int .i64 (fn1134 2), .int .i64 (fn1134 3), .int .i64 (fn1134 4), .int .i64 (fn1134 5), .int .i64 (fn1134 6), .int .i64 (fn1134 7), .int .i64 (fn1134 8), .int .i64 (fn1134 9), .int .i64 (fn1134 10), .int .i64 (fn1134 11), .int .i64 (fn1134 12), .int .i64 (fn1134 13), .int .i64 (fn1134 14), .int .i64 (fn1134 15), .int .i64 a1128, .slice A1130 a1132.length c1131, .int .i64 r] 66 :: OSf E_api_Out 58 (.slice A1130 a1132.length c1131) a1132 :: l) hf) := by
  have h := Holds.of h
  refine enter (args := [.pointer (some ⟨b1110, 0, none⟩), .agg #[.int .i64 a1135.Op, .int .i64 a1135.A, .int .i64 a1135.B, .int .i64 a1135.C]]) Tryd.func60 rfl Tryd.ntmps60 (Nat.le_of_ble_eq_true rfl) ?_
  refine RC.seq ?_
  refine RC.region ?_
  refine RL.e (OW.box (cs := [.int .i64 a1135.Op, .int .i64 a1135.A, .int .i64 a1135.B, .int .i64 a1135.C]) hS rfl rfl) rfl rfl ?_
  rintro _ w ⟨b1142, rfl, hS⟩
  have hS : St B w (Cl b1142 [.int .i64 a1135.Op, .int .i64 a1135.A, .int .i64 a1135.B, .int .i64 a1135.C] 48 :: Cl b1110 [.slice A1112 a1111.length c1113, .int .i64 a1115, .slice A1117 a1116.length c1118, .int .u64 a1120, .int .i64 a1121, .int .i64 a1122, .int .i64 a1123, .int .i64 a1124, .int .i64 a1125, .int .i64 a1126, .bool a1127, .int .i64 (fn1134 0), .int .i64 (fn1134 1), .int .i64 (fn1134 2), .int .i64 (fn1134 3), .int .i64 (fn1134 4), .int .i64 (fn1134 5), .int .i64 (fn1134 6), .int .i64 (fn1134 7), .int .i64 (fn1134 8), .int .i64 (fn1134 9), .int .i64 (fn1134 10), .int .i64 (fn1134 11), .int .i64 (fn1134 12), .int .i64 (fn1134 13), .int .i64 (fn1134 14), .int .i64 (fn1134 15), .int .i64 a1128, .slice A1130 a1132.length c1131, .int .i64 a1133] 66 :: OSf E_api_Out 58 (.slice A1130 a1132.length c1131) a1132 :: l) hf := hS
  refine RL.nil ?_
  refine RQ.then_n ?_
  refine RC.seq ?_
  refine RC.plan (.pure 0 (.pure 1 (.cons 2 true (.cons 3 false (.cons 4 false (.cons 5 false (.cons 6 false (.cons 7 false .nil)))))))) [] (fun w => St B w (Cl b1142 [.int .i64 a1135.Op, .int .i64 a1135.A, .int .i64 a1135.B, .int .i64 a1135.C] 48 :: Cl b1110 [.slice A1112 a1111.length c1113, .int .i64 a1115, .slice A1117 a1116.length c1118, .int .u64 a1120, .int .i64 a1121, .int .i64 a1122, .int .i64 a1123, .int .i64 a1124, .int .i64 a1125, .int .i64 a1126, .bool a1127, .int .i64 (fn1134 0), .int .i64 (fn1134 1), .int .i64 (fn1134 2), .int .i64 (fn1134 3), .int .i64 (fn1134 4), .int .i64 (fn1134 5), .int .i64 (fn1134 6), .int .i64 (fn1134 7), .int .i64 (fn1134 8), .int .i64 (fn1134 9), .int .i64 (fn1134 10), .int .i64 (fn1134 11), .int .i64 (fn1134 12), .int .i64 (fn1134 13), .int .i64 (fn1134 14), .int .i64 (fn1134 15), .int .i64 a1128, .slice A1130 a1132.length c1131, .int .i64 a1133] 66 :: OSf E_api_Out 58 (.slice A1130 a1132.length c1131) a1132 :: l) hf) follows rfl (by kernel_rfl) (NoTmp.then NoTmp.body) ?_
  have hS := hS.same (w' := { w with drawn := w.drawn + 1 }) rfl rfl
  revert hS
  generalize { w with drawn := w.drawn + 1 } = w
  intro hS
  refine RP.s0 0 rfl (fun w => Vl.move rfl) rfl ?_
  refine RP.s0 1 rfl (fun w => Vl.fieldAddr (a'' := ⟨b1142, 1, none⟩) Tryd.underlying48 rfl Tryd.sizeOf3 rfl rfl) rfl ?_
  refine RP.s 2 rfl rfl hS (fun w hS => Vl.load Tryd.isAgg3 rfl (hS.cell 0 rfl rfl)) rfl ?_
  refine RP.v1 3 rfl (Vl.nilCheck rfl) rfl rfl ?_
  refine RP.v1 4 rfl (Vl.fieldAddr (a'' := ⟨b1110, 11, none⟩) Tryd.underlying66 rfl Tryd.sizeOf64 rfl rfl) rfl rfl ?_
  obtain ⟨⟨hq1143, hq1144⟩, h⟩ := h.req
  refine RP.v1 5 rfl (Vl.indexAddrA (a'' := ⟨b1110, 11 + a1135.A.toNat * 1, none⟩) Tryd.underlying64 Tryd.sizeOf2 rfl rfl hq1143 hq1144 (add_mk _ _ _)) rfl rfl ?_
  refine RP.v1 6 rfl (Vl.load Tryd.isAgg2 rfl (hS.cell (off := 11 + a1135.A.toNat * 1) (cs := [.slice A1112 a1111.length c1113, .int .i64 a1115, .slice A1117 a1116.length c1118, .int .u64 a1120, .int .i64 a1121, .int .i64 a1122, .int .i64 a1123, .int .i64 a1124, .int .i64 a1125, .int .i64 a1126, .bool a1127] ++ (fc (Value.int .i64) 16 fn1134 ++ [.int .i64 a1128, .slice A1130 a1132.length c1131, .int .i64 a1133])) 1 rfl (seg_get rfl (by omega)))) rfl rfl ?_
  refine RP.v1 7 rfl (Vl.int rfl rfl rfl) rfl rfl ?_
  refine RP.nil ?_
  refine RQ.then_n ?_
  by_cases hc1145 : fn1134 (a1135.A.toNat * 1) = 0
  case pos =>
   have h := h.pos hc1145
   refine RC.re 11 rfl (congrArg Value.bool (decide_eq_true hc1145)) ?_
   refine RC.condT rfl ?_
   refine RC.region ?_
   refine RL.s (Vl.move rfl) rfl ?_
   refine RL.s (Vl.fieldAddr (a'' := ⟨b1142, 2, none⟩) Tryd.underlying48 rfl Tryd.sizeOf3 rfl rfl) rfl ?_
   refine RL.s (Vl.load Tryd.isAgg3 rfl (hS.cell 0 rfl rfl)) rfl ?_
   refine RL.s (Vl.nilCheck rfl) rfl ?_
   refine RL.s (Vl.fieldAddr (a'' := ⟨b1110, 29, none⟩) Tryd.underlying66 rfl Tryd.sizeOf3 rfl rfl) rfl ?_
   refine RL.e0 (OW.store (cs := [.slice A1112 a1111.length c1113, .int .i64 a1115, .slice A1117 a1116.length c1118, .int .u64 a1120, .int .i64 a1121, .int .i64 a1122, .int .i64 a1123, .int .i64 a1124, .int .i64 a1125, .int .i64 a1126, .bool a1127, .int .i64 (fn1134 0), .int .i64 (fn1134 1), .int .i64 (fn1134 2), .int .i64 (fn1134 3), .int .i64 (fn1134 4), .int .i64 (fn1134 5), .int .i64 (fn1134 6), .int .i64 (fn1134 7), .int .i64 (fn1134 8), .int .i64 (fn1134 9), .int .i64 (fn1134 10), .int .i64 (fn1134 11), .int .i64 (fn1134 12), .int .i64 (fn1134 13), .int .i64 (fn1134 14), .int .i64 (fn1134 15), .int .i64 a1128, .slice A1130 a1132.length c1131, .int .i64 a1133]) (vs := [.int .i64 a1135.B]) (l' := Cl b1142 [.int .i64 a1135.Op, .int .i64 a1135.A, .int .i64 a1135.B, .int .i64 a1135.C] 48 :: Cl b1110 [.slice A1112 a1111.length c1113, .int .i64 a1115, .slice A1117 a1116.length c1118, .int .u64 a1120, .int .i64 a1121, .int .i64 a1122, .int .i64 a1123, .int .i64 a1124, .int .i64 a1125, .int .i64 a1126, .bool a1127, .int .i64 (fn1134 0), .int .i64 (fn1134 1), .int .i64 (fn1134 2), .int .i64 (fn1134 3), .int .i64 (fn1134 4), .int .i64 (fn1134 5), .int .i64 (fn1134 6), .int .i64 (fn1134 7), .int .i64 (fn1134 8), .int .i64 (fn1134 9), .int .i64 (fn1134 10), .int .i64 (fn1134 11), .int .i64 (fn1134 12), .int .i64 (fn1134 13), .int .i64 (fn1134 14), .int .i64 (fn1134 15), .int .i64 a1128, .slice A1130 a1132.length c1131, .int .i64 a1135.B] 66 :: OSf E_api_Out 58 (.slice A1130 a1132.length c1131) a1132 :: l) 1 hS rfl rfl rfl rfl Tryd.sizeOf3 rfl rfl rfl rfl) rfl ?_
   rintro _ w ⟨rfl, hS⟩
   have hS : St B w (Cl b1142 [.int .i64 a1135.Op, .int .i64 a1135.A, .int .i64 a1135.B, .int .i64 a1135.C] 48 :: Cl b1110 [.slice A1112 a1111.length c1113, .int .i64 a1115, .slice A1117 a1116.length c1118, .int .u64 a1120, .int .i64 a1121, .int .i64 a1122, .int .i64 a1123, .int .i64 a1124, .int .i64 a1125, .int .i64 a1126, .bool a1127, .int .i64 (fn1134 0), .int .i64 (fn1134 1), .int .i64 (fn1134 2), .int .i64 (fn1134 3), .int .i64 (fn1134 4), .int .i64 (fn1134 5), .int .i64 (fn1134 6), .int .i64 (fn1134 7), .int .i64 (fn1134 8), .int .i64 (fn1134 9), .int .i64 (fn1134 10), .int .i64 (fn1134 11), .int .i64 (fn1134 12), .int .i64 (fn1134 13), .int .i64 (fn1134 14), .int .i64 (fn1134 15), .int .i64 a1128, .slice A1130 a1132.length c1131, .int .i64 a1135.B] 66 :: OSf E_api_Out 58 (.slice A1130 a1132.length c1131) a1132 :: l) hf := hS
   refine RL.nil ?_
   have e := h.some
   subst e
   refine RQ.end0 (vs := []) Tryd.results60 trivial ?_
   exact ⟨rfl, (hS.dropAt 0 rfl)⟩
  case neg =>
   have h := h.neg hc1145
   refine RC.re 11 rfl (congrArg Value.bool (decide_eq_false hc1145)) ?_
   refine RC.condF rfl ?_
   refine RC.skip ?_
   have e := h.some
   subst e
   refine RQ.end0 (vs := []) Tryd.results60 trivial ?_
   exact ⟨rfl, (hS.dropAt 0 rfl)⟩

/-! ### isochron/vtime.Add: function 76 -/
noncomputable def vtime_Add.f (a1197 : Int) (a1198 : Int) : Option (Int × Int) := ((vtime_Valid.f a1197).bind fun t1229 => (if t1229 = true then (if a1198 < 0 then some (0, 1) else (if IntKind.i64.wrap (4611686018427387903 - a1197) < a1198 then some (0, 10) else some (IntKind.i64.wrap (a1197 + a1198), 0))) else some (0, 1)))
set_option maxRecDepth 100000 in
set_option maxHeartbeats 4000000 in
theorem vtime_Add.ok {B : Base} {w : World} {l : List HProp} {hf : Hp} (a1197 : Int) (a1198 : Int) (r : Int × Int) (h : vtime_Add.f a1197 a1198 = some r) (hS : St B w (l) hf) :
    Calls Tryd.prog 76 #[.int .i64 a1197, .int .i64 a1198] w (Ret fun v w => v = .tuple #[.int .i64 r.1, .int .i64 r.2] ∧ St B w (l) hf) := by
  have h := Holds.of h
  refine enter (args := [.int .i64 a1197, .int .i64 a1198]) Tryd.func76 rfl Tryd.ntmps76 (Nat.le_of_ble_eq_true rfl) ?_
  refine RC.seq ?_
  refine RC.region ?_
  refine RL.s (Vl.assign rfl) rfl ?_
  refine RL.s (Vl.assign rfl) rfl ?_
  refine RL.nil ?_
  refine RQ.then_n ?_
  refine RC.seq ?_
  refine RC.block ?_
  refine RC.seq ?_
  refine RC.block ?_
  refine RC.seq ?_
  refine RC.block ?_
  refine RC.block ?_
  refine RC.seq ?_
  refine RC.seq ?_
  refine RC.seq ?_
  refine RC.region ?_
  refine RL.s (Vl.move rfl) rfl ?_
  obtain ⟨t1229, hg1230, h⟩ := h.bind
  refine RL.e (OW.callF (ls := [.tmp 7]) rfl Tryd.call27 (vtime_Valid.ok a1197 _ hg1230 hS)) rfl rfl ?_
  rintro _ w ⟨rfl, hS⟩
  have hS : St B w (l) hf := hS
  refine RL.s (Vl.not rfl) rfl ?_
  refine RL.s (Vl.assign rfl) rfl ?_
  refine RL.nil ?_
  refine RQ.then_n ?_
  by_cases hc1231 : t1229 = true
  case pos =>
   have h := h.pos hc1231
   refine RC.re 6 rfl (congrArg Value.bool (notb_pos hc1231)) ?_
   refine RC.condF rfl ?_
   refine RC.skip ?_
   refine RQ.then_n ?_
   refine RC.seq ?_
   refine RC.seq ?_
   refine RC.region ?_
   refine RL.s (Vl.move rfl) rfl ?_
   refine RL.s (Vl.int rfl rfl rfl) rfl ?_
   refine RL.s (Vl.assign rfl) rfl ?_
   refine RL.nil ?_
   refine RQ.then_n ?_
   by_cases hc1233 : a1198 < 0
   case pos =>
    have h := h.pos hc1233
    refine RC.re 10 rfl (congrArg Value.bool (decide_eq_true hc1233)) ?_
    refine RC.condT rfl ?_
    refine RC.exit ?_
    refine RQ.exitT ?_
    refine RQ.exitT ?_
    refine RQ.inB_miss rfl ?_
    refine RQ.inB_hit ?_
    refine RQ.then_n ?_
    refine RC.seq ?_
    refine RC.seq ?_
    refine RC.region ?_
    refine RL.s (Vl.assign rfl) rfl ?_
    refine RL.s (Vl.assign rfl) rfl ?_
    refine RL.nil ?_
    refine RQ.then_n ?_
    refine RC.ret ?_
    refine RQ.ret ?_
    refine RQ.inB_ret ?_
    refine RQ.ret ?_
    refine RQ.inB_ret ?_
    refine RQ.ret ?_
    have e := h.some
    subst e
    refine RQ.ret0 (vs := [.int .i64 0, .int .i64 1]) Tryd.results76 ⟨rfl, rfl, trivial⟩ ?_
    exact ⟨rfl, hS⟩
   case neg =>
    have h := h.neg hc1233
    refine RC.re 10 rfl (congrArg Value.bool (decide_eq_false hc1233)) ?_
    refine RC.condF rfl ?_
    refine RC.skip ?_
    refine RQ.then_n ?_
    refine RC.seq ?_
    refine RC.region ?_
    refine RL.s (Vl.move rfl) rfl ?_
    refine RL.s (Vl.move rfl) rfl ?_
    refine RL.s (Vl.int rfl rfl rfl) rfl ?_
    refine RL.s (Vl.int rfl rfl rfl) rfl ?_
    refine RL.s (Vl.assign rfl) rfl ?_
    refine RL.nil ?_
    refine RQ.then_n ?_
    by_cases hc1234 : IntKind.i64.wrap (4611686018427387903 - a1197) < a1198
    case pos =>
     have h := h.pos hc1234
     refine RC.re 13 rfl (congrArg Value.bool (decide_eq_true hc1234)) ?_
     refine RC.condT rfl ?_
     refine RC.exit ?_
     refine RQ.exitT ?_
     refine RQ.inB_miss rfl ?_
     refine RQ.inB_miss rfl ?_
     refine RQ.exitT ?_
     refine RQ.inB_hit ?_
     refine RQ.then_n ?_
     refine RC.seq ?_
     refine RC.seq ?_
     refine RC.region ?_
     refine RL.s (Vl.assign rfl) rfl ?_
     refine RL.s (Vl.assign rfl) rfl ?_
     refine RL.nil ?_
     refine RQ.then_n ?_
     refine RC.ret ?_
     refine RQ.ret ?_
     refine RQ.inB_ret ?_
     refine RQ.ret ?_
     have e := h.some
     subst e
     refine RQ.ret0 (vs := [.int .i64 0, .int .i64 10]) Tryd.results76 ⟨rfl, rfl, trivial⟩ ?_
     exact ⟨rfl, hS⟩
    case neg =>
     have h := h.neg hc1234
     refine RC.re 13 rfl (congrArg Value.bool (decide_eq_false hc1234)) ?_
     refine RC.condF rfl ?_
     refine RC.skip ?_
     refine RQ.then_n ?_
     refine RC.exit ?_
     refine RQ.inB_miss rfl ?_
     refine RQ.inB_miss rfl ?_
     refine RQ.exitT ?_
     refine RQ.inB_miss rfl ?_
     refine RQ.exitT ?_
     refine RQ.inB_hit ?_
     refine RQ.then_n ?_
     refine RC.seq ?_
     refine RC.region ?_
     refine RL.s (Vl.move rfl) rfl ?_
     refine RL.s (Vl.move rfl) rfl ?_
     refine RL.s (Vl.int rfl rfl rfl) rfl ?_
     refine RL.s (Vl.assign rfl) rfl ?_
     refine RL.s (Vl.assign rfl) rfl ?_
     refine RL.nil ?_
     refine RQ.then_n ?_
     refine RC.ret ?_
     have e := h.some
     subst e
     refine RQ.ret0 (vs := [.int .i64 (IntKind.i64.wrap (a1197 + a1198)), .int .i64 0]) Tryd.results76 ⟨rfl, rfl, trivial⟩ ?_
     exact ⟨rfl, hS⟩
  case neg =>
   have h := h.neg hc1231
   refine RC.re 6 rfl (congrArg Value.bool (notb_neg hc1231)) ?_
   refine RC.condT rfl ?_
   refine RC.exit ?_
   refine RQ.exitT ?_
   refine RQ.exitT ?_
   refine RQ.inB_hit ?_
   refine RQ.inB_n ?_
   refine RQ.then_n ?_
   refine RC.seq ?_
   refine RC.seq ?_
   refine RC.region ?_
   refine RL.s (Vl.assign rfl) rfl ?_
   refine RL.s (Vl.assign rfl) rfl ?_
   refine RL.nil ?_
   refine RQ.then_n ?_
   refine RC.ret ?_
   refine RQ.ret ?_
   refine RQ.inB_ret ?_
   refine RQ.ret ?_
   refine RQ.inB_ret ?_
   refine RQ.ret ?_
   have e := h.some
   subst e
   refine RQ.ret0 (vs := [.int .i64 0, .int .i64 1]) Tryd.results76 ⟨rfl, rfl, trivial⟩ ?_
   exact ⟨rfl, hS⟩

/-! ### (*isochron/vm.cpu).send: function 61 -/
noncomputable def vm_cpu_send.f (a1151 : List api_Instr) (a1155 : Int) (a1156 : List api_Link) (a1160 : Int) (a1161 : Int) (a1162 : Int) (a1163 : Int) (a1164 : Int) (a1165 : Int) (a1166 : Int) (a1167 : Bool) (a1168 : Int) (a1172 : List api_Out) (a1173 : Int) (fn1174 : (Nat → Int)) (a1175 : api_Instr) : Option ((List api_Out) ⊕ (vm_fault)) := (if (a1156.length : Int) = 0 then some (.inl a1172) else (if (a1172.length : Int) = 8 then some (.inl a1172) else (if 0 ≤ a1175.A ∧ a1175.A < 16 then (if ¬ (a1156.length : Int) = 0 then (if 0 ≤ a1175.B ∧ a1175.B < 16 then (if 0 ≤ a1175.C ∧ a1175.C < 16 then (if 0 ≤ Int.tmod (IntKind.i64.wrap ((Int.tmod (fn1174 (a1175.A.toNat * 1)) (a1156.length : Int)) + (a1156.length : Int))) (a1156.length : Int) ∧ Int.tmod (IntKind.i64.wrap ((Int.tmod (fn1174 (a1175.A.toNat * 1)) (a1156.length : Int)) + (a1156.length : Int))) (a1156.length : Int) < (a1156.length : Int) then (if fn1174 (a1175.B.toNat * 1) < (nth a1156 (Int.tmod (IntKind.i64.wrap ((Int.tmod (fn1174 (a1175.A.toNat * 1)) (a1156.length : Int)) + (a1156.length : Int))) (a1156.length : Int))).Look then some (.inr ((⟨a1173, 50⟩ : vm_fault))) else ((vtime_Add.f a1161 (fn1174 (a1175.B.toNat * 1))).bind fun (y1280, y1281) => (if y1281 = 0 then (if (a1172.length + 1) * 24 ≤ 140737488355328 then some (.inl (a1172 ++ ([(⟨Int.tmod (IntKind.i64.wrap ((Int.tmod (fn1174 (a1175.A.toNat * 1)) (a1156.length : Int)) + (a1156.length : Int))) (a1156.length : Int), fn1174 (a1175.B.toNat * 1), fn1174 (a1175.C.toNat * 1)⟩ : api_Out)]))) else none) else some (.inr ((⟨a1173, y1281⟩ : vm_fault)))))) else none) else none) else none) else none) else none)))
set_option maxRecDepth 100000 in
set_option maxHeartbeats 4000000 in
theorem vm_cpu_send.ok {B : Base} {w : World} {l : List HProp} {hf : Hp} (a1151 : List api_Instr) (a1155 : Int) (a1156 : List api_Link) (a1160 : Int) (a1161 : Int) (a1162 : Int) (a1163 : Int) (a1164 : Int) (a1165 : Int) (a1166 : Int) (a1167 : Bool) (a1168 : Int) (a1172 : List api_Out) (a1173 : Int) (fn1174 : (Nat → Int)) (a1175 : api_Instr) (b1150 : Nat) (A1152 : Option Addr) (c1153 : Nat) (A1157 : Option Addr) (c1158 : Nat) (A1170 : Option Addr) (c1171 : Nat) (hr1154 : SlR E_api_Instr.rep hf A1152 c1153 a1151) (hr1159 : SlR E_api_Link.rep hf A1157 c1158 a1156) (r : (List api_Out) ⊕ (vm_fault)) (h : vm_cpu_send.f a1151 a1155 a1156 a1160 a1161 a1162 a1163 a1164 a1165 a1166 a1167 a1168 a1172 a1173 fn1174 a1175 = some r) (hS : St B w (Cl b1150 [.slice A1152 a1151.length c1153, .int .i64 a1155, .slice A1157 a1156.length c1158, .int .u64 a1160, .int .i64 a1161, .int .i64 a1162, .int .i64 a1163, .int .i64 a1164, .int .i64 a1165, .int .i64 a1166, .bool a1167, .int .i64 (fn1174 0), .int .i64 (fn1174 1), .int .i64 (fn1174 2), .int .i64 (fn1174 3), .int .i64 (fn1174 4), .int .i64 (fn1174 5), .int .i64 (fn1174 6), .int .i64 (fn1174 7), .int .i64 (fn1174 8), .int .i64 (fn1174 9), .int .i64 (fn1174 10), .int .i64 (fn1174 11), .int .i64 (fn1174 12), .int .i64 (fn1174 13), .int .i64 (fn1174 14), .int .i64 (fn1174 15), .int .i64 a1168, .slice A1170 a1172.length c1171, .int .i64 a1173] 66 :: OSf E_api_Out 58 (.slice A1170 a1172.length c1171) a1172 :: l) hf) :
    Calls Tryd.prog 61 #[.pointer (some ⟨b1150, 0, none⟩), .agg #[.int .i64 a1175.Op, .int .i64 a1175.A, .int .i64 a1175.B, .int .i64 a1175.C]] w (RetP (fun v w => match r with | .inl r_ => ∃ (A_1 : Option Addr) (c_2 : Nat), v = .tuple #[] ∧ St B w (OSf E_api_Out 58 (.slice A_1 r_.length c_2) r_ :: Cl b1150 [.slice A1152 a1151.length c1153, .int .i64 a1155, .slice A1157 a1156.length c1158, .int .u64 a1160, .int .i64 a1161, .int .i64 a1162, .int .i64 a1163, .int .i64 a1164, .int .i64 a1165, .int .i64 a1166, .bool a1167, .int .i64 (fn1174 0), .int .i64 (fn1174 1), .int .i64 (fn1174 2), .int .i64 (fn1174 3), .int .i64 (fn1174 4), .int .i64 (fn1174 5), .int .i64 (fn1174 6), .int .i64 (fn1174 7), .int .i64 (fn1174 8), .int .i64 (fn1174 9), .int .i64 (fn1174 10), .int .i64 (fn1174 11), .int .i64 (fn1174 12), .int .i64 (fn1174 13), .int .i64 (fn1174 14), .int .i64 (fn1174 15), .int .i64 a1168, .slice A_1 r_.length c_2, .int .i64 a1173] 66 :: l) hf | .inr (r_) => False) (fun v w => match r with | .inl r_ => False | .inr (r_) => v = .iface 69 (.agg #[.int .i64 r_.at_, .int .i64 r_.why]) ∧ St B w (Cl b1150 [.slice A1152 a1151.length c1153, .int .i64 a1155, .slice A1157 a1156.length c1158, .int .u64 a1160, .int .i64 a1161, .int .i64 a1162, .int .i64 a1163, .int .i64 a1164, .int .i64 a1165, .int .i64 a1166, .bool a1167, .int .i64 (fn1174 0), .int .i64 (fn1174 1), .int .i64 (fn1174 2), .int .i64 (fn1174 3), .int .i64 (fn1174 4), .int .i64 (fn1174 5), .int .i64 (fn1174 6), .int .i64 (fn1174 7), .int .i64 (fn1174 8), .int .i64 (fn1174 9), .int .i64 (fn1174 10), .int .i64 (fn1174 11), .int .i64 (fn1174 12), .int .i64 (fn1174 13), .int .i64 (fn1174 14), .int .i64 (fn1174 15), .int .i64 a1168, .slice A1170 a1172.length c1171, .int .i64 a1173] 66 :: OSf E_api_Out 58 (.slice A1170 a1172.length c1171) a1172 :: l) hf)) := by
  have h := Holds.of h
  refine enter (args := [.pointer (some ⟨b1150, 0, none⟩), .agg #[.int .i64 a1175.Op, .int .i64 a1175.A, .int .i64 a1175.B, .int .i64 a1175.C]]) Tryd.func61 rfl Tryd.ntmps61 (Nat.le_of_ble_eq_true rfl) ?_
  refine RC.seq ?_
  refine RC.region ?_
  refine RL.e (OW.box (cs := [.int .i64 a1175.Op, .int .i64 a1175.A, .int .i64 a1175.B, .int .i64 a1175.C]) hS rfl rfl) rfl rfl ?_
  rintro _ w ⟨b1253, rfl, hS⟩
  have hS : St B w (Cl b1253 [.int .i64 a1175.Op, .int .i64 a1175.A, .int .i64 a1175.B, .int .i64 a1175.C] 48 :: Cl b1150 [.slice A1152 a1151.length c1153, .int .i64 a1155, .slice A1157 a1156.length c1158, .int .u64 a1160, .int .i64 a1161, .int .i64 a1162, .int .i64 a1163, .int .i64 a1164, .int .i64 a1165, .int .i64 a1166, .bool a1167, .int .i64 (fn1174 0), .int .i64 (fn1174 1), .int .i64 (fn1174 2), .int .i64 (fn1174 3), .int .i64 (fn1174 4), .int .i64 (fn1174 5), .int .i64 (fn1174 6), .int .i64 (fn1174 7), .int .i64 (fn1174 8), .int .i64 (fn1174 9), .int .i64 (fn1174 10), .int .i64 (fn1174 11), .int .i64 (fn1174 12), .int .i64 (fn1174 13), .int .i64 (fn1174 14), .int .i64 (fn1174 15), .int .i64 a1168, .slice A1170 a1172.length c1171, .int .i64 a1173] 66 :: OSf E_api_Out 58 (.slice A1170 a1172.length c1171) a1172 :: l) hf := hS
  refine RL.nil ?_
  refine RQ.then_n ?_
  refine RC.seq ?_
  refine RC.region ?_
  refine RL.s (Vl.move rfl) rfl ?_
  refine RL.s (Vl.nilCheck rfl) rfl ?_
  refine RL.s (Vl.fieldAddr (a'' := ⟨b1150, 0, none⟩) Tryd.underlying66 rfl Tryd.sizeOf26 rfl rfl) rfl ?_
  refine RL.s (Vl.fieldAddr (a'' := ⟨b1150, 2, none⟩) Tryd.underlying26 rfl Tryd.sizeOf23 rfl rfl) rfl ?_
  refine RL.s (Vl.load Tryd.isAgg23 rfl (hS.cell 1 rfl rfl)) rfl ?_
  refine RL.s (Vl.lenSl Tryd.underlying23 rfl) rfl ?_
  refine RL.s (Vl.assign rfl) rfl ?_
  refine RL.nil ?_
  refine RQ.then_n ?_
  refine RC.seq ?_
  refine RC.seq ?_
  refine RC.region ?_
  refine RL.s (Vl.move rfl) rfl ?_
  refine RL.s (Vl.int rfl rfl rfl) rfl ?_
  refine RL.s (Vl.move rfl) rfl ?_
  by_cases hc1256 : (a1156.length : Int) = 0
  case pos =>
   have h := h.pos hc1256
   refine RL.re 16 rfl (congrArg Value.bool (decide_eq_true hc1256)) ?_
   refine RL.nn rfl rfl ?_
   refine RL.nn rfl rfl ?_
   refine RL.nn rfl rfl ?_
   refine RL.nn rfl rfl ?_
   refine RL.nn rfl rfl ?_
   refine RL.nn rfl rfl ?_
   refine RL.s (Vl.pickT rfl rfl) rfl ?_
   refine RL.nil ?_
   refine RQ.then_n ?_
   refine RC.condT rfl ?_
   refine RC.ret ?_
   refine RQ.ret ?_
   have e := h.some
   subst e
   refine RQ.retP (vs := []) Tryd.results61 trivial ?_
   exact ⟨A1170, c1171, rfl, (((hS.dropAt 0 rfl).pull 0 rfl rfl).pull 1 rfl rfl)⟩
  case neg =>
   have h := h.neg hc1256
   refine RL.re 16 rfl (congrArg Value.bool (decide_eq_false hc1256)) ?_
   refine RL.sg (Vl.move rfl) rfl rfl ?_
   refine RL.sg (Vl.nilCheck rfl) rfl rfl ?_
   refine RL.sg (Vl.fieldAddr (a'' := ⟨b1150, 28, none⟩) Tryd.underlying66 rfl Tryd.sizeOf34 rfl rfl) rfl rfl ?_
   refine RL.sg (Vl.load Tryd.isAgg34 rfl (hS.cell 1 rfl rfl)) rfl rfl ?_
   refine RL.sg (Vl.lenSl Tryd.underlying34 rfl) rfl rfl ?_
   refine RL.sg (Vl.int rfl rfl rfl) rfl rfl ?_
   refine RL.s (Vl.pickF rfl rfl) rfl ?_
   refine RL.nil ?_
   refine RQ.then_n ?_
   by_cases hc1257 : (a1172.length : Int) = 8
   case pos =>
    have h := h.pos hc1257
    refine RC.re 23 rfl (congrArg Value.bool (decide_eq_true hc1257)) ?_
    refine RC.condT rfl ?_
    refine RC.ret ?_
    refine RQ.ret ?_
    have e := h.some
    subst e
    refine RQ.retP (vs := []) Tryd.results61 trivial ?_
    exact ⟨A1170, c1171, rfl, (((hS.dropAt 0 rfl).pull 0 rfl rfl).pull 1 rfl rfl)⟩
   case neg =>
    have h := h.neg hc1257
    refine RC.re 23 rfl (congrArg Value.bool (decide_eq_false hc1257)) ?_
    refine RC.condF rfl ?_
    refine RC.skip ?_
    refine RQ.then_n ?_
    refine RC.seq ?_
    refine RC.plan (.pure 0 (.pure 1 (.cons 2 true (.pure 3 (.pure 4 (.pure 5 (.cons 6 true (.pure 7 (.pure 8 (.pure 9 (.pure 10 (.pure 11 (.pure 12 (.pure 13 (.pure 14 (.cons 15 true (.pure 16 (.pure 17 (.pure 18 (.cons 19 true (.pure 20 (.pure 21 (.cons 22 true (.pure 23 (.pure 24 (.pure 25 (.cons 26 true (.pure 27 (.cons 28 false (.cons 29 false .nil)))))))))))))))))))))))))))))) [29] (fun w => St B w (Cl b1253 [.int .i64 a1175.Op, .int .i64 a1175.A, .int .i64 a1175.B, .int .i64 a1175.C] 48 :: Cl b1150 [.slice A1152 a1151.length c1153, .int .i64 a1155, .slice A1157 a1156.length c1158, .int .u64 a1160, .int .i64 a1161, .int .i64 a1162, .int .i64 a1163, .int .i64 a1164, .int .i64 a1165, .int .i64 a1166, .bool a1167, .int .i64 (fn1174 0), .int .i64 (fn1174 1), .int .i64 (fn1174 2), .int .i64 (fn1174 3), .int .i64 (fn1174 4), .int .i64 (fn1174 5), .int .i64 (fn1174 6), .int .i64 (fn1174 7), .int .i64 (fn1174 8), .int .i64 (fn1174 9), .int .i64 (fn1174 10), .int .i64 (fn1174 11), .int .i64 (fn1174 12), .int .i64 (fn1174 13), .int .i64 (fn1174 14), .int .i64 (fn1174 15), .int .i64 a1168, .slice A1170 a1172.length c1171, .int .i64 a1173] 66 :: OSf E_api_Out 58 (.slice A1170 a1172.length c1171) a1172 :: l) hf) follows rfl (by kernel_rfl) (NoTmp.then NoTmp.body) ?_
    have hS := hS.same (w' := { w with drawn := w.drawn + 1 }) rfl rfl
    revert hS
    generalize { w with drawn := w.drawn + 1 } = w
    intro hS
    refine RP.s0 0 rfl (fun w => Vl.move rfl) rfl ?_
    refine RP.s0 1 rfl (fun w => Vl.fieldAddr (a'' := ⟨b1253, 1, none⟩) Tryd.underlying48 rfl Tryd.sizeOf3 rfl rfl) rfl ?_
    refine RP.s 2 rfl rfl hS (fun w hS => Vl.load Tryd.isAgg3 rfl (hS.cell 0 rfl rfl)) rfl ?_
    refine RP.s0 3 rfl (fun w => Vl.nilCheck rfl) rfl ?_
    refine RP.s0 4 rfl (fun w => Vl.fieldAddr (a'' := ⟨b1150, 11, none⟩) Tryd.underlying66 rfl Tryd.sizeOf64 rfl rfl) rfl ?_
    obtain ⟨⟨hq1258, hq1259⟩, h⟩ := h.req
    refine RP.s0 5 rfl (fun w => Vl.indexAddrA (a'' := ⟨b1150, 11 + a1175.A.toNat * 1, none⟩) Tryd.underlying64 Tryd.sizeOf2 rfl rfl hq1258 hq1259 (add_mk _ _ _)) rfl ?_
    refine RP.s 6 rfl rfl hS (fun w hS => Vl.load Tryd.isAgg2 rfl (hS.cell (off := 11 + a1175.A.toNat * 1) (cs := [.slice A1152 a1151.length c1153, .int .i64 a1155, .slice A1157 a1156.length c1158, .int .u64 a1160, .int .i64 a1161, .int .i64 a1162, .int .i64 a1163, .int .i64 a1164, .int .i64 a1165, .int .i64 a1166, .bool a1167] ++ (fc (Value.int .i64) 16 fn1174 ++ [.int .i64 a1168, .slice A1170 a1172.length c1171, .int .i64 a1173])) 1 rfl (seg_get rfl (by omega)))) rfl ?_
    refine RP.s0 7 rfl (fun w => Vl.move rfl) rfl ?_
    obtain ⟨hq1260, h⟩ := h.req
    refine RP.s0 8 rfl (fun w => Vl.rem rfl rfl hq1260) rfl ?_
    refine RP.s0 9 rfl (fun w => Vl.move rfl) rfl ?_
    refine RP.s0 10 rfl (fun w => Vl.int rfl rfl rfl) rfl ?_
    refine RP.s0 11 rfl (fun w => Vl.move rfl) rfl ?_
    refine RP.s0 12 rfl (fun w => Vl.rem rfl rfl hq1260) rfl ?_
    refine RP.s0 13 rfl (fun w => Vl.move rfl) rfl ?_
    refine RP.s0 14 rfl (fun w => Vl.fieldAddr (a'' := ⟨b1253, 2, none⟩) Tryd.underlying48 rfl Tryd.sizeOf3 rfl rfl) rfl ?_
    refine RP.s 15 rfl rfl hS (fun w hS => Vl.load Tryd.isAgg3 rfl (hS.cell 0 rfl rfl)) rfl ?_
    refine RP.s0 16 rfl (fun w => Vl.nilCheck rfl) rfl ?_
    refine RP.s0 17 rfl (fun w => Vl.fieldAddr (a'' := ⟨b1150, 11, none⟩) Tryd.underlying66 rfl Tryd.sizeOf64 rfl rfl) rfl ?_
    obtain ⟨⟨hq1261, hq1262⟩, h⟩ := h.req
    refine RP.s0 18 rfl (fun w => Vl.indexAddrA (a'' := ⟨b1150, 11 + a1175.B.toNat * 1, none⟩) Tryd.underlying64 Tryd.sizeOf2 rfl rfl hq1261 hq1262 (add_mk _ _ _)) rfl ?_
    refine RP.s 19 rfl rfl hS (fun w hS => Vl.load Tryd.isAgg2 rfl (hS.cell (off := 11 + a1175.B.toNat * 1) (cs := [.slice A1152 a1151.length c1153, .int .i64 a1155, .slice A1157 a1156.length c1158, .int .u64 a1160, .int .i64 a1161, .int .i64 a1162, .int .i64 a1163, .int .i64 a1164, .int .i64 a1165, .int .i64 a1166, .bool a1167] ++ (fc (Value.int .i64) 16 fn1174 ++ [.int .i64 a1168, .slice A1170 a1172.length c1171, .int .i64 a1173])) 1 rfl (seg_get rfl (by omega)))) rfl ?_
    refine RP.s0 20 rfl (fun w => Vl.move rfl) rfl ?_
    refine RP.s0 21 rfl (fun w => Vl.fieldAddr (a'' := ⟨b1253, 3, none⟩) Tryd.underlying48 rfl Tryd.sizeOf3 rfl rfl) rfl ?_
    refine RP.s 22 rfl rfl hS (fun w hS => Vl.load Tryd.isAgg3 rfl (hS.cell 0 rfl rfl)) rfl ?_
    refine RP.s0 23 rfl (fun w => Vl.nilCheck rfl) rfl ?_
    refine RP.s0 24 rfl (fun w => Vl.fieldAddr (a'' := ⟨b1150, 11, none⟩) Tryd.underlying66 rfl Tryd.sizeOf64 rfl rfl) rfl ?_
    obtain ⟨⟨hq1263, hq1264⟩, h⟩ := h.req
    refine RP.s0 25 rfl (fun w => Vl.indexAddrA (a'' := ⟨b1150, 11 + a1175.C.toNat * 1, none⟩) Tryd.underlying64 Tryd.sizeOf2 rfl rfl hq1263 hq1264 (add_mk _ _ _)) rfl ?_
    refine RP.s 26 rfl rfl hS (fun w hS => Vl.load Tryd.isAgg2 rfl (hS.cell (off := 11 + a1175.C.toNat * 1) (cs := [.slice A1152 a1151.length c1153, .int .i64 a1155, .slice A1157 a1156.length c1158, .int .u64 a1160, .int .i64 a1161, .int .i64 a1162, .int .i64 a1163, .int .i64 a1164, .int .i64 a1165, .int .i64 a1166, .bool a1167] ++ (fc (Value.int .i64) 16 fn1174 ++ [.int .i64 a1168, .slice A1170 a1172.length c1171, .int .i64 a1173])) 1 rfl (seg_get rfl (by omega)))) rfl ?_
    refine RP.s0 27 rfl (fun w => Vl.build (v := .agg #[.int .i64 (Int.tmod (IntKind.i64.wrap ((Int.tmod (fn1174 (a1175.A.toNat * 1)) (a1156.length : Int)) + (a1156.length : Int))) (a1156.length : Int)), .int .i64 (fn1174 (a1175.B.toNat * 1)), .int .i64 (fn1174 (a1175.C.toNat * 1))]) (parts := [(0, .tmp 36), (1, .tmp 43), (2, .tmp 50)]) rfl (by kernel_rfl)) rfl ?_
    refine RP.e 28 rfl (OW.alloc (cs := [.int .i64 0, .int .i64 0, .int .i64 0]) hS Tryd.zeroValue58 rfl) rfl rfl ?_
    rintro _ w ⟨b1266, rfl, hS⟩
    have hS : St B w (Cl b1266 [.int .i64 0, .int .i64 0, .int .i64 0] 58 :: Cl b1253 [.int .i64 a1175.Op, .int .i64 a1175.A, .int .i64 a1175.B, .int .i64 a1175.C] 48 :: Cl b1150 [.slice A1152 a1151.length c1153, .int .i64 a1155, .slice A1157 a1156.length c1158, .int .u64 a1160, .int .i64 a1161, .int .i64 a1162, .int .i64 a1163, .int .i64 a1164, .int .i64 a1165, .int .i64 a1166, .bool a1167, .int .i64 (fn1174 0), .int .i64 (fn1174 1), .int .i64 (fn1174 2), .int .i64 (fn1174 3), .int .i64 (fn1174 4), .int .i64 (fn1174 5), .int .i64 (fn1174 6), .int .i64 (fn1174 7), .int .i64 (fn1174 8), .int .i64 (fn1174 9), .int .i64 (fn1174 10), .int .i64 (fn1174 11), .int .i64 (fn1174 12), .int .i64 (fn1174 13), .int .i64 (fn1174 14), .int .i64 (fn1174 15), .int .i64 a1168, .slice A1170 a1172.length c1171, .int .i64 a1173] 66 :: OSf E_api_Out 58 (.slice A1170 a1172.length c1171) a1172 :: l) hf := hS
    refine ⟨fun _ => (hS.dropAt 0 rfl), ?_⟩
    refine RP.e0 29 rfl (OW.store (cs := [.int .i64 0, .int .i64 0, .int .i64 0]) (vs := [.int .i64 (Int.tmod (IntKind.i64.wrap ((Int.tmod (fn1174 (a1175.A.toNat * 1)) (a1156.length : Int)) + (a1156.length : Int))) (a1156.length : Int)), .int .i64 (fn1174 (a1175.B.toNat * 1)), .int .i64 (fn1174 (a1175.C.toNat * 1))]) (l' := Cl b1266 [.int .i64 (Int.tmod (IntKind.i64.wrap ((Int.tmod (fn1174 (a1175.A.toNat * 1)) (a1156.length : Int)) + (a1156.length : Int))) (a1156.length : Int)), .int .i64 (fn1174 (a1175.B.toNat * 1)), .int .i64 (fn1174 (a1175.C.toNat * 1))] 58 :: Cl b1253 [.int .i64 a1175.Op, .int .i64 a1175.A, .int .i64 a1175.B, .int .i64 a1175.C] 48 :: Cl b1150 [.slice A1152 a1151.length c1153, .int .i64 a1155, .slice A1157 a1156.length c1158, .int .u64 a1160, .int .i64 a1161, .int .i64 a1162, .int .i64 a1163, .int .i64 a1164, .int .i64 a1165, .int .i64 a1166, .bool a1167, .int .i64 (fn1174 0), .int .i64 (fn1174 1), .int .i64 (fn1174 2), .int .i64 (fn1174 3), .int .i64 (fn1174 4), .int .i64 (fn1174 5), .int .i64 (fn1174 6), .int .i64 (fn1174 7), .int .i64 (fn1174 8), .int .i64 (fn1174 9), .int .i64 (fn1174 10), .int .i64 (fn1174 11), .int .i64 (fn1174 12), .int .i64 (fn1174 13), .int .i64 (fn1174 14), .int .i64 (fn1174 15), .int .i64 a1168, .slice A1170 a1172.length c1171, .int .i64 a1173] 66 :: OSf E_api_Out 58 (.slice A1170 a1172.length c1171) a1172 :: l) 0 hS rfl rfl rfl rfl Tryd.sizeOf58 rfl rfl rfl rfl) rfl ?_
    rintro _ w ⟨rfl, hS⟩
    have hS : St B w (Cl b1266 [.int .i64 (Int.tmod (IntKind.i64.wrap ((Int.tmod (fn1174 (a1175.A.toNat * 1)) (a1156.length : Int)) + (a1156.length : Int))) (a1156.length : Int)), .int .i64 (fn1174 (a1175.B.toNat * 1)), .int .i64 (fn1174 (a1175.C.toNat * 1))] 58 :: Cl b1253 [.int .i64 a1175.Op, .int .i64 a1175.A, .int .i64 a1175.B, .int .i64 a1175.C] 48 :: Cl b1150 [.slice A1152 a1151.length c1153, .int .i64 a1155, .slice A1157 a1156.length c1158, .int .u64 a1160, .int .i64 a1161, .int .i64 a1162, .int .i64 a1163, .int .i64 a1164, .int .i64 a1165, .int .i64 a1166, .bool a1167, .int .i64 (fn1174 0), .int .i64 (fn1174 1), .int .i64 (fn1174 2), .int .i64 (fn1174 3), .int .i64 (fn1174 4), .int .i64 (fn1174 5), .int .i64 (fn1174 6), .int .i64 (fn1174 7), .int .i64 (fn1174 8), .int .i64 (fn1174 9), .int .i64 (fn1174 10), .int .i64 (fn1174 11), .int .i64 (fn1174 12), .int .i64 (fn1174 13), .int .i64 (fn1174 14), .int .i64 (fn1174 15), .int .i64 a1168, .slice A1170 a1172.length c1171, .int .i64 a1173] 66 :: OSf E_api_Out 58 (.slice A1170 a1172.length c1171) a1172 :: l) hf := hS
    refine ⟨(by intro hx; cases hx), ?_⟩
    refine RP.nil ?_
    refine RQ.then_n ?_
    refine RC.seq ?_
    refine RC.seq ?_
    refine RC.plan (.pure 0 (.cons 1 true (.pure 2 (.pure 3 (.pure 4 (.pure 5 (.cons 6 true (.cons 7 false (.cons 8 false (.cons 9 false (.cons 10 false (.cons 11 false (.cons 12 false .nil))))))))))))) [] (fun w => St B w (Cl b1266 [.int .i64 (Int.tmod (IntKind.i64.wrap ((Int.tmod (fn1174 (a1175.A.toNat * 1)) (a1156.length : Int)) + (a1156.length : Int))) (a1156.length : Int)), .int .i64 (fn1174 (a1175.B.toNat * 1)), .int .i64 (fn1174 (a1175.C.toNat * 1))] 58 :: Cl b1253 [.int .i64 a1175.Op, .int .i64 a1175.A, .int .i64 a1175.B, .int .i64 a1175.C] 48 :: Cl b1150 [.slice A1152 a1151.length c1153, .int .i64 a1155, .slice A1157 a1156.length c1158, .int .u64 a1160, .int .i64 a1161, .int .i64 a1162, .int .i64 a1163, .int .i64 a1164, .int .i64 a1165, .int .i64 a1166, .bool a1167, .int .i64 (fn1174 0), .int .i64 (fn1174 1), .int .i64 (fn1174 2), .int .i64 (fn1174 3), .int .i64 (fn1174 4), .int .i64 (fn1174 5), .int .i64 (fn1174 6), .int .i64 (fn1174 7), .int .i64 (fn1174 8), .int .i64 (fn1174 9), .int .i64 (fn1174 10), .int .i64 (fn1174 11), .int .i64 (fn1174 12), .int .i64 (fn1174 13), .int .i64 (fn1174 14), .int .i64 (fn1174 15), .int .i64 a1168, .slice A1170 a1172.length c1171, .int .i64 a1173] 66 :: OSf E_api_Out 58 (.slice A1170 a1172.length c1171) a1172 :: l) hf) follows rfl (by kernel_rfl) (NoTmp.then (NoTmp.then NoTmp.body)) ?_
    have hS := hS.same (w' := { w with drawn := w.drawn + 1 }) rfl rfl
    revert hS
    generalize { w with drawn := w.drawn + 1 } = w
    intro hS
    refine RP.s0 0 rfl (fun w => Vl.fieldAddr (a'' := ⟨b1266, 1, none⟩) Tryd.underlying58 rfl Tryd.sizeOf2 rfl rfl) rfl ?_
    refine RP.s 1 rfl rfl hS (fun w hS => Vl.load Tryd.isAgg2 rfl (hS.cell 0 rfl rfl)) rfl ?_
    refine RP.s0 2 rfl (fun w => Vl.move rfl) rfl ?_
    refine RP.s0 3 rfl (fun w => Vl.nilCheck rfl) rfl ?_
    refine RP.s0 4 rfl (fun w => Vl.fieldAddr (a'' := ⟨b1150, 0, none⟩) Tryd.underlying66 rfl Tryd.sizeOf26 rfl rfl) rfl ?_
    refine RP.s0 5 rfl (fun w => Vl.fieldAddr (a'' := ⟨b1150, 2, none⟩) Tryd.underlying26 rfl Tryd.sizeOf23 rfl rfl) rfl ?_
    refine RP.s 6 rfl rfl hS (fun w hS => Vl.load Tryd.isAgg23 rfl (hS.cell 2 rfl rfl)) rfl ?_
    refine RP.v1 7 rfl (Vl.fieldAddr (a'' := ⟨b1266, 0, none⟩) Tryd.underlying58 rfl Tryd.sizeOf3 rfl rfl) rfl rfl ?_
    refine RP.v1 8 rfl (Vl.load Tryd.isAgg3 rfl (hS.cell 0 rfl rfl)) rfl rfl ?_
    obtain ⟨⟨hq1270, hq1271⟩, h⟩ := h.req
    refine RP.v1 9 rfl (Vl.indexAddr Tryd.underlying23 Tryd.sizeOf56 rfl rfl ((hr1159.2.world hS.sub).adr hq1270 hq1271) hq1270 hq1271 rfl) rfl rfl ?_
    refine RP.v1 10 rfl (Vl.fieldAddr (a'' := (ad A1157).add ((Int.tmod (IntKind.i64.wrap ((Int.tmod (fn1174 (a1175.A.toNat * 1)) (a1156.length : Int)) + (a1156.length : Int))) (a1156.length : Int)).toNat * 4 + 2)) Tryd.underlying56 rfl Tryd.sizeOf2 rfl (add_add _ _ _)) rfl rfl ?_
    refine RP.v1 11 rfl (Vl.load Tryd.isAgg2 rfl ((hr1159.2.world hS.sub).cell (j := 2) hq1270 hq1271 rfl)) rfl rfl ?_
    refine RP.v1 12 rfl (Vl.int rfl rfl rfl) rfl rfl ?_
    refine RP.nil ?_
    refine RQ.then_n ?_
    by_cases hc1272 : fn1174 (a1175.B.toNat * 1) < (nth a1156 (Int.tmod (IntKind.i64.wrap ((Int.tmod (fn1174 (a1175.A.toNat * 1)) (a1156.length : Int)) + (a1156.length : Int))) (a1156.length : Int))).Look
    case pos =>
     have h := h.pos hc1272
     refine RC.re 64 rfl (congrArg Value.bool (decide_eq_true hc1272)) ?_
     refine RC.condT rfl ?_
     refine RC.region ?_
     refine RL.s (Vl.move rfl) rfl ?_
     refine RL.s (Vl.nilCheck rfl) rfl ?_
     refine RL.s (Vl.fieldAddr (a'' := ⟨b1150, 29, none⟩) Tryd.underlying66 rfl Tryd.sizeOf3 rfl rfl) rfl ?_
     refine RL.s (Vl.load Tryd.isAgg3 rfl (hS.cell 2 rfl rfl)) rfl ?_
     refine RL.s (Vl.build (v := .agg #[.int .i64 a1173, .int .i64 50]) (parts := [(0, .tmp 68), (1, .const (.int .i64 50))]) rfl (by kernel_rfl)) rfl ?_
     refine RL.s (Vl.makeIface Tryd.underlying69 rfl rfl) rfl ?_
     refine RL.panic rfl ?_
     refine RQ.panT ?_
     have e := h.some
     subst e
     refine RQ.pan0 ?_
     exact ⟨rfl, ((hS.dropAt 0 rfl).dropAt 0 rfl)⟩
    case neg =>
     have h := h.neg hc1272
     refine RC.re 64 rfl (congrArg Value.bool (decide_eq_false hc1272)) ?_
     refine RC.condF rfl ?_
     refine RC.skip ?_
     refine RQ.then_n ?_
     refine RC.seq ?_
     refine RC.seq ?_
     refine RC.plan (.pure 0 (.pure 1 (.pure 2 (.pure 3 (.pure 4 (.cons 5 true (.pure 6 (.cons 7 true (.cons 8 false (.pure 9 (.pure 10 (.pure 11 (.cons 12 false (.cons 13 false .nil)))))))))))))) [12, 13] (fun w => St B w (Cl b1266 [.int .i64 (Int.tmod (IntKind.i64.wrap ((Int.tmod (fn1174 (a1175.A.toNat * 1)) (a1156.length : Int)) + (a1156.length : Int))) (a1156.length : Int)), .int .i64 (fn1174 (a1175.B.toNat * 1)), .int .i64 (fn1174 (a1175.C.toNat * 1))] 58 :: Cl b1253 [.int .i64 a1175.Op, .int .i64 a1175.A, .int .i64 a1175.B, .int .i64 a1175.C] 48 :: Cl b1150 [.slice A1152 a1151.length c1153, .int .i64 a1155, .slice A1157 a1156.length c1158, .int .u64 a1160, .int .i64 a1161, .int .i64 a1162, .int .i64 a1163, .int .i64 a1164, .int .i64 a1165, .int .i64 a1166, .bool a1167, .int .i64 (fn1174 0), .int .i64 (fn1174 1), .int .i64 (fn1174 2), .int .i64 (fn1174 3), .int .i64 (fn1174 4), .int .i64 (fn1174 5), .int .i64 (fn1174 6), .int .i64 (fn1174 7), .int .i64 (fn1174 8), .int .i64 (fn1174 9), .int .i64 (fn1174 10), .int .i64 (fn1174 11), .int .i64 (fn1174 12), .int .i64 (fn1174 13), .int .i64 (fn1174 14), .int .i64 (fn1174 15), .int .i64 a1168, .slice A1170 a1172.length c1171, .int .i64 a1173] 66 :: OSf E_api_Out 58 (.slice A1170 a1172.length c1171) a1172 :: l) hf) follows rfl (by kernel_rfl) (NoTmp.then (NoTmp.then NoTmp.body)) ?_
     have hS := hS.same (w' := { w with drawn := w.drawn + 1 }) rfl rfl
     revert hS
     generalize { w with drawn := w.drawn + 1 } = w
     intro hS
     refine RP.s0 0 rfl (fun w => Vl.move rfl) rfl ?_
     refine RP.s0 1 rfl (fun w => Vl.nilCheck rfl) rfl ?_
     refine RP.s0 2 rfl (fun w => Vl.fieldAddr (a'' := ⟨b1150, 4, none⟩) Tryd.underlying66 rfl Tryd.sizeOf33 rfl rfl) rfl ?_
     refine RP.s0 3 rfl (fun w => Vl.fieldAddr (a'' := ⟨b1150, 4, none⟩) Tryd.underlying33 rfl Tryd.sizeOf31 rfl rfl) rfl ?_
     refine RP.s0 4 rfl (fun w => Vl.fieldAddr (a'' := ⟨b1150, 4, none⟩) Tryd.underlying31 rfl Tryd.sizeOf2 rfl rfl) rfl ?_
     refine RP.s 5 rfl rfl hS (fun w hS => Vl.load Tryd.isAgg2 rfl (hS.cell 2 rfl rfl)) rfl ?_
     refine RP.s0 6 rfl (fun w => Vl.fieldAddr (a'' := ⟨b1266, 1, none⟩) Tryd.underlying58 rfl Tryd.sizeOf2 rfl rfl) rfl ?_
     refine RP.s 7 rfl rfl hS (fun w hS => Vl.load Tryd.isAgg2 rfl (hS.cell 0 rfl rfl)) rfl ?_
     obtain ⟨t1278, hg1279, h⟩ := h.bind
     obtain ⟨y1280, y1281⟩ := t1278
     refine RP.e 8 rfl (OW.callF (ls := [.tmp 77, .tmp 79]) rfl Tryd.call76 (vtime_Add.ok a1161 (fn1174 (a1175.B.toNat * 1)) _ hg1279 hS)) rfl rfl ?_
     rintro _ w ⟨rfl, hS⟩
     have hS : St B w (Cl b1266 [.int .i64 (Int.tmod (IntKind.i64.wrap ((Int.tmod (fn1174 (a1175.A.toNat * 1)) (a1156.length : Int)) + (a1156.length : Int))) (a1156.length : Int)), .int .i64 (fn1174 (a1175.B.toNat * 1)), .int .i64 (fn1174 (a1175.C.toNat * 1))] 58 :: Cl b1253 [.int .i64 a1175.Op, .int .i64 a1175.A, .int .i64 a1175.B, .int .i64 a1175.C] 48 :: Cl b1150 [.slice A1152 a1151.length c1153, .int .i64 a1155, .slice A1157 a1156.length c1158, .int .u64 a1160, .int .i64 a1161, .int .i64 a1162, .int .i64 a1163, .int .i64 a1164, .int .i64 a1165, .int .i64 a1166, .bool a1167, .int .i64 (fn1174 0), .int .i64 (fn1174 1), .int .i64 (fn1174 2), .int .i64 (fn1174 3), .int .i64 (fn1174 4), .int .i64 (fn1174 5), .int .i64 (fn1174 6), .int .i64 (fn1174 7), .int .i64 (fn1174 8), .int .i64 (fn1174 9), .int .i64 (fn1174 10), .int .i64 (fn1174 11), .int .i64 (fn1174 12), .int .i64 (fn1174 13), .int .i64 (fn1174 14), .int .i64 (fn1174 15), .int .i64 a1168, .slice A1170 a1172.length c1171, .int .i64 a1173] 66 :: OSf E_api_Out 58 (.slice A1170 a1172.length c1171) a1172 :: l) hf := hS
     refine ⟨fun _ => hS, ?_⟩
     refine RP.s0 9 rfl (fun w => Vl.move rfl) rfl ?_
     refine RP.s0 10 rfl (fun w => Vl.extract rfl rfl) rfl ?_
     refine RP.s0 11 rfl (fun w => Vl.extract rfl rfl) rfl ?_
     refine RP.v1 12 rfl (Vl.assign rfl) rfl rfl ?_
     refine RP.v1 13 rfl (Vl.assign rfl) rfl rfl ?_
     refine RP.nil ?_
     refine RQ.then_n ?_
     refine RC.seq ?_
     refine RC.region ?_
     refine RL.s (Vl.move rfl) rfl ?_
     refine RL.s (Vl.int rfl rfl rfl) rfl ?_
     refine RL.nil ?_
     refine RQ.then_n ?_
     by_cases hc1282 : y1281 = 0
     case pos =>
      have h := h.pos hc1282
      refine RC.re 84 rfl (congrArg Value.bool (notdec_pos hc1282)) ?_
      refine RC.condF rfl ?_
      refine RC.skip ?_
      refine RQ.then_n ?_
      refine RC.plan (.pure 0 (.pure 1 (.pure 2 (.pure 3 (.cons 4 true (.cons 5 false (.cons 6 false (.cons 7 false (.cons 8 false (.cons 9 false (.cons 10 false .nil))))))))))) [7, 8, 9, 10] (fun w => St B w (Cl b1266 [.int .i64 (Int.tmod (IntKind.i64.wrap ((Int.tmod (fn1174 (a1175.A.toNat * 1)) (a1156.length : Int)) + (a1156.length : Int))) (a1156.length : Int)), .int .i64 (fn1174 (a1175.B.toNat * 1)), .int .i64 (fn1174 (a1175.C.toNat * 1))] 58 :: Cl b1253 [.int .i64 a1175.Op, .int .i64 a1175.A, .int .i64 a1175.B, .int .i64 a1175.C] 48 :: Cl b1150 [.slice A1152 a1151.length c1153, .int .i64 a1155, .slice A1157 a1156.length c1158, .int .u64 a1160, .int .i64 a1161, .int .i64 a1162, .int .i64 a1163, .int .i64 a1164, .int .i64 a1165, .int .i64 a1166, .bool a1167, .int .i64 (fn1174 0), .int .i64 (fn1174 1), .int .i64 (fn1174 2), .int .i64 (fn1174 3), .int .i64 (fn1174 4), .int .i64 (fn1174 5), .int .i64 (fn1174 6), .int .i64 (fn1174 7), .int .i64 (fn1174 8), .int .i64 (fn1174 9), .int .i64 (fn1174 10), .int .i64 (fn1174 11), .int .i64 (fn1174 12), .int .i64 (fn1174 13), .int .i64 (fn1174 14), .int .i64 (fn1174 15), .int .i64 a1168, .slice A1170 a1172.length c1171, .int .i64 a1173] 66 :: OSf E_api_Out 58 (.slice A1170 a1172.length c1171) a1172 :: l) hf) follows rfl (by kernel_rfl) NoTmp.body ?_
      have hS := hS.same (w' := { w with drawn := w.drawn + 1 }) rfl rfl
      revert hS
      generalize { w with drawn := w.drawn + 1 } = w
      intro hS
      refine RP.s0 0 rfl (fun w => Vl.move rfl) rfl ?_
      refine RP.s0 1 rfl (fun w => Vl.move rfl) rfl ?_
      refine RP.s0 2 rfl (fun w => Vl.nilCheck rfl) rfl ?_
      refine RP.s0 3 rfl (fun w => Vl.fieldAddr (a'' := ⟨b1150, 28, none⟩) Tryd.underlying66 rfl Tryd.sizeOf34 rfl rfl) rfl ?_
      refine RP.s 4 rfl rfl hS (fun w hS => Vl.load Tryd.isAgg34 rfl (hS.cell 2 rfl rfl)) rfl ?_
      refine RP.v1 5 rfl (Vl.loadA (vs := [.int .i64 (Int.tmod (IntKind.i64.wrap ((Int.tmod (fn1174 (a1175.A.toNat * 1)) (a1156.length : Int)) + (a1156.length : Int))) (a1156.length : Int)), .int .i64 (fn1174 (a1175.B.toNat * 1)), .int .i64 (fn1174 (a1175.C.toNat * 1))]) Tryd.isAgg58 Tryd.sizeOf58 rfl rfl (hS.cellsAt 0 rfl rfl)) rfl rfl ?_
      refine RP.e 6 rfl (OW.buildSlice (E := E_api_Out) (xs := [(⟨Int.tmod (IntKind.i64.wrap ((Int.tmod (fn1174 (a1175.A.toNat * 1)) (a1156.length : Int)) + (a1156.length : Int))) (a1156.length : Int), fn1174 (a1175.B.toNat * 1), fn1174 (a1175.C.toNat * 1)⟩ : api_Out)]) (cs := [.int .i64 (Int.tmod (IntKind.i64.wrap ((Int.tmod (fn1174 (a1175.A.toNat * 1)) (a1156.length : Int)) + (a1156.length : Int))) (a1156.length : Int)), .int .i64 (fn1174 (a1175.B.toNat * 1)), .int .i64 (fn1174 (a1175.C.toNat * 1))]) hS Tryd.underlying34 Tryd.zeroValue58 Tryd.sizeOf58 (parts := [(0, .tmp 97)]) rfl rfl (by decide) (by decide) (by kernel_rfl) rfl) rfl rfl ?_
      rintro _ w ⟨b1284, rfl, hS⟩
      have hS : St B w (OSf E_api_Out 58 (.slice (some ⟨b1284, 0, none⟩) ([(⟨Int.tmod (IntKind.i64.wrap ((Int.tmod (fn1174 (a1175.A.toNat * 1)) (a1156.length : Int)) + (a1156.length : Int))) (a1156.length : Int), fn1174 (a1175.B.toNat * 1), fn1174 (a1175.C.toNat * 1)⟩ : api_Out)]).length 1) ([(⟨Int.tmod (IntKind.i64.wrap ((Int.tmod (fn1174 (a1175.A.toNat * 1)) (a1156.length : Int)) + (a1156.length : Int))) (a1156.length : Int), fn1174 (a1175.B.toNat * 1), fn1174 (a1175.C.toNat * 1)⟩ : api_Out)]) :: Cl b1266 [.int .i64 (Int.tmod (IntKind.i64.wrap ((Int.tmod (fn1174 (a1175.A.toNat * 1)) (a1156.length : Int)) + (a1156.length : Int))) (a1156.length : Int)), .int .i64 (fn1174 (a1175.B.toNat * 1)), .int .i64 (fn1174 (a1175.C.toNat * 1))] 58 :: Cl b1253 [.int .i64 a1175.Op, .int .i64 a1175.A, .int .i64 a1175.B, .int .i64 a1175.C] 48 :: Cl b1150 [.slice A1152 a1151.length c1153, .int .i64 a1155, .slice A1157 a1156.length c1158, .int .u64 a1160, .int .i64 a1161, .int .i64 a1162, .int .i64 a1163, .int .i64 a1164, .int .i64 a1165, .int .i64 a1166, .bool a1167, .int .i64 (fn1174 0), .int .i64 (fn1174 1), .int .i64 (fn1174 2), .int .i64 (fn1174 3), .int .i64 (fn1174 4), .int .i64 (fn1174 5), .int .i64 (fn1174 6), .int .i64 (fn1174 7), .int .i64 (fn1174 8), .int .i64 (fn1174 9), .int .i64 (fn1174 10), .int .i64 (fn1174 11), .int .i64 (fn1174 12), .int .i64 (fn1174 13), .int .i64 (fn1174 14), .int .i64 (fn1174 15), .int .i64 a1168, .slice A1170 a1172.length c1171, .int .i64 a1173] 66 :: OSf E_api_Out 58 (.slice A1170 a1172.length c1171) a1172 :: l) hf := hS
      refine ⟨fun _ => (hS.dropAt 0 rfl), ?_⟩
      obtain ⟨hq1285, h⟩ := h.req
      refine RP.e 7 rfl (OW.append (E := E_api_Out) (xs := a1172) (ys := [(⟨Int.tmod (IntKind.i64.wrap ((Int.tmod (fn1174 (a1175.A.toNat * 1)) (a1156.length : Int)) + (a1156.length : Int))) (a1156.length : Int), fn1174 (a1175.B.toNat * 1), fn1174 (a1175.C.toNat * 1)⟩ : api_Out)]) 4 hS rfl Tryd.underlying34 Tryd.type58 rfl rfl rfl rfl (by decide) rfl rfl rfl (hS.slW 0 rfl).2.2.flat (by simp only [maxLen, List.length_cons, List.length_nil] at *; omega) hq1285 rfl) rfl rfl ?_
      rintro v1289 w hS
      obtain ⟨A1286, c1287, rfl, _⟩ := hS.osShape 0 rfl
      have hS : St B w (OSf E_api_Out 58 (.slice A1286 (a1172 ++ ([(⟨Int.tmod (IntKind.i64.wrap ((Int.tmod (fn1174 (a1175.A.toNat * 1)) (a1156.length : Int)) + (a1156.length : Int))) (a1156.length : Int), fn1174 (a1175.B.toNat * 1), fn1174 (a1175.C.toNat * 1)⟩ : api_Out)])).length c1287) (a1172 ++ ([(⟨Int.tmod (IntKind.i64.wrap ((Int.tmod (fn1174 (a1175.A.toNat * 1)) (a1156.length : Int)) + (a1156.length : Int))) (a1156.length : Int), fn1174 (a1175.B.toNat * 1), fn1174 (a1175.C.toNat * 1)⟩ : api_Out)])) :: OSf E_api_Out 58 (.slice (some ⟨b1284, 0, none⟩) ([(⟨Int.tmod (IntKind.i64.wrap ((Int.tmod (fn1174 (a1175.A.toNat * 1)) (a1156.length : Int)) + (a1156.length : Int))) (a1156.length : Int), fn1174 (a1175.B.toNat * 1), fn1174 (a1175.C.toNat * 1)⟩ : api_Out)]).length 1) ([(⟨Int.tmod (IntKind.i64.wrap ((Int.tmod (fn1174 (a1175.A.toNat * 1)) (a1156.length : Int)) + (a1156.length : Int))) (a1156.length : Int), fn1174 (a1175.B.toNat * 1), fn1174 (a1175.C.toNat * 1)⟩ : api_Out)]) :: Cl b1266 [.int .i64 (Int.tmod (IntKind.i64.wrap ((Int.tmod (fn1174 (a1175.A.toNat * 1)) (a1156.length : Int)) + (a1156.length : Int))) (a1156.length : Int)), .int .i64 (fn1174 (a1175.B.toNat * 1)), .int .i64 (fn1174 (a1175.C.toNat * 1))] 58 :: Cl b1253 [.int .i64 a1175.Op, .int .i64 a1175.A, .int .i64 a1175.B, .int .i64 a1175.C] 48 :: Cl b1150 [.slice A1152 a1151.length c1153, .int .i64 a1155, .slice A1157 a1156.length c1158, .int .u64 a1160, .int .i64 a1161, .int .i64 a1162, .int .i64 a1163, .int .i64 a1164, .int .i64 a1165, .int .i64 a1166, .bool a1167, .int .i64 (fn1174 0), .int .i64 (fn1174 1), .int .i64 (fn1174 2), .int .i64 (fn1174 3), .int .i64 (fn1174 4), .int .i64 (fn1174 5), .int .i64 (fn1174 6), .int .i64 (fn1174 7), .int .i64 (fn1174 8), .int .i64 (fn1174 9), .int .i64 (fn1174 10), .int .i64 (fn1174 11), .int .i64 (fn1174 12), .int .i64 (fn1174 13), .int .i64 (fn1174 14), .int .i64 (fn1174 15), .int .i64 a1168, .slice A1170 a1172.length c1171, .int .i64 a1173] 66 :: l) hf := hS
      refine ⟨(by intro hx; cases hx), ?_⟩
      refine RP.v1 8 rfl (Vl.nilCheck rfl) rfl rfl ?_
      refine RP.v1 9 rfl (Vl.fieldAddr (a'' := ⟨b1150, 28, none⟩) Tryd.underlying66 rfl Tryd.sizeOf34 rfl rfl) rfl rfl ?_
      refine RP.e0 10 rfl (OW.store (cs := [.slice A1152 a1151.length c1153, .int .i64 a1155, .slice A1157 a1156.length c1158, .int .u64 a1160, .int .i64 a1161, .int .i64 a1162, .int .i64 a1163, .int .i64 a1164, .int .i64 a1165, .int .i64 a1166, .bool a1167, .int .i64 (fn1174 0), .int .i64 (fn1174 1), .int .i64 (fn1174 2), .int .i64 (fn1174 3), .int .i64 (fn1174 4), .int .i64 (fn1174 5), .int .i64 (fn1174 6), .int .i64 (fn1174 7), .int .i64 (fn1174 8), .int .i64 (fn1174 9), .int .i64 (fn1174 10), .int .i64 (fn1174 11), .int .i64 (fn1174 12), .int .i64 (fn1174 13), .int .i64 (fn1174 14), .int .i64 (fn1174 15), .int .i64 a1168, .slice A1170 a1172.length c1171, .int .i64 a1173]) (vs := [.slice A1286 (a1172 ++ ([(⟨Int.tmod (IntKind.i64.wrap ((Int.tmod (fn1174 (a1175.A.toNat * 1)) (a1156.length : Int)) + (a1156.length : Int))) (a1156.length : Int), fn1174 (a1175.B.toNat * 1), fn1174 (a1175.C.toNat * 1)⟩ : api_Out)])).length c1287]) (l' := OSf E_api_Out 58 (.slice A1286 (a1172 ++ ([(⟨Int.tmod (IntKind.i64.wrap ((Int.tmod (fn1174 (a1175.A.toNat * 1)) (a1156.length : Int)) + (a1156.length : Int))) (a1156.length : Int), fn1174 (a1175.B.toNat * 1), fn1174 (a1175.C.toNat * 1)⟩ : api_Out)])).length c1287) (a1172 ++ ([(⟨Int.tmod (IntKind.i64.wrap ((Int.tmod (fn1174 (a1175.A.toNat * 1)) (a1156.length : Int)) + (a1156.length : Int))) (a1156.length : Int), fn1174 (a1175.B.toNat * 1), fn1174 (a1175.C.toNat * 1)⟩ : api_Out)])) :: OSf E_api_Out 58 (.slice (some ⟨b1284, 0, none⟩) ([(⟨Int.tmod (IntKind.i64.wrap ((Int.tmod (fn1174 (a1175.A.toNat * 1)) (a1156.length : Int)) + (a1156.length : Int))) (a1156.length : Int), fn1174 (a1175.B.toNat * 1), fn1174 (a1175.C.toNat * 1)⟩ : api_Out)]).length 1) ([(⟨Int.tmod (IntKind.i64.wrap ((Int.tmod (fn1174 (a1175.A.toNat * 1)) (a1156.length : Int)) + (a1156.length : Int))) (a1156.length : Int), fn1174 (a1175.B.toNat * 1), fn1174 (a1175.C.toNat * 1)⟩ : api_Out)]) :: Cl b1266 [.int .i64 (Int.tmod (IntKind.i64.wrap ((Int.tmod (fn1174 (a1175.A.toNat * 1)) (a1156.length : Int)) + (a1156.length : Int))) (a1156.length : Int)), .int .i64 (fn1174 (a1175.B.toNat * 1)), .int .i64 (fn1174 (a1175.C.toNat * 1))] 58 :: Cl b1253 [.int .i64 a1175.Op, .int .i64 a1175.A, .int .i64 a1175.B, .int .i64 a1175.C] 48 :: Cl b1150 [.slice A1152 a1151.length c1153, .int .i64 a1155, .slice A1157 a1156.length c1158, .int .u64 a1160, .int .i64 a1161, .int .i64 a1162, .int .i64 a1163, .int .i64 a1164, .int .i64 a1165, .int .i64 a1166, .bool a1167, .int .i64 (fn1174 0), .int .i64 (fn1174 1), .int .i64 (fn1174 2), .int .i64 (fn1174 3), .int .i64 (fn1174 4), .int .i64 (fn1174 5), .int .i64 (fn1174 6), .int .i64 (fn1174 7), .int .i64 (fn1174 8), .int .i64 (fn1174 9), .int .i64 (fn1174 10), .int .i64 (fn1174 11), .int .i64 (fn1174 12), .int .i64 (fn1174 13), .int .i64 (fn1174 14), .int .i64 (fn1174 15), .int .i64 a1168, .slice A1286 (a1172 ++ ([(⟨Int.tmod (IntKind.i64.wrap ((Int.tmod (fn1174 (a1175.A.toNat * 1)) (a1156.length : Int)) + (a1156.length : Int))) (a1156.length : Int), fn1174 (a1175.B.toNat * 1), fn1174 (a1175.C.toNat * 1)⟩ : api_Out)])).length c1287, .int .i64 a1173] 66 :: l) 4 hS rfl rfl rfl rfl Tryd.sizeOf34 rfl rfl rfl rfl) rfl ?_
      rintro _ w ⟨rfl, hS⟩
      have hS : St B w (OSf E_api_Out 58 (.slice A1286 (a1172 ++ ([(⟨Int.tmod (IntKind.i64.wrap ((Int.tmod (fn1174 (a1175.A.toNat * 1)) (a1156.length : Int)) + (a1156.length : Int))) (a1156.length : Int), fn1174 (a1175.B.toNat * 1), fn1174 (a1175.C.toNat * 1)⟩ : api_Out)])).length c1287) (a1172 ++ ([(⟨Int.tmod (IntKind.i64.wrap ((Int.tmod (fn1174 (a1175.A.toNat * 1)) (a1156.length : Int)) + (a1156.length : Int))) (a1156.length : Int), fn1174 (a1175.B.toNat * 1), fn1174 (a1175.C.toNat * 1)⟩ : api_Out)])) :: OSf E_api_Out 58 (.slice (some ⟨b1284, 0, none⟩) ([(⟨Int.tmod (IntKind.i64.wrap ((Int.tmod (fn1174 (a1175.A.toNat * 1)) (a1156.length : Int)) + (a1156.length : Int))) (a1156.length : Int), fn1174 (a1175.B.toNat * 1), fn1174 (a1175.C.toNat * 1)⟩ : api_Out)]).length 1) ([(⟨Int.tmod (IntKind.i64.wrap ((Int.tmod (fn1174 (a1175.A.toNat * 1)) (a1156.length : Int)) + (a1156.length : Int))) (a1156.length : Int), fn1174 (a1175.B.toNat * 1), fn1174 (a1175.C.toNat * 1)⟩ : api_Out)]) :: Cl b1266 [.int .i64 (Int.tmod (IntKind.i64.wrap ((Int.tmod (fn1174 (a1175.A.toNat * 1)) (a1156.length : Int)) + (a1156.length : Int))) (a1156.length : Int)), .int .i64 (fn1174 (a1175.B.toNat * 1)), .int .i64 (fn1174 (a1175.C.toNat * 1))] 58 :: Cl b1253 [.int .i64 a1175.Op, .int .i64 a1175.A, .int .i64 a1175.B, .int .i64 a1175.C] 48 :: Cl b1150 [.slice A1152 a1151.length c1153, .int .i64 a1155, .slice A1157 a1156.length c1158, .int .u64 a1160, .int .i64 a1161, .int .i64 a1162, .int .i64 a1163, .int .i64 a1164, .int .i64 a1165, .int .i64 a1166, .bool a1167, .int .i64 (fn1174 0), .int .i64 (fn1174 1), .int .i64 (fn1174 2), .int .i64 (fn1174 3), .int .i64 (fn1174 4), .int .i64 (fn1174 5), .int .i64 (fn1174 6), .int .i64 (fn1174 7), .int .i64 (fn1174 8), .int .i64 (fn1174 9), .int .i64 (fn1174 10), .int .i64 (fn1174 11), .int .i64 (fn1174 12), .int .i64 (fn1174 13), .int .i64 (fn1174 14), .int .i64 (fn1174 15), .int .i64 a1168, .slice A1286 (a1172 ++ ([(⟨Int.tmod (IntKind.i64.wrap ((Int.tmod (fn1174 (a1175.A.toNat * 1)) (a1156.length : Int)) + (a1156.length : Int))) (a1156.length : Int), fn1174 (a1175.B.toNat * 1), fn1174 (a1175.C.toNat * 1)⟩ : api_Out)])).length c1287, .int .i64 a1173] 66 :: l) hf := hS
      refine ⟨(by intro hx; cases hx), ?_⟩
      refine RP.nil ?_
      have e := h.some
      subst e
      refine RQ.endP (vs := []) Tryd.results61 trivial ?_
      exact ⟨A1286, c1287, rfl, (((hS.dropAt 1 rfl).dropAt 1 rfl).dropAt 1 rfl)⟩
     case neg =>
      have h := h.neg hc1282
      refine RC.re 84 rfl (congrArg Value.bool (notdec_neg hc1282)) ?_
      refine RC.condT rfl ?_
      refine RC.region ?_
      refine RL.s (Vl.move rfl) rfl ?_
      refine RL.s (Vl.nilCheck rfl) rfl ?_
      refine RL.s (Vl.fieldAddr (a'' := ⟨b1150, 29, none⟩) Tryd.underlying66 rfl Tryd.sizeOf3 rfl rfl) rfl ?_
      refine RL.s (Vl.load Tryd.isAgg3 rfl (hS.cell 2 rfl rfl)) rfl ?_
      refine RL.s (Vl.move rfl) rfl ?_
      refine RL.s (Vl.build (v := .agg #[.int .i64 a1173, .int .i64 y1281]) (parts := [(0, .tmp 88), (1, .tmp 89)]) rfl (by kernel_rfl)) rfl ?_
      refine RL.s (Vl.makeIface Tryd.underlying69 rfl rfl) rfl ?_
      refine RL.panic rfl ?_
      refine RQ.panT ?_
      have e := h.some
      subst e
      refine RQ.pan0 ?_
      exact ⟨rfl, ((hS.dropAt 0 rfl).dropAt 0 rfl)⟩

/-! ### (isochron/draw.word).fold: function 84 -/
noncomputable def draw_word_fold.f (a1347 : draw_word) (a1348 : Int) : Option (Int) := (if 0 ≤ a1348 then some (IntKind.u64.wrap (BitVec.ofInt IntKind.u64.bits a1347.x ^^^ BitVec.ofInt IntKind.u64.bits (Int.fdiv a1347.x (2 ^ (min (a1348 : Int).toNat IntKind.u64.bits)))).toNat) else none)
set_option maxRecDepth 100000 in
set_option maxHeartbeats 4000000 in
theorem draw_word_fold.ok {B : Base} {w : World} {l : List HProp} {hf : Hp} (a1347 : draw_word) (a1348 : Int) (r : Int) (h : draw_word_fold.f a1347 a1348 = some r) (hS : St B w (l) hf) :
    Calls Tryd.prog 84 #[.agg #[.int .u64 a1347.x], .int .u64 a1348] w (Ret fun v w => v = .int .u64 r ∧ St B w (l) hf) := by
  have h := Holds.of h
  refine enter (args := [.agg #[.int .u64 a1347.x], .int .u64 a1348]) Tryd.func84 rfl Tryd.ntmps84 (Nat.le_of_ble_eq_true rfl) ?_
  refine RC.seq ?_
  refine RC.region ?_
  refine RL.e (OW.box (cs := [.int .u64 a1347.x]) hS rfl rfl) rfl rfl ?_
  rintro _ w ⟨b1353, rfl, hS⟩
  have hS : St B w (Cl b1353 [.int .u64 a1347.x] 151 :: l) hf := hS
  refine RL.s (Vl.assign rfl) rfl ?_
  refine RL.nil ?_
  refine RQ.then_n ?_
  refine RC.seq ?_
  refine RC.region ?_
  refine RL.s (Vl.fieldAddr (a'' := ⟨b1353, 0, none⟩) Tryd.underlying151 rfl Tryd.sizeOf24 rfl rfl) rfl ?_
  refine RL.s (Vl.load Tryd.isAgg24 rfl (hS.cell 0 rfl rfl)) rfl ?_
  refine RL.s (Vl.fieldAddr (a'' := ⟨b1353, 0, none⟩) Tryd.underlying151 rfl Tryd.sizeOf24 rfl rfl) rfl ?_
  refine RL.s (Vl.load Tryd.isAgg24 rfl (hS.cell 0 rfl rfl)) rfl ?_
  refine RL.s (Vl.move rfl) rfl ?_
  obtain ⟨hq1354, h⟩ := h.req
  refine RL.s (Vl.shr rfl rfl hq1354) rfl ?_
  refine RL.s (Vl.int rfl rfl rfl) rfl ?_
  refine RL.s (Vl.assign rfl) rfl ?_
  refine RL.nil ?_
  refine RQ.then_n ?_
  refine RC.ret ?_
  have e := h.some
  subst e
  refine RQ.ret0 (vs := [.int .u64 (IntKind.u64.wrap (BitVec.ofInt IntKind.u64.bits a1347.x ^^^ BitVec.ofInt IntKind.u64.bits (Int.fdiv a1347.x (2 ^ (min (a1348 : Int).toNat IntKind.u64.bits)))).toNat)]) Tryd.results84 ⟨rfl, trivial⟩ ?_
  exact ⟨rfl, (hS.dropAt 0 rfl)⟩

/-! ### (isochron/draw.mixer).times: function 83 -/
noncomputable def draw_mixer_times.f (a1340 : draw_mixer) (a1341 : Int) (a1342 : Int) : Option (draw_mixer) := ((draw_word_fold.f a1340.word a1341).bind fun t1361 => some (⟨(⟨IntKind.u64.wrap (t1361 * a1342)⟩ : draw_word)⟩ : draw_mixer))
set_option maxRecDepth 100000 in
set_option maxHeartbeats 4000000 in
theorem draw_mixer_times.ok {B : Base} {w : World} {l : List HProp} {hf : Hp} (a1340 : draw_mixer) (a1341 : Int) (a1342 : Int) (r : draw_mixer) (h : draw_mixer_times.f a1340 a1341 a1342 = some r) (hS : St B w (l) hf) :
    Calls Tryd.prog 83 #[.agg #[.int .u64 a1340.word.x], .int .u64 a1341, .int .u64 a1342] w (Ret fun v w => v = .agg #[.int .u64 r.word.x] ∧ St B w (l) hf) := by
  have h := Holds.of h
  refine enter (args := [.agg #[.int .u64 a1340.word.x], .int .u64 a1341, .int .u64 a1342]) Tryd.func83 rfl Tryd.ntmps83 (Nat.le_of_ble_eq_true rfl) ?_
  refine RC.seq ?_
  refine RC.region ?_
  refine RL.e (OW.box (cs := [.int .u64 a1340.word.x]) hS rfl rfl) rfl rfl ?_
  rintro _ w ⟨b1358, rfl, hS⟩
  have hS : St B w (Cl b1358 [.int .u64 a1340.word.x] 153 :: l) hf := hS
  refine RL.e (OW.alloc (cs := [.int .u64 0]) hS Tryd.zeroValue153 rfl) rfl rfl ?_
  rintro _ w ⟨b1360, rfl, hS⟩
  have hS : St B w (Cl b1360 [.int .u64 0] 153 :: Cl b1358 [.int .u64 a1340.word.x] 153 :: l) hf := hS
  refine RL.nil ?_
  refine RQ.then_n ?_
  refine RC.seq ?_
  refine RC.region ?_
  refine RL.s (Vl.fieldAddr (a'' := ⟨b1358, 0, none⟩) Tryd.underlying153 rfl Tryd.sizeOf151 rfl rfl) rfl ?_
  refine RL.s (Vl.loadA (vs := [.int .u64 a1340.word.x]) Tryd.isAgg151 Tryd.sizeOf151 rfl rfl (hS.cellsAt 1 rfl rfl)) rfl ?_
  refine RL.s (Vl.move rfl) rfl ?_
  obtain ⟨t1361, hg1362, h⟩ := h.bind
  refine RL.e (OW.callF (ls := [.tmp 8, .tmp 9]) rfl Tryd.call84 (draw_word_fold.ok a1340.word a1341 _ hg1362 hS)) rfl rfl ?_
  rintro _ w ⟨rfl, hS⟩
  have hS : St B w (Cl b1360 [.int .u64 0] 153 :: Cl b1358 [.int .u64 a1340.word.x] 153 :: l) hf := hS
  refine RL.s (Vl.move rfl) rfl ?_
  refine RL.s (Vl.int rfl rfl rfl) rfl ?_
  refine RL.s (Vl.build (v := .agg #[.int .u64 (IntKind.u64.wrap (t1361 * a1342))]) (parts := [(0, .tmp 12)]) rfl (by kernel_rfl)) rfl ?_
  refine RL.s (Vl.build (v := .agg #[.int .u64 (IntKind.u64.wrap (t1361 * a1342))]) (parts := [(0, .tmp 13)]) rfl (by kernel_rfl)) rfl ?_
  refine RL.e0 (OW.store (cs := [.int .u64 0]) (vs := [.int .u64 (IntKind.u64.wrap (t1361 * a1342))]) (l' := Cl b1360 [.int .u64 (IntKind.u64.wrap (t1361 * a1342))] 153 :: Cl b1358 [.int .u64 a1340.word.x] 153 :: l) 0 hS rfl rfl rfl rfl Tryd.sizeOf153 rfl rfl rfl rfl) rfl ?_
  rintro _ w ⟨rfl, hS⟩
  have hS : St B w (Cl b1360 [.int .u64 (IntKind.u64.wrap (t1361 * a1342))] 153 :: Cl b1358 [.int .u64 a1340.word.x] 153 :: l) hf := hS
  refine RL.nil ?_
  refine RQ.then_n ?_
  refine RC.ret ?_
  have e := h.some
  subst e
  refine RQ.ret0 (vs := [.agg #[.int .u64 (IntKind.u64.wrap (t1361 * a1342))]]) Tryd.results83 ⟨⟨_, rfl, run_loadVarA (vs := [.int .u64 (IntKind.u64.wrap (t1361 * a1342))]) Tryd.isAgg153 Tryd.sizeOf153 rfl (hS.cellsAt 0 rfl rfl)⟩, trivial⟩ ?_
  exact ⟨rfl, ((hS.dropAt 0 rfl).dropAt 0 rfl)⟩

/-! ### isochron/draw.Mix: function 82 -/
noncomputable def draw_Mix.f (a1339 : Int) : Option (Int) := ((draw_mixer_times.f (⟨(⟨IntKind.u64.wrap (a1339 + 11400714819323198485)⟩ : draw_word)⟩ : draw_mixer) 30 13787848793156543929).bind fun t1371 => ((draw_mixer_times.f t1371 27 10723151780598845931).bind fun t1375 => ((draw_word_fold.f t1375.word 31).bind fun t1377 => some t1377)))
set_option maxRecDepth 100000 in
set_option maxHeartbeats 4000000 in
theorem draw_Mix.ok {B : Base} {w : World} {l : List HProp} {hf : Hp} (a1339 : Int) (r : Int) (h : draw_Mix.f a1339 = some r) (hS : St B w (l) hf) :
    Calls Tryd.prog 82 #[.int .u64 a1339] w (Ret fun v w => v = .int .u64 r ∧ St B w (l) hf) := by
  have h := Holds.of h
  refine enter (args := [.int .u64 a1339]) Tryd.func82 rfl Tryd.ntmps82 (Nat.le_of_ble_eq_true rfl) ?_
  refine RC.seq ?_
  refine RC.region ?_
  refine RL.s (Vl.assign rfl) rfl ?_
  refine RL.nil ?_
  refine RQ.then_n ?_
  refine RC.seq ?_
  refine RC.region ?_
  refine RL.s (Vl.assign rfl) rfl ?_
  refine RL.nil ?_
  refine RQ.then_n ?_
  refine RC.seq ?_
  refine RC.region ?_
  refine RL.s (Vl.move rfl) rfl ?_
  refine RL.s (Vl.move rfl) rfl ?_
  refine RL.s (Vl.int rfl rfl rfl) rfl ?_
  refine RL.s (Vl.build (v := .agg #[.int .u64 (IntKind.u64.wrap (a1339 + 11400714819323198485))]) (parts := [(0, .tmp 7)]) rfl (by kernel_rfl)) rfl ?_
  refine RL.s (Vl.build (v := .agg #[.int .u64 (IntKind.u64.wrap (a1339 + 11400714819323198485))]) (parts := [(0, .tmp 8)]) rfl (by kernel_rfl)) rfl ?_
  obtain ⟨t1371, hg1372, h⟩ := h.bind
  refine RL.e (OW.call (ls := [.tmp 9, .const (.int .u64 30), .const (.int .u64 13787848793156543929)]) rfl rfl Tryd.call83 rfl (draw_mixer_times.ok (⟨(⟨IntKind.u64.wrap (a1339 + 11400714819323198485)⟩ : draw_word)⟩ : draw_mixer) 30 13787848793156543929 _ hg1372 hS)) rfl rfl ?_
  rintro _ w ⟨rfl, hS⟩
  have hS : St B w (l) hf := hS
  refine RL.e (OW.alloc (cs := [.int .u64 0]) hS Tryd.zeroValue153 rfl) rfl rfl ?_
  rintro _ w ⟨b1374, rfl, hS⟩
  have hS : St B w (Cl b1374 [.int .u64 0] 153 :: l) hf := hS
  refine RL.e0 (OW.store (cs := [.int .u64 0]) (vs := [.int .u64 t1371.word.x]) (l' := Cl b1374 [.int .u64 t1371.word.x] 153 :: l) 0 hS rfl rfl rfl rfl Tryd.sizeOf153 rfl rfl rfl rfl) rfl ?_
  rintro _ w ⟨rfl, hS⟩
  have hS : St B w (Cl b1374 [.int .u64 t1371.word.x] 153 :: l) hf := hS
  refine RL.nil ?_
  refine RQ.then_n ?_
  refine RC.seq ?_
  refine RC.region ?_
  refine RL.s (Vl.move rfl) rfl ?_
  refine RL.s (Vl.loadA (vs := [.int .u64 t1371.word.x]) Tryd.isAgg153 Tryd.sizeOf153 rfl rfl (hS.cellsAt 0 rfl rfl)) rfl ?_
  obtain ⟨t1375, hg1376, h⟩ := h.bind
  refine RL.e (OW.call (ls := [.tmp 12, .const (.int .u64 27), .const (.int .u64 10723151780598845931)]) rfl rfl Tryd.call83 rfl (draw_mixer_times.ok t1371 27 10723151780598845931 _ hg1376 hS)) rfl rfl ?_
  rintro _ w ⟨rfl, hS⟩
  have hS : St B w (Cl b1374 [.int .u64 t1371.word.x] 153 :: l) hf := hS
  refine RL.s (Vl.field (v := .agg #[.int .u64 t1375.word.x]) Tryd.underlying153 rfl rfl (run_partA Tryd.isAgg151 Tryd.sizeOf151)) rfl ?_
  obtain ⟨t1377, hg1378, h⟩ := h.bind
  refine RL.e (OW.callF (ls := [.tmp 14, .const (.int .u64 31)]) rfl Tryd.call84 (draw_word_fold.ok t1375.word 31 _ hg1378 hS)) rfl rfl ?_
  rintro _ w ⟨rfl, hS⟩
  have hS : St B w (Cl b1374 [.int .u64 t1371.word.x] 153 :: l) hf := hS
  refine RL.s (Vl.assign rfl) rfl ?_
  refine RL.nil ?_
  refine RQ.then_n ?_
  refine RC.ret ?_
  have e := h.some
  subst e
  refine RQ.ret0 (vs := [.int .u64 t1377]) Tryd.results82 ⟨rfl, trivial⟩ ?_
  exact ⟨rfl, (hS.dropAt 0 rfl)⟩

/-! ### isochron/draw.At: function 81 -/
noncomputable def draw_At.l2b (a1337 : Int) (a1338 : Int) : Int × Int → Option ((Int × Int) ⊕ (Int))
  | (x1416, x1417) => (if x1417 < 2 then (if 0 ≤ x1417 then ((draw_Mix.f (IntKind.u64.wrap (x1416 + (IntKind.u64.wrap (nth ([a1337, a1338] : List Int) x1417))))).bind fun t1435 => some (.inl (t1435, IntKind.i64.wrap (x1417 + 1)))) else none) else some (.inr x1416))
noncomputable def draw_At.l2 (a1337 : Int) (a1338 : Int) (s : Int × Int) : Option (Int) := loopR (draw_At.l2b a1337 a1338) s
noncomputable def draw_At.f (a1336 : Int) (a1337 : Int) (a1338 : Int) : Option (Int) := ((draw_Mix.f a1336).bind fun t1408 => draw_At.l2 a1337 a1338 (t1408, 0))
set_option maxRecDepth 100000 in
set_option maxHeartbeats 4000000 in
theorem draw_At.ok {B : Base} {w : World} {l : List HProp} {hf : Hp} (a1336 : Int) (a1337 : Int) (a1338 : Int) (r : Int) (h : draw_At.f a1336 a1337 a1338 = some r) (hS : St B w (l) hf) :
    Calls Tryd.prog 81 #[.int .u64 a1336, .int .i64 a1337, .int .i64 a1338] w (Ret fun v w => v = .int .u64 r ∧ St B w (l) hf) := by
  have h := Holds.of h
  refine enter (args := [.int .u64 a1336, .int .i64 a1337, .int .i64 a1338]) Tryd.func81 rfl Tryd.ntmps81 (Nat.le_of_ble_eq_true rfl) ?_
  refine RC.seq ?_
  refine RC.region ?_
  refine RL.s (Vl.assign rfl) rfl ?_
  refine RL.nil ?_
  refine RQ.then_n ?_
  refine RC.seq ?_
  refine RC.region ?_
  refine RL.s (Vl.move rfl) rfl ?_
  obtain ⟨t1408, hg1409, h⟩ := h.bind
  refine RL.e (OW.callF (ls := [.tmp 10]) rfl Tryd.call82 (draw_Mix.ok a1336 _ hg1409 hS)) rfl rfl ?_
  rintro _ w ⟨rfl, hS⟩
  have hS : St B w (l) hf := hS
  refine RL.s (Vl.assign rfl) rfl ?_
  refine RL.nil ?_
  refine RQ.then_n ?_
  refine RC.seq ?_
  refine RC.seq ?_
  refine RC.region ?_
  refine RL.s (Vl.move rfl) rfl ?_
  refine RL.s (Vl.move rfl) rfl ?_
  refine RL.s (Vl.build (v := .agg #[.int .i64 a1337, .int .i64 a1338]) (parts := [(0, .tmp 12), (1, .tmp 13)]) rfl (by kernel_rfl)) rfl ?_
  refine RL.s (Vl.move rfl) rfl ?_
  refine RL.nil ?_
  refine RQ.then_n ?_
  refine RC.block ?_
  refine fun a ha => RC.loop (N := 25) (body := (draw_At.l2b a1337 a1338)) (φ := (· = r)) (fun (s : Int × Int) a w => ∃ (x1416 : Int) (x1417 : Int), s = (x1416, x1417) ∧ Has 25 [(7, .int .u64 x1416), (14, .agg #[.int .i64 a1337, .int .i64 a1338]), (15, .int .i64 x1417)] a ∧ St B w (l) hf) ?_ (s0 := (t1408, 0)) h ⟨t1408, 0, rfl, ha.to ⟨rfl, rfl, rfl, trivial⟩, hS⟩
  rintro G1428 _ a w ⟨x1416, x1417, rfl, ha, hS⟩ h
  revert a
  show RC _ _ _ _ _ _
  refine RC.seq ?_
  refine RC.region ?_
  refine RL.s (Vl.int rfl rfl rfl) rfl ?_
  refine RL.nil ?_
  refine RQ.then_n ?_
  refine RC.seq ?_
  by_cases hc1430 : x1417 < 2
  case pos =>
   have h := h.pos hc1430
   refine RC.re 16 rfl (congrArg Value.bool (decide_eq_true hc1430)) ?_
   refine RC.condT rfl ?_
   refine RC.skip ?_
   refine RQ.then_n ?_
   refine RC.seq ?_
   refine RC.block ?_
   refine RC.seq ?_
   refine RC.region ?_
   obtain ⟨hq1434, h⟩ := h.req
   refine RL.s (Vl.indexMap (f := (Value.int .i64)) (l := ([a1337, a1338] : List Int)) Tryd.underlying147 Tryd.sizeOf3 Tryd.isAgg3 rfl rfl rfl hq1434 hc1430) rfl ?_
   refine RL.s (Vl.assign rfl) rfl ?_
   refine RL.nil ?_
   refine RQ.then_n ?_
   refine RC.region ?_
   refine RL.s (Vl.move rfl) rfl ?_
   refine RL.s (Vl.move rfl) rfl ?_
   refine RL.s (Vl.conv Tryd.underlying3 Tryd.underlying24 rfl) rfl ?_
   refine RL.s (Vl.int rfl rfl rfl) rfl ?_
   obtain ⟨t1435, hg1436, h⟩ := h.bind
   refine RL.e (OW.callF (ls := [.tmp 21]) rfl Tryd.call82 (draw_Mix.ok (IntKind.u64.wrap (x1416 + (IntKind.u64.wrap (nth ([a1337, a1338] : List Int) x1417)))) _ hg1436 hS)) rfl rfl ?_
   rintro _ w ⟨rfl, hS⟩
   have hS : St B w (l) hf := hS
   refine RL.s (Vl.assign rfl) rfl ?_
   refine RL.nil ?_
   refine RQ.inB_n ?_
   refine RQ.then_n ?_
   refine RC.region ?_
   refine RL.s (Vl.int rfl rfl rfl) rfl ?_
   refine RL.s (Vl.move rfl) rfl ?_
   refine RL.nil ?_
   exact fun a ha => ⟨(t1435, IntKind.i64.wrap (x1417 + 1)), ⟨t1435, (IntKind.i64.wrap (x1417 + 1)), rfl, ha.to ⟨rfl, rfl, rfl, trivial⟩, hS⟩, h.some⟩
  case neg =>
   have h := h.neg hc1430
   refine RC.re 16 rfl (congrArg Value.bool (decide_eq_false hc1430)) ?_
   refine RC.condF rfl ?_
   refine RC.exit ?_
   refine RQ.exitT ?_
   have h := h.inrS
   refine RQ.exitT ?_
   refine RQ.inB_hit ?_
   refine RQ.then_n ?_
   refine RC.seq ?_
   refine RC.region ?_
   refine RL.s (Vl.move rfl) rfl ?_
   refine RL.s (Vl.assign rfl) rfl ?_
   refine RL.nil ?_
   refine RQ.then_n ?_
   refine RC.ret ?_
   have e := h.some
   subst e
   refine RQ.ret0 (vs := [.int .u64 x1416]) Tryd.results81 ⟨rfl, trivial⟩ ?_
   exact ⟨rfl, hS⟩

/-! ### isochron/draw.Below: function 77 -/
noncomputable def draw_Below.f (a1330 : Int) (a1331 : Int) (a1332 : Int) (a1333 : Int) : Option (Int) := (if a1333 ≤ 0 then some 0 else ((draw_At.f a1330 a1331 a1332).bind fun t1442 => (if ¬ (IntKind.u64.wrap a1333) = 0 then some (IntKind.i64.wrap (Int.tmod t1442 (IntKind.u64.wrap a1333))) else none)))
set_option maxRecDepth 100000 in
set_option maxHeartbeats 4000000 in
theorem draw_Below.ok {B : Base} {w : World} {l : List HProp} {hf : Hp} (a1330 : Int) (a1331 : Int) (a1332 : Int) (a1333 : Int) (r : Int) (h : draw_Below.f a1330 a1331 a1332 a1333 = some r) (hS : St B w (l) hf) :
    Calls Tryd.prog 77 #[.int .u64 a1330, .int .i64 a1331, .int .i64 a1332, .int .i64 a1333] w (Ret fun v w => v = .int .i64 r ∧ St B w (l) hf) := by
  have h := Holds.of h
  refine enter (args := [.int .u64 a1330, .int .i64 a1331, .int .i64 a1332, .int .i64 a1333]) Tryd.func77 rfl Tryd.ntmps77 (Nat.le_of_ble_eq_true rfl) ?_
  refine RC.seq ?_
  refine RC.region ?_
  refine RL.s (Vl.assign rfl) rfl ?_
  refine RL.nil ?_
  refine RQ.then_n ?_
  refine RC.seq ?_
  refine RC.seq ?_
  refine RC.region ?_
  refine RL.s (Vl.move rfl) rfl ?_
  refine RL.s (Vl.int rfl rfl rfl) rfl ?_
  refine RL.nil ?_
  refine RQ.then_n ?_
  by_cases hc1441 : a1333 ≤ 0
  case pos =>
   have h := h.pos hc1441
   refine RC.re 10 rfl (congrArg Value.bool (decide_eq_true hc1441)) ?_
   refine RC.condT rfl ?_
   refine RC.seq ?_
   refine RC.region ?_
   refine RL.s (Vl.assign rfl) rfl ?_
   refine RL.nil ?_
   refine RQ.then_n ?_
   refine RC.ret ?_
   refine RQ.ret ?_
   have e := h.some
   subst e
   refine RQ.ret0 (vs := [.int .i64 0]) Tryd.results77 ⟨rfl, trivial⟩ ?_
   exact ⟨rfl, hS⟩
  case neg =>
   have h := h.neg hc1441
   refine RC.re 10 rfl (congrArg Value.bool (decide_eq_false hc1441)) ?_
   refine RC.condF rfl ?_
   refine RC.skip ?_
   refine RQ.then_n ?_
   refine RC.seq ?_
   refine RC.region ?_
   refine RL.s (Vl.move rfl) rfl ?_
   refine RL.s (Vl.move rfl) rfl ?_
   refine RL.s (Vl.move rfl) rfl ?_
   obtain ⟨t1442, hg1443, h⟩ := h.bind
   refine RL.e (OW.callF (ls := [.tmp 11, .tmp 12, .tmp 13]) rfl Tryd.call81 (draw_At.ok a1330 a1331 a1332 _ hg1443 hS)) rfl rfl ?_
   rintro _ w ⟨rfl, hS⟩
   have hS : St B w (l) hf := hS
   refine RL.s (Vl.move rfl) rfl ?_
   refine RL.s (Vl.conv Tryd.underlying2 Tryd.underlying24 rfl) rfl ?_
   obtain ⟨hq1444, h⟩ := h.req
   refine RL.s (Vl.rem rfl rfl hq1444) rfl ?_
   refine RL.s (Vl.conv Tryd.underlying24 Tryd.underlying2 rfl) rfl ?_
   refine RL.s (Vl.assign rfl) rfl ?_
   refine RL.nil ?_
   refine RQ.then_n ?_
   refine RC.ret ?_
   have e := h.some
   subst e
   refine RQ.ret0 (vs := [.int .i64 (IntKind.i64.wrap (Int.tmod t1442 (IntKind.u64.wrap a1333)))]) Tryd.results77 ⟨rfl, trivial⟩ ?_
   exact ⟨rfl, hS⟩

/-! ### (*isochron/vm.cpu).draw: function 62 -/
noncomputable def vm_cpu_draw.f (a1301 : List api_Instr) (a1305 : Int) (a1306 : List api_Link) (a1310 : Int) (a1311 : Int) (a1312 : Int) (a1313 : Int) (a1314 : Int) (a1315 : Int) (a1316 : Int) (a1317 : Bool) (a1318 : Int) (a1322 : List api_Out) (a1323 : Int) (fn1324 : (Nat → Int)) (a1325 : api_Instr) : Option ((Nat → Int) × Int) := (if 0 ≤ a1325.B ∧ a1325.B < 16 then ((draw_Below.f a1310 a1305 a1318 (fn1324 (a1325.B.toNat * 1))).bind fun t1453 => (if 0 ≤ a1325.A ∧ a1325.A < 16 then some (upd fn1324 (a1325.A.toNat * 1) t1453, IntKind.i64.wrap (a1318 + 1)) else none)) else none)
set_option maxRecDepth 100000 in
set_option maxHeartbeats 4000000 in
theorem vm_cpu_draw.ok {B : Base} {w : World} {l : List HProp} {hf : Hp} (a1301 : List api_Instr) (a1305 : Int) (a1306 : List api_Link) (a1310 : Int) (a1311 : Int) (a1312 : Int) (a1313 : Int) (a1314 : Int) (a1315 : Int) (a1316 : Int) (a1317 : Bool) (a1318 : Int) (a1322 : List api_Out) (a1323 : Int) (fn1324 : (Nat → Int)) (a1325 : api_Instr) (b1300 : Nat) (A1302 : Option Addr) (c1303 : Nat) (A1307 : Option Addr) (c1308 : Nat) (A1320 : Option Addr) (c1321 : Nat) (hr1304 : SlR E_api_Instr.rep hf A1302 c1303 a1301) (hr1309 : SlR E_api_Link.rep hf A1307 c1308 a1306) (r : (Nat → Int) × Int) (h : vm_cpu_draw.f a1301 a1305 a1306 a1310 a1311 a1312 a1313 a1314 a1315 a1316 a1317 a1318 a1322 a1323 fn1324 a1325 = some r) (hS : St B w (Cl b1300 [.slice A1302 a1301.length c1303, .int .i64 a1305, .slice A1307 a1306.length c1308, .int .u64 a1310, .int .i64 a1311, .int .i64 a1312, .int .i64 a1313, .int .i64 a1314, .int .i64 a1315, .int .i64 a1316, .bool a1317, .int .i64 (fn1324 0), .int .i64 (fn1324 1), .int .i64 (fn1324 2), .int .i64 (fn1324 3), .int .i64 (fn1324 4), .int .i64 (fn1324 5), .int .i64 (fn1324 6), .int .i64 (fn1324 7), .int .i64 (fn1324 8), .int .i64 (fn1324 9), .int .i64 (fn1324 10), .int .i64 (fn1324 11), .int .i64 (fn1324 12), .int .i64 (fn1324 13), .int .i64 (fn1324 14), .int .i64 (fn1324 15), .int .i64 a1318, .slice A1320 a1322.length c1321, .int .i64 a1323] 66 :: OSf E_api_Out 58 (.slice A1320 a1322.length c1321) a1322 :: l) hf) :
    Calls Tryd.prog 62 #[.pointer (some ⟨b1300, 0, none⟩), .agg #[.int .i64 a1325.Op, .int .i64 a1325.A, .int .i64 a1325.B, .int .i64 a1325.C]] w (Ret fun v w => v = .tuple #[] ∧ St B w (Cl b1300 [.slice A1302 a1301.length c1303, .int .i64 a1305, .slice A1307 a1306.length c1308, .int .u64 a1310, .int .i64 a1311, .int .i64 a1312, .int .i64 a1313, .int .i64 a1314, .int .i64 a1315, .int .i64 a1316, .bool a1317, .int .i64 (r.1 0), .int .i64 (r.1 1), .int .i64 (r.1 2), .int .i64 (r.1 3), .int .i64 (r.1 4), .int .i64 (r.1 5), .int .i64 (r.1 6), .int .i64 (r.1 7), .int .i64 (r.1 8), .int .i64 (r.1 9), .int .i64 (r.1 10), .int .i64 (r.1 11), .int .i64 (r.1 12), .int .i64 (r.1 13), .int .i64 (r.1 14), .int .i64 (r.1 15), .int .i64 r.2, .slice A1320 a1322.length c1321, .int .i64 a1323] 66 :: OSf E_api_Out 58 (.slice A1320 a1322.length c1321) a1322 :: l) hf) := by
  have h := Holds.of h
  refine enter (args := [.pointer (some ⟨b1300, 0, none⟩), .agg #[.int .i64 a1325.Op, .int .i64 a1325.A, .int .i64 a1325.B, .int .i64 a1325.C]]) Tryd.func62 rfl Tryd.ntmps62 (Nat.le_of_ble_eq_true rfl) ?_
  refine RC.seq ?_
  refine RC.region ?_
  refine RL.e (OW.box (cs := [.int .i64 a1325.Op, .int .i64 a1325.A, .int .i64 a1325.B, .int .i64 a1325.C]) hS rfl rfl) rfl rfl ?_
  rintro _ w ⟨b1450, rfl, hS⟩
  have hS : St B w (Cl b1450 [.int .i64 a1325.Op, .int .i64 a1325.A, .int .i64 a1325.B, .int .i64 a1325.C] 48 :: Cl b1300 [.slice A1302 a1301.length c1303, .int .i64 a1305, .slice A1307 a1306.length c1308, .int .u64 a1310, .int .i64 a1311, .int .i64 a1312, .int .i64 a1313, .int .i64 a1314, .int .i64 a1315, .int .i64 a1316, .bool a1317, .int .i64 (fn1324 0), .int .i64 (fn1324 1), .int .i64 (fn1324 2), .int .i64 (fn1324 3), .int .i64 (fn1324 4), .int .i64 (fn1324 5), .int .i64 (fn1324 6), .int .i64 (fn1324 7), .int .i64 (fn1324 8), .int .i64 (fn1324 9), .int .i64 (fn1324 10), .int .i64 (fn1324 11), .int .i64 (fn1324 12), .int .i64 (fn1324 13), .int .i64 (fn1324 14), .int .i64 (fn1324 15), .int .i64 a1318, .slice A1320 a1322.length c1321, .int .i64 a1323] 66 :: OSf E_api_Out 58 (.slice A1320 a1322.length c1321) a1322 :: l) hf := hS
  refine RL.nil ?_
  refine RQ.then_n ?_
  refine RC.seq ?_
  refine RC.plan (.pure 0 (.pure 1 (.cons 2 true (.pure 3 (.pure 4 (.pure 5 (.pure 6 (.cons 7 true (.pure 8 (.pure 9 (.pure 10 (.pure 11 (.cons 12 true (.pure 13 (.pure 14 (.pure 15 (.cons 16 true (.pure 17 (.pure 18 (.cons 19 true (.pure 20 (.pure 21 (.pure 22 (.cons 23 true (.pure 25 (.pure 26 (.cons 24 false (.cons 27 false (.cons 28 false .nil))))))))))))))))))))))))))))) [27, 28] (fun w => St B w (Cl b1450 [.int .i64 a1325.Op, .int .i64 a1325.A, .int .i64 a1325.B, .int .i64 a1325.C] 48 :: Cl b1300 [.slice A1302 a1301.length c1303, .int .i64 a1305, .slice A1307 a1306.length c1308, .int .u64 a1310, .int .i64 a1311, .int .i64 a1312, .int .i64 a1313, .int .i64 a1314, .int .i64 a1315, .int .i64 a1316, .bool a1317, .int .i64 (fn1324 0), .int .i64 (fn1324 1), .int .i64 (fn1324 2), .int .i64 (fn1324 3), .int .i64 (fn1324 4), .int .i64 (fn1324 5), .int .i64 (fn1324 6), .int .i64 (fn1324 7), .int .i64 (fn1324 8), .int .i64 (fn1324 9), .int .i64 (fn1324 10), .int .i64 (fn1324 11), .int .i64 (fn1324 12), .int .i64 (fn1324 13), .int .i64 (fn1324 14), .int .i64 (fn1324 15), .int .i64 a1318, .slice A1320 a1322.length c1321, .int .i64 a1323] 66 :: OSf E_api_Out 58 (.slice A1320 a1322.length c1321) a1322 :: l) hf) follows rfl (by kernel_rfl) (NoTmp.then NoTmp.body) ?_
  have hS := hS.same (w' := { w with drawn := w.drawn + 1 }) rfl rfl
  revert hS
  generalize { w with drawn := w.drawn + 1 } = w
  intro hS
  refine RP.s0 0 rfl (fun w => Vl.move rfl) rfl ?_
  refine RP.s0 1 rfl (fun w => Vl.fieldAddr (a'' := ⟨b1450, 1, none⟩) Tryd.underlying48 rfl Tryd.sizeOf3 rfl rfl) rfl ?_
  refine RP.s 2 rfl rfl hS (fun w hS => Vl.load Tryd.isAgg3 rfl (hS.cell 0 rfl rfl)) rfl ?_
  refine RP.s0 3 rfl (fun w => Vl.move rfl) rfl ?_
  refine RP.s0 4 rfl (fun w => Vl.nilCheck rfl) rfl ?_
  refine RP.s0 5 rfl (fun w => Vl.fieldAddr (a'' := ⟨b1300, 0, none⟩) Tryd.underlying66 rfl Tryd.sizeOf26 rfl rfl) rfl ?_
  refine RP.s0 6 rfl (fun w => Vl.fieldAddr (a'' := ⟨b1300, 3, none⟩) Tryd.underlying26 rfl Tryd.sizeOf24 rfl rfl) rfl ?_
  refine RP.s 7 rfl rfl hS (fun w hS => Vl.load Tryd.isAgg24 rfl (hS.cell 1 rfl rfl)) rfl ?_
  refine RP.s0 8 rfl (fun w => Vl.move rfl) rfl ?_
  refine RP.s0 9 rfl (fun w => Vl.nilCheck rfl) rfl ?_
  refine RP.s0 10 rfl (fun w => Vl.fieldAddr (a'' := ⟨b1300, 0, none⟩) Tryd.underlying66 rfl Tryd.sizeOf26 rfl rfl) rfl ?_
  refine RP.s0 11 rfl (fun w => Vl.fieldAddr (a'' := ⟨b1300, 1, none⟩) Tryd.underlying26 rfl Tryd.sizeOf3 rfl rfl) rfl ?_
  refine RP.s 12 rfl rfl hS (fun w hS => Vl.load Tryd.isAgg3 rfl (hS.cell 1 rfl rfl)) rfl ?_
  refine RP.s0 13 rfl (fun w => Vl.move rfl) rfl ?_
  refine RP.s0 14 rfl (fun w => Vl.nilCheck rfl) rfl ?_
  refine RP.s0 15 rfl (fun w => Vl.fieldAddr (a'' := ⟨b1300, 27, none⟩) Tryd.underlying66 rfl Tryd.sizeOf3 rfl rfl) rfl ?_
  refine RP.s 16 rfl rfl hS (fun w hS => Vl.load Tryd.isAgg3 rfl (hS.cell 1 rfl rfl)) rfl ?_
  refine RP.s0 17 rfl (fun w => Vl.move rfl) rfl ?_
  refine RP.s0 18 rfl (fun w => Vl.fieldAddr (a'' := ⟨b1450, 2, none⟩) Tryd.underlying48 rfl Tryd.sizeOf3 rfl rfl) rfl ?_
  refine RP.s 19 rfl rfl hS (fun w hS => Vl.load Tryd.isAgg3 rfl (hS.cell 0 rfl rfl)) rfl ?_
  refine RP.s0 20 rfl (fun w => Vl.nilCheck rfl) rfl ?_
  refine RP.s0 21 rfl (fun w => Vl.fieldAddr (a'' := ⟨b1300, 11, none⟩) Tryd.underlying66 rfl Tryd.sizeOf64 rfl rfl) rfl ?_
  obtain ⟨⟨hq1451, hq1452⟩, h⟩ := h.req
  refine RP.s0 22 rfl (fun w => Vl.indexAddrA (a'' := ⟨b1300, 11 + a1325.B.toNat * 1, none⟩) Tryd.underlying64 Tryd.sizeOf2 rfl rfl hq1451 hq1452 (add_mk _ _ _)) rfl ?_
  refine RP.s 23 rfl rfl hS (fun w hS => Vl.load Tryd.isAgg2 rfl (hS.cell (off := 11 + a1325.B.toNat * 1) (cs := [.slice A1302 a1301.length c1303, .int .i64 a1305, .slice A1307 a1306.length c1308, .int .u64 a1310, .int .i64 a1311, .int .i64 a1312, .int .i64 a1313, .int .i64 a1314, .int .i64 a1315, .int .i64 a1316, .bool a1317] ++ (fc (Value.int .i64) 16 fn1324 ++ [.int .i64 a1318, .slice A1320 a1322.length c1321, .int .i64 a1323])) 1 rfl (seg_get rfl (by omega)))) rfl ?_
  refine RP.s0 25 rfl (fun w => Vl.nilCheck rfl) rfl ?_
  refine RP.s0 26 rfl (fun w => Vl.fieldAddr (a'' := ⟨b1300, 11, none⟩) Tryd.underlying66 rfl Tryd.sizeOf64 rfl rfl) rfl ?_
  obtain ⟨t1453, hg1454, h⟩ := h.bind
  refine RP.e 24 rfl (OW.callF (ls := [.tmp 11, .tmp 16, .tmp 20, .tmp 27]) rfl Tryd.call77 (draw_Below.ok a1310 a1305 a1318 (fn1324 (a1325.B.toNat * 1)) _ hg1454 hS)) rfl rfl ?_
  rintro _ w ⟨rfl, hS⟩
  have hS : St B w (Cl b1450 [.int .i64 a1325.Op, .int .i64 a1325.A, .int .i64 a1325.B, .int .i64 a1325.C] 48 :: Cl b1300 [.slice A1302 a1301.length c1303, .int .i64 a1305, .slice A1307 a1306.length c1308, .int .u64 a1310, .int .i64 a1311, .int .i64 a1312, .int .i64 a1313, .int .i64 a1314, .int .i64 a1315, .int .i64 a1316, .bool a1317, .int .i64 (fn1324 0), .int .i64 (fn1324 1), .int .i64 (fn1324 2), .int .i64 (fn1324 3), .int .i64 (fn1324 4), .int .i64 (fn1324 5), .int .i64 (fn1324 6), .int .i64 (fn1324 7), .int .i64 (fn1324 8), .int .i64 (fn1324 9), .int .i64 (fn1324 10), .int .i64 (fn1324 11), .int .i64 (fn1324 12), .int .i64 (fn1324 13), .int .i64 (fn1324 14), .int .i64 (fn1324 15), .int .i64 a1318, .slice A1320 a1322.length c1321, .int .i64 a1323] 66 :: OSf E_api_Out 58 (.slice A1320 a1322.length c1321) a1322 :: l) hf := hS
  refine ⟨fun _ => hS, ?_⟩
  obtain ⟨⟨hq1455, hq1456⟩, h⟩ := h.req
  refine RP.v1 27 rfl (Vl.indexAddrA (a'' := ⟨b1300, 11 + a1325.A.toNat * 1, none⟩) Tryd.underlying64 Tryd.sizeOf2 rfl rfl hq1455 hq1456 (add_mk _ _ _)) rfl rfl ?_
  refine RP.e0 28 rfl (OW.storeSeg (mk := (Value.int .i64)) (f := fn1324) (n := 16) (m := 11) (pre := [.slice A1302 a1301.length c1303, .int .i64 a1305, .slice A1307 a1306.length c1308, .int .u64 a1310, .int .i64 a1311, .int .i64 a1312, .int .i64 a1313, .int .i64 a1314, .int .i64 a1315, .int .i64 a1316, .bool a1317]) (post := [.int .i64 a1318, .slice A1320 a1322.length c1321, .int .i64 a1323]) (l' := Cl b1450 [.int .i64 a1325.Op, .int .i64 a1325.A, .int .i64 a1325.B, .int .i64 a1325.C] 48 :: Cl b1300 [.slice A1302 a1301.length c1303, .int .i64 a1305, .slice A1307 a1306.length c1308, .int .u64 a1310, .int .i64 a1311, .int .i64 a1312, .int .i64 a1313, .int .i64 a1314, .int .i64 a1315, .int .i64 a1316, .bool a1317, .int .i64 ((upd fn1324 (a1325.A.toNat * 1) t1453) 0), .int .i64 ((upd fn1324 (a1325.A.toNat * 1) t1453) 1), .int .i64 ((upd fn1324 (a1325.A.toNat * 1) t1453) 2), .int .i64 ((upd fn1324 (a1325.A.toNat * 1) t1453) 3), .int .i64 ((upd fn1324 (a1325.A.toNat * 1) t1453) 4), .int .i64 ((upd fn1324 (a1325.A.toNat * 1) t1453) 5), .int .i64 ((upd fn1324 (a1325.A.toNat * 1) t1453) 6), .int .i64 ((upd fn1324 (a1325.A.toNat * 1) t1453) 7), .int .i64 ((upd fn1324 (a1325.A.toNat * 1) t1453) 8), .int .i64 ((upd fn1324 (a1325.A.toNat * 1) t1453) 9), .int .i64 ((upd fn1324 (a1325.A.toNat * 1) t1453) 10), .int .i64 ((upd fn1324 (a1325.A.toNat * 1) t1453) 11), .int .i64 ((upd fn1324 (a1325.A.toNat * 1) t1453) 12), .int .i64 ((upd fn1324 (a1325.A.toNat * 1) t1453) 13), .int .i64 ((upd fn1324 (a1325.A.toNat * 1) t1453) 14), .int .i64 ((upd fn1324 (a1325.A.toNat * 1) t1453) 15), .int .i64 a1318, .slice A1320 a1322.length c1321, .int .i64 a1323] 66 :: OSf E_api_Out 58 (.slice A1320 a1322.length c1321) a1322 :: l) 1 hS rfl rfl rfl rfl Tryd.sizeOf2 (by omega) (fun _ => rfl) (fun _ => rfl) rfl) rfl ?_
  rintro _ w ⟨rfl, hS⟩
  have hS : St B w (Cl b1450 [.int .i64 a1325.Op, .int .i64 a1325.A, .int .i64 a1325.B, .int .i64 a1325.C] 48 :: Cl b1300 [.slice A1302 a1301.length c1303, .int .i64 a1305, .slice A1307 a1306.length c1308, .int .u64 a1310, .int .i64 a1311, .int .i64 a1312, .int .i64 a1313, .int .i64 a1314, .int .i64 a1315, .int .i64 a1316, .bool a1317, .int .i64 ((upd fn1324 (a1325.A.toNat * 1) t1453) 0), .int .i64 ((upd fn1324 (a1325.A.toNat * 1) t1453) 1), .int .i64 ((upd fn1324 (a1325.A.toNat * 1) t1453) 2), .int .i64 ((upd fn1324 (a1325.A.toNat * 1) t1453) 3), .int .i64 ((upd fn1324 (a1325.A.toNat * 1) t1453) 4), .int .i64 ((upd fn1324 (a1325.A.toNat * 1) t1453) 5), .int .i64 ((upd fn1324 (a1325.A.toNat * 1) t1453) 6), .int .i64 ((upd fn1324 (a1325.A.toNat * 1) t1453) 7), .int .i64 ((upd fn1324 (a1325.A.toNat * 1) t1453) 8), .int .i64 ((upd fn1324 (a1325.A.toNat * 1) t1453) 9), .int .i64 ((upd fn1324 (a1325.A.toNat * 1) t1453) 10), .int .i64 ((upd fn1324 (a1325.A.toNat * 1) t1453) 11), .int .i64 ((upd fn1324 (a1325.A.toNat * 1) t1453) 12), .int .i64 ((upd fn1324 (a1325.A.toNat * 1) t1453) 13), .int .i64 ((upd fn1324 (a1325.A.toNat * 1) t1453) 14), .int .i64 ((upd fn1324 (a1325.A.toNat * 1) t1453) 15), .int .i64 a1318, .slice A1320 a1322.length c1321, .int .i64 a1323] 66 :: OSf E_api_Out 58 (.slice A1320 a1322.length c1321) a1322 :: l) hf := hS
  refine ⟨(by intro hx; cases hx), ?_⟩
  refine RP.nil ?_
  refine RQ.then_n ?_
  refine RC.region ?_
  refine RL.s (Vl.move rfl) rfl ?_
  refine RL.s (Vl.nilCheck rfl) rfl ?_
  refine RL.s (Vl.fieldAddr (a'' := ⟨b1300, 27, none⟩) Tryd.underlying66 rfl Tryd.sizeOf3 rfl rfl) rfl ?_
  refine RL.s (Vl.load Tryd.isAgg3 rfl (hS.cell 1 rfl rfl)) rfl ?_
  refine RL.s (Vl.int rfl rfl rfl) rfl ?_
  refine RL.s (Vl.nilCheck rfl) rfl ?_
  refine RL.s (Vl.fieldAddr (a'' := ⟨b1300, 27, none⟩) Tryd.underlying66 rfl Tryd.sizeOf3 rfl rfl) rfl ?_
  refine RL.e0 (OW.store (cs := [.slice A1302 a1301.length c1303, .int .i64 a1305, .slice A1307 a1306.length c1308, .int .u64 a1310, .int .i64 a1311, .int .i64 a1312, .int .i64 a1313, .int .i64 a1314, .int .i64 a1315, .int .i64 a1316, .bool a1317, .int .i64 ((upd fn1324 (a1325.A.toNat * 1) t1453) 0), .int .i64 ((upd fn1324 (a1325.A.toNat * 1) t1453) 1), .int .i64 ((upd fn1324 (a1325.A.toNat * 1) t1453) 2), .int .i64 ((upd fn1324 (a1325.A.toNat * 1) t1453) 3), .int .i64 ((upd fn1324 (a1325.A.toNat * 1) t1453) 4), .int .i64 ((upd fn1324 (a1325.A.toNat * 1) t1453) 5), .int .i64 ((upd fn1324 (a1325.A.toNat * 1) t1453) 6), .int .i64 ((upd fn1324 (a1325.A.toNat * 1) t1453) 7), .int .i64 ((upd fn1324 (a1325.A.toNat * 1) t1453) 8), .int .i64 ((upd fn1324 (a1325.A.toNat * 1) t1453) 9), .int .i64 ((upd fn1324 (a1325.A.toNat * 1) t1453) 10), .int .i64 ((upd fn1324 (a1325.A.toNat * 1) t1453) 11), .int .i64 ((upd fn1324 (a1325.A.toNat * 1) t1453) 12), .int .i64 ((upd fn1324 (a1325.A.toNat * 1) t1453) 13), .int .i64 ((upd fn1324 (a1325.A.toNat * 1) t1453) 14), .int .i64 ((upd fn1324 (a1325.A.toNat * 1) t1453) 15), .int .i64 a1318, .slice A1320 a1322.length c1321, .int .i64 a1323]) (vs := [.int .i64 (IntKind.i64.wrap (a1318 + 1))]) (l' := Cl b1450 [.int .i64 a1325.Op, .int .i64 a1325.A, .int .i64 a1325.B, .int .i64 a1325.C] 48 :: Cl b1300 [.slice A1302 a1301.length c1303, .int .i64 a1305, .slice A1307 a1306.length c1308, .int .u64 a1310, .int .i64 a1311, .int .i64 a1312, .int .i64 a1313, .int .i64 a1314, .int .i64 a1315, .int .i64 a1316, .bool a1317, .int .i64 ((upd fn1324 (a1325.A.toNat * 1) t1453) 0), .int .i64 ((upd fn1324 (a1325.A.toNat * 1) t1453) 1), .int .i64 ((upd fn1324 (a1325.A.toNat * 1) t1453) 2), .int .i64 ((upd fn1324 (a1325.A.toNat * 1) t1453) 3), .int .i64 ((upd fn1324 (a1325.A.toNat * 1) t1453) 4), .int .i64 ((upd fn1324 (a1325.A.toNat * 1) t1453) 5), .int .i64 ((upd fn1324 (a1325.A.toNat * 1) t1453) 6), .int .i64 ((upd fn1324 (a1325.A.toNat * 1) t1453) 7), .int .i64 ((upd fn1324 (a1325.A.toNat * 1) t1453) 8), .int .i64 ((upd fn1324 (a1325.A.toNat * 1) t1453) 9), .int .i64 ((upd fn1324 (a1325.A.toNat * 1) t1453) 10), .int .i64 ((upd fn1324 (a1325.A.toNat * 1) t1453) 11), .int .i64 ((upd fn1324 (a1325.A.toNat * 1) t1453) 12), .int .i64 ((upd fn1324 (a1325.A.toNat * 1) t1453) 13), .int .i64 ((upd fn1324 (a1325.A.toNat * 1) t1453) 14), .int .i64 ((upd fn1324 (a1325.A.toNat * 1) t1453) 15), .int .i64 (IntKind.i64.wrap (a1318 + 1)), .slice A1320 a1322.length c1321, .int .i64 a1323] 66 :: OSf E_api_Out 58 (.slice A1320 a1322.length c1321) a1322 :: l) 1 hS rfl rfl rfl rfl Tryd.sizeOf3 rfl rfl rfl rfl) rfl ?_
  rintro _ w ⟨rfl, hS⟩
  have hS : St B w (Cl b1450 [.int .i64 a1325.Op, .int .i64 a1325.A, .int .i64 a1325.B, .int .i64 a1325.C] 48 :: Cl b1300 [.slice A1302 a1301.length c1303, .int .i64 a1305, .slice A1307 a1306.length c1308, .int .u64 a1310, .int .i64 a1311, .int .i64 a1312, .int .i64 a1313, .int .i64 a1314, .int .i64 a1315, .int .i64 a1316, .bool a1317, .int .i64 ((upd fn1324 (a1325.A.toNat * 1) t1453) 0), .int .i64 ((upd fn1324 (a1325.A.toNat * 1) t1453) 1), .int .i64 ((upd fn1324 (a1325.A.toNat * 1) t1453) 2), .int .i64 ((upd fn1324 (a1325.A.toNat * 1) t1453) 3), .int .i64 ((upd fn1324 (a1325.A.toNat * 1) t1453) 4), .int .i64 ((upd fn1324 (a1325.A.toNat * 1) t1453) 5), .int .i64 ((upd fn1324 (a1325.A.toNat * 1) t1453) 6), .int .i64 ((upd fn1324 (a1325.A.toNat * 1) t1453) 7), .int .i64 ((upd fn1324 (a1325.A.toNat * 1) t1453) 8), .int .i64 ((upd fn1324 (a1325.A.toNat * 1) t1453) 9), .int .i64 ((upd fn1324 (a1325.A.toNat * 1) t1453) 10), .int .i64 ((upd fn1324 (a1325.A.toNat * 1) t1453) 11), .int .i64 ((upd fn1324 (a1325.A.toNat * 1) t1453) 12), .int .i64 ((upd fn1324 (a1325.A.toNat * 1) t1453) 13), .int .i64 ((upd fn1324 (a1325.A.toNat * 1) t1453) 14), .int .i64 ((upd fn1324 (a1325.A.toNat * 1) t1453) 15), .int .i64 (IntKind.i64.wrap (a1318 + 1)), .slice A1320 a1322.length c1321, .int .i64 a1323] 66 :: OSf E_api_Out 58 (.slice A1320 a1322.length c1321) a1322 :: l) hf := hS
  refine RL.nil ?_
  have e := h.some
  subst e
  refine RQ.end0 (vs := []) Tryd.results62 trivial ?_
  exact ⟨rfl, (hS.dropAt 0 rfl)⟩

/-! ### (*isochron/vm.cpu).value: function 63 -/
noncomputable def vm_cpu_value.f (a1464 : List api_Instr) (a1468 : Int) (a1469 : List api_Link) (a1473 : Int) (a1474 : Int) (a1475 : Int) (a1476 : Int) (a1477 : Int) (a1478 : Int) (a1479 : Int) (a1480 : Bool) (a1481 : Int) (a1485 : List api_Out) (a1486 : Int) (fn1487 : (Nat → Int)) (a1488 : api_Instr) : Option ((Nat → Int)) := (if 0 ≤ a1488.A ∧ a1488.A < 16 then some (upd fn1487 (a1488.A.toNat * 1) a1478) else none)
set_option maxRecDepth 100000 in
set_option maxHeartbeats 4000000 in
theorem vm_cpu_value.ok {B : Base} {w : World} {l : List HProp} {hf : Hp} (a1464 : List api_Instr) (a1468 : Int) (a1469 : List api_Link) (a1473 : Int) (a1474 : Int) (a1475 : Int) (a1476 : Int) (a1477 : Int) (a1478 : Int) (a1479 : Int) (a1480 : Bool) (a1481 : Int) (a1485 : List api_Out) (a1486 : Int) (fn1487 : (Nat → Int)) (a1488 : api_Instr) (b1463 : Nat) (A1465 : Option Addr) (c1466 : Nat) (A1470 : Option Addr) (c1471 : Nat) (A1483 : Option Addr) (c1484 : Nat) (hr1467 : SlR E_api_Instr.rep hf A1465 c1466 a1464) (hr1472 : SlR E_api_Link.rep hf A1470 c1471 a1469) (r : (Nat → Int)) (h : vm_cpu_value.f a1464 a1468 a1469 a1473 a1474 a1475 a1476 a1477 a1478 a1479 a1480 a1481 a1485 a1486 fn1487 a1488 = some r) (hS : St B w (Cl b1463 [.slice A1465 a1464.length c1466, .int .i64 a1468, .slice A1470 a1469.length c1471, .int .u64 a1473, .int .i64 a1474, .int .i64 a1475, .int .i64 a1476, .int .i64 a1477, .int .i64 a1478, .int .i64 a1479, .bool a1480, .int .i64 (fn1487 0), .int .i64 (fn1487 1), .int .i64 (fn1487 2), .int .i64 (fn1487 3), .int .i64 (fn1487 4), .int .i64 (fn1487 5), .int .i64 (fn1487 6), .int .i64 (fn1487 7), .int .i64 (fn1487 8), .int .i64 (fn1487 9), .int .i64 (fn1487 10), .int .i64 (fn1487 11), .int .i64 (fn1487 12), .int .i64 (fn1487 13), .int .i64 (fn1487 14), .int .i64 (fn1487 15), .int .i64 a1481, .slice A1483 a1485.length c1484, .int .i64 a1486] 66 :: OSf E_api_Out 58 (.slice A1483 a1485.length c1484) a1485 :: l) hf) :
    Calls Tryd.prog 63 #[.pointer (some ⟨b1463, 0, none⟩), .agg #[.int .i64 a1488.Op, .int .i64 a1488.A, .int .i64 a1488.B, .int .i64 a1488.C]] w (Ret fun v w => v = .tuple #[] ∧ St B w (Cl b1463 [.slice A1465 a1464.length c1466, .int .i64 a1468, .slice A1470 a1469.length c1471, .int .u64 a1473, .int .i64 a1474, .int .i64 a1475, .int .i64 a1476, .int .i64 a1477, .int .i64 a1478, .int .i64 a1479, .bool a1480, .int .i64 (r 0), .int .i64 (r 1), .int .i64 (r 2), .int .i64 (r 3), .int .i64 (r 4), .int .i64 (r 5), .int .i64 (r 6), .int .i64 (r 7), .int .i64 (r 8), .int .i64 (r 9), .int .i64 (r 10), .int .i64 (r 11), .int .i64 (r 12), .int .i64 (r 13), .int .i64 (r 14), .int .i64 (r 15), .int .i64 a1481, .slice A1483 a1485.length c1484, .int .i64 a1486] 66 :: OSf E_api_Out 58 (.slice A1483 a1485.length c1484) a1485 :: l) hf) := by
  have h := Holds.of h
  refine enter (args := [.pointer (some ⟨b1463, 0, none⟩), .agg #[.int .i64 a1488.Op, .int .i64 a1488.A, .int .i64 a1488.B, .int .i64 a1488.C]]) Tryd.func63 rfl Tryd.ntmps63 (Nat.le_of_ble_eq_true rfl) ?_
  refine RC.seq ?_
  refine RC.region ?_
  refine RL.e (OW.box (cs := [.int .i64 a1488.Op, .int .i64 a1488.A, .int .i64 a1488.B, .int .i64 a1488.C]) hS rfl rfl) rfl rfl ?_
  rintro _ w ⟨b1494, rfl, hS⟩
  have hS : St B w (Cl b1494 [.int .i64 a1488.Op, .int .i64 a1488.A, .int .i64 a1488.B, .int .i64 a1488.C] 48 :: Cl b1463 [.slice A1465 a1464.length c1466, .int .i64 a1468, .slice A1470 a1469.length c1471, .int .u64 a1473, .int .i64 a1474, .int .i64 a1475, .int .i64 a1476, .int .i64 a1477, .int .i64 a1478, .int .i64 a1479, .bool a1480, .int .i64 (fn1487 0), .int .i64 (fn1487 1), .int .i64 (fn1487 2), .int .i64 (fn1487 3), .int .i64 (fn1487 4), .int .i64 (fn1487 5), .int .i64 (fn1487 6), .int .i64 (fn1487 7), .int .i64 (fn1487 8), .int .i64 (fn1487 9), .int .i64 (fn1487 10), .int .i64 (fn1487 11), .int .i64 (fn1487 12), .int .i64 (fn1487 13), .int .i64 (fn1487 14), .int .i64 (fn1487 15), .int .i64 a1481, .slice A1483 a1485.length c1484, .int .i64 a1486] 66 :: OSf E_api_Out 58 (.slice A1483 a1485.length c1484) a1485 :: l) hf := hS
  refine RL.nil ?_
  refine RQ.then_n ?_
  refine RC.plan (.pure 0 (.pure 1 (.cons 2 true (.pure 3 (.pure 4 (.pure 5 (.pure 6 (.cons 7 true (.cons 8 false (.cons 9 false (.cons 10 false (.cons 11 false .nil)))))))))))) [10, 11] (fun w => St B w (Cl b1494 [.int .i64 a1488.Op, .int .i64 a1488.A, .int .i64 a1488.B, .int .i64 a1488.C] 48 :: Cl b1463 [.slice A1465 a1464.length c1466, .int .i64 a1468, .slice A1470 a1469.length c1471, .int .u64 a1473, .int .i64 a1474, .int .i64 a1475, .int .i64 a1476, .int .i64 a1477, .int .i64 a1478, .int .i64 a1479, .bool a1480, .int .i64 (fn1487 0), .int .i64 (fn1487 1), .int .i64 (fn1487 2), .int .i64 (fn1487 3), .int .i64 (fn1487 4), .int .i64 (fn1487 5), .int .i64 (fn1487 6), .int .i64 (fn1487 7), .int .i64 (fn1487 8), .int .i64 (fn1487 9), .int .i64 (fn1487 10), .int .i64 (fn1487 11), .int .i64 (fn1487 12), .int .i64 (fn1487 13), .int .i64 (fn1487 14), .int .i64 (fn1487 15), .int .i64 a1481, .slice A1483 a1485.length c1484, .int .i64 a1486] 66 :: OSf E_api_Out 58 (.slice A1483 a1485.length c1484) a1485 :: l) hf) follows rfl (by kernel_rfl) NoTmp.body ?_
  have hS := hS.same (w' := { w with drawn := w.drawn + 1 }) rfl rfl
  revert hS
  generalize { w with drawn := w.drawn + 1 } = w
  intro hS
  refine RP.s0 0 rfl (fun w => Vl.move rfl) rfl ?_
  refine RP.s0 1 rfl (fun w => Vl.fieldAddr (a'' := ⟨b1494, 1, none⟩) Tryd.underlying48 rfl Tryd.sizeOf3 rfl rfl) rfl ?_
  refine RP.s 2 rfl rfl hS (fun w hS => Vl.load Tryd.isAgg3 rfl (hS.cell 0 rfl rfl)) rfl ?_
  refine RP.s0 3 rfl (fun w => Vl.move rfl) rfl ?_
  refine RP.s0 4 rfl (fun w => Vl.nilCheck rfl) rfl ?_
  refine RP.s0 5 rfl (fun w => Vl.fieldAddr (a'' := ⟨b1463, 4, none⟩) Tryd.underlying66 rfl Tryd.sizeOf33 rfl rfl) rfl ?_
  refine RP.s0 6 rfl (fun w => Vl.fieldAddr (a'' := ⟨b1463, 8, none⟩) Tryd.underlying33 rfl Tryd.sizeOf2 rfl rfl) rfl ?_
  refine RP.s 7 rfl rfl hS (fun w hS => Vl.load Tryd.isAgg2 rfl (hS.cell 1 rfl rfl)) rfl ?_
  refine RP.v1 8 rfl (Vl.nilCheck rfl) rfl rfl ?_
  refine RP.v1 9 rfl (Vl.fieldAddr (a'' := ⟨b1463, 11, none⟩) Tryd.underlying66 rfl Tryd.sizeOf64 rfl rfl) rfl rfl ?_
  obtain ⟨⟨hq1495, hq1496⟩, h⟩ := h.req
  refine RP.v1 10 rfl (Vl.indexAddrA (a'' := ⟨b1463, 11 + a1488.A.toNat * 1, none⟩) Tryd.underlying64 Tryd.sizeOf2 rfl rfl hq1495 hq1496 (add_mk _ _ _)) rfl rfl ?_
  refine RP.e0 11 rfl (OW.storeSeg (mk := (Value.int .i64)) (f := fn1487) (n := 16) (m := 11) (pre := [.slice A1465 a1464.length c1466, .int .i64 a1468, .slice A1470 a1469.length c1471, .int .u64 a1473, .int .i64 a1474, .int .i64 a1475, .int .i64 a1476, .int .i64 a1477, .int .i64 a1478, .int .i64 a1479, .bool a1480]) (post := [.int .i64 a1481, .slice A1483 a1485.length c1484, .int .i64 a1486]) (l' := Cl b1494 [.int .i64 a1488.Op, .int .i64 a1488.A, .int .i64 a1488.B, .int .i64 a1488.C] 48 :: Cl b1463 [.slice A1465 a1464.length c1466, .int .i64 a1468, .slice A1470 a1469.length c1471, .int .u64 a1473, .int .i64 a1474, .int .i64 a1475, .int .i64 a1476, .int .i64 a1477, .int .i64 a1478, .int .i64 a1479, .bool a1480, .int .i64 ((upd fn1487 (a1488.A.toNat * 1) a1478) 0), .int .i64 ((upd fn1487 (a1488.A.toNat * 1) a1478) 1), .int .i64 ((upd fn1487 (a1488.A.toNat * 1) a1478) 2), .int .i64 ((upd fn1487 (a1488.A.toNat * 1) a1478) 3), .int .i64 ((upd fn1487 (a1488.A.toNat * 1) a1478) 4), .int .i64 ((upd fn1487 (a1488.A.toNat * 1) a1478) 5), .int .i64 ((upd fn1487 (a1488.A.toNat * 1) a1478) 6), .int .i64 ((upd fn1487 (a1488.A.toNat * 1) a1478) 7), .int .i64 ((upd fn1487 (a1488.A.toNat * 1) a1478) 8), .int .i64 ((upd fn1487 (a1488.A.toNat * 1) a1478) 9), .int .i64 ((upd fn1487 (a1488.A.toNat * 1) a1478) 10), .int .i64 ((upd fn1487 (a1488.A.toNat * 1) a1478) 11), .int .i64 ((upd fn1487 (a1488.A.toNat * 1) a1478) 12), .int .i64 ((upd fn1487 (a1488.A.toNat * 1) a1478) 13), .int .i64 ((upd fn1487 (a1488.A.toNat * 1) a1478) 14), .int .i64 ((upd fn1487 (a1488.A.toNat * 1) a1478) 15), .int .i64 a1481, .slice A1483 a1485.length c1484, .int .i64 a1486] 66 :: OSf E_api_Out 58 (.slice A1483 a1485.length c1484) a1485 :: l) 1 hS rfl rfl rfl rfl Tryd.sizeOf2 (by omega) (fun _ => rfl) (fun _ => rfl) rfl) rfl ?_
  rintro _ w ⟨rfl, hS⟩
  have hS : St B w (Cl b1494 [.int .i64 a1488.Op, .int .i64 a1488.A, .int .i64 a1488.B, .int .i64 a1488.C] 48 :: Cl b1463 [.slice A1465 a1464.length c1466, .int .i64 a1468, .slice A1470 a1469.length c1471, .int .u64 a1473, .int .i64 a1474, .int .i64 a1475, .int .i64 a1476, .int .i64 a1477, .int .i64 a1478, .int .i64 a1479, .bool a1480, .int .i64 ((upd fn1487 (a1488.A.toNat * 1) a1478) 0), .int .i64 ((upd fn1487 (a1488.A.toNat * 1) a1478) 1), .int .i64 ((upd fn1487 (a1488.A.toNat * 1) a1478) 2), .int .i64 ((upd fn1487 (a1488.A.toNat * 1) a1478) 3), .int .i64 ((upd fn1487 (a1488.A.toNat * 1) a1478) 4), .int .i64 ((upd fn1487 (a1488.A.toNat * 1) a1478) 5), .int .i64 ((upd fn1487 (a1488.A.toNat * 1) a1478) 6), .int .i64 ((upd fn1487 (a1488.A.toNat * 1) a1478) 7), .int .i64 ((upd fn1487 (a1488.A.toNat * 1) a1478) 8), .int .i64 ((upd fn1487 (a1488.A.toNat * 1) a1478) 9), .int .i64 ((upd fn1487 (a1488.A.toNat * 1) a1478) 10), .int .i64 ((upd fn1487 (a1488.A.toNat * 1) a1478) 11), .int .i64 ((upd fn1487 (a1488.A.toNat * 1) a1478) 12), .int .i64 ((upd fn1487 (a1488.A.toNat * 1) a1478) 13), .int .i64 ((upd fn1487 (a1488.A.toNat * 1) a1478) 14), .int .i64 ((upd fn1487 (a1488.A.toNat * 1) a1478) 15), .int .i64 a1481, .slice A1483 a1485.length c1484, .int .i64 a1486] 66 :: OSf E_api_Out 58 (.slice A1483 a1485.length c1484) a1485 :: l) hf := hS
  refine ⟨(by intro hx; cases hx), ?_⟩
  refine RP.nil ?_
  have e := h.some
  subst e
  refine RQ.end0 (vs := []) Tryd.results63 trivial ?_
  exact ⟨rfl, (hS.dropAt 0 rfl)⟩

/-! ### (*isochron/vm.cpu).time: function 64 -/
noncomputable def vm_cpu_time.f (a1502 : List api_Instr) (a1506 : Int) (a1507 : List api_Link) (a1511 : Int) (a1512 : Int) (a1513 : Int) (a1514 : Int) (a1515 : Int) (a1516 : Int) (a1517 : Int) (a1518 : Bool) (a1519 : Int) (a1523 : List api_Out) (a1524 : Int) (fn1525 : (Nat → Int)) (a1526 : api_Instr) : Option ((Nat → Int)) := (if 0 ≤ a1526.A ∧ a1526.A < 16 then some (upd fn1525 (a1526.A.toNat * 1) a1512) else none)
set_option maxRecDepth 100000 in
set_option maxHeartbeats 4000000 in
theorem vm_cpu_time.ok {B : Base} {w : World} {l : List HProp} {hf : Hp} (a1502 : List api_Instr) (a1506 : Int) (a1507 : List api_Link) (a1511 : Int) (a1512 : Int) (a1513 : Int) (a1514 : Int) (a1515 : Int) (a1516 : Int) (a1517 : Int) (a1518 : Bool) (a1519 : Int) (a1523 : List api_Out) (a1524 : Int) (fn1525 : (Nat → Int)) (a1526 : api_Instr) (b1501 : Nat) (A1503 : Option Addr) (c1504 : Nat) (A1508 : Option Addr) (c1509 : Nat) (A1521 : Option Addr) (c1522 : Nat) (hr1505 : SlR E_api_Instr.rep hf A1503 c1504 a1502) (hr1510 : SlR E_api_Link.rep hf A1508 c1509 a1507) (r : (Nat → Int)) (h : vm_cpu_time.f a1502 a1506 a1507 a1511 a1512 a1513 a1514 a1515 a1516 a1517 a1518 a1519 a1523 a1524 fn1525 a1526 = some r) (hS : St B w (Cl b1501 [.slice A1503 a1502.length c1504, .int .i64 a1506, .slice A1508 a1507.length c1509, .int .u64 a1511, .int .i64 a1512, .int .i64 a1513, .int .i64 a1514, .int .i64 a1515, .int .i64 a1516, .int .i64 a1517, .bool a1518, .int .i64 (fn1525 0), .int .i64 (fn1525 1), .int .i64 (fn1525 2), .int .i64 (fn1525 3), .int .i64 (fn1525 4), .int .i64 (fn1525 5), .int .i64 (fn1525 6), .int .i64 (fn1525 7), .int .i64 (fn1525 8), .int .i64 (fn1525 9), .int .i64 (fn1525 10), .int .i64 (fn1525 11), .int .i64 (fn1525 12), .int .i64 (fn1525 13), .int .i64 (fn1525 14), .int .i64 (fn1525 15), .int .i64 a1519, .slice A1521 a1523.length c1522, .int .i64 a1524] 66 :: OSf E_api_Out 58 (.slice A1521 a1523.length c1522) a1523 :: l) hf) :
    Calls Tryd.prog 64 #[.pointer (some ⟨b1501, 0, none⟩), .agg #[.int .i64 a1526.Op, .int .i64 a1526.A, .int .i64 a1526.B, .int .i64 a1526.C]] w (Ret fun v w => v = .tuple #[] ∧ St B w (Cl b1501 [.slice A1503 a1502.length c1504, .int .i64 a1506, .slice A1508 a1507.length c1509, .int .u64 a1511, .int .i64 a1512, .int .i64 a1513, .int .i64 a1514, .int .i64 a1515, .int .i64 a1516, .int .i64 a1517, .bool a1518, .int .i64 (r 0), .int .i64 (r 1), .int .i64 (r 2), .int .i64 (r 3), .int .i64 (r 4), .int .i64 (r 5), .int .i64 (r 6), .int .i64 (r 7), .int .i64 (r 8), .int .i64 (r 9), .int .i64 (r 10), .int .i64 (r 11), .int .i64 (r 12), .int .i64 (r 13), .int .i64 (r 14), .int .i64 (r 15), .int .i64 a1519, .slice A1521 a1523.length c1522, .int .i64 a1524] 66 :: OSf E_api_Out 58 (.slice A1521 a1523.length c1522) a1523 :: l) hf) := by
  have h := Holds.of h
  refine enter (args := [.pointer (some ⟨b1501, 0, none⟩), .agg #[.int .i64 a1526.Op, .int .i64 a1526.A, .int .i64 a1526.B, .int .i64 a1526.C]]) Tryd.func64 rfl Tryd.ntmps64 (Nat.le_of_ble_eq_true rfl) ?_
  refine RC.seq ?_
  refine RC.region ?_
  refine RL.e (OW.box (cs := [.int .i64 a1526.Op, .int .i64 a1526.A, .int .i64 a1526.B, .int .i64 a1526.C]) hS rfl rfl) rfl rfl ?_
  rintro _ w ⟨b1532, rfl, hS⟩
  have hS : St B w (Cl b1532 [.int .i64 a1526.Op, .int .i64 a1526.A, .int .i64 a1526.B, .int .i64 a1526.C] 48 :: Cl b1501 [.slice A1503 a1502.length c1504, .int .i64 a1506, .slice A1508 a1507.length c1509, .int .u64 a1511, .int .i64 a1512, .int .i64 a1513, .int .i64 a1514, .int .i64 a1515, .int .i64 a1516, .int .i64 a1517, .bool a1518, .int .i64 (fn1525 0), .int .i64 (fn1525 1), .int .i64 (fn1525 2), .int .i64 (fn1525 3), .int .i64 (fn1525 4), .int .i64 (fn1525 5), .int .i64 (fn1525 6), .int .i64 (fn1525 7), .int .i64 (fn1525 8), .int .i64 (fn1525 9), .int .i64 (fn1525 10), .int .i64 (fn1525 11), .int .i64 (fn1525 12), .int .i64 (fn1525 13), .int .i64 (fn1525 14), .int .i64 (fn1525 15), .int .i64 a1519, .slice A1521 a1523.length c1522, .int .i64 a1524] 66 :: OSf E_api_Out 58 (.slice A1521 a1523.length c1522) a1523 :: l) hf := hS
  refine RL.nil ?_
  refine RQ.then_n ?_
  refine RC.plan (.pure 0 (.pure 1 (.cons 2 true (.pure 3 (.pure 4 (.pure 5 (.pure 6 (.pure 7 (.cons 8 true (.cons 9 false (.cons 10 false (.cons 11 false (.cons 12 false .nil))))))))))))) [11, 12] (fun w => St B w (Cl b1532 [.int .i64 a1526.Op, .int .i64 a1526.A, .int .i64 a1526.B, .int .i64 a1526.C] 48 :: Cl b1501 [.slice A1503 a1502.length c1504, .int .i64 a1506, .slice A1508 a1507.length c1509, .int .u64 a1511, .int .i64 a1512, .int .i64 a1513, .int .i64 a1514, .int .i64 a1515, .int .i64 a1516, .int .i64 a1517, .bool a1518, .int .i64 (fn1525 0), .int .i64 (fn1525 1), .int .i64 (fn1525 2), .int .i64 (fn1525 3), .int .i64 (fn1525 4), .int .i64 (fn1525 5), .int .i64 (fn1525 6), .int .i64 (fn1525 7), .int .i64 (fn1525 8), .int .i64 (fn1525 9), .int .i64 (fn1525 10), .int .i64 (fn1525 11), .int .i64 (fn1525 12), .int .i64 (fn1525 13), .int .i64 (fn1525 14), .int .i64 (fn1525 15), .int .i64 a1519, .slice A1521 a1523.length c1522, .int .i64 a1524] 66 :: OSf E_api_Out 58 (.slice A1521 a1523.length c1522) a1523 :: l) hf) follows rfl (by kernel_rfl) NoTmp.body ?_
  have hS := hS.same (w' := { w with drawn := w.drawn + 1 }) rfl rfl
  revert hS
  generalize { w with drawn := w.drawn + 1 } = w
  intro hS
  refine RP.s0 0 rfl (fun w => Vl.move rfl) rfl ?_
  refine RP.s0 1 rfl (fun w => Vl.fieldAddr (a'' := ⟨b1532, 1, none⟩) Tryd.underlying48 rfl Tryd.sizeOf3 rfl rfl) rfl ?_
  refine RP.s 2 rfl rfl hS (fun w hS => Vl.load Tryd.isAgg3 rfl (hS.cell 0 rfl rfl)) rfl ?_
  refine RP.s0 3 rfl (fun w => Vl.move rfl) rfl ?_
  refine RP.s0 4 rfl (fun w => Vl.nilCheck rfl) rfl ?_
  refine RP.s0 5 rfl (fun w => Vl.fieldAddr (a'' := ⟨b1501, 4, none⟩) Tryd.underlying66 rfl Tryd.sizeOf33 rfl rfl) rfl ?_
  refine RP.s0 6 rfl (fun w => Vl.fieldAddr (a'' := ⟨b1501, 4, none⟩) Tryd.underlying33 rfl Tryd.sizeOf31 rfl rfl) rfl ?_
  refine RP.s0 7 rfl (fun w => Vl.fieldAddr (a'' := ⟨b1501, 4, none⟩) Tryd.underlying31 rfl Tryd.sizeOf2 rfl rfl) rfl ?_
  refine RP.s 8 rfl rfl hS (fun w hS => Vl.load Tryd.isAgg2 rfl (hS.cell 1 rfl rfl)) rfl ?_
  refine RP.v1 9 rfl (Vl.nilCheck rfl) rfl rfl ?_
  refine RP.v1 10 rfl (Vl.fieldAddr (a'' := ⟨b1501, 11, none⟩) Tryd.underlying66 rfl Tryd.sizeOf64 rfl rfl) rfl rfl ?_
  obtain ⟨⟨hq1533, hq1534⟩, h⟩ := h.req
  refine RP.v1 11 rfl (Vl.indexAddrA (a'' := ⟨b1501, 11 + a1526.A.toNat * 1, none⟩) Tryd.underlying64 Tryd.sizeOf2 rfl rfl hq1533 hq1534 (add_mk _ _ _)) rfl rfl ?_
  refine RP.e0 12 rfl (OW.storeSeg (mk := (Value.int .i64)) (f := fn1525) (n := 16) (m := 11) (pre := [.slice A1503 a1502.length c1504, .int .i64 a1506, .slice A1508 a1507.length c1509, .int .u64 a1511, .int .i64 a1512, .int .i64 a1513, .int .i64 a1514, .int .i64 a1515, .int .i64 a1516, .int .i64 a1517, .bool a1518]) (post := [.int .i64 a1519, .slice A1521 a1523.length c1522, .int .i64 a1524]) (l' := Cl b1532 [.int .i64 a1526.Op, .int .i64 a1526.A, .int .i64 a1526.B, .int .i64 a1526.C] 48 :: Cl b1501 [.slice A1503 a1502.length c1504, .int .i64 a1506, .slice A1508 a1507.length c1509, .int .u64 a1511, .int .i64 a1512, .int .i64 a1513, .int .i64 a1514, .int .i64 a1515, .int .i64 a1516, .int .i64 a1517, .bool a1518, .int .i64 ((upd fn1525 (a1526.A.toNat * 1) a1512) 0), .int .i64 ((upd fn1525 (a1526.A.toNat * 1) a1512) 1), .int .i64 ((upd fn1525 (a1526.A.toNat * 1) a1512) 2), .int .i64 ((upd fn1525 (a1526.A.toNat * 1) a1512) 3), .int .i64 ((upd fn1525 (a1526.A.toNat * 1) a1512) 4), .int .i64 ((upd fn1525 (a1526.A.toNat * 1) a1512) 5), .int .i64 ((upd fn1525 (a1526.A.toNat * 1) a1512) 6), .int .i64 ((upd fn1525 (a1526.A.toNat * 1) a1512) 7), .int .i64 ((upd fn1525 (a1526.A.toNat * 1) a1512) 8), .int .i64 ((upd fn1525 (a1526.A.toNat * 1) a1512) 9), .int .i64 ((upd fn1525 (a1526.A.toNat * 1) a1512) 10), .int .i64 ((upd fn1525 (a1526.A.toNat * 1) a1512) 11), .int .i64 ((upd fn1525 (a1526.A.toNat * 1) a1512) 12), .int .i64 ((upd fn1525 (a1526.A.toNat * 1) a1512) 13), .int .i64 ((upd fn1525 (a1526.A.toNat * 1) a1512) 14), .int .i64 ((upd fn1525 (a1526.A.toNat * 1) a1512) 15), .int .i64 a1519, .slice A1521 a1523.length c1522, .int .i64 a1524] 66 :: OSf E_api_Out 58 (.slice A1521 a1523.length c1522) a1523 :: l) 1 hS rfl rfl rfl rfl Tryd.sizeOf2 (by omega) (fun _ => rfl) (fun _ => rfl) rfl) rfl ?_
  rintro _ w ⟨rfl, hS⟩
  have hS : St B w (Cl b1532 [.int .i64 a1526.Op, .int .i64 a1526.A, .int .i64 a1526.B, .int .i64 a1526.C] 48 :: Cl b1501 [.slice A1503 a1502.length c1504, .int .i64 a1506, .slice A1508 a1507.length c1509, .int .u64 a1511, .int .i64 a1512, .int .i64 a1513, .int .i64 a1514, .int .i64 a1515, .int .i64 a1516, .int .i64 a1517, .bool a1518, .int .i64 ((upd fn1525 (a1526.A.toNat * 1) a1512) 0), .int .i64 ((upd fn1525 (a1526.A.toNat * 1) a1512) 1), .int .i64 ((upd fn1525 (a1526.A.toNat * 1) a1512) 2), .int .i64 ((upd fn1525 (a1526.A.toNat * 1) a1512) 3), .int .i64 ((upd fn1525 (a1526.A.toNat * 1) a1512) 4), .int .i64 ((upd fn1525 (a1526.A.toNat * 1) a1512) 5), .int .i64 ((upd fn1525 (a1526.A.toNat * 1) a1512) 6), .int .i64 ((upd fn1525 (a1526.A.toNat * 1) a1512) 7), .int .i64 ((upd fn1525 (a1526.A.toNat * 1) a1512) 8), .int .i64 ((upd fn1525 (a1526.A.toNat * 1) a1512) 9), .int .i64 ((upd fn1525 (a1526.A.toNat * 1) a1512) 10), .int .i64 ((upd fn1525 (a1526.A.toNat * 1) a1512) 11), .int .i64 ((upd fn1525 (a1526.A.toNat * 1) a1512) 12), .int .i64 ((upd fn1525 (a1526.A.toNat * 1) a1512) 13), .int .i64 ((upd fn1525 (a1526.A.toNat * 1) a1512) 14), .int .i64 ((upd fn1525 (a1526.A.toNat * 1) a1512) 15), .int .i64 a1519, .slice A1521 a1523.length c1522, .int .i64 a1524] 66 :: OSf E_api_Out 58 (.slice A1521 a1523.length c1522) a1523 :: l) hf := hS
  refine ⟨(by intro hx; cases hx), ?_⟩
  refine RP.nil ?_
  have e := h.some
  subst e
  refine RQ.end0 (vs := []) Tryd.results64 trivial ?_
  exact ⟨rfl, (hS.dropAt 0 rfl)⟩

end Go.Proofs.Gx
