/-
  The walks of functions, each with what it computes: printed by wip/gx.py.
-/
import Derived.Test.YtioiognklelipaaDoorW0
import Derived.Test.YtioiognklelipaaDoorW2
import Derived.Test.YtioiognklelipaaDoorW3
set_option linter.unusedVariables false
set_option maxRecDepth 100000
set_option maxHeartbeats 4000000
namespace Go.Proofs.Gx
open Go.Sl Tryd
variable {B : Base} {w : World} {l : List HProp} {hf : Hp}
/-! ### (*isochron/vm.cpu).draw: function 69 -/
noncomputable def vm_cpu_draw.f (a2 : List api_Instr) (a6 : Int) (a7 : List api_Link) (a11 a12 a13 a14 a15 a16 a17 : Int) (a18 : Bool) (a19 : Int) (a22 : List api_Out) (a23 : Int) (fn24 : (Nat → Int)) (a25 : api_Instr) : Option ((Nat → Int) × Int) := (if 0 ≤ a25.B ∧ a25.B < 16 then ((draw_Below.f a11 a6 a19 (fn24 (a25.B.toNat * 1))).bind fun t36 => (if 0 ≤ a25.A ∧ a25.A < 16 then some (upd fn24 (a25.A.toNat * 1) t36, IntKind.i64.wrap (a19 + 1)) else none)) else none)
theorem vm_cpu_draw.ok {a2 : List api_Instr} {a6 : Int} {a7 : List api_Link} {a11 a12 a13 a14 a15 a16 a17 : Int} {a18 : Bool} {a19 : Int} {a22 : List api_Out} {a23 : Int} {fn24 : (Nat → Int)} {a25 : api_Instr} {b1 : Nat} {A3 : Option Addr} {c4 : Nat} {A8 : Option Addr} {c9 : Nat} {A20 : Option Addr} {c21 : Nat} (hr5 : SlR E_api_Instr.rep hf A3 c4 a2) (hr10 : SlR E_api_Link.rep hf A8 c9 a7) {r : (Nat → Int) × Int} (h : vm_cpu_draw.f a2 a6 a7 a11 a12 a13 a14 a15 a16 a17 a18 a19 a22 a23 fn24 a25 = some r) (hS : St B w (Cl b1 [.slice A3 a2.length c4, .int .i64 a6, .slice A8 a7.length c9, .int .u64 a11, .int .i64 a12, .int .i64 a13, .int .i64 a14, .int .i64 a15, .int .i64 a16, .int .i64 a17, .bool a18, .int .i64 (fn24 0), .int .i64 (fn24 1), .int .i64 (fn24 2), .int .i64 (fn24 3), .int .i64 (fn24 4), .int .i64 (fn24 5), .int .i64 (fn24 6), .int .i64 (fn24 7), .int .i64 (fn24 8), .int .i64 (fn24 9), .int .i64 (fn24 10), .int .i64 (fn24 11), .int .i64 (fn24 12), .int .i64 (fn24 13), .int .i64 (fn24 14), .int .i64 (fn24 15), .int .i64 a19, .slice A20 a22.length c21, .int .i64 a23] 102 :: OSf E_api_Out 110 (.slice A20 a22.length c21) a22 :: l) hf) :
    Calls prog 69 #[.pointer (some ⟨b1, 0, none⟩), .agg #[.int .i64 a25.Op, .int .i64 a25.A, .int .i64 a25.B, .int .i64 a25.C]] w (Ret fun v w => v = .tuple #[] ∧ St B w (Cl b1 [.slice A3 a2.length c4, .int .i64 a6, .slice A8 a7.length c9, .int .u64 a11, .int .i64 a12, .int .i64 a13, .int .i64 a14, .int .i64 a15, .int .i64 a16, .int .i64 a17, .bool a18, .int .i64 (r.1 0), .int .i64 (r.1 1), .int .i64 (r.1 2), .int .i64 (r.1 3), .int .i64 (r.1 4), .int .i64 (r.1 5), .int .i64 (r.1 6), .int .i64 (r.1 7), .int .i64 (r.1 8), .int .i64 (r.1 9), .int .i64 (r.1 10), .int .i64 (r.1 11), .int .i64 (r.1 12), .int .i64 (r.1 13), .int .i64 (r.1 14), .int .i64 (r.1 15), .int .i64 r.2, .slice A20 a22.length c21, .int .i64 a23] 102 :: OSf E_api_Out 110 (.slice A20 a22.length c21) a22 :: l) hf) := by
  have h := Holds.of h
  refine en func69 rfl ntmps69 rfl (sr (bx hS rfl rfl rfl rfl fun b33 w hS => ln (RC.seq (RC.planS (plD [0, 3, 7, 9, 12, 15, 18, 22, 24, 27, 30, 33, 37, 39, 42, 45, 49, 51, 54, 58, 60, 63, 66, 70, 75, 78, 74, 83, 86]) [27, 28] hS (fun w hS => hS) follows rfl (by kernel_rfl) (NoTmp.then NoTmp.body) fun w hS => pp 1 rfl (RP.s0 1 rfl (fun w => Vl.fa 1 underlying89 rfl sizeOf3 rfl rfl) rfl (RP.s 0 2 rfl rfl hS (fun w hS => Vl.ld 0 hS isAgg3 rfl rfl rfl) rfl (pp 2 rfl (RP.s0 5 rfl (fun w => Vl.fa 0 underlying102 rfl sizeOf26 rfl rfl) rfl (RP.s0 6 rfl (fun w => Vl.fa 3 underlying26 rfl sizeOf24 rfl rfl) rfl (RP.s 0 7 rfl rfl hS (fun w hS => Vl.ld 1 hS isAgg24 rfl rfl rfl) rfl (pp 2 rfl ?_)))))))))))
  refine RP.s0 10 rfl (fun w => Vl.fa 0 underlying102 rfl sizeOf26 rfl rfl) rfl (RP.s0 11 rfl (fun w => Vl.fa 1 underlying26 rfl sizeOf3 rfl rfl) rfl (RP.s 0 12 rfl rfl hS (fun w hS => Vl.ld 1 hS isAgg3 rfl rfl rfl) rfl (pp 2 rfl (RP.s0 15 rfl (fun w => Vl.fa 27 underlying102 rfl sizeOf3 rfl rfl) rfl (RP.s 0 16 rfl rfl hS (fun w hS => Vl.ld 1 hS isAgg3 rfl rfl rfl) rfl (pp 1 rfl (RP.s0 18 rfl (fun w => Vl.fa 2 underlying89 rfl sizeOf3 rfl rfl) rfl (RP.s 0 19 rfl rfl hS (fun w hS => Vl.ld 0 hS isAgg3 rfl rfl rfl) rfl (pp 1 rfl (RP.s0 21 rfl (fun w => Vl.fa 11 underlying102 rfl sizeOf100 rfl rfl) rfl ?_))))))))))
  obtain ⟨⟨hq34, hq35⟩, h⟩ := h.req
  refine RP.s0 22 rfl (fun w => Vl.indexAddrA (a'' := ⟨b1, 11 + a25.B.toNat * 1, none⟩) underlying100 sizeOf2 rfl rfl hq34 hq35 (add_mk _ _ _)) rfl (RP.s 0 23 rfl rfl hS (fun w hS => Vl.load isAgg2 rfl (hS.cell (off := 11 + a25.B.toNat * 1) (cs := [.slice A3 a2.length c4, .int .i64 a6, .slice A8 a7.length c9, .int .u64 a11, .int .i64 a12, .int .i64 a13, .int .i64 a14, .int .i64 a15, .int .i64 a16, .int .i64 a17, .bool a18] ++ (fc (Value.int .i64) 16 fn24 ++ [.int .i64 a19, .slice A20 a22.length c21, .int .i64 a23])) 1 rfl (seg_get rfl (by omega)))) rfl (pp 1 rfl (RP.s0 26 rfl (fun w => Vl.fa 11 underlying102 rfl sizeOf100 rfl rfl) rfl ?_)))
  obtain ⟨t36, hg37, h⟩ := h.bind
  have hc := draw_Below.ok hg37 hS
  refine RP.e 24 rfl (OW.callF (ls := [.tmp 11, .tmp 16, .tmp 20, .tmp 27]) rfl call79 hc) rfl rfl ?_
  rintro _ w ⟨rfl, hS⟩
  refine ⟨kp ⟨fun _ => hS, trivial⟩, ?_⟩
  obtain ⟨⟨hq38, hq39⟩, h⟩ := h.req
  refine RP.v1 27 rfl (Vl.indexAddrA (a'' := ⟨b1, 11 + a25.A.toNat * 1, none⟩) underlying100 sizeOf2 rfl rfl hq38 hq39 (add_mk _ _ _)) rfl rfl (RP.e0 28 rfl (OW.storeSeg (mk := (Value.int .i64)) (f := fn24) (n := 16) (m := 11) (pre := [.slice A3 a2.length c4, .int .i64 a6, .slice A8 a7.length c9, .int .u64 a11, .int .i64 a12, .int .i64 a13, .int .i64 a14, .int .i64 a15, .int .i64 a16, .int .i64 a17, .bool a18]) (post := [.int .i64 a19, .slice A20 a22.length c21, .int .i64 a23]) 1 hS rfl rfl rfl rfl sizeOf2 (by omega) (fun _ => rfl) (fun _ => rfl) rfl) rfl ?_)
  rintro _ w ⟨rfl, hS⟩
  have hS : St B w (_ :: _ :: _ :: l) hf := hS
  refine ⟨kp ⟨(by intro hx; cases hx), trivial⟩, ?_⟩
  refine RP.nil (RQ.then_n (RC.region (pn 2 rfl (RL.s (Vl.fa 27 underlying102 rfl sizeOf3 rfl rfl) rfl (RL.s (Vl.ld 1 hS isAgg3 rfl rfl rfl) rfl (pn 2 rfl (RL.s (Vl.fa 27 underlying102 rfl sizeOf3 rfl rfl) rfl (RL.e0 (OW.store (vs := [.int .i64 (IntKind.i64.wrap (a19 + 1))]) 1 hS rfl rfl rfl rfl sizeOf3 rfl rfl rfl rfl) rfl ?_))))))))
  rintro _ w ⟨rfl, hS⟩
  have hS : St B w (_ :: Cl b1 [.slice A3 a2.length c4, .int .i64 a6, .slice A8 a7.length c9, .int .u64 a11, .int .i64 a12, .int .i64 a13, .int .i64 a14, .int .i64 a15, .int .i64 a16, .int .i64 a17, .bool a18, .int .i64 ((upd fn24 (a25.A.toNat * 1) t36) 0), .int .i64 ((upd fn24 (a25.A.toNat * 1) t36) 1), .int .i64 ((upd fn24 (a25.A.toNat * 1) t36) 2), .int .i64 ((upd fn24 (a25.A.toNat * 1) t36) 3), .int .i64 ((upd fn24 (a25.A.toNat * 1) t36) 4), .int .i64 ((upd fn24 (a25.A.toNat * 1) t36) 5), .int .i64 ((upd fn24 (a25.A.toNat * 1) t36) 6), .int .i64 ((upd fn24 (a25.A.toNat * 1) t36) 7), .int .i64 ((upd fn24 (a25.A.toNat * 1) t36) 8), .int .i64 ((upd fn24 (a25.A.toNat * 1) t36) 9), .int .i64 ((upd fn24 (a25.A.toNat * 1) t36) 10), .int .i64 ((upd fn24 (a25.A.toNat * 1) t36) 11), .int .i64 ((upd fn24 (a25.A.toNat * 1) t36) 12), .int .i64 ((upd fn24 (a25.A.toNat * 1) t36) 13), .int .i64 ((upd fn24 (a25.A.toNat * 1) t36) 14), .int .i64 ((upd fn24 (a25.A.toNat * 1) t36) 15), .int .i64 (IntKind.i64.wrap (a19 + 1)), .slice A20 a22.length c21, .int .i64 a23] 102 :: _ :: l) hf := hS
  refine RL.nil ?_
  obtain rfl := h.some
  exact rtE results69 rfl ⟨rfl, hS.d0⟩

/-! ### (*isochron/vm.cpu).value: function 70 -/
noncomputable def vm_cpu_value.f (a2 : List api_Instr) (a6 : Int) (a7 : List api_Link) (a11 a12 a13 a14 a15 a16 a17 : Int) (a18 : Bool) (a19 : Int) (a22 : List api_Out) (a23 : Int) (fn24 : (Nat → Int)) (a25 : api_Instr) : Option ((Nat → Int)) := (if 0 ≤ a25.A ∧ a25.A < 16 then some (upd fn24 (a25.A.toNat * 1) a16) else none)
theorem vm_cpu_value.ok {a2 : List api_Instr} {a6 : Int} {a7 : List api_Link} {a11 a12 a13 a14 a15 a16 a17 : Int} {a18 : Bool} {a19 : Int} {a22 : List api_Out} {a23 : Int} {fn24 : (Nat → Int)} {a25 : api_Instr} {b1 : Nat} {A3 : Option Addr} {c4 : Nat} {A8 : Option Addr} {c9 : Nat} {A20 : Option Addr} {c21 : Nat} (hr5 : SlR E_api_Instr.rep hf A3 c4 a2) (hr10 : SlR E_api_Link.rep hf A8 c9 a7) {r : (Nat → Int)} (h : vm_cpu_value.f a2 a6 a7 a11 a12 a13 a14 a15 a16 a17 a18 a19 a22 a23 fn24 a25 = some r) (hS : St B w (Cl b1 [.slice A3 a2.length c4, .int .i64 a6, .slice A8 a7.length c9, .int .u64 a11, .int .i64 a12, .int .i64 a13, .int .i64 a14, .int .i64 a15, .int .i64 a16, .int .i64 a17, .bool a18, .int .i64 (fn24 0), .int .i64 (fn24 1), .int .i64 (fn24 2), .int .i64 (fn24 3), .int .i64 (fn24 4), .int .i64 (fn24 5), .int .i64 (fn24 6), .int .i64 (fn24 7), .int .i64 (fn24 8), .int .i64 (fn24 9), .int .i64 (fn24 10), .int .i64 (fn24 11), .int .i64 (fn24 12), .int .i64 (fn24 13), .int .i64 (fn24 14), .int .i64 (fn24 15), .int .i64 a19, .slice A20 a22.length c21, .int .i64 a23] 102 :: OSf E_api_Out 110 (.slice A20 a22.length c21) a22 :: l) hf) :
    Calls prog 70 #[.pointer (some ⟨b1, 0, none⟩), .agg #[.int .i64 a25.Op, .int .i64 a25.A, .int .i64 a25.B, .int .i64 a25.C]] w (Ret fun v w => v = .tuple #[] ∧ St B w (Cl b1 [.slice A3 a2.length c4, .int .i64 a6, .slice A8 a7.length c9, .int .u64 a11, .int .i64 a12, .int .i64 a13, .int .i64 a14, .int .i64 a15, .int .i64 a16, .int .i64 a17, .bool a18, .int .i64 (r 0), .int .i64 (r 1), .int .i64 (r 2), .int .i64 (r 3), .int .i64 (r 4), .int .i64 (r 5), .int .i64 (r 6), .int .i64 (r 7), .int .i64 (r 8), .int .i64 (r 9), .int .i64 (r 10), .int .i64 (r 11), .int .i64 (r 12), .int .i64 (r 13), .int .i64 (r 14), .int .i64 (r 15), .int .i64 a19, .slice A20 a22.length c21, .int .i64 a23] 102 :: OSf E_api_Out 110 (.slice A20 a22.length c21) a22 :: l) hf) := by
  have h := Holds.of h
  refine en func70 rfl ntmps70 rfl (sr (bx hS rfl rfl rfl rfl fun b29 w hS => ln (RC.planS (plD [0, 3, 7, 9, 12, 15, 18, 22, 26, 29, 32, 35]) [10, 11] hS (fun w hS => hS) follows rfl (by kernel_rfl) NoTmp.body fun w hS => pp 1 rfl (RP.s0 1 rfl (fun w => Vl.fa 1 underlying89 rfl sizeOf3 rfl rfl) rfl (RP.s 0 2 rfl rfl hS (fun w hS => Vl.ld 0 hS isAgg3 rfl rfl rfl) rfl (pp 2 rfl (RP.s0 5 rfl (fun w => Vl.fa 4 underlying102 rfl sizeOf30 rfl rfl) rfl (RP.s0 6 rfl (fun w => Vl.fa 8 underlying30 rfl sizeOf2 rfl rfl) rfl (RP.s 0 7 rfl rfl hS (fun w hS => Vl.ld 1 hS isAgg2 rfl rfl rfl) rfl (RP.v1 8 rfl (Vl.nilCheck rfl) rfl rfl (RP.v1 9 rfl (Vl.fa 11 underlying102 rfl sizeOf100 rfl rfl) rfl rfl ?_)))))))))))
  obtain ⟨⟨hq30, hq31⟩, h⟩ := h.req
  refine RP.v1 10 rfl (Vl.indexAddrA (a'' := ⟨b1, 11 + a25.A.toNat * 1, none⟩) underlying100 sizeOf2 rfl rfl hq30 hq31 (add_mk _ _ _)) rfl rfl (RP.e0 11 rfl (OW.storeSeg (mk := (Value.int .i64)) (f := fn24) (n := 16) (m := 11) (pre := [.slice A3 a2.length c4, .int .i64 a6, .slice A8 a7.length c9, .int .u64 a11, .int .i64 a12, .int .i64 a13, .int .i64 a14, .int .i64 a15, .int .i64 a16, .int .i64 a17, .bool a18]) (post := [.int .i64 a19, .slice A20 a22.length c21, .int .i64 a23]) 1 hS rfl rfl rfl rfl sizeOf2 (by omega) (fun _ => rfl) (fun _ => rfl) rfl) rfl ?_)
  rintro _ w ⟨rfl, hS⟩
  have hS : St B w (_ :: _ :: _ :: l) hf := hS
  refine ⟨kp ⟨(by intro hx; cases hx), trivial⟩, ?_⟩
  refine RP.nil ?_
  obtain rfl := h.some
  exact rtE results70 rfl ⟨rfl, hS.d0⟩

/-! ### (*isochron/vm.cpu).time: function 71 -/
noncomputable def vm_cpu_time.f (a2 : List api_Instr) (a6 : Int) (a7 : List api_Link) (a11 a12 a13 a14 a15 a16 a17 : Int) (a18 : Bool) (a19 : Int) (a22 : List api_Out) (a23 : Int) (fn24 : (Nat → Int)) (a25 : api_Instr) : Option ((Nat → Int)) := (if 0 ≤ a25.A ∧ a25.A < 16 then some (upd fn24 (a25.A.toNat * 1) a12) else none)
theorem vm_cpu_time.ok {a2 : List api_Instr} {a6 : Int} {a7 : List api_Link} {a11 a12 a13 a14 a15 a16 a17 : Int} {a18 : Bool} {a19 : Int} {a22 : List api_Out} {a23 : Int} {fn24 : (Nat → Int)} {a25 : api_Instr} {b1 : Nat} {A3 : Option Addr} {c4 : Nat} {A8 : Option Addr} {c9 : Nat} {A20 : Option Addr} {c21 : Nat} (hr5 : SlR E_api_Instr.rep hf A3 c4 a2) (hr10 : SlR E_api_Link.rep hf A8 c9 a7) {r : (Nat → Int)} (h : vm_cpu_time.f a2 a6 a7 a11 a12 a13 a14 a15 a16 a17 a18 a19 a22 a23 fn24 a25 = some r) (hS : St B w (Cl b1 [.slice A3 a2.length c4, .int .i64 a6, .slice A8 a7.length c9, .int .u64 a11, .int .i64 a12, .int .i64 a13, .int .i64 a14, .int .i64 a15, .int .i64 a16, .int .i64 a17, .bool a18, .int .i64 (fn24 0), .int .i64 (fn24 1), .int .i64 (fn24 2), .int .i64 (fn24 3), .int .i64 (fn24 4), .int .i64 (fn24 5), .int .i64 (fn24 6), .int .i64 (fn24 7), .int .i64 (fn24 8), .int .i64 (fn24 9), .int .i64 (fn24 10), .int .i64 (fn24 11), .int .i64 (fn24 12), .int .i64 (fn24 13), .int .i64 (fn24 14), .int .i64 (fn24 15), .int .i64 a19, .slice A20 a22.length c21, .int .i64 a23] 102 :: OSf E_api_Out 110 (.slice A20 a22.length c21) a22 :: l) hf) :
    Calls prog 71 #[.pointer (some ⟨b1, 0, none⟩), .agg #[.int .i64 a25.Op, .int .i64 a25.A, .int .i64 a25.B, .int .i64 a25.C]] w (Ret fun v w => v = .tuple #[] ∧ St B w (Cl b1 [.slice A3 a2.length c4, .int .i64 a6, .slice A8 a7.length c9, .int .u64 a11, .int .i64 a12, .int .i64 a13, .int .i64 a14, .int .i64 a15, .int .i64 a16, .int .i64 a17, .bool a18, .int .i64 (r 0), .int .i64 (r 1), .int .i64 (r 2), .int .i64 (r 3), .int .i64 (r 4), .int .i64 (r 5), .int .i64 (r 6), .int .i64 (r 7), .int .i64 (r 8), .int .i64 (r 9), .int .i64 (r 10), .int .i64 (r 11), .int .i64 (r 12), .int .i64 (r 13), .int .i64 (r 14), .int .i64 (r 15), .int .i64 a19, .slice A20 a22.length c21, .int .i64 a23] 102 :: OSf E_api_Out 110 (.slice A20 a22.length c21) a22 :: l) hf) := by
  have h := Holds.of h
  refine en func71 rfl ntmps71 rfl (sr (bx hS rfl rfl rfl rfl fun b29 w hS => ln (RC.planS (plD [0, 3, 7, 9, 12, 15, 18, 21, 25, 29, 32, 35, 38]) [11, 12] hS (fun w hS => hS) follows rfl (by kernel_rfl) NoTmp.body fun w hS => pp 1 rfl (RP.s0 1 rfl (fun w => Vl.fa 1 underlying89 rfl sizeOf3 rfl rfl) rfl (RP.s 0 2 rfl rfl hS (fun w hS => Vl.ld 0 hS isAgg3 rfl rfl rfl) rfl (pp 2 rfl (RP.s0 5 rfl (fun w => Vl.fa 4 underlying102 rfl sizeOf30 rfl rfl) rfl (RP.s0 6 rfl (fun w => Vl.fa 4 underlying30 rfl sizeOf28 rfl rfl) rfl (RP.s0 7 rfl (fun w => Vl.fa 4 underlying28 rfl sizeOf2 rfl rfl) rfl (RP.s 0 8 rfl rfl hS (fun w hS => Vl.ld 1 hS isAgg2 rfl rfl rfl) rfl (RP.v1 9 rfl (Vl.nilCheck rfl) rfl rfl ?_)))))))))))
  refine RP.v1 10 rfl (Vl.fa 11 underlying102 rfl sizeOf100 rfl rfl) rfl rfl ?_
  obtain ⟨⟨hq30, hq31⟩, h⟩ := h.req
  refine RP.v1 11 rfl (Vl.indexAddrA (a'' := ⟨b1, 11 + a25.A.toNat * 1, none⟩) underlying100 sizeOf2 rfl rfl hq30 hq31 (add_mk _ _ _)) rfl rfl (RP.e0 12 rfl (OW.storeSeg (mk := (Value.int .i64)) (f := fn24) (n := 16) (m := 11) (pre := [.slice A3 a2.length c4, .int .i64 a6, .slice A8 a7.length c9, .int .u64 a11, .int .i64 a12, .int .i64 a13, .int .i64 a14, .int .i64 a15, .int .i64 a16, .int .i64 a17, .bool a18]) (post := [.int .i64 a19, .slice A20 a22.length c21, .int .i64 a23]) 1 hS rfl rfl rfl rfl sizeOf2 (by omega) (fun _ => rfl) (fun _ => rfl) rfl) rfl ?_)
  rintro _ w ⟨rfl, hS⟩
  have hS : St B w (_ :: _ :: _ :: l) hf := hS
  refine ⟨kp ⟨(by intro hx; cases hx), trivial⟩, ?_⟩
  refine RP.nil ?_
  obtain rfl := h.some
  exact rtE results71 rfl ⟨rfl, hS.d0⟩

/-! ### (*isochron/vm.cpu).self: function 72 -/
noncomputable def vm_cpu_self.f (a2 : List api_Instr) (a6 : Int) (a7 : List api_Link) (a11 a12 a13 a14 a15 a16 a17 : Int) (a18 : Bool) (a19 : Int) (a22 : List api_Out) (a23 : Int) (fn24 : (Nat → Int)) (a25 : api_Instr) : Option ((Nat → Int)) := (if 0 ≤ a25.A ∧ a25.A < 16 then some (upd fn24 (a25.A.toNat * 1) a6) else none)
theorem vm_cpu_self.ok {a2 : List api_Instr} {a6 : Int} {a7 : List api_Link} {a11 a12 a13 a14 a15 a16 a17 : Int} {a18 : Bool} {a19 : Int} {a22 : List api_Out} {a23 : Int} {fn24 : (Nat → Int)} {a25 : api_Instr} {b1 : Nat} {A3 : Option Addr} {c4 : Nat} {A8 : Option Addr} {c9 : Nat} {A20 : Option Addr} {c21 : Nat} (hr5 : SlR E_api_Instr.rep hf A3 c4 a2) (hr10 : SlR E_api_Link.rep hf A8 c9 a7) {r : (Nat → Int)} (h : vm_cpu_self.f a2 a6 a7 a11 a12 a13 a14 a15 a16 a17 a18 a19 a22 a23 fn24 a25 = some r) (hS : St B w (Cl b1 [.slice A3 a2.length c4, .int .i64 a6, .slice A8 a7.length c9, .int .u64 a11, .int .i64 a12, .int .i64 a13, .int .i64 a14, .int .i64 a15, .int .i64 a16, .int .i64 a17, .bool a18, .int .i64 (fn24 0), .int .i64 (fn24 1), .int .i64 (fn24 2), .int .i64 (fn24 3), .int .i64 (fn24 4), .int .i64 (fn24 5), .int .i64 (fn24 6), .int .i64 (fn24 7), .int .i64 (fn24 8), .int .i64 (fn24 9), .int .i64 (fn24 10), .int .i64 (fn24 11), .int .i64 (fn24 12), .int .i64 (fn24 13), .int .i64 (fn24 14), .int .i64 (fn24 15), .int .i64 a19, .slice A20 a22.length c21, .int .i64 a23] 102 :: OSf E_api_Out 110 (.slice A20 a22.length c21) a22 :: l) hf) :
    Calls prog 72 #[.pointer (some ⟨b1, 0, none⟩), .agg #[.int .i64 a25.Op, .int .i64 a25.A, .int .i64 a25.B, .int .i64 a25.C]] w (Ret fun v w => v = .tuple #[] ∧ St B w (Cl b1 [.slice A3 a2.length c4, .int .i64 a6, .slice A8 a7.length c9, .int .u64 a11, .int .i64 a12, .int .i64 a13, .int .i64 a14, .int .i64 a15, .int .i64 a16, .int .i64 a17, .bool a18, .int .i64 (r 0), .int .i64 (r 1), .int .i64 (r 2), .int .i64 (r 3), .int .i64 (r 4), .int .i64 (r 5), .int .i64 (r 6), .int .i64 (r 7), .int .i64 (r 8), .int .i64 (r 9), .int .i64 (r 10), .int .i64 (r 11), .int .i64 (r 12), .int .i64 (r 13), .int .i64 (r 14), .int .i64 (r 15), .int .i64 a19, .slice A20 a22.length c21, .int .i64 a23] 102 :: OSf E_api_Out 110 (.slice A20 a22.length c21) a22 :: l) hf) := by
  have h := Holds.of h
  refine en func72 rfl ntmps72 rfl (sr (bx hS rfl rfl rfl rfl fun b29 w hS => ln (RC.planS (plD [0, 3, 7, 9, 12, 15, 18, 22, 26, 29, 32, 35]) [10, 11] hS (fun w hS => hS) follows rfl (by kernel_rfl) NoTmp.body fun w hS => pp 1 rfl (RP.s0 1 rfl (fun w => Vl.fa 1 underlying89 rfl sizeOf3 rfl rfl) rfl (RP.s 0 2 rfl rfl hS (fun w hS => Vl.ld 0 hS isAgg3 rfl rfl rfl) rfl (pp 2 rfl (RP.s0 5 rfl (fun w => Vl.fa 0 underlying102 rfl sizeOf26 rfl rfl) rfl (RP.s0 6 rfl (fun w => Vl.fa 1 underlying26 rfl sizeOf3 rfl rfl) rfl (RP.s 0 7 rfl rfl hS (fun w hS => Vl.ld 1 hS isAgg3 rfl rfl rfl) rfl (RP.v1 8 rfl (Vl.nilCheck rfl) rfl rfl (RP.v1 9 rfl (Vl.fa 11 underlying102 rfl sizeOf100 rfl rfl) rfl rfl ?_)))))))))))
  obtain ⟨⟨hq30, hq31⟩, h⟩ := h.req
  refine RP.v1 10 rfl (Vl.indexAddrA (a'' := ⟨b1, 11 + a25.A.toNat * 1, none⟩) underlying100 sizeOf2 rfl rfl hq30 hq31 (add_mk _ _ _)) rfl rfl (RP.e0 11 rfl (OW.storeSeg (mk := (Value.int .i64)) (f := fn24) (n := 16) (m := 11) (pre := [.slice A3 a2.length c4, .int .i64 a6, .slice A8 a7.length c9, .int .u64 a11, .int .i64 a12, .int .i64 a13, .int .i64 a14, .int .i64 a15, .int .i64 a16, .int .i64 a17, .bool a18]) (post := [.int .i64 a19, .slice A20 a22.length c21, .int .i64 a23]) 1 hS rfl rfl rfl rfl sizeOf2 (by omega) (fun _ => rfl) (fun _ => rfl) rfl) rfl ?_)
  rintro _ w ⟨rfl, hS⟩
  have hS : St B w (_ :: _ :: _ :: l) hf := hS
  refine ⟨kp ⟨(by intro hx; cases hx), trivial⟩, ?_⟩
  refine RP.nil ?_
  obtain rfl := h.some
  exact rtE results72 rfl ⟨rfl, hS.d0⟩

/-! ### (*isochron/vm.cpu).run$1: function 47 -/
noncomputable def vm_cpu_run_1.f  : Option (Unit) := some ()
theorem vm_cpu_run_1.ok {b1 : Nat} {r : Unit} (h : vm_cpu_run_1.f = some r) (hS : St B w (Cl b1 [.nilIface] 75 :: l) hf) :
    CallsD prog 47 #[.pointer (some ⟨b1, 0, none⟩)] (.returning) w (fun e u' w' => u' = .returning ∧ (Ret fun v w => v = .tuple #[] ∧ St B w (Cl b1 [.nilIface] 75 :: l) hf) e w') := by
  have h := Holds.of h
  refine deferIdle (args := [.pointer (some ⟨b1, 0, none⟩)]) func47 rfl ntmps47 (Nat.le_of_ble_eq_true rfl) rfl (RC.block (sr (RL.s (Vl.bin (v := .bool true) rfl rfl (by kernel_rfl)) rfl (ln (RC.condT rfl (RC.region (pn 1 rfl (RL.nil (RQ.inB_n ?_)))))))))
  exact rtE results47 rfl ⟨rfl, hS⟩

/-! ### errors.Join: function 48 -/
noncomputable def errors_Join.f (a3 : vm_fault) : Option (vm_fault) := some a3
theorem errors_Join.ok {a3 : vm_fault} {A1 : Option Addr} {c2 : Nat} {r : vm_fault} (h : errors_Join.f a3 = some r) (hS : St B w (OSl 75 1 (.slice A1 1 c2) 1 [.iface 105 (.agg #[.int .i64 a3.at_, .int .i64 a3.why])] :: l) hf) :
    Calls prog 48 #[.slice A1 1 c2] w (Ret fun v w => ∃ (b_1 : Nat) (A_2 : Option Addr) (c_3 : Nat), v = .iface 144 (.pointer (some ⟨b_1, 0, none⟩)) ∧ St B w (Cl b_1 [.slice A_2 1 c_3] 146 :: OSl 75 1 (.slice A_2 1 c_3) 1 [.iface 105 (.agg #[.int .i64 r.at_, .int .i64 r.why])] :: OSl 75 1 (.slice A1 1 c2) 1 [.iface 105 (.agg #[.int .i64 a3.at_, .int .i64 a3.why])] :: l) hf) := by
  have h := Holds.of h
  refine en func48 rfl ntmps48 rfl (sr (pn 1 rfl (lnsr (pn 1 rfl (ln (RC.seq (sr (pn 1 rfl (RL.s (Vl.lenSl underlying122 rfl) rfl ?_)))))))))
  refine pn 1 rfl (ln (RC.block (RC.unroll (RQ.round (sr (pn 1 rfl (ln (RC.seq (RC.condT rfl (sk (RC.seq ?_)))))))))))
  refine RC.block (sr (RL.s (Vl.indexAddr (a'' := (ad A1).add 0) underlying122 sizeOf75 rfl rfl (hS.litAdr 0 rfl (by decide)) (by decide) (by decide) rfl) rfl (RL.s (Vl.load isAgg75 rfl (hS.litCell 0 rfl rfl)) rfl (pn 1 rfl (lnsr (pn 1 rfl (RL.s (Vl.bin (v := .bool true) rfl rfl (by kernel_rfl)) rfl (ln (RC.condT rfl (RC.region ?_))))))))))
  refine pn 3 rfl (RL.nil (RQ.inB_n (RQ.then_n (RC.region (pn 2 rfl (ln (RQ.round (sr (pn 1 rfl (ln (RC.seq (RC.condF rfl ?_))))))))))))
  refine RC.exit (RQ.exitT (RQ.exitT (RQ.inB_hit (RQ.then_n (RC.seq (sr (pn 2 rfl (ln (RC.condF rfl (sk (sr ?_)))))))))))
  refine pn 1 rfl (RL.e (OW.make0L (c := 1) (sz := 1) hS underlying122 type75 rfl rfl rfl rfl (by decide) (by decide)) rfl rfl ?_)
  rintro _ w ⟨b18, rfl, hS⟩
  refine RL.s (Vl.build (v := .agg #[.slice (some ⟨b18, 0, none⟩) 0 1]) (parts := [(0, .tmp 23)]) rfl (by kernel_rfl)) rfl (bx hS rfl rfl rfl rfl fun b19 w hS => pn 1 rfl (ln (RC.seq (sr (pn 1 rfl (RL.s (Vl.lenSl underlying122 rfl) rfl (pn 1 rfl (ln (RC.block (RC.unroll (RQ.round ?_)))))))))))
  refine sr (pn 1 rfl (ln (RC.seq (RC.condT rfl (sk (RC.seq (RC.block (sr (RL.s (Vl.indexAddr (a'' := (ad A1).add 0) underlying122 sizeOf75 rfl rfl (hS.litAdr 2 rfl (by decide)) (by decide) (by decide) rfl) rfl (RL.s (Vl.load isAgg75 rfl (hS.litCell 2 rfl rfl)) rfl (pn 1 rfl ?_)))))))))))
  refine lnsr (pn 1 rfl (RL.s (Vl.bin (v := .bool true) rfl rfl (by kernel_rfl)) rfl (ln (RC.condT rfl (RC.region (pn 3 rfl (RL.s (Vl.fa 0 underlying146 rfl sizeOf122 rfl rfl) rfl (RL.s (Vl.ld 0 hS isAgg122 rfl rfl rfl) rfl (pn 1 rfl (RL.e (OW.buildSliceR (sz := 1) (cs := [.iface 105 (.agg #[.int .i64 a3.at_, .int .i64 a3.why])]) hS underlying122 zeroValue75 sizeOf75 (parts := [(0, .tmp 39)]) rfl rfl (by decide) (by decide) (by kernel_rfl)) rfl rfl ?_))))))))))
  rintro _ w ⟨b29, rfl, hS⟩
  refine RL.e (OW.appendL (k := 1) (es := [.iface 105 (.agg #[.int .i64 a3.at_, .int .i64 a3.why])]) 2 0 hS rfl rfl underlying122 type75 rfl rfl rfl rfl (by decide) (by decide) rfl rfl rfl (by decide) rfl rfl rfl) rfl rfl ?_
  rintro _ w ⟨A30, c31, rfl, hS⟩
  have hS : St B w (_ :: _ :: _ :: _ :: l) hf := hS
  refine pn 1 rfl (RL.s (Vl.fa 0 underlying146 rfl sizeOf122 rfl rfl) rfl (RL.e0 (OW.store (vs := [.slice A30 1 c31]) 2 hS rfl rfl rfl rfl sizeOf122 rfl rfl rfl rfl) rfl ?_))
  rintro _ w ⟨rfl, hS⟩
  have hS : St B w (_ :: _ :: Cl _ [_] _ :: _ :: l) hf := hS
  refine RL.nil (RQ.inB_n (RQ.then_n (RC.region (pn 2 rfl (ln (RQ.round (sr (pn 1 rfl (ln (RC.seq (RC.condF rfl (RC.exit ?_))))))))))))
  refine RQ.exitT (RQ.exitT (RQ.inB_hit (tsr (pn 1 rfl (RL.s (Vl.makeIface underlying144 rfl rfl) rfl (pn 1 rfl (lr ?_)))))))
  obtain rfl := h.some
  exact rt results48 rfl ⟨b19, A30, c31, rfl, hS.d1.p1⟩

/-! ### (*isochron/vm.cpu).run$1: function 47 -/
noncomputable def vm_cpu_run_1v2.f (a2 : vm_fault) : Option (vm_fault) := ((errors_Join.f a2).bind fun t12 => some t12)
theorem vm_cpu_run_1v2.ok {a2 : vm_fault} {b1 : Nat} {r : vm_fault} (h : vm_cpu_run_1v2.f a2 = some r) (hS : St B w (Cl b1 [.nilIface] 75 :: l) hf) :
    CallsD prog 47 #[.pointer (some ⟨b1, 0, none⟩)] (.panicking (pan (.iface 105 (.agg #[.int .i64 a2.at_, .int .i64 a2.why])))) w (fun e u' w' => u' = .panicking (panR (.iface 105 (.agg #[.int .i64 a2.at_, .int .i64 a2.why]))) ∧ (Ret fun v w => ∃ (b_1 : Nat) (A_2 : Option Addr) (c_3 : Nat), v = .tuple #[] ∧ St B w (Cl b_1 [.slice A_2 1 c_3] 146 :: OSl 75 1 (.slice A_2 1 c_3) 1 [.iface 105 (.agg #[.int .i64 r.at_, .int .i64 r.why])] :: Cl b1 [.iface 144 (.pointer (some ⟨b_1, 0, none⟩))] 75 :: l) hf) e w') := by
  have h := Holds.of h
  refine deferCatch (args := [.pointer (some ⟨b1, 0, none⟩)]) func47 rfl ntmps47 (Nat.le_of_ble_eq_true rfl) rfl (RC.block (sr (RL.s (Vl.bin (v := .bool false) rfl rfl (by kernel_rfl)) rfl (ln (RC.condF rfl (sr (RL.s (Vl.tassert (r := .tuple #[.agg #[.int .i64 a2.at_, .int .i64 a2.why], .bool true]) rfl (fun w => run_tassert_same underlying105 rfl _ _ w)) rfl (pn 2 rfl (ln (RC.condT rfl (RC.seq ?_)))))))))))
  refine RC.region (al hS zeroValue105 rfl rfl rfl fun b10 w hS => RL.e0 (OW.store (vs := [.int .i64 a2.at_, .int .i64 a2.why]) 0 hS rfl rfl rfl rfl sizeOf105 rfl rfl rfl rfl) rfl ?_)
  rintro _ w ⟨rfl, hS⟩
  have hS : St B w (Cl _ [_, _] _ :: _ :: l) hf := hS
  refine ln (RC.region (RL.s (Vl.lw 0 hS isAgg105 sizeOf105 rfl rfl rfl) rfl (RL.s (Vl.makeIface underlying105 rfl rfl) rfl (RL.e (OW.buildSliceR (sz := 1) (cs := [.iface 105 (.agg #[.int .i64 a2.at_, .int .i64 a2.why])]) hS underlying122 zeroValue75 sizeOf75 (parts := [(0, .tmp 11)]) rfl rfl (by decide) (by decide) (by kernel_rfl)) rfl rfl ?_))))
  rintro _ w ⟨b11, rfl, hS⟩
  refine cF (fun _ hg => errors_Join.ok hg hS) call48 h rfl rfl rfl ?_
  rintro t12 h _ w ⟨b14, A15, c16, rfl, hS⟩
  refine RL.e0 (OW.store (vs := [.iface 144 (.pointer (some ⟨b14, 0, none⟩))]) 4 hS rfl rfl rfl rfl sizeOf75 rfl rfl rfl rfl) rfl ?_
  rintro _ w ⟨rfl, hS⟩
  have hS : St B w (_ :: _ :: _ :: _ :: Cl _ [_] _ :: l) hf := hS
  refine RL.nil (RQ.inB_n ?_)
  obtain rfl := h.some
  exact rtE results47 rfl ⟨b14, A15, c16, rfl, hS.d2.d2⟩

/-! ### (*isochron/vm.cpu).run: function 40 -/
noncomputable def vm_cpu_run.j14 (fn1258 : (Nat → Int)) (x1259 : Int) (l1260 : List api_Out) (x1263 : Int) : Option (((Nat → Int) × Int × List api_Out × Int) ⊕ (vm_fault × (Nat → Int) × Int × List api_Out × Int)) := ((vm_cpu_run_1.f).bind fun _ => some (.inl (fn1258, x1259, l1260, x1263)))
noncomputable def vm_cpu_run.j18 (x1405 : Int) (fn1605 : (Nat → Int)) (x1606 : Int) (l1607 : List api_Out) (x1610 : Int) : Option (((Nat → Int) × Int × List api_Out × Int × Int) ⊕ (((Nat → Int) × Int × List api_Out × Int) ⊕ (vm_fault × (Nat → Int) × Int × List api_Out × Int))) := some (.inl (fn1605, x1606, l1607, x1610, IntKind.i64.wrap (x1405 - 1)))
noncomputable def vm_cpu_run.l17b (a2 : List api_Instr) (a6 : Int) (a7 : List api_Link) (a11 a12 a13 a14 a15 a16 a17 : Int) (a18 : Bool) : (Nat → Int) × Int × List api_Out × Int × Int → Option (((Nat → Int) × Int × List api_Out × Int × Int) ⊕ (((Nat → Int) × Int × List api_Out × Int) ⊕ (vm_fault × (Nat → Int) × Int × List api_Out × Int)))
  | (fn1399, x1400, l1401, x1404, x1405) => (if 0 < x1405 then (if x1404 < (a2.length : Int) then (if 0 ≤ x1404 then (if (nth a2 x1404).Op = 0 then ((vm_cpu_halt.f a2 a6 a7 a11 a12 a13 a14 a15 a16 a17 a18 x1400 l1401 (IntKind.i64.wrap (x1404 + 1)) fn1399 (nth a2 x1404)).bind fun t1614 => vm_cpu_run.j18 x1405 fn1399 x1400 l1401 t1614) else (if (nth a2 x1404).Op = 1 then ((vm_cpu_set.f a2 a6 a7 a11 a12 a13 a14 a15 a16 a17 a18 x1400 l1401 (IntKind.i64.wrap (x1404 + 1)) fn1399 (nth a2 x1404)).bind fun t1617 => vm_cpu_run.j18 x1405 t1617 x1400 l1401 (IntKind.i64.wrap (x1404 + 1))) else (if (nth a2 x1404).Op = 2 then ((vm_cpu_move.f a2 a6 a7 a11 a12 a13 a14 a15 a16 a17 a18 x1400 l1401 (IntKind.i64.wrap (x1404 + 1)) fn1399 (nth a2 x1404)).bind fun t1620 => vm_cpu_run.j18 x1405 t1620 x1400 l1401 (IntKind.i64.wrap (x1404 + 1))) else (if (nth a2 x1404).Op = 3 then ((vm_cpu_add.f a2 a6 a7 a11 a12 a13 a14 a15 a16 a17 a18 x1400 l1401 (IntKind.i64.wrap (x1404 + 1)) fn1399 (nth a2 x1404)).bind fun t1623 => vm_cpu_run.j18 x1405 t1623 x1400 l1401 (IntKind.i64.wrap (x1404 + 1))) else (if (nth a2 x1404).Op = 4 then ((vm_cpu_sub.f a2 a6 a7 a11 a12 a13 a14 a15 a16 a17 a18 x1400 l1401 (IntKind.i64.wrap (x1404 + 1)) fn1399 (nth a2 x1404)).bind fun t1626 => vm_cpu_run.j18 x1405 t1626 x1400 l1401 (IntKind.i64.wrap (x1404 + 1))) else (if (nth a2 x1404).Op = 5 then ((vm_cpu_mul.f a2 a6 a7 a11 a12 a13 a14 a15 a16 a17 a18 x1400 l1401 (IntKind.i64.wrap (x1404 + 1)) fn1399 (nth a2 x1404)).bind fun t1629 => vm_cpu_run.j18 x1405 t1629 x1400 l1401 (IntKind.i64.wrap (x1404 + 1))) else (if (nth a2 x1404).Op = 6 then ((vm_cpu_div.f a2 a6 a7 a11 a12 a13 a14 a15 a16 a17 a18 x1400 l1401 (IntKind.i64.wrap (x1404 + 1)) fn1399 (nth a2 x1404)).bind fun t1632 => vm_cpu_run.j18 x1405 t1632 x1400 l1401 (IntKind.i64.wrap (x1404 + 1))) else (if (nth a2 x1404).Op = 7 then ((vm_cpu_mod.f a2 a6 a7 a11 a12 a13 a14 a15 a16 a17 a18 x1400 l1401 (IntKind.i64.wrap (x1404 + 1)) fn1399 (nth a2 x1404)).bind fun t1635 => vm_cpu_run.j18 x1405 t1635 x1400 l1401 (IntKind.i64.wrap (x1404 + 1))) else (if (nth a2 x1404).Op = 8 then ((vm_cpu_less.f a2 a6 a7 a11 a12 a13 a14 a15 a16 a17 a18 x1400 l1401 (IntKind.i64.wrap (x1404 + 1)) fn1399 (nth a2 x1404)).bind fun t1638 => vm_cpu_run.j18 x1405 t1638 x1400 l1401 (IntKind.i64.wrap (x1404 + 1))) else (if (nth a2 x1404).Op = 9 then ((vm_cpu_same.f a2 a6 a7 a11 a12 a13 a14 a15 a16 a17 a18 x1400 l1401 (IntKind.i64.wrap (x1404 + 1)) fn1399 (nth a2 x1404)).bind fun t1641 => vm_cpu_run.j18 x1405 t1641 x1400 l1401 (IntKind.i64.wrap (x1404 + 1))) else (if (nth a2 x1404).Op = 10 then ((vm_cpu_jump.f a2 a6 a7 a11 a12 a13 a14 a15 a16 a17 a18 x1400 l1401 (IntKind.i64.wrap (x1404 + 1)) fn1399 (nth a2 x1404)).bind fun t1644 => vm_cpu_run.j18 x1405 fn1399 x1400 l1401 t1644) else (if (nth a2 x1404).Op = 11 then ((vm_cpu_zero.f a2 a6 a7 a11 a12 a13 a14 a15 a16 a17 a18 x1400 l1401 (IntKind.i64.wrap (x1404 + 1)) fn1399 (nth a2 x1404)).bind fun t1647 => vm_cpu_run.j18 x1405 fn1399 x1400 l1401 t1647) else (if (nth a2 x1404).Op = 12 then ((vm_cpu_send.f a2 a6 a7 a11 a12 a13 a14 a15 a16 a17 a18 x1400 l1401 (IntKind.i64.wrap (x1404 + 1)) fn1399 (nth a2 x1404)).bind fun t1650 => match t1650 with | .inl y1652 => vm_cpu_run.j18 x1405 fn1399 x1400 y1652 (IntKind.i64.wrap (x1404 + 1)) | .inr (y1655) => (Option.map Sum.inr ((vm_cpu_run_1v2.f y1655).bind fun t1656 => some (.inr ((t1656, fn1399, x1400, l1401, IntKind.i64.wrap (x1404 + 1))))))) else (if (nth a2 x1404).Op = 13 then ((vm_cpu_draw.f a2 a6 a7 a11 a12 a13 a14 a15 a16 a17 a18 x1400 l1401 (IntKind.i64.wrap (x1404 + 1)) fn1399 (nth a2 x1404)).bind fun (y1664, y1665) => vm_cpu_run.j18 x1405 y1664 y1665 l1401 (IntKind.i64.wrap (x1404 + 1))) else (if (nth a2 x1404).Op = 14 then ((vm_cpu_value.f a2 a6 a7 a11 a12 a13 a14 a15 a16 a17 a18 x1400 l1401 (IntKind.i64.wrap (x1404 + 1)) fn1399 (nth a2 x1404)).bind fun t1667 => vm_cpu_run.j18 x1405 t1667 x1400 l1401 (IntKind.i64.wrap (x1404 + 1))) else (if (nth a2 x1404).Op = 15 then ((vm_cpu_time.f a2 a6 a7 a11 a12 a13 a14 a15 a16 a17 a18 x1400 l1401 (IntKind.i64.wrap (x1404 + 1)) fn1399 (nth a2 x1404)).bind fun t1670 => vm_cpu_run.j18 x1405 t1670 x1400 l1401 (IntKind.i64.wrap (x1404 + 1))) else (if (nth a2 x1404).Op = 16 then ((vm_cpu_self.f a2 a6 a7 a11 a12 a13 a14 a15 a16 a17 a18 x1400 l1401 (IntKind.i64.wrap (x1404 + 1)) fn1399 (nth a2 x1404)).bind fun t1673 => vm_cpu_run.j18 x1405 t1673 x1400 l1401 (IntKind.i64.wrap (x1404 + 1))) else none))))))))))))))))) else none) else (Option.map Sum.inr (vm_cpu_run.j14 fn1399 x1400 l1401 x1404))) else (Option.map Sum.inr (vm_cpu_run.j14 fn1399 x1400 l1401 x1404)))
noncomputable def vm_cpu_run.l17 (a2 : List api_Instr) (a6 : Int) (a7 : List api_Link) (a11 a12 a13 a14 a15 a16 a17 : Int) (a18 : Bool) (s : (Nat → Int) × Int × List api_Out × Int × Int) : Option (((Nat → Int) × Int × List api_Out × Int) ⊕ (vm_fault × (Nat → Int) × Int × List api_Out × Int)) := loopR (vm_cpu_run.l17b a2 a6 a7 a11 a12 a13 a14 a15 a16 a17 a18) s
noncomputable def vm_cpu_run.f (a2 : List api_Instr) (a6 : Int) (a7 : List api_Link) (a11 a12 a13 a14 a15 a16 a17 : Int) (a18 : Bool) (a19 : Int) (a22 : List api_Out) (a23 : Int) (fn24 : (Nat → Int)) : Option (((Nat → Int) × Int × List api_Out × Int) ⊕ (vm_fault × (Nat → Int) × Int × List api_Out × Int)) := ((vm_operators.f).bind fun _ => vm_cpu_run.l17 a2 a6 a7 a11 a12 a13 a14 a15 a16 a17 a18 (fn24, a19, a22, a23, 4096))
theorem vm_cpu_run.ok {a2 : List api_Instr} {a6 : Int} {a7 : List api_Link} {a11 a12 a13 a14 a15 a16 a17 : Int} {a18 : Bool} {a19 : Int} {a22 : List api_Out} {a23 : Int} {fn24 : (Nat → Int)} {b1 : Nat} {A3 : Option Addr} {c4 : Nat} {A8 : Option Addr} {c9 : Nat} {A20 : Option Addr} {c21 : Nat} (hr5 : SlR E_api_Instr.rep hf A3 c4 a2) (hr10 : SlR E_api_Link.rep hf A8 c9 a7) {r : ((Nat → Int) × Int × List api_Out × Int) ⊕ (vm_fault × (Nat → Int) × Int × List api_Out × Int)} (h : vm_cpu_run.f a2 a6 a7 a11 a12 a13 a14 a15 a16 a17 a18 a19 a22 a23 fn24 = some r) (hS : St B w (Cl b1 [.slice A3 a2.length c4, .int .i64 a6, .slice A8 a7.length c9, .int .u64 a11, .int .i64 a12, .int .i64 a13, .int .i64 a14, .int .i64 a15, .int .i64 a16, .int .i64 a17, .bool a18, .int .i64 (fn24 0), .int .i64 (fn24 1), .int .i64 (fn24 2), .int .i64 (fn24 3), .int .i64 (fn24 4), .int .i64 (fn24 5), .int .i64 (fn24 6), .int .i64 (fn24 7), .int .i64 (fn24 8), .int .i64 (fn24 9), .int .i64 (fn24 10), .int .i64 (fn24 11), .int .i64 (fn24 12), .int .i64 (fn24 13), .int .i64 (fn24 14), .int .i64 (fn24 15), .int .i64 a19, .slice A20 a22.length c21, .int .i64 a23] 102 :: OSf E_api_Out 110 (.slice A20 a22.length c21) a22 :: l) hf) :
    Calls prog 40 #[.pointer (some ⟨b1, 0, none⟩)] w (Ret fun v w => match (generalizing := false) r with | .inl r_ => ∃ (A_1 : Option Addr) (c_2 : Nat), v = .nilIface ∧ St B w (OSf E_api_Out 110 (.slice A_1 r_.2.2.1.length c_2) r_.2.2.1 :: Cl b1 [.slice A3 a2.length c4, .int .i64 a6, .slice A8 a7.length c9, .int .u64 a11, .int .i64 a12, .int .i64 a13, .int .i64 a14, .int .i64 a15, .int .i64 a16, .int .i64 a17, .bool a18, .int .i64 (r_.1 0), .int .i64 (r_.1 1), .int .i64 (r_.1 2), .int .i64 (r_.1 3), .int .i64 (r_.1 4), .int .i64 (r_.1 5), .int .i64 (r_.1 6), .int .i64 (r_.1 7), .int .i64 (r_.1 8), .int .i64 (r_.1 9), .int .i64 (r_.1 10), .int .i64 (r_.1 11), .int .i64 (r_.1 12), .int .i64 (r_.1 13), .int .i64 (r_.1 14), .int .i64 (r_.1 15), .int .i64 r_.2.1, .slice A_1 r_.2.2.1.length c_2, .int .i64 r_.2.2.2] 102 :: l) hf | .inr (r_) => ∃ (b_3 : Nat) (A_4 : Option Addr) (c_5 : Nat) (A_6 : Option Addr) (c_7 : Nat), v = .iface 144 (.pointer (some ⟨b_3, 0, none⟩)) ∧ St B w (Cl b_3 [.slice A_4 1 c_5] 146 :: OSl 75 1 (.slice A_4 1 c_5) 1 [.iface 105 (.agg #[.int .i64 r_.1.at_, .int .i64 r_.1.why])] :: OSf E_api_Out 110 (.slice A_6 r_.2.2.2.1.length c_7) r_.2.2.2.1 :: Cl b1 [.slice A3 a2.length c4, .int .i64 a6, .slice A8 a7.length c9, .int .u64 a11, .int .i64 a12, .int .i64 a13, .int .i64 a14, .int .i64 a15, .int .i64 a16, .int .i64 a17, .bool a18, .int .i64 (r_.2.1 0), .int .i64 (r_.2.1 1), .int .i64 (r_.2.1 2), .int .i64 (r_.2.1 3), .int .i64 (r_.2.1 4), .int .i64 (r_.2.1 5), .int .i64 (r_.2.1 6), .int .i64 (r_.2.1 7), .int .i64 (r_.2.1 8), .int .i64 (r_.2.1 9), .int .i64 (r_.2.1 10), .int .i64 (r_.2.1 11), .int .i64 (r_.2.1 12), .int .i64 (r_.2.1 13), .int .i64 (r_.2.1 14), .int .i64 (r_.2.1 15), .int .i64 r_.2.2.1, .slice A_6 r_.2.2.2.1.length c_7, .int .i64 r_.2.2.2.2] 102 :: l) hf) := by
  have h := Holds.of h
  refine enterD (args := [.pointer (some ⟨b1, 0, none⟩)]) func40 rfl ntmps40 (Nat.le_of_ble_eq_true rfl) (sr (al hS zeroValue75 rfl rfl rfl fun b850 w hS => lnsr (RL.s (Vl.makeFunc (fi := []) (ca := [.tmp 2]) rfl rfl) rfl (RL.defer rfl (lnsr (cF (fun _ hg => vm_operators.ok hg hS) call49 h rfl rfl rfl ?_))))))
  rintro _ h _ w ⟨b853, rfl, hS⟩
  refine pn 1 rfl (ln ?_)
  refine RC.join (fun (s : (Nat → Int) × Int × List api_Out × Int) a w => ∃ (fn1258 : (Nat → Int)) (x1259 : Int) (l1260 : List api_Out) (x1263 : Int), s = (fn1258, x1259, l1260, x1263) ∧ ∃ (A1261 : Option Addr) (c1262 : Nat), Has ⟨50, [⟨.fn (.func 47) #[.pointer (some ⟨b850, 0, none⟩)], #[]⟩], true⟩ [(2, .pointer (some ⟨b850, 0, none⟩))] a ∧ St B w (OSf E_api_Out 110 (.slice A1261 l1260.length c1262) l1260 :: Cl b850 [.nilIface] 75 :: Cl b1 [.slice A3 a2.length c4, .int .i64 a6, .slice A8 a7.length c9, .int .u64 a11, .int .i64 a12, .int .i64 a13, .int .i64 a14, .int .i64 a15, .int .i64 a16, .int .i64 a17, .bool a18, .int .i64 (fn1258 0), .int .i64 (fn1258 1), .int .i64 (fn1258 2), .int .i64 (fn1258 3), .int .i64 (fn1258 4), .int .i64 (fn1258 5), .int .i64 (fn1258 6), .int .i64 (fn1258 7), .int .i64 (fn1258 8), .int .i64 (fn1258 9), .int .i64 (fn1258 10), .int .i64 (fn1258 11), .int .i64 (fn1258 12), .int .i64 (fn1258 13), .int .i64 (fn1258 14), .int .i64 (fn1258 15), .int .i64 x1259, .slice A1261 l1260.length c1262, .int .i64 x1263] 102 :: l) hf ∧ Holds (· = r) (vm_cpu_run.j14 fn1258 x1259 l1260 x1263)) ?_ ?_
  · rintro _ a w ⟨fn1258, x1259, l1260, x1263, rfl, A1261, c1262, ha, hS, h⟩
    revert a
    show RC _ _ _ _ _ _
    refine sr (RL.e0 (OW.store (vs := [.nilIface]) 1 hS rfl rfl rfl rfl sizeOf75 rfl rfl rfl rfl) rfl ?_)
    rintro _ w ⟨rfl, hS⟩
    have hS : St B w (_ :: Cl _ [_] _ :: _ :: l) hf := hS
    refine lr ?_
    obtain ⟨t1264, hg1265, h⟩ := h.bind
    obtain rfl := h.some
    refine RQ.deferRet results40 (fun w => by kernel_rfl) (vm_cpu_run_1.ok hg1265 hS.p1) ?_
    rintro _ w ⟨rfl, hS⟩
    have hS : St B w (_ :: _ :: _ :: l) hf := hS
    exact ⟨[.nilIface], ⟨⟨_, rfl, run_loadVar1 isAgg75 (hS.cell 0 rfl rfl)⟩, trivial⟩, ⟨A1261, c1262, rfl, hS.d0⟩⟩
  · refine RC.seq ?_
    refine RC.region (pn 1 rfl (ln (RC.block ?_)))
    refine fun a ha => RC.loop (N := ⟨50, [⟨.fn (.func 47) #[.pointer (some ⟨b850, 0, none⟩)], #[]⟩], true⟩) (body := (vm_cpu_run.l17b a2 a6 a7 a11 a12 a13 a14 a15 a16 a17 a18)) (φ := (· = r)) (fun (s : (Nat → Int) × Int × List api_Out × Int × Int) a w => ∃ (fn1399 : (Nat → Int)) (x1400 : Int) (l1401 : List api_Out) (x1404 : Int) (x1405 : Int), s = (fn1399, x1400, l1401, x1404, x1405) ∧ ∃ (A1402 : Option Addr) (c1403 : Nat), Has ⟨50, [⟨.fn (.func 47) #[.pointer (some ⟨b850, 0, none⟩)], #[]⟩], true⟩ [(0, .pointer (some ⟨b1, 0, none⟩)), (2, .pointer (some ⟨b850, 0, none⟩)), (3, .map (some b853)), (4, .int .i64 x1405)] a ∧ St B w (OSf E_api_Out 110 (.slice A1402 l1401.length c1403) l1401 :: MapL b853 [({ key := .int .i64 0, val := .func (.func 56) #[] #[], born := 0 } : MapEntry), ({ key := .int .i64 1, val := .func (.func 57) #[] #[], born := 1 } : MapEntry), ({ key := .int .i64 2, val := .func (.func 58) #[] #[], born := 2 } : MapEntry), ({ key := .int .i64 3, val := .func (.func 59) #[] #[], born := 3 } : MapEntry), ({ key := .int .i64 4, val := .func (.func 60) #[] #[], born := 4 } : MapEntry), ({ key := .int .i64 5, val := .func (.func 61) #[] #[], born := 5 } : MapEntry), ({ key := .int .i64 6, val := .func (.func 62) #[] #[], born := 6 } : MapEntry), ({ key := .int .i64 7, val := .func (.func 63) #[] #[], born := 7 } : MapEntry), ({ key := .int .i64 8, val := .func (.func 64) #[] #[], born := 8 } : MapEntry), ({ key := .int .i64 9, val := .func (.func 65) #[] #[], born := 9 } : MapEntry), ({ key := .int .i64 10, val := .func (.func 66) #[] #[], born := 10 } : MapEntry), ({ key := .int .i64 11, val := .func (.func 67) #[] #[], born := 11 } : MapEntry), ({ key := .int .i64 12, val := .func (.func 68) #[] #[], born := 12 } : MapEntry), ({ key := .int .i64 13, val := .func (.func 69) #[] #[], born := 13 } : MapEntry), ({ key := .int .i64 14, val := .func (.func 70) #[] #[], born := 14 } : MapEntry), ({ key := .int .i64 15, val := .func (.func 71) #[] #[], born := 15 } : MapEntry), ({ key := .int .i64 16, val := .func (.func 72) #[] #[], born := 16 } : MapEntry)] 17 :: Cl b850 [.nilIface] 75 :: Cl b1 [.slice A3 a2.length c4, .int .i64 a6, .slice A8 a7.length c9, .int .u64 a11, .int .i64 a12, .int .i64 a13, .int .i64 a14, .int .i64 a15, .int .i64 a16, .int .i64 a17, .bool a18, .int .i64 (fn1399 0), .int .i64 (fn1399 1), .int .i64 (fn1399 2), .int .i64 (fn1399 3), .int .i64 (fn1399 4), .int .i64 (fn1399 5), .int .i64 (fn1399 6), .int .i64 (fn1399 7), .int .i64 (fn1399 8), .int .i64 (fn1399 9), .int .i64 (fn1399 10), .int .i64 (fn1399 11), .int .i64 (fn1399 12), .int .i64 (fn1399 13), .int .i64 (fn1399 14), .int .i64 (fn1399 15), .int .i64 x1400, .slice A1402 l1401.length c1403, .int .i64 x1404] 102 :: l) hf) ?_ (s0 := (fn24, a19, a22, a23, 4096)) h ⟨fn24, a19, a22, a23, 4096, rfl, A20, c21, ha.to ⟨rfl, rfl, rfl, rfl, trivial⟩, hS.p3⟩
    rintro G1541 _ a w ⟨fn1399, x1400, l1401, x1404, x1405, rfl, A1402, c1403, ha, hS⟩ h
    revert a
    show RC _ _ _ _ _ _
    refine RC.seq (RC.seq (RC.noPan (RC.planS (plD [0, 3, 6, 9, 12, 15, 19, 23, 26, 29, 32, 35, 38, 41, 44]) [13, 14] hS (fun w hS => hS) follows rfl (by kernel_rfl) NoTmp.noPan fun w hS => pp 3 rfl ?_)))
    refine RP.iteP 10 rfl h (fun hc1544 h => ?_) fun hc1544 h => ?_
    next =>
     refine pp 2 rfl (RP.sg0 5 rfl (fun w => Vl.fa 29 underlying102 rfl sizeOf3 rfl rfl) rfl rfl (RP.sg 0 6 rfl rfl hS (fun w hS => Vl.ld 3 hS isAgg3 rfl rfl rfl) rfl rfl (RP.v1 7 rfl (Vl.move rfl) rfl rfl (RP.v1 8 rfl (Vl.nilCheck rfl) rfl rfl (RP.v1 9 rfl (Vl.fa 0 underlying102 rfl sizeOf26 rfl rfl) rfl rfl (RP.v1 10 rfl (Vl.fa 0 underlying26 rfl sizeOf22 rfl rfl) rfl rfl (RP.v1 11 rfl (Vl.ld 3 hS isAgg22 rfl rfl rfl) rfl rfl (RP.v1 12 rfl (Vl.lenSl underlying22 rfl) rfl rfl (RP.v1 13 rfl (Vl.int rfl rfl rfl) rfl rfl (RP.v1 14 rfl (Vl.pickT rfl rfl) rfl rfl (RP.nil (RQ.noPan_n (RQ.then_n ?_)))))))))))))
     refine RC.iteP 22 rfl h (fun hc1545 h => ?_) fun hc1545 h => ?_
     next =>
      refine RC.condT rfl (sk ?_)
      refine RC.join (fun (s : (Nat → Int) × Int × List api_Out × Int) a w => ∃ (fn1605 : (Nat → Int)) (x1606 : Int) (l1607 : List api_Out) (x1610 : Int), s = (fn1605, x1606, l1607, x1610) ∧ ∃ (A1608 : Option Addr) (c1609 : Nat), Has ⟨50, [⟨.fn (.func 47) #[.pointer (some ⟨b850, 0, none⟩)], #[]⟩], true⟩ [(0, .pointer (some ⟨b1, 0, none⟩)), (2, .pointer (some ⟨b850, 0, none⟩)), (3, .map (some b853)), (4, .int .i64 x1405), (11, .pointer (some ⟨b1, 0, none⟩)), (12, .pointer (some ⟨b1, 0, none⟩)), (13, .pointer (some ⟨b1, 29, none⟩)), (14, .int .i64 x1404), (15, .pointer (some ⟨b1, 0, none⟩)), (16, .pointer (some ⟨b1, 0, none⟩)), (17, .pointer (some ⟨b1, 0, none⟩)), (18, .pointer (some ⟨b1, 0, none⟩)), (19, .slice A3 a2.length c4), (20, .int .i64 (a2.length : Int)), (21, .bool (decide (x1404 < (a2.length : Int))))] a ∧ St B w (OSf E_api_Out 110 (.slice A1608 l1607.length c1609) l1607 :: Cl b1 [.slice A3 a2.length c4, .int .i64 a6, .slice A8 a7.length c9, .int .u64 a11, .int .i64 a12, .int .i64 a13, .int .i64 a14, .int .i64 a15, .int .i64 a16, .int .i64 a17, .bool a18, .int .i64 (fn1605 0), .int .i64 (fn1605 1), .int .i64 (fn1605 2), .int .i64 (fn1605 3), .int .i64 (fn1605 4), .int .i64 (fn1605 5), .int .i64 (fn1605 6), .int .i64 (fn1605 7), .int .i64 (fn1605 8), .int .i64 (fn1605 9), .int .i64 (fn1605 10), .int .i64 (fn1605 11), .int .i64 (fn1605 12), .int .i64 (fn1605 13), .int .i64 (fn1605 14), .int .i64 (fn1605 15), .int .i64 x1606, .slice A1608 l1607.length c1609, .int .i64 x1610] 102 :: MapL b853 [({ key := .int .i64 0, val := .func (.func 56) #[] #[], born := 0 } : MapEntry), ({ key := .int .i64 1, val := .func (.func 57) #[] #[], born := 1 } : MapEntry), ({ key := .int .i64 2, val := .func (.func 58) #[] #[], born := 2 } : MapEntry), ({ key := .int .i64 3, val := .func (.func 59) #[] #[], born := 3 } : MapEntry), ({ key := .int .i64 4, val := .func (.func 60) #[] #[], born := 4 } : MapEntry), ({ key := .int .i64 5, val := .func (.func 61) #[] #[], born := 5 } : MapEntry), ({ key := .int .i64 6, val := .func (.func 62) #[] #[], born := 6 } : MapEntry), ({ key := .int .i64 7, val := .func (.func 63) #[] #[], born := 7 } : MapEntry), ({ key := .int .i64 8, val := .func (.func 64) #[] #[], born := 8 } : MapEntry), ({ key := .int .i64 9, val := .func (.func 65) #[] #[], born := 9 } : MapEntry), ({ key := .int .i64 10, val := .func (.func 66) #[] #[], born := 10 } : MapEntry), ({ key := .int .i64 11, val := .func (.func 67) #[] #[], born := 11 } : MapEntry), ({ key := .int .i64 12, val := .func (.func 68) #[] #[], born := 12 } : MapEntry), ({ key := .int .i64 13, val := .func (.func 69) #[] #[], born := 13 } : MapEntry), ({ key := .int .i64 14, val := .func (.func 70) #[] #[], born := 14 } : MapEntry), ({ key := .int .i64 15, val := .func (.func 71) #[] #[], born := 15 } : MapEntry), ({ key := .int .i64 16, val := .func (.func 72) #[] #[], born := 16 } : MapEntry)] 17 :: Cl b850 [.nilIface] 75 :: l) hf ∧ Holds (Sum.elim G1541 (· = r)) (vm_cpu_run.j18 x1405 fn1605 x1606 l1607 x1610)) ?_ ?_
      · rintro _ a w ⟨fn1605, x1606, l1607, x1610, rfl, A1608, c1609, ha, hS, h⟩
        revert a
        show RC _ _ _ _ _ _
        refine RC.region (pn 3 rfl (RL.nil ?_))
        exact fun a ha => ⟨(fn1605, x1606, l1607, x1610, IntKind.i64.wrap (x1405 - 1)), ⟨fn1605, x1606, l1607, x1610, (IntKind.i64.wrap (x1405 - 1)), rfl, A1608, c1609, ha.to ⟨rfl, rfl, rfl, rfl, trivial⟩, hS.p3.p3.p2⟩, h.some⟩
      · refine RC.block ?_
        refine RC.seq (RC.noPan (RC.planS (plD [0, 3, 6, 9, 13, 15, 18, 21, 25, 28, 31, 35, 38]) [12] hS (fun w hS => hS) follows rfl (by kernel_rfl) NoTmp.noPan fun w hS => pp 2 rfl (RP.s0 2 rfl (fun w => Vl.fa 0 underlying102 rfl sizeOf26 rfl rfl) rfl (RP.s0 3 rfl (fun w => Vl.fa 0 underlying26 rfl sizeOf22 rfl rfl) rfl (RP.s 0 4 rfl rfl hS (fun w hS => Vl.ld 3 hS isAgg22 rfl rfl rfl) rfl (pp 2 rfl (RP.s0 7 rfl (fun w => Vl.fa 29 underlying102 rfl sizeOf3 rfl rfl) rfl (RP.s 0 8 rfl rfl hS (fun w hS => Vl.ld 3 hS isAgg3 rfl rfl rfl) rfl ?_))))))))
        obtain ⟨hq1611, h⟩ := h.req
        refine RP.s 0 9 rfl rfl hS (fun w hS => Vl.indexAddr underlying22 sizeOf89 rfl rfl ((hr5.2.world hS.sub).adr hq1611 hc1545) hq1611 hc1545 rfl) rfl (RP.s 0 10 rfl rfl hS (fun w hS => Vl.loadA isAgg89 sizeOf89 rfl rfl ((hr5.2.world hS.sub).cells hq1611 hc1545)) rfl (RP.e 11 rfl (OW.alloc (cs := [.int .i64 0, .int .i64 0, .int .i64 0, .int .i64 0]) hS zeroValue89 rfl) rfl rfl ?_))
        rintro _ w ⟨b1612, rfl, hS⟩
        refine ⟨kp ⟨fun _ => hS.d0, trivial⟩, ?_⟩
        refine RP.e0 12 rfl (OW.store (vs := [.int .i64 ((nth a2 x1404).Op), .int .i64 ((nth a2 x1404).A), .int .i64 ((nth a2 x1404).B), .int .i64 ((nth a2 x1404).C)]) 0 hS rfl rfl rfl rfl sizeOf89 rfl rfl rfl rfl) rfl ?_
        rintro _ w ⟨rfl, hS⟩
        have hS : St B w (Cl _ [_, _, _, _] _ :: _ :: _ :: _ :: _ :: l) hf := hS
        refine ⟨kp ⟨(by intro hx; cases hx), trivial⟩, ?_⟩
        refine RP.nil (RQ.noPan_n (tsr (pn 2 rfl (RL.s (Vl.fa 29 underlying102 rfl sizeOf3 rfl rfl) rfl (RL.s (Vl.ld 4 hS isAgg3 rfl rfl rfl) rfl (pn 2 rfl (RL.s (Vl.fa 29 underlying102 rfl sizeOf3 rfl rfl) rfl (RL.e0 (OW.store (vs := [.int .i64 (IntKind.i64.wrap (x1404 + 1))]) 4 hS rfl rfl rfl rfl sizeOf3 rfl rfl rfl rfl) rfl ?_))))))))
        rintro _ w ⟨rfl, hS⟩
        have hS : St B w (_ :: _ :: _ :: _ :: Cl b1 [.slice A3 a2.length c4, .int .i64 a6, .slice A8 a7.length c9, .int .u64 a11, .int .i64 a12, .int .i64 a13, .int .i64 a14, .int .i64 a15, .int .i64 a16, .int .i64 a17, .bool a18, .int .i64 (fn1399 0), .int .i64 (fn1399 1), .int .i64 (fn1399 2), .int .i64 (fn1399 3), .int .i64 (fn1399 4), .int .i64 (fn1399 5), .int .i64 (fn1399 6), .int .i64 (fn1399 7), .int .i64 (fn1399 8), .int .i64 (fn1399 9), .int .i64 (fn1399 10), .int .i64 (fn1399 11), .int .i64 (fn1399 12), .int .i64 (fn1399 13), .int .i64 (fn1399 14), .int .i64 (fn1399 15), .int .i64 x1400, .slice A1402 l1401.length c1403, .int .i64 (IntKind.i64.wrap (x1404 + 1))] 102 :: l) hf := hS
        refine ln (RC.region (pn 1 rfl (RL.s (Vl.fa 0 underlying89 rfl sizeOf3 rfl rfl) rfl (RL.s (Vl.ld 0 hS isAgg3 rfl rfl rfl) rfl ?_))))
        by_cases hc1613 : (nth a2 x1404).Op = 0
        case pos =>
         have h := h.pos hc1613
         refine RL.s (Vl.lookupL (n' := 0) (j := 0) (v := .func (.func 56) #[] #[]) 2 hS rfl underlying128 underlying3 rfl rfl hc1613 rfl) rfl (pn 1 rfl (RL.s (Vl.lw 0 hS isAgg89 sizeOf89 rfl rfl rfl) rfl ?_))
         obtain ⟨t1614, hg1615, h⟩ := h.bind
         have hc := vm_cpu_halt.ok hr5 hr10 hg1615 hS.p1.p4
         refine RL.e (OW.call (ls := [.tmp 47, .tmp 48]) rfl rfl call56 rfl hc) rfl rfl ?_
         rintro _ w ⟨rfl, hS⟩
         refine RL.nil (RQ.inB_n ?_)
         exact fun a ha => ⟨(fn1399, x1400, l1401, t1614), fn1399, x1400, l1401, t1614, rfl, A1402, c1403, ha.to ⟨rfl, rfl, rfl, rfl, rfl, rfl, rfl, rfl, rfl, rfl, rfl, rfl, rfl, rfl, rfl, trivial⟩, hS.d2.p1, h⟩
        case neg =>
         have h := h.neg hc1613
         by_cases hc1616 : (nth a2 x1404).Op = 1
         case pos =>
          have h := h.pos hc1616
          refine RL.s (Vl.lookupL (n' := 1) (j := 1) (v := .func (.func 57) #[] #[]) 2 hS rfl underlying128 underlying3 rfl rfl hc1616 rfl) rfl (pn 1 rfl (RL.s (Vl.lw 0 hS isAgg89 sizeOf89 rfl rfl rfl) rfl ?_))
          obtain ⟨t1617, hg1618, h⟩ := h.bind
          have hc := vm_cpu_set.ok hr5 hr10 hg1618 hS.p1.p4
          refine RL.e (OW.call (ls := [.tmp 47, .tmp 48]) rfl rfl call57 rfl hc) rfl rfl ?_
          rintro _ w ⟨rfl, hS⟩
          refine RL.nil (RQ.inB_n ?_)
          exact fun a ha => ⟨(t1617, x1400, l1401, IntKind.i64.wrap (x1404 + 1)), t1617, x1400, l1401, (IntKind.i64.wrap (x1404 + 1)), rfl, A1402, c1403, ha.to ⟨rfl, rfl, rfl, rfl, rfl, rfl, rfl, rfl, rfl, rfl, rfl, rfl, rfl, rfl, rfl, trivial⟩, hS.d2.p1, h⟩
         case neg =>
          have h := h.neg hc1616
          by_cases hc1619 : (nth a2 x1404).Op = 2
          case pos =>
           have h := h.pos hc1619
           refine RL.s (Vl.lookupL (n' := 2) (j := 2) (v := .func (.func 58) #[] #[]) 2 hS rfl underlying128 underlying3 rfl rfl hc1619 rfl) rfl (pn 1 rfl (RL.s (Vl.lw 0 hS isAgg89 sizeOf89 rfl rfl rfl) rfl ?_))
           obtain ⟨t1620, hg1621, h⟩ := h.bind
           have hc := vm_cpu_move.ok hr5 hr10 hg1621 hS.p1.p4
           refine RL.e (OW.call (ls := [.tmp 47, .tmp 48]) rfl rfl call58 rfl hc) rfl rfl ?_
           rintro _ w ⟨rfl, hS⟩
           refine RL.nil (RQ.inB_n ?_)
           exact fun a ha => ⟨(t1620, x1400, l1401, IntKind.i64.wrap (x1404 + 1)), t1620, x1400, l1401, (IntKind.i64.wrap (x1404 + 1)), rfl, A1402, c1403, ha.to ⟨rfl, rfl, rfl, rfl, rfl, rfl, rfl, rfl, rfl, rfl, rfl, rfl, rfl, rfl, rfl, trivial⟩, hS.d2.p1, h⟩
          case neg =>
           have h := h.neg hc1619
           by_cases hc1622 : (nth a2 x1404).Op = 3
           case pos =>
            have h := h.pos hc1622
            refine RL.s (Vl.lookupL (n' := 3) (j := 3) (v := .func (.func 59) #[] #[]) 2 hS rfl underlying128 underlying3 rfl rfl hc1622 rfl) rfl (pn 1 rfl (RL.s (Vl.lw 0 hS isAgg89 sizeOf89 rfl rfl rfl) rfl ?_))
            obtain ⟨t1623, hg1624, h⟩ := h.bind
            have hc := vm_cpu_add.ok hr5 hr10 hg1624 hS.p1.p4
            refine RL.e (OW.call (ls := [.tmp 47, .tmp 48]) rfl rfl call59 rfl hc) rfl rfl ?_
            rintro _ w ⟨rfl, hS⟩
            refine RL.nil (RQ.inB_n ?_)
            exact fun a ha => ⟨(t1623, x1400, l1401, IntKind.i64.wrap (x1404 + 1)), t1623, x1400, l1401, (IntKind.i64.wrap (x1404 + 1)), rfl, A1402, c1403, ha.to ⟨rfl, rfl, rfl, rfl, rfl, rfl, rfl, rfl, rfl, rfl, rfl, rfl, rfl, rfl, rfl, trivial⟩, hS.d2.p1, h⟩
           case neg =>
            have h := h.neg hc1622
            by_cases hc1625 : (nth a2 x1404).Op = 4
            case pos =>
             have h := h.pos hc1625
             refine RL.s (Vl.lookupL (n' := 4) (j := 4) (v := .func (.func 60) #[] #[]) 2 hS rfl underlying128 underlying3 rfl rfl hc1625 rfl) rfl (pn 1 rfl (RL.s (Vl.lw 0 hS isAgg89 sizeOf89 rfl rfl rfl) rfl ?_))
             obtain ⟨t1626, hg1627, h⟩ := h.bind
             have hc := vm_cpu_sub.ok hr5 hr10 hg1627 hS.p1.p4
             refine RL.e (OW.call (ls := [.tmp 47, .tmp 48]) rfl rfl call60 rfl hc) rfl rfl ?_
             rintro _ w ⟨rfl, hS⟩
             refine RL.nil (RQ.inB_n ?_)
             exact fun a ha => ⟨(t1626, x1400, l1401, IntKind.i64.wrap (x1404 + 1)), t1626, x1400, l1401, (IntKind.i64.wrap (x1404 + 1)), rfl, A1402, c1403, ha.to ⟨rfl, rfl, rfl, rfl, rfl, rfl, rfl, rfl, rfl, rfl, rfl, rfl, rfl, rfl, rfl, trivial⟩, hS.d2.p1, h⟩
            case neg =>
             have h := h.neg hc1625
             by_cases hc1628 : (nth a2 x1404).Op = 5
             case pos =>
              have h := h.pos hc1628
              refine RL.s (Vl.lookupL (n' := 5) (j := 5) (v := .func (.func 61) #[] #[]) 2 hS rfl underlying128 underlying3 rfl rfl hc1628 rfl) rfl (pn 1 rfl (RL.s (Vl.lw 0 hS isAgg89 sizeOf89 rfl rfl rfl) rfl ?_))
              obtain ⟨t1629, hg1630, h⟩ := h.bind
              have hc := vm_cpu_mul.ok hr5 hr10 hg1630 hS.p1.p4
              refine RL.e (OW.call (ls := [.tmp 47, .tmp 48]) rfl rfl call61 rfl hc) rfl rfl ?_
              rintro _ w ⟨rfl, hS⟩
              refine RL.nil (RQ.inB_n ?_)
              exact fun a ha => ⟨(t1629, x1400, l1401, IntKind.i64.wrap (x1404 + 1)), t1629, x1400, l1401, (IntKind.i64.wrap (x1404 + 1)), rfl, A1402, c1403, ha.to ⟨rfl, rfl, rfl, rfl, rfl, rfl, rfl, rfl, rfl, rfl, rfl, rfl, rfl, rfl, rfl, trivial⟩, hS.d2.p1, h⟩
             case neg =>
              have h := h.neg hc1628
              by_cases hc1631 : (nth a2 x1404).Op = 6
              case pos =>
               have h := h.pos hc1631
               refine RL.s (Vl.lookupL (n' := 6) (j := 6) (v := .func (.func 62) #[] #[]) 2 hS rfl underlying128 underlying3 rfl rfl hc1631 rfl) rfl (pn 1 rfl (RL.s (Vl.lw 0 hS isAgg89 sizeOf89 rfl rfl rfl) rfl ?_))
               obtain ⟨t1632, hg1633, h⟩ := h.bind
               have hc := vm_cpu_div.ok hr5 hr10 hg1633 hS.p1.p4
               refine RL.e (OW.call (ls := [.tmp 47, .tmp 48]) rfl rfl call62 rfl hc) rfl rfl ?_
               rintro _ w ⟨rfl, hS⟩
               refine RL.nil (RQ.inB_n ?_)
               exact fun a ha => ⟨(t1632, x1400, l1401, IntKind.i64.wrap (x1404 + 1)), t1632, x1400, l1401, (IntKind.i64.wrap (x1404 + 1)), rfl, A1402, c1403, ha.to ⟨rfl, rfl, rfl, rfl, rfl, rfl, rfl, rfl, rfl, rfl, rfl, rfl, rfl, rfl, rfl, trivial⟩, hS.d2.p1, h⟩
              case neg =>
               have h := h.neg hc1631
               by_cases hc1634 : (nth a2 x1404).Op = 7
               case pos =>
                have h := h.pos hc1634
                refine RL.s (Vl.lookupL (n' := 7) (j := 7) (v := .func (.func 63) #[] #[]) 2 hS rfl underlying128 underlying3 rfl rfl hc1634 rfl) rfl (pn 1 rfl (RL.s (Vl.lw 0 hS isAgg89 sizeOf89 rfl rfl rfl) rfl ?_))
                obtain ⟨t1635, hg1636, h⟩ := h.bind
                have hc := vm_cpu_mod.ok hr5 hr10 hg1636 hS.p1.p4
                refine RL.e (OW.call (ls := [.tmp 47, .tmp 48]) rfl rfl call63 rfl hc) rfl rfl ?_
                rintro _ w ⟨rfl, hS⟩
                refine RL.nil (RQ.inB_n ?_)
                exact fun a ha => ⟨(t1635, x1400, l1401, IntKind.i64.wrap (x1404 + 1)), t1635, x1400, l1401, (IntKind.i64.wrap (x1404 + 1)), rfl, A1402, c1403, ha.to ⟨rfl, rfl, rfl, rfl, rfl, rfl, rfl, rfl, rfl, rfl, rfl, rfl, rfl, rfl, rfl, trivial⟩, hS.d2.p1, h⟩
               case neg =>
                have h := h.neg hc1634
                by_cases hc1637 : (nth a2 x1404).Op = 8
                case pos =>
                 have h := h.pos hc1637
                 refine RL.s (Vl.lookupL (n' := 8) (j := 8) (v := .func (.func 64) #[] #[]) 2 hS rfl underlying128 underlying3 rfl rfl hc1637 rfl) rfl (pn 1 rfl (RL.s (Vl.lw 0 hS isAgg89 sizeOf89 rfl rfl rfl) rfl ?_))
                 obtain ⟨t1638, hg1639, h⟩ := h.bind
                 have hc := vm_cpu_less.ok hr5 hr10 hg1639 hS.p1.p4
                 refine RL.e (OW.call (ls := [.tmp 47, .tmp 48]) rfl rfl call64 rfl hc) rfl rfl ?_
                 rintro _ w ⟨rfl, hS⟩
                 refine RL.nil (RQ.inB_n ?_)
                 exact fun a ha => ⟨(t1638, x1400, l1401, IntKind.i64.wrap (x1404 + 1)), t1638, x1400, l1401, (IntKind.i64.wrap (x1404 + 1)), rfl, A1402, c1403, ha.to ⟨rfl, rfl, rfl, rfl, rfl, rfl, rfl, rfl, rfl, rfl, rfl, rfl, rfl, rfl, rfl, trivial⟩, hS.d2.p1, h⟩
                case neg =>
                 have h := h.neg hc1637
                 by_cases hc1640 : (nth a2 x1404).Op = 9
                 case pos =>
                  have h := h.pos hc1640
                  refine RL.s (Vl.lookupL (n' := 9) (j := 9) (v := .func (.func 65) #[] #[]) 2 hS rfl underlying128 underlying3 rfl rfl hc1640 rfl) rfl (pn 1 rfl (RL.s (Vl.lw 0 hS isAgg89 sizeOf89 rfl rfl rfl) rfl ?_))
                  obtain ⟨t1641, hg1642, h⟩ := h.bind
                  have hc := vm_cpu_same.ok hr5 hr10 hg1642 hS.p1.p4
                  refine RL.e (OW.call (ls := [.tmp 47, .tmp 48]) rfl rfl call65 rfl hc) rfl rfl ?_
                  rintro _ w ⟨rfl, hS⟩
                  refine RL.nil (RQ.inB_n ?_)
                  exact fun a ha => ⟨(t1641, x1400, l1401, IntKind.i64.wrap (x1404 + 1)), t1641, x1400, l1401, (IntKind.i64.wrap (x1404 + 1)), rfl, A1402, c1403, ha.to ⟨rfl, rfl, rfl, rfl, rfl, rfl, rfl, rfl, rfl, rfl, rfl, rfl, rfl, rfl, rfl, trivial⟩, hS.d2.p1, h⟩
                 case neg =>
                  have h := h.neg hc1640
                  by_cases hc1643 : (nth a2 x1404).Op = 10
                  case pos =>
                   have h := h.pos hc1643
                   refine RL.s (Vl.lookupL (n' := 10) (j := 10) (v := .func (.func 66) #[] #[]) 2 hS rfl underlying128 underlying3 rfl rfl hc1643 rfl) rfl (pn 1 rfl (RL.s (Vl.lw 0 hS isAgg89 sizeOf89 rfl rfl rfl) rfl ?_))
                   obtain ⟨t1644, hg1645, h⟩ := h.bind
                   have hc := vm_cpu_jump.ok hr5 hr10 hg1645 hS.p1.p4
                   refine RL.e (OW.call (ls := [.tmp 47, .tmp 48]) rfl rfl call66 rfl hc) rfl rfl ?_
                   rintro _ w ⟨rfl, hS⟩
                   refine RL.nil (RQ.inB_n ?_)
                   exact fun a ha => ⟨(fn1399, x1400, l1401, t1644), fn1399, x1400, l1401, t1644, rfl, A1402, c1403, ha.to ⟨rfl, rfl, rfl, rfl, rfl, rfl, rfl, rfl, rfl, rfl, rfl, rfl, rfl, rfl, rfl, trivial⟩, hS.d2.p1, h⟩
                  case neg =>
                   have h := h.neg hc1643
                   by_cases hc1646 : (nth a2 x1404).Op = 11
                   case pos =>
                    have h := h.pos hc1646
                    refine RL.s (Vl.lookupL (n' := 11) (j := 11) (v := .func (.func 67) #[] #[]) 2 hS rfl underlying128 underlying3 rfl rfl hc1646 rfl) rfl (pn 1 rfl (RL.s (Vl.lw 0 hS isAgg89 sizeOf89 rfl rfl rfl) rfl ?_))
                    obtain ⟨t1647, hg1648, h⟩ := h.bind
                    have hc := vm_cpu_zero.ok hr5 hr10 hg1648 hS.p1.p4
                    refine RL.e (OW.call (ls := [.tmp 47, .tmp 48]) rfl rfl call67 rfl hc) rfl rfl ?_
                    rintro _ w ⟨rfl, hS⟩
                    refine RL.nil (RQ.inB_n ?_)
                    exact fun a ha => ⟨(fn1399, x1400, l1401, t1647), fn1399, x1400, l1401, t1647, rfl, A1402, c1403, ha.to ⟨rfl, rfl, rfl, rfl, rfl, rfl, rfl, rfl, rfl, rfl, rfl, rfl, rfl, rfl, rfl, trivial⟩, hS.d2.p1, h⟩
                   case neg =>
                    have h := h.neg hc1646
                    by_cases hc1649 : (nth a2 x1404).Op = 12
                    case pos =>
                     have h := h.pos hc1649
                     refine RL.s (Vl.lookupL (n' := 12) (j := 12) (v := .func (.func 68) #[] #[]) 2 hS rfl underlying128 underlying3 rfl rfl hc1649 rfl) rfl (pn 1 rfl (RL.s (Vl.lw 0 hS isAgg89 sizeOf89 rfl rfl rfl) rfl ?_))
                     obtain ⟨t1650, hg1651, h⟩ := h.bind
                     have hc := vm_cpu_send.ok hr5 hr10 hg1651 hS.p1.p4
                     rcases t1650 with y1652 | y1655
                     · refine RL.eP (OWP.call (ls := [.tmp 47, .tmp 48]) rfl rfl call68 rfl hc) rfl rfl ?_ ?_
                       rotate_left
                       · exact fun _ _ (hk : False) => hk.elim
                       rintro _ w ⟨A1653, c1654, rfl, hS⟩
                       have hS : St B w (_ :: _ :: _ :: _ :: _ :: l) hf := hS
                       refine RL.nil (RQ.inB_n ?_)
                       exact fun a ha => ⟨(fn1399, x1400, y1652, IntKind.i64.wrap (x1404 + 1)), fn1399, x1400, y1652, (IntKind.i64.wrap (x1404 + 1)), rfl, A1653, c1654, ha.to ⟨rfl, rfl, rfl, rfl, rfl, rfl, rfl, rfl, rfl, rfl, rfl, rfl, rfl, rfl, rfl, trivial⟩, hS.d2, h⟩
                     · refine RL.eP (OWP.call (ls := [.tmp 47, .tmp 48]) rfl rfl call68 rfl hc) rfl rfl ?_ ?_
                       · exact fun _ _ (hk : False) => hk.elim
                       · rintro _ w ⟨rfl, hS⟩
                         have hS : St B w (_ :: _ :: _ :: _ :: _ :: l) hf := hS
                         refine RQ.panB (RQ.panT ?_)
                         have h := h.inr
                         refine RQ.panT (RQ.panB (RQ.panT ?_))
                         obtain ⟨t1656, hg1657, h⟩ := h.bind
                         obtain rfl := h.some
                         refine RQ.deferPan results40 (fun w => by kernel_rfl) (vm_cpu_run_1v2.ok hg1657 hS.p4) ?_
                         rintro _ w ⟨b1658, A1659, c1660, rfl, hS⟩
                         have hS : St B w (_ :: _ :: _ :: _ :: _ :: _ :: _ :: l) hf := hS
                         exact ⟨[.iface 144 (.pointer (some ⟨b1658, 0, none⟩))], ⟨⟨_, rfl, run_loadVar1 isAgg75 (hS.cell 2 rfl rfl)⟩, trivial⟩, ⟨b1658, A1659, c1660, A1402, c1403, rfl, hS.d2.d4.d4.p3.p2.p2⟩⟩
                    case neg =>
                     have h := h.neg hc1649
                     by_cases hc1661 : (nth a2 x1404).Op = 13
                     case pos =>
                      have h := h.pos hc1661
                      refine RL.s (Vl.lookupL (n' := 13) (j := 13) (v := .func (.func 69) #[] #[]) 2 hS rfl underlying128 underlying3 rfl rfl hc1661 rfl) rfl (pn 1 rfl (RL.s (Vl.lw 0 hS isAgg89 sizeOf89 rfl rfl rfl) rfl ?_))
                      obtain ⟨t1662, hg1663, h⟩ := h.bind
                      have hc := vm_cpu_draw.ok hr5 hr10 hg1663 hS.p1.p4
                      obtain ⟨y1664, y1665⟩ := t1662
                      refine RL.e (OW.call (ls := [.tmp 47, .tmp 48]) rfl rfl call69 rfl hc) rfl rfl ?_
                      rintro _ w ⟨rfl, hS⟩
                      refine RL.nil (RQ.inB_n ?_)
                      exact fun a ha => ⟨(y1664, y1665, l1401, IntKind.i64.wrap (x1404 + 1)), y1664, y1665, l1401, (IntKind.i64.wrap (x1404 + 1)), rfl, A1402, c1403, ha.to ⟨rfl, rfl, rfl, rfl, rfl, rfl, rfl, rfl, rfl, rfl, rfl, rfl, rfl, rfl, rfl, trivial⟩, hS.d2.p1, h⟩
                     case neg =>
                      have h := h.neg hc1661
                      by_cases hc1666 : (nth a2 x1404).Op = 14
                      case pos =>
                       have h := h.pos hc1666
                       refine RL.s (Vl.lookupL (n' := 14) (j := 14) (v := .func (.func 70) #[] #[]) 2 hS rfl underlying128 underlying3 rfl rfl hc1666 rfl) rfl (pn 1 rfl (RL.s (Vl.lw 0 hS isAgg89 sizeOf89 rfl rfl rfl) rfl ?_))
                       obtain ⟨t1667, hg1668, h⟩ := h.bind
                       have hc := vm_cpu_value.ok hr5 hr10 hg1668 hS.p1.p4
                       refine RL.e (OW.call (ls := [.tmp 47, .tmp 48]) rfl rfl call70 rfl hc) rfl rfl ?_
                       rintro _ w ⟨rfl, hS⟩
                       refine RL.nil (RQ.inB_n ?_)
                       exact fun a ha => ⟨(t1667, x1400, l1401, IntKind.i64.wrap (x1404 + 1)), t1667, x1400, l1401, (IntKind.i64.wrap (x1404 + 1)), rfl, A1402, c1403, ha.to ⟨rfl, rfl, rfl, rfl, rfl, rfl, rfl, rfl, rfl, rfl, rfl, rfl, rfl, rfl, rfl, trivial⟩, hS.d2.p1, h⟩
                      case neg =>
                       have h := h.neg hc1666
                       by_cases hc1669 : (nth a2 x1404).Op = 15
                       case pos =>
                        have h := h.pos hc1669
                        refine RL.s (Vl.lookupL (n' := 15) (j := 15) (v := .func (.func 71) #[] #[]) 2 hS rfl underlying128 underlying3 rfl rfl hc1669 rfl) rfl (pn 1 rfl (RL.s (Vl.lw 0 hS isAgg89 sizeOf89 rfl rfl rfl) rfl ?_))
                        obtain ⟨t1670, hg1671, h⟩ := h.bind
                        have hc := vm_cpu_time.ok hr5 hr10 hg1671 hS.p1.p4
                        refine RL.e (OW.call (ls := [.tmp 47, .tmp 48]) rfl rfl call71 rfl hc) rfl rfl ?_
                        rintro _ w ⟨rfl, hS⟩
                        refine RL.nil (RQ.inB_n ?_)
                        exact fun a ha => ⟨(t1670, x1400, l1401, IntKind.i64.wrap (x1404 + 1)), t1670, x1400, l1401, (IntKind.i64.wrap (x1404 + 1)), rfl, A1402, c1403, ha.to ⟨rfl, rfl, rfl, rfl, rfl, rfl, rfl, rfl, rfl, rfl, rfl, rfl, rfl, rfl, rfl, trivial⟩, hS.d2.p1, h⟩
                       case neg =>
                        have h := h.neg hc1669
                        by_cases hc1672 : (nth a2 x1404).Op = 16
                        case pos =>
                         have h := h.pos hc1672
                         refine RL.s (Vl.lookupL (n' := 16) (j := 16) (v := .func (.func 72) #[] #[]) 2 hS rfl underlying128 underlying3 rfl rfl hc1672 rfl) rfl (pn 1 rfl (RL.s (Vl.lw 0 hS isAgg89 sizeOf89 rfl rfl rfl) rfl ?_))
                         obtain ⟨t1673, hg1674, h⟩ := h.bind
                         have hc := vm_cpu_self.ok hr5 hr10 hg1674 hS.p1.p4
                         refine RL.e (OW.call (ls := [.tmp 47, .tmp 48]) rfl rfl call72 rfl hc) rfl rfl ?_
                         rintro _ w ⟨rfl, hS⟩
                         refine RL.nil (RQ.inB_n ?_)
                         exact fun a ha => ⟨(t1673, x1400, l1401, IntKind.i64.wrap (x1404 + 1)), t1673, x1400, l1401, (IntKind.i64.wrap (x1404 + 1)), rfl, A1402, c1403, ha.to ⟨rfl, rfl, rfl, rfl, rfl, rfl, rfl, rfl, rfl, rfl, rfl, rfl, rfl, rfl, rfl, trivial⟩, hS.d2.p1, h⟩
                        case neg =>
                         have h := h.neg hc1672
                         exact h.none
     next =>
      refine RC.condF rfl (RC.exit (RQ.exitT ?_))
      have h := h.inr
      refine RQ.exitT (RQ.inB_hit ?_)
      exact fun a ha => ⟨(fn1399, x1400, l1401, x1404), fn1399, x1400, l1401, x1404, rfl, A1402, c1403, ha.to ⟨rfl, trivial⟩, hS.d1, h⟩
    next =>
     refine pp 3 rfl (RP.nn 0 6 rfl rfl rfl (RP.n1 7 rfl rfl rfl (RP.n1 8 rfl rfl rfl (RP.n1 9 rfl rfl rfl (RP.n1 10 rfl rfl rfl (RP.n1 11 rfl rfl rfl (RP.n1 12 rfl rfl rfl (RP.n1 13 rfl rfl rfl (RP.v1 14 rfl (Vl.pickF rfl rfl) rfl rfl (RP.nil (RQ.noPan_n (RQ.then_n (RC.condF rfl (RC.exit (RQ.exitT ?_)))))))))))))))
     have h := h.inr
     refine RQ.exitT (RQ.inB_hit ?_)
     exact fun a ha => ⟨(fn1399, x1400, l1401, x1404), fn1399, x1400, l1401, x1404, rfl, A1402, c1403, ha.to ⟨rfl, trivial⟩, hS.d1, h⟩

/-! ### errors.As: function 41 -/
noncomputable def errors_As.f (a2 : vm_fault) : Option (Bool) := some false
theorem errors_As.ok {a2 : vm_fault} {b1 : Nat} {r : Bool} (h : errors_As.f a2 = some r) (hS : St B w (Cl b1 [.int .i64 a2.at_, .int .i64 a2.why] 105 :: l) hf) :
    Calls prog 41 #[.nilIface, .iface 108 (.pointer (some ⟨b1, 0, none⟩))] w (Ret fun v w => v = .bool r ∧ St B w (Cl b1 [.int .i64 a2.at_, .int .i64 a2.why] 105 :: l) hf) := by
  have h := Holds.of h
  refine en func41 rfl ntmps41 rfl (sr (pn 1 rfl (ln (RC.seq (sr (pn 1 rfl (RL.s (Vl.bin (v := .bool true) rfl rfl (by kernel_rfl)) rfl (ln (RC.condT rfl (sr ?_))))))))))
  refine pn 1 rfl (lr (RQ.ret ?_))
  obtain rfl := h.some
  exact rt results41 rfl ⟨rfl, hS⟩

end Go.Proofs.Gx
