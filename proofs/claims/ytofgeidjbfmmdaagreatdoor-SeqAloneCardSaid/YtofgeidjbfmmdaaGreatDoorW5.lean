/-
  The walks of functions, each with what it computes: printed by wip/gx.py.
-/
import Derived.Test.YtofgeidjbfmmdaaGreatDoorW0
import Derived.Test.YtofgeidjbfmmdaaGreatDoorW1
set_option linter.unusedVariables false
set_option maxRecDepth 100000
set_option maxHeartbeats 4000000
namespace Go.Proofs.Gx
open Go.Sl Tryz
variable {B : Base} {w : World} {l : List HProp} {hf : Hp}
/-! ### (*isochron/vm.cpu).add: function 103 -/
noncomputable def vm_cpu_add.f (a2 : List api_Instr) (a6 : Int) (a7 : List api_Link) (a11 a12 a13 a14 a15 a16 a17 : Int) (a18 : Bool) (a19 : Int) (a22 : List api_Out) (a23 : Int) (fn24 : (Nat → Int)) (a25 : api_Instr) : Option ((Nat → Int)) := (if 0 ≤ a25.B ∧ a25.B < 16 then (if 0 ≤ a25.C ∧ a25.C < 16 then (if 0 ≤ a25.A ∧ a25.A < 16 then some (upd fn24 (a25.A.toNat * 1) (IntKind.i64.wrap ((fn24 (a25.B.toNat * 1)) + (fn24 (a25.C.toNat * 1))))) else none) else none) else none)
theorem vm_cpu_add.ok {a2 : List api_Instr} {a6 : Int} {a7 : List api_Link} {a11 a12 a13 a14 a15 a16 a17 : Int} {a18 : Bool} {a19 : Int} {a22 : List api_Out} {a23 : Int} {fn24 : (Nat → Int)} {a25 : api_Instr} {b1 : Nat} {A3 : Option Addr} {c4 : Nat} {A8 : Option Addr} {c9 : Nat} {A20 : Option Addr} {c21 : Nat} (hr5 : SlR E_api_Instr.rep hf A3 c4 a2) (hr10 : SlR E_api_Link.rep hf A8 c9 a7) {r : (Nat → Int)} (h : vm_cpu_add.f a2 a6 a7 a11 a12 a13 a14 a15 a16 a17 a18 a19 a22 a23 fn24 a25 = some r) (hS : St B w (Cl b1 [.slice A3 a2.length c4, .int .i64 a6, .slice A8 a7.length c9, .int .u64 a11, .int .i64 a12, .int .i64 a13, .int .i64 a14, .int .i64 a15, .int .i64 a16, .int .i64 a17, .bool a18, .int .i64 (fn24 0), .int .i64 (fn24 1), .int .i64 (fn24 2), .int .i64 (fn24 3), .int .i64 (fn24 4), .int .i64 (fn24 5), .int .i64 (fn24 6), .int .i64 (fn24 7), .int .i64 (fn24 8), .int .i64 (fn24 9), .int .i64 (fn24 10), .int .i64 (fn24 11), .int .i64 (fn24 12), .int .i64 (fn24 13), .int .i64 (fn24 14), .int .i64 (fn24 15), .int .i64 a19, .slice A20 a22.length c21, .int .i64 a23] 170 :: OSf E_api_Out 176 (.slice A20 a22.length c21) a22 :: l) hf) :
    Calls prog 103 #[.pointer (some ⟨b1, 0, none⟩), .agg #[.int .i64 a25.Op, .int .i64 a25.A, .int .i64 a25.B, .int .i64 a25.C]] w (Ret fun v w => v = .tuple #[] ∧ St B w (Cl b1 [.slice A3 a2.length c4, .int .i64 a6, .slice A8 a7.length c9, .int .u64 a11, .int .i64 a12, .int .i64 a13, .int .i64 a14, .int .i64 a15, .int .i64 a16, .int .i64 a17, .bool a18, .int .i64 (r 0), .int .i64 (r 1), .int .i64 (r 2), .int .i64 (r 3), .int .i64 (r 4), .int .i64 (r 5), .int .i64 (r 6), .int .i64 (r 7), .int .i64 (r 8), .int .i64 (r 9), .int .i64 (r 10), .int .i64 (r 11), .int .i64 (r 12), .int .i64 (r 13), .int .i64 (r 14), .int .i64 (r 15), .int .i64 a19, .slice A20 a22.length c21, .int .i64 a23] 170 :: OSf E_api_Out 176 (.slice A20 a22.length c21) a22 :: l) hf) := by
  have h := Holds.of h
  refine en func103 rfl ntmps103 rfl (sr (bx hS rfl rfl rfl rfl fun b33 w hS => ln (RC.planS (plD [0, 3, 7, 9, 12, 16, 18, 21, 24, 28, 30, 33, 37, 39, 42, 45, 49, 51, 56, 59, 62, 65]) [20, 21] hS (fun w hS => hS) follows rfl (by kernel_rfl) NoTmp.body fun w hS => pp 1 rfl (RP.s0 1 rfl (fun w => Vl.fa 1 underlying134 rfl sizeOf3 rfl rfl) rfl (RP.s 0 2 rfl rfl hS (fun w hS => Vl.ld 0 hS isAgg3 rfl rfl rfl) rfl (pp 1 rfl (RP.s0 4 rfl (fun w => Vl.fa 2 underlying134 rfl sizeOf3 rfl rfl) rfl (RP.s 0 5 rfl rfl hS (fun w hS => Vl.ld 0 hS isAgg3 rfl rfl rfl) rfl (pp 1 rfl (RP.s0 7 rfl (fun w => Vl.fa 11 underlying170 rfl sizeOf168 rfl rfl) rfl ?_))))))))))
  obtain ⟨⟨hq34, hq35⟩, h⟩ := h.req
  refine RP.s0 8 rfl (fun w => Vl.indexAddrA (a'' := ⟨b1, 11 + a25.B.toNat * 1, none⟩) underlying168 sizeOf2 rfl rfl hq34 hq35 (add_mk _ _ _)) rfl (RP.s 0 9 rfl rfl hS (fun w hS => Vl.load isAgg2 rfl (hS.cell (off := 11 + a25.B.toNat * 1) (cs := [.slice A3 a2.length c4, .int .i64 a6, .slice A8 a7.length c9, .int .u64 a11, .int .i64 a12, .int .i64 a13, .int .i64 a14, .int .i64 a15, .int .i64 a16, .int .i64 a17, .bool a18] ++ (fc (Value.int .i64) 16 fn24 ++ [.int .i64 a19, .slice A20 a22.length c21, .int .i64 a23])) 1 rfl (seg_get rfl (by omega)))) rfl (pp 1 rfl (RP.s0 11 rfl (fun w => Vl.fa 3 underlying134 rfl sizeOf3 rfl rfl) rfl (RP.s 0 12 rfl rfl hS (fun w hS => Vl.ld 0 hS isAgg3 rfl rfl rfl) rfl (pp 1 rfl (RP.s0 14 rfl (fun w => Vl.fa 11 underlying170 rfl sizeOf168 rfl rfl) rfl ?_))))))
  obtain ⟨⟨hq36, hq37⟩, h⟩ := h.req
  refine RP.s0 15 rfl (fun w => Vl.indexAddrA (a'' := ⟨b1, 11 + a25.C.toNat * 1, none⟩) underlying168 sizeOf2 rfl rfl hq36 hq37 (add_mk _ _ _)) rfl (RP.s 0 16 rfl rfl hS (fun w hS => Vl.load isAgg2 rfl (hS.cell (off := 11 + a25.C.toNat * 1) (cs := [.slice A3 a2.length c4, .int .i64 a6, .slice A8 a7.length c9, .int .u64 a11, .int .i64 a12, .int .i64 a13, .int .i64 a14, .int .i64 a15, .int .i64 a16, .int .i64 a17, .bool a18] ++ (fc (Value.int .i64) 16 fn24 ++ [.int .i64 a19, .slice A20 a22.length c21, .int .i64 a23])) 1 rfl (seg_get rfl (by omega)))) rfl (pp 1 rfl (RP.v1 18 rfl (Vl.nilCheck rfl) rfl rfl (RP.v1 19 rfl (Vl.fa 11 underlying170 rfl sizeOf168 rfl rfl) rfl rfl ?_))))
  obtain ⟨⟨hq38, hq39⟩, h⟩ := h.req
  refine RP.v1 20 rfl (Vl.indexAddrA (a'' := ⟨b1, 11 + a25.A.toNat * 1, none⟩) underlying168 sizeOf2 rfl rfl hq38 hq39 (add_mk _ _ _)) rfl rfl (RP.e0 21 rfl (OW.storeSeg (mk := (Value.int .i64)) (f := fn24) (n := 16) (m := 11) (pre := [.slice A3 a2.length c4, .int .i64 a6, .slice A8 a7.length c9, .int .u64 a11, .int .i64 a12, .int .i64 a13, .int .i64 a14, .int .i64 a15, .int .i64 a16, .int .i64 a17, .bool a18]) (post := [.int .i64 a19, .slice A20 a22.length c21, .int .i64 a23]) 1 hS rfl rfl rfl rfl sizeOf2 (by omega) (fun _ => rfl) (fun _ => rfl) rfl) rfl ?_)
  rintro _ w ⟨rfl, hS⟩
  have hS : St B w (_ :: _ :: _ :: l) hf := hS
  refine ⟨kp ⟨(by intro hx; cases hx), trivial⟩, ?_⟩
  refine RP.nil ?_
  obtain rfl := h.some
  exact rtE results103 rfl ⟨rfl, hS.d0⟩

/-! ### (*isochron/vm.cpu).sub: function 104 -/
noncomputable def vm_cpu_sub.f (a2 : List api_Instr) (a6 : Int) (a7 : List api_Link) (a11 a12 a13 a14 a15 a16 a17 : Int) (a18 : Bool) (a19 : Int) (a22 : List api_Out) (a23 : Int) (fn24 : (Nat → Int)) (a25 : api_Instr) : Option ((Nat → Int)) := (if 0 ≤ a25.B ∧ a25.B < 16 then (if 0 ≤ a25.C ∧ a25.C < 16 then (if 0 ≤ a25.A ∧ a25.A < 16 then some (upd fn24 (a25.A.toNat * 1) (IntKind.i64.wrap ((fn24 (a25.B.toNat * 1)) - (fn24 (a25.C.toNat * 1))))) else none) else none) else none)
theorem vm_cpu_sub.ok {a2 : List api_Instr} {a6 : Int} {a7 : List api_Link} {a11 a12 a13 a14 a15 a16 a17 : Int} {a18 : Bool} {a19 : Int} {a22 : List api_Out} {a23 : Int} {fn24 : (Nat → Int)} {a25 : api_Instr} {b1 : Nat} {A3 : Option Addr} {c4 : Nat} {A8 : Option Addr} {c9 : Nat} {A20 : Option Addr} {c21 : Nat} (hr5 : SlR E_api_Instr.rep hf A3 c4 a2) (hr10 : SlR E_api_Link.rep hf A8 c9 a7) {r : (Nat → Int)} (h : vm_cpu_sub.f a2 a6 a7 a11 a12 a13 a14 a15 a16 a17 a18 a19 a22 a23 fn24 a25 = some r) (hS : St B w (Cl b1 [.slice A3 a2.length c4, .int .i64 a6, .slice A8 a7.length c9, .int .u64 a11, .int .i64 a12, .int .i64 a13, .int .i64 a14, .int .i64 a15, .int .i64 a16, .int .i64 a17, .bool a18, .int .i64 (fn24 0), .int .i64 (fn24 1), .int .i64 (fn24 2), .int .i64 (fn24 3), .int .i64 (fn24 4), .int .i64 (fn24 5), .int .i64 (fn24 6), .int .i64 (fn24 7), .int .i64 (fn24 8), .int .i64 (fn24 9), .int .i64 (fn24 10), .int .i64 (fn24 11), .int .i64 (fn24 12), .int .i64 (fn24 13), .int .i64 (fn24 14), .int .i64 (fn24 15), .int .i64 a19, .slice A20 a22.length c21, .int .i64 a23] 170 :: OSf E_api_Out 176 (.slice A20 a22.length c21) a22 :: l) hf) :
    Calls prog 104 #[.pointer (some ⟨b1, 0, none⟩), .agg #[.int .i64 a25.Op, .int .i64 a25.A, .int .i64 a25.B, .int .i64 a25.C]] w (Ret fun v w => v = .tuple #[] ∧ St B w (Cl b1 [.slice A3 a2.length c4, .int .i64 a6, .slice A8 a7.length c9, .int .u64 a11, .int .i64 a12, .int .i64 a13, .int .i64 a14, .int .i64 a15, .int .i64 a16, .int .i64 a17, .bool a18, .int .i64 (r 0), .int .i64 (r 1), .int .i64 (r 2), .int .i64 (r 3), .int .i64 (r 4), .int .i64 (r 5), .int .i64 (r 6), .int .i64 (r 7), .int .i64 (r 8), .int .i64 (r 9), .int .i64 (r 10), .int .i64 (r 11), .int .i64 (r 12), .int .i64 (r 13), .int .i64 (r 14), .int .i64 (r 15), .int .i64 a19, .slice A20 a22.length c21, .int .i64 a23] 170 :: OSf E_api_Out 176 (.slice A20 a22.length c21) a22 :: l) hf) := by
  have h := Holds.of h
  refine en func104 rfl ntmps104 rfl (sr (bx hS rfl rfl rfl rfl fun b33 w hS => ln (RC.planS (plD [0, 3, 7, 9, 12, 16, 18, 21, 24, 28, 30, 33, 37, 39, 42, 45, 49, 51, 56, 59, 62, 65]) [20, 21] hS (fun w hS => hS) follows rfl (by kernel_rfl) NoTmp.body fun w hS => pp 1 rfl (RP.s0 1 rfl (fun w => Vl.fa 1 underlying134 rfl sizeOf3 rfl rfl) rfl (RP.s 0 2 rfl rfl hS (fun w hS => Vl.ld 0 hS isAgg3 rfl rfl rfl) rfl (pp 1 rfl (RP.s0 4 rfl (fun w => Vl.fa 2 underlying134 rfl sizeOf3 rfl rfl) rfl (RP.s 0 5 rfl rfl hS (fun w hS => Vl.ld 0 hS isAgg3 rfl rfl rfl) rfl (pp 1 rfl (RP.s0 7 rfl (fun w => Vl.fa 11 underlying170 rfl sizeOf168 rfl rfl) rfl ?_))))))))))
  obtain ⟨⟨hq34, hq35⟩, h⟩ := h.req
  refine RP.s0 8 rfl (fun w => Vl.indexAddrA (a'' := ⟨b1, 11 + a25.B.toNat * 1, none⟩) underlying168 sizeOf2 rfl rfl hq34 hq35 (add_mk _ _ _)) rfl (RP.s 0 9 rfl rfl hS (fun w hS => Vl.load isAgg2 rfl (hS.cell (off := 11 + a25.B.toNat * 1) (cs := [.slice A3 a2.length c4, .int .i64 a6, .slice A8 a7.length c9, .int .u64 a11, .int .i64 a12, .int .i64 a13, .int .i64 a14, .int .i64 a15, .int .i64 a16, .int .i64 a17, .bool a18] ++ (fc (Value.int .i64) 16 fn24 ++ [.int .i64 a19, .slice A20 a22.length c21, .int .i64 a23])) 1 rfl (seg_get rfl (by omega)))) rfl (pp 1 rfl (RP.s0 11 rfl (fun w => Vl.fa 3 underlying134 rfl sizeOf3 rfl rfl) rfl (RP.s 0 12 rfl rfl hS (fun w hS => Vl.ld 0 hS isAgg3 rfl rfl rfl) rfl (pp 1 rfl (RP.s0 14 rfl (fun w => Vl.fa 11 underlying170 rfl sizeOf168 rfl rfl) rfl ?_))))))
  obtain ⟨⟨hq36, hq37⟩, h⟩ := h.req
  refine RP.s0 15 rfl (fun w => Vl.indexAddrA (a'' := ⟨b1, 11 + a25.C.toNat * 1, none⟩) underlying168 sizeOf2 rfl rfl hq36 hq37 (add_mk _ _ _)) rfl (RP.s 0 16 rfl rfl hS (fun w hS => Vl.load isAgg2 rfl (hS.cell (off := 11 + a25.C.toNat * 1) (cs := [.slice A3 a2.length c4, .int .i64 a6, .slice A8 a7.length c9, .int .u64 a11, .int .i64 a12, .int .i64 a13, .int .i64 a14, .int .i64 a15, .int .i64 a16, .int .i64 a17, .bool a18] ++ (fc (Value.int .i64) 16 fn24 ++ [.int .i64 a19, .slice A20 a22.length c21, .int .i64 a23])) 1 rfl (seg_get rfl (by omega)))) rfl (pp 1 rfl (RP.v1 18 rfl (Vl.nilCheck rfl) rfl rfl (RP.v1 19 rfl (Vl.fa 11 underlying170 rfl sizeOf168 rfl rfl) rfl rfl ?_))))
  obtain ⟨⟨hq38, hq39⟩, h⟩ := h.req
  refine RP.v1 20 rfl (Vl.indexAddrA (a'' := ⟨b1, 11 + a25.A.toNat * 1, none⟩) underlying168 sizeOf2 rfl rfl hq38 hq39 (add_mk _ _ _)) rfl rfl (RP.e0 21 rfl (OW.storeSeg (mk := (Value.int .i64)) (f := fn24) (n := 16) (m := 11) (pre := [.slice A3 a2.length c4, .int .i64 a6, .slice A8 a7.length c9, .int .u64 a11, .int .i64 a12, .int .i64 a13, .int .i64 a14, .int .i64 a15, .int .i64 a16, .int .i64 a17, .bool a18]) (post := [.int .i64 a19, .slice A20 a22.length c21, .int .i64 a23]) 1 hS rfl rfl rfl rfl sizeOf2 (by omega) (fun _ => rfl) (fun _ => rfl) rfl) rfl ?_)
  rintro _ w ⟨rfl, hS⟩
  have hS : St B w (_ :: _ :: _ :: l) hf := hS
  refine ⟨kp ⟨(by intro hx; cases hx), trivial⟩, ?_⟩
  refine RP.nil ?_
  obtain rfl := h.some
  exact rtE results104 rfl ⟨rfl, hS.d0⟩

/-! ### (*isochron/vm.cpu).mul: function 105 -/
noncomputable def vm_cpu_mul.f (a2 : List api_Instr) (a6 : Int) (a7 : List api_Link) (a11 a12 a13 a14 a15 a16 a17 : Int) (a18 : Bool) (a19 : Int) (a22 : List api_Out) (a23 : Int) (fn24 : (Nat → Int)) (a25 : api_Instr) : Option ((Nat → Int)) := (if 0 ≤ a25.B ∧ a25.B < 16 then (if 0 ≤ a25.C ∧ a25.C < 16 then (if 0 ≤ a25.A ∧ a25.A < 16 then some (upd fn24 (a25.A.toNat * 1) (IntKind.i64.wrap ((fn24 (a25.B.toNat * 1)) * (fn24 (a25.C.toNat * 1))))) else none) else none) else none)
theorem vm_cpu_mul.ok {a2 : List api_Instr} {a6 : Int} {a7 : List api_Link} {a11 a12 a13 a14 a15 a16 a17 : Int} {a18 : Bool} {a19 : Int} {a22 : List api_Out} {a23 : Int} {fn24 : (Nat → Int)} {a25 : api_Instr} {b1 : Nat} {A3 : Option Addr} {c4 : Nat} {A8 : Option Addr} {c9 : Nat} {A20 : Option Addr} {c21 : Nat} (hr5 : SlR E_api_Instr.rep hf A3 c4 a2) (hr10 : SlR E_api_Link.rep hf A8 c9 a7) {r : (Nat → Int)} (h : vm_cpu_mul.f a2 a6 a7 a11 a12 a13 a14 a15 a16 a17 a18 a19 a22 a23 fn24 a25 = some r) (hS : St B w (Cl b1 [.slice A3 a2.length c4, .int .i64 a6, .slice A8 a7.length c9, .int .u64 a11, .int .i64 a12, .int .i64 a13, .int .i64 a14, .int .i64 a15, .int .i64 a16, .int .i64 a17, .bool a18, .int .i64 (fn24 0), .int .i64 (fn24 1), .int .i64 (fn24 2), .int .i64 (fn24 3), .int .i64 (fn24 4), .int .i64 (fn24 5), .int .i64 (fn24 6), .int .i64 (fn24 7), .int .i64 (fn24 8), .int .i64 (fn24 9), .int .i64 (fn24 10), .int .i64 (fn24 11), .int .i64 (fn24 12), .int .i64 (fn24 13), .int .i64 (fn24 14), .int .i64 (fn24 15), .int .i64 a19, .slice A20 a22.length c21, .int .i64 a23] 170 :: OSf E_api_Out 176 (.slice A20 a22.length c21) a22 :: l) hf) :
    Calls prog 105 #[.pointer (some ⟨b1, 0, none⟩), .agg #[.int .i64 a25.Op, .int .i64 a25.A, .int .i64 a25.B, .int .i64 a25.C]] w (Ret fun v w => v = .tuple #[] ∧ St B w (Cl b1 [.slice A3 a2.length c4, .int .i64 a6, .slice A8 a7.length c9, .int .u64 a11, .int .i64 a12, .int .i64 a13, .int .i64 a14, .int .i64 a15, .int .i64 a16, .int .i64 a17, .bool a18, .int .i64 (r 0), .int .i64 (r 1), .int .i64 (r 2), .int .i64 (r 3), .int .i64 (r 4), .int .i64 (r 5), .int .i64 (r 6), .int .i64 (r 7), .int .i64 (r 8), .int .i64 (r 9), .int .i64 (r 10), .int .i64 (r 11), .int .i64 (r 12), .int .i64 (r 13), .int .i64 (r 14), .int .i64 (r 15), .int .i64 a19, .slice A20 a22.length c21, .int .i64 a23] 170 :: OSf E_api_Out 176 (.slice A20 a22.length c21) a22 :: l) hf) := by
  have h := Holds.of h
  refine en func105 rfl ntmps105 rfl (sr (bx hS rfl rfl rfl rfl fun b33 w hS => ln (RC.planS (plD [0, 3, 7, 9, 12, 16, 18, 21, 24, 28, 30, 33, 37, 39, 42, 45, 49, 51, 56, 59, 62, 65]) [20, 21] hS (fun w hS => hS) follows rfl (by kernel_rfl) NoTmp.body fun w hS => pp 1 rfl (RP.s0 1 rfl (fun w => Vl.fa 1 underlying134 rfl sizeOf3 rfl rfl) rfl (RP.s 0 2 rfl rfl hS (fun w hS => Vl.ld 0 hS isAgg3 rfl rfl rfl) rfl (pp 1 rfl (RP.s0 4 rfl (fun w => Vl.fa 2 underlying134 rfl sizeOf3 rfl rfl) rfl (RP.s 0 5 rfl rfl hS (fun w hS => Vl.ld 0 hS isAgg3 rfl rfl rfl) rfl (pp 1 rfl (RP.s0 7 rfl (fun w => Vl.fa 11 underlying170 rfl sizeOf168 rfl rfl) rfl ?_))))))))))
  obtain ⟨⟨hq34, hq35⟩, h⟩ := h.req
  refine RP.s0 8 rfl (fun w => Vl.indexAddrA (a'' := ⟨b1, 11 + a25.B.toNat * 1, none⟩) underlying168 sizeOf2 rfl rfl hq34 hq35 (add_mk _ _ _)) rfl (RP.s 0 9 rfl rfl hS (fun w hS => Vl.load isAgg2 rfl (hS.cell (off := 11 + a25.B.toNat * 1) (cs := [.slice A3 a2.length c4, .int .i64 a6, .slice A8 a7.length c9, .int .u64 a11, .int .i64 a12, .int .i64 a13, .int .i64 a14, .int .i64 a15, .int .i64 a16, .int .i64 a17, .bool a18] ++ (fc (Value.int .i64) 16 fn24 ++ [.int .i64 a19, .slice A20 a22.length c21, .int .i64 a23])) 1 rfl (seg_get rfl (by omega)))) rfl (pp 1 rfl (RP.s0 11 rfl (fun w => Vl.fa 3 underlying134 rfl sizeOf3 rfl rfl) rfl (RP.s 0 12 rfl rfl hS (fun w hS => Vl.ld 0 hS isAgg3 rfl rfl rfl) rfl (pp 1 rfl (RP.s0 14 rfl (fun w => Vl.fa 11 underlying170 rfl sizeOf168 rfl rfl) rfl ?_))))))
  obtain ⟨⟨hq36, hq37⟩, h⟩ := h.req
  refine RP.s0 15 rfl (fun w => Vl.indexAddrA (a'' := ⟨b1, 11 + a25.C.toNat * 1, none⟩) underlying168 sizeOf2 rfl rfl hq36 hq37 (add_mk _ _ _)) rfl (RP.s 0 16 rfl rfl hS (fun w hS => Vl.load isAgg2 rfl (hS.cell (off := 11 + a25.C.toNat * 1) (cs := [.slice A3 a2.length c4, .int .i64 a6, .slice A8 a7.length c9, .int .u64 a11, .int .i64 a12, .int .i64 a13, .int .i64 a14, .int .i64 a15, .int .i64 a16, .int .i64 a17, .bool a18] ++ (fc (Value.int .i64) 16 fn24 ++ [.int .i64 a19, .slice A20 a22.length c21, .int .i64 a23])) 1 rfl (seg_get rfl (by omega)))) rfl (pp 1 rfl (RP.v1 18 rfl (Vl.nilCheck rfl) rfl rfl (RP.v1 19 rfl (Vl.fa 11 underlying170 rfl sizeOf168 rfl rfl) rfl rfl ?_))))
  obtain ⟨⟨hq38, hq39⟩, h⟩ := h.req
  refine RP.v1 20 rfl (Vl.indexAddrA (a'' := ⟨b1, 11 + a25.A.toNat * 1, none⟩) underlying168 sizeOf2 rfl rfl hq38 hq39 (add_mk _ _ _)) rfl rfl (RP.e0 21 rfl (OW.storeSeg (mk := (Value.int .i64)) (f := fn24) (n := 16) (m := 11) (pre := [.slice A3 a2.length c4, .int .i64 a6, .slice A8 a7.length c9, .int .u64 a11, .int .i64 a12, .int .i64 a13, .int .i64 a14, .int .i64 a15, .int .i64 a16, .int .i64 a17, .bool a18]) (post := [.int .i64 a19, .slice A20 a22.length c21, .int .i64 a23]) 1 hS rfl rfl rfl rfl sizeOf2 (by omega) (fun _ => rfl) (fun _ => rfl) rfl) rfl ?_)
  rintro _ w ⟨rfl, hS⟩
  have hS : St B w (_ :: _ :: _ :: l) hf := hS
  refine ⟨kp ⟨(by intro hx; cases hx), trivial⟩, ?_⟩
  refine RP.nil ?_
  obtain rfl := h.some
  exact rtE results105 rfl ⟨rfl, hS.d0⟩

/-! ### isochron/vm.quotient: function 123 -/
noncomputable def vm_quotient.j2 (a1 a2 : Int) : Option (Int × Int) := (if ¬ a2 = 0 then some (IntKind.i64.wrap (Int.tdiv a1 a2), Int.tmod a1 a2) else none)
noncomputable def vm_quotient.f (a1 a2 : Int) : Option (Int × Int) := (if a2 = 0 then some (0, 0) else (if a2 = (-1) then (if a1 = (-9223372036854775808) then some (a1, 0) else vm_quotient.j2 a1 a2) else vm_quotient.j2 a1 a2))
theorem vm_quotient.ok {a1 a2 : Int} {r : Int × Int} (h : vm_quotient.f a1 a2 = some r) (hS : St B w (l) hf) :
    Calls prog 123 #[.int .i64 a1, .int .i64 a2] w (Ret fun v w => v = .tuple #[.int .i64 r.1, .int .i64 r.2] ∧ St B w (l) hf) := by
  have h := Holds.of h
  refine en func123 rfl ntmps123 rfl (sr (pn 2 rfl (ln ?_)))
  refine RC.join (fun (s : Unit) a w => s = () ∧ Has 23 [(0, .int .i64 a1), (1, .int .i64 a2)] a ∧ St B w (l) hf ∧ Holds (· = r) (vm_quotient.j2 a1 a2)) ?_ ?_
  · rintro _ a w ⟨rfl, ha, hS, h⟩
    revert a
    show RC _ _ _ _ _ _
    refine RC.seq (RC.planS (plD [0, 3, 6, 9, 12, 15, 20, 23]) [6, 7] hS (fun w hS => hS) follows rfl (by kernel_rfl) (NoTmp.then NoTmp.body) fun w hS => pp 2 rfl ?_)
    obtain ⟨hq13, h⟩ := h.req
    refine RP.s0 2 rfl (fun w => Vl.quo rfl rfl hq13) rfl (pp 2 rfl (RP.s0 5 rfl (fun w => Vl.rem rfl rfl hq13) rfl (RP.v1 6 rfl (Vl.assign rfl) rfl rfl (RP.v1 7 rfl (Vl.assign rfl) rfl rfl (RP.nil (tr ?_))))))
    obtain rfl := h.some
    exact rt results123 rfl ⟨rfl, hS⟩
  · refine RC.block ?_
    refine sr (pn 3 rfl (ln ?_))
    refine RC.iteP 6 rfl h (fun hc14 h => ?_) fun hc14 h => ?_
    next =>
     refine RC.condT rfl (sr (pn 2 rfl (lr (RQ.inB_ret (RQ.ret ?_)))))
     obtain rfl := h.some
     exact rt results123 rfl ⟨rfl, hS⟩
    next =>
     refine RC.condF rfl (sr (pn 3 rfl ?_))
     refine RL.iteP 12 rfl h (fun hc15 h => ?_) fun hc15 h => ?_
     next =>
      refine pn 4 rfl (ln ?_)
      refine RC.iteP 9 rfl h (fun hc16 h => ?_) fun hc16 h => ?_
      next =>
       refine RC.condT rfl (sr (pn 3 rfl (lr (RQ.inB_ret (RQ.ret ?_)))))
       obtain rfl := h.some
       exact rt results123 rfl ⟨rfl, hS⟩
      next =>
       refine RC.condF rfl (RC.skip (RQ.inB_n ?_))
       exact fun a ha => ⟨(), rfl, ha.to ⟨rfl, rfl, trivial⟩, hS, h⟩
     next =>
      refine pn 4 rfl (ln (RC.condF rfl (RC.skip (RQ.inB_n ?_))))
      exact fun a ha => ⟨(), rfl, ha.to ⟨rfl, rfl, trivial⟩, hS, h⟩

/-! ### (*isochron/vm.cpu).div: function 106 -/
noncomputable def vm_cpu_div.f (a2 : List api_Instr) (a6 : Int) (a7 : List api_Link) (a11 a12 a13 a14 a15 a16 a17 : Int) (a18 : Bool) (a19 : Int) (a22 : List api_Out) (a23 : Int) (fn24 : (Nat → Int)) (a25 : api_Instr) : Option ((Nat → Int)) := (if 0 ≤ a25.B ∧ a25.B < 16 then (if 0 ≤ a25.C ∧ a25.C < 16 then ((vm_quotient.f (fn24 (a25.B.toNat * 1)) (fn24 (a25.C.toNat * 1))).bind fun (y44, y45) => (if 0 ≤ a25.A ∧ a25.A < 16 then some (upd fn24 (a25.A.toNat * 1) y44) else none)) else none) else none)
theorem vm_cpu_div.ok {a2 : List api_Instr} {a6 : Int} {a7 : List api_Link} {a11 a12 a13 a14 a15 a16 a17 : Int} {a18 : Bool} {a19 : Int} {a22 : List api_Out} {a23 : Int} {fn24 : (Nat → Int)} {a25 : api_Instr} {b1 : Nat} {A3 : Option Addr} {c4 : Nat} {A8 : Option Addr} {c9 : Nat} {A20 : Option Addr} {c21 : Nat} (hr5 : SlR E_api_Instr.rep hf A3 c4 a2) (hr10 : SlR E_api_Link.rep hf A8 c9 a7) {r : (Nat → Int)} (h : vm_cpu_div.f a2 a6 a7 a11 a12 a13 a14 a15 a16 a17 a18 a19 a22 a23 fn24 a25 = some r) (hS : St B w (Cl b1 [.slice A3 a2.length c4, .int .i64 a6, .slice A8 a7.length c9, .int .u64 a11, .int .i64 a12, .int .i64 a13, .int .i64 a14, .int .i64 a15, .int .i64 a16, .int .i64 a17, .bool a18, .int .i64 (fn24 0), .int .i64 (fn24 1), .int .i64 (fn24 2), .int .i64 (fn24 3), .int .i64 (fn24 4), .int .i64 (fn24 5), .int .i64 (fn24 6), .int .i64 (fn24 7), .int .i64 (fn24 8), .int .i64 (fn24 9), .int .i64 (fn24 10), .int .i64 (fn24 11), .int .i64 (fn24 12), .int .i64 (fn24 13), .int .i64 (fn24 14), .int .i64 (fn24 15), .int .i64 a19, .slice A20 a22.length c21, .int .i64 a23] 170 :: OSf E_api_Out 176 (.slice A20 a22.length c21) a22 :: l) hf) :
    Calls prog 106 #[.pointer (some ⟨b1, 0, none⟩), .agg #[.int .i64 a25.Op, .int .i64 a25.A, .int .i64 a25.B, .int .i64 a25.C]] w (Ret fun v w => v = .tuple #[] ∧ St B w (Cl b1 [.slice A3 a2.length c4, .int .i64 a6, .slice A8 a7.length c9, .int .u64 a11, .int .i64 a12, .int .i64 a13, .int .i64 a14, .int .i64 a15, .int .i64 a16, .int .i64 a17, .bool a18, .int .i64 (r 0), .int .i64 (r 1), .int .i64 (r 2), .int .i64 (r 3), .int .i64 (r 4), .int .i64 (r 5), .int .i64 (r 6), .int .i64 (r 7), .int .i64 (r 8), .int .i64 (r 9), .int .i64 (r 10), .int .i64 (r 11), .int .i64 (r 12), .int .i64 (r 13), .int .i64 (r 14), .int .i64 (r 15), .int .i64 a19, .slice A20 a22.length c21, .int .i64 a23] 170 :: OSf E_api_Out 176 (.slice A20 a22.length c21) a22 :: l) hf) := by
  have h := Holds.of h
  refine en func106 rfl ntmps106 rfl (sr (bx hS rfl rfl rfl rfl fun b37 w hS => ln (RC.planS (plD [0, 3, 7, 9, 12, 16, 18, 21, 24, 28, 30, 33, 37, 39, 42, 45, 49, 63, 66, 53, 54, 57, 60, 71, 74]) [23, 24] hS (fun w hS => hS) follows rfl (by kernel_rfl) NoTmp.body fun w hS => pp 1 rfl (RP.s0 1 rfl (fun w => Vl.fa 1 underlying134 rfl sizeOf3 rfl rfl) rfl (RP.s 0 2 rfl rfl hS (fun w hS => Vl.ld 0 hS isAgg3 rfl rfl rfl) rfl (pp 1 rfl (RP.s0 4 rfl (fun w => Vl.fa 2 underlying134 rfl sizeOf3 rfl rfl) rfl (RP.s 0 5 rfl rfl hS (fun w hS => Vl.ld 0 hS isAgg3 rfl rfl rfl) rfl (pp 1 rfl (RP.s0 7 rfl (fun w => Vl.fa 11 underlying170 rfl sizeOf168 rfl rfl) rfl ?_))))))))))
  obtain ⟨⟨hq38, hq39⟩, h⟩ := h.req
  refine RP.s0 8 rfl (fun w => Vl.indexAddrA (a'' := ⟨b1, 11 + a25.B.toNat * 1, none⟩) underlying168 sizeOf2 rfl rfl hq38 hq39 (add_mk _ _ _)) rfl (RP.s 0 9 rfl rfl hS (fun w hS => Vl.load isAgg2 rfl (hS.cell (off := 11 + a25.B.toNat * 1) (cs := [.slice A3 a2.length c4, .int .i64 a6, .slice A8 a7.length c9, .int .u64 a11, .int .i64 a12, .int .i64 a13, .int .i64 a14, .int .i64 a15, .int .i64 a16, .int .i64 a17, .bool a18] ++ (fc (Value.int .i64) 16 fn24 ++ [.int .i64 a19, .slice A20 a22.length c21, .int .i64 a23])) 1 rfl (seg_get rfl (by omega)))) rfl (pp 1 rfl (RP.s0 11 rfl (fun w => Vl.fa 3 underlying134 rfl sizeOf3 rfl rfl) rfl (RP.s 0 12 rfl rfl hS (fun w hS => Vl.ld 0 hS isAgg3 rfl rfl rfl) rfl (pp 1 rfl (RP.s0 14 rfl (fun w => Vl.fa 11 underlying170 rfl sizeOf168 rfl rfl) rfl ?_))))))
  obtain ⟨⟨hq40, hq41⟩, h⟩ := h.req
  refine RP.s0 15 rfl (fun w => Vl.indexAddrA (a'' := ⟨b1, 11 + a25.C.toNat * 1, none⟩) underlying168 sizeOf2 rfl rfl hq40 hq41 (add_mk _ _ _)) rfl (RP.s 0 16 rfl rfl hS (fun w hS => Vl.load isAgg2 rfl (hS.cell (off := 11 + a25.C.toNat * 1) (cs := [.slice A3 a2.length c4, .int .i64 a6, .slice A8 a7.length c9, .int .u64 a11, .int .i64 a12, .int .i64 a13, .int .i64 a14, .int .i64 a15, .int .i64 a16, .int .i64 a17, .bool a18] ++ (fc (Value.int .i64) 16 fn24 ++ [.int .i64 a19, .slice A20 a22.length c21, .int .i64 a23])) 1 rfl (seg_get rfl (by omega)))) rfl (pp 1 rfl (RP.s0 22 rfl (fun w => Vl.fa 11 underlying170 rfl sizeOf168 rfl rfl) rfl ?_)))
  obtain ⟨t42, hg43, h⟩ := h.bind
  have hc := vm_quotient.ok hg43 hS
  obtain ⟨y44, y45⟩ := t42
  refine RP.e 17 rfl (OW.callF (ls := [.tmp 14, .tmp 21]) rfl call123 hc) rfl rfl ?_
  rintro _ w ⟨rfl, hS⟩
  refine ⟨kp ⟨fun _ => hS, trivial⟩, ?_⟩
  refine pp 3 rfl ?_
  obtain ⟨⟨hq46, hq47⟩, h⟩ := h.req
  refine RP.v1 23 rfl (Vl.indexAddrA (a'' := ⟨b1, 11 + a25.A.toNat * 1, none⟩) underlying168 sizeOf2 rfl rfl hq46 hq47 (add_mk _ _ _)) rfl rfl (RP.e0 24 rfl (OW.storeSeg (mk := (Value.int .i64)) (f := fn24) (n := 16) (m := 11) (pre := [.slice A3 a2.length c4, .int .i64 a6, .slice A8 a7.length c9, .int .u64 a11, .int .i64 a12, .int .i64 a13, .int .i64 a14, .int .i64 a15, .int .i64 a16, .int .i64 a17, .bool a18]) (post := [.int .i64 a19, .slice A20 a22.length c21, .int .i64 a23]) 1 hS rfl rfl rfl rfl sizeOf2 (by omega) (fun _ => rfl) (fun _ => rfl) rfl) rfl ?_)
  rintro _ w ⟨rfl, hS⟩
  have hS : St B w (_ :: _ :: _ :: l) hf := hS
  refine ⟨kp ⟨(by intro hx; cases hx), trivial⟩, ?_⟩
  refine RP.nil ?_
  obtain rfl := h.some
  exact rtE results106 rfl ⟨rfl, hS.d0⟩

/-! ### (*isochron/vm.cpu).mod: function 107 -/
noncomputable def vm_cpu_mod.f (a2 : List api_Instr) (a6 : Int) (a7 : List api_Link) (a11 a12 a13 a14 a15 a16 a17 : Int) (a18 : Bool) (a19 : Int) (a22 : List api_Out) (a23 : Int) (fn24 : (Nat → Int)) (a25 : api_Instr) : Option ((Nat → Int)) := (if 0 ≤ a25.B ∧ a25.B < 16 then (if 0 ≤ a25.C ∧ a25.C < 16 then ((vm_quotient.f (fn24 (a25.B.toNat * 1)) (fn24 (a25.C.toNat * 1))).bind fun (y44, y45) => (if 0 ≤ a25.A ∧ a25.A < 16 then some (upd fn24 (a25.A.toNat * 1) y45) else none)) else none) else none)
theorem vm_cpu_mod.ok {a2 : List api_Instr} {a6 : Int} {a7 : List api_Link} {a11 a12 a13 a14 a15 a16 a17 : Int} {a18 : Bool} {a19 : Int} {a22 : List api_Out} {a23 : Int} {fn24 : (Nat → Int)} {a25 : api_Instr} {b1 : Nat} {A3 : Option Addr} {c4 : Nat} {A8 : Option Addr} {c9 : Nat} {A20 : Option Addr} {c21 : Nat} (hr5 : SlR E_api_Instr.rep hf A3 c4 a2) (hr10 : SlR E_api_Link.rep hf A8 c9 a7) {r : (Nat → Int)} (h : vm_cpu_mod.f a2 a6 a7 a11 a12 a13 a14 a15 a16 a17 a18 a19 a22 a23 fn24 a25 = some r) (hS : St B w (Cl b1 [.slice A3 a2.length c4, .int .i64 a6, .slice A8 a7.length c9, .int .u64 a11, .int .i64 a12, .int .i64 a13, .int .i64 a14, .int .i64 a15, .int .i64 a16, .int .i64 a17, .bool a18, .int .i64 (fn24 0), .int .i64 (fn24 1), .int .i64 (fn24 2), .int .i64 (fn24 3), .int .i64 (fn24 4), .int .i64 (fn24 5), .int .i64 (fn24 6), .int .i64 (fn24 7), .int .i64 (fn24 8), .int .i64 (fn24 9), .int .i64 (fn24 10), .int .i64 (fn24 11), .int .i64 (fn24 12), .int .i64 (fn24 13), .int .i64 (fn24 14), .int .i64 (fn24 15), .int .i64 a19, .slice A20 a22.length c21, .int .i64 a23] 170 :: OSf E_api_Out 176 (.slice A20 a22.length c21) a22 :: l) hf) :
    Calls prog 107 #[.pointer (some ⟨b1, 0, none⟩), .agg #[.int .i64 a25.Op, .int .i64 a25.A, .int .i64 a25.B, .int .i64 a25.C]] w (Ret fun v w => v = .tuple #[] ∧ St B w (Cl b1 [.slice A3 a2.length c4, .int .i64 a6, .slice A8 a7.length c9, .int .u64 a11, .int .i64 a12, .int .i64 a13, .int .i64 a14, .int .i64 a15, .int .i64 a16, .int .i64 a17, .bool a18, .int .i64 (r 0), .int .i64 (r 1), .int .i64 (r 2), .int .i64 (r 3), .int .i64 (r 4), .int .i64 (r 5), .int .i64 (r 6), .int .i64 (r 7), .int .i64 (r 8), .int .i64 (r 9), .int .i64 (r 10), .int .i64 (r 11), .int .i64 (r 12), .int .i64 (r 13), .int .i64 (r 14), .int .i64 (r 15), .int .i64 a19, .slice A20 a22.length c21, .int .i64 a23] 170 :: OSf E_api_Out 176 (.slice A20 a22.length c21) a22 :: l) hf) := by
  have h := Holds.of h
  refine en func107 rfl ntmps107 rfl (sr (bx hS rfl rfl rfl rfl fun b37 w hS => ln (RC.planS (plD [0, 3, 7, 9, 12, 16, 18, 21, 24, 28, 30, 33, 37, 39, 42, 45, 49, 63, 66, 53, 54, 57, 62, 71, 74]) [23, 24] hS (fun w hS => hS) follows rfl (by kernel_rfl) NoTmp.body fun w hS => pp 1 rfl (RP.s0 1 rfl (fun w => Vl.fa 1 underlying134 rfl sizeOf3 rfl rfl) rfl (RP.s 0 2 rfl rfl hS (fun w hS => Vl.ld 0 hS isAgg3 rfl rfl rfl) rfl (pp 1 rfl (RP.s0 4 rfl (fun w => Vl.fa 2 underlying134 rfl sizeOf3 rfl rfl) rfl (RP.s 0 5 rfl rfl hS (fun w hS => Vl.ld 0 hS isAgg3 rfl rfl rfl) rfl (pp 1 rfl (RP.s0 7 rfl (fun w => Vl.fa 11 underlying170 rfl sizeOf168 rfl rfl) rfl ?_))))))))))
  obtain ⟨⟨hq38, hq39⟩, h⟩ := h.req
  refine RP.s0 8 rfl (fun w => Vl.indexAddrA (a'' := ⟨b1, 11 + a25.B.toNat * 1, none⟩) underlying168 sizeOf2 rfl rfl hq38 hq39 (add_mk _ _ _)) rfl (RP.s 0 9 rfl rfl hS (fun w hS => Vl.load isAgg2 rfl (hS.cell (off := 11 + a25.B.toNat * 1) (cs := [.slice A3 a2.length c4, .int .i64 a6, .slice A8 a7.length c9, .int .u64 a11, .int .i64 a12, .int .i64 a13, .int .i64 a14, .int .i64 a15, .int .i64 a16, .int .i64 a17, .bool a18] ++ (fc (Value.int .i64) 16 fn24 ++ [.int .i64 a19, .slice A20 a22.length c21, .int .i64 a23])) 1 rfl (seg_get rfl (by omega)))) rfl (pp 1 rfl (RP.s0 11 rfl (fun w => Vl.fa 3 underlying134 rfl sizeOf3 rfl rfl) rfl (RP.s 0 12 rfl rfl hS (fun w hS => Vl.ld 0 hS isAgg3 rfl rfl rfl) rfl (pp 1 rfl (RP.s0 14 rfl (fun w => Vl.fa 11 underlying170 rfl sizeOf168 rfl rfl) rfl ?_))))))
  obtain ⟨⟨hq40, hq41⟩, h⟩ := h.req
  refine RP.s0 15 rfl (fun w => Vl.indexAddrA (a'' := ⟨b1, 11 + a25.C.toNat * 1, none⟩) underlying168 sizeOf2 rfl rfl hq40 hq41 (add_mk _ _ _)) rfl (RP.s 0 16 rfl rfl hS (fun w hS => Vl.load isAgg2 rfl (hS.cell (off := 11 + a25.C.toNat * 1) (cs := [.slice A3 a2.length c4, .int .i64 a6, .slice A8 a7.length c9, .int .u64 a11, .int .i64 a12, .int .i64 a13, .int .i64 a14, .int .i64 a15, .int .i64 a16, .int .i64 a17, .bool a18] ++ (fc (Value.int .i64) 16 fn24 ++ [.int .i64 a19, .slice A20 a22.length c21, .int .i64 a23])) 1 rfl (seg_get rfl (by omega)))) rfl (pp 1 rfl (RP.s0 22 rfl (fun w => Vl.fa 11 underlying170 rfl sizeOf168 rfl rfl) rfl ?_)))
  obtain ⟨t42, hg43, h⟩ := h.bind
  have hc := vm_quotient.ok hg43 hS
  obtain ⟨y44, y45⟩ := t42
  refine RP.e 17 rfl (OW.callF (ls := [.tmp 14, .tmp 21]) rfl call123 hc) rfl rfl ?_
  rintro _ w ⟨rfl, hS⟩
  refine ⟨kp ⟨fun _ => hS, trivial⟩, ?_⟩
  refine pp 2 rfl (RP.v1 20 rfl (Vl.extract rfl rfl) rfl rfl ?_)
  obtain ⟨⟨hq46, hq47⟩, h⟩ := h.req
  refine RP.v1 23 rfl (Vl.indexAddrA (a'' := ⟨b1, 11 + a25.A.toNat * 1, none⟩) underlying168 sizeOf2 rfl rfl hq46 hq47 (add_mk _ _ _)) rfl rfl (RP.e0 24 rfl (OW.storeSeg (mk := (Value.int .i64)) (f := fn24) (n := 16) (m := 11) (pre := [.slice A3 a2.length c4, .int .i64 a6, .slice A8 a7.length c9, .int .u64 a11, .int .i64 a12, .int .i64 a13, .int .i64 a14, .int .i64 a15, .int .i64 a16, .int .i64 a17, .bool a18]) (post := [.int .i64 a19, .slice A20 a22.length c21, .int .i64 a23]) 1 hS rfl rfl rfl rfl sizeOf2 (by omega) (fun _ => rfl) (fun _ => rfl) rfl) rfl ?_)
  rintro _ w ⟨rfl, hS⟩
  have hS : St B w (_ :: _ :: _ :: l) hf := hS
  refine ⟨kp ⟨(by intro hx; cases hx), trivial⟩, ?_⟩
  refine RP.nil ?_
  obtain rfl := h.some
  exact rtE results107 rfl ⟨rfl, hS.d0⟩

/-! ### isochron/vm.truth: function 124 -/
noncomputable def vm_truth.f (a1 : Bool) : Option (Int) := (if a1 = true then some 1 else some 0)
theorem vm_truth.ok {a1 : Bool} {r : Int} (h : vm_truth.f a1 = some r) (hS : St B w (l) hf) :
    Calls prog 124 #[.bool a1] w (Ret fun v w => v = .int .i64 r ∧ St B w (l) hf) := by
  have h := Holds.of h
  refine en func124 rfl ntmps124 rfl (sr (pn 1 rfl (ln (RC.seq (sr (pn 1 rfl (ln ?_)))))))
  refine RC.iteB 3 rfl h (fun hc3 h => ?_) fun hc3 h => ?_
  next =>
   refine RC.condT rfl (sr (pn 1 rfl (lr (RQ.ret ?_))))
   obtain rfl := h.some
   exact rt results124 rfl ⟨rfl, hS⟩
  next =>
   refine RC.condF rfl (sk (sr (pn 1 rfl (lr ?_))))
   obtain rfl := h.some
   exact rt results124 rfl ⟨rfl, hS⟩

/-! ### (*isochron/vm.cpu).less: function 108 -/
noncomputable def vm_cpu_less.f (a2 : List api_Instr) (a6 : Int) (a7 : List api_Link) (a11 a12 a13 a14 a15 a16 a17 : Int) (a18 : Bool) (a19 : Int) (a22 : List api_Out) (a23 : Int) (fn24 : (Nat → Int)) (a25 : api_Instr) : Option ((Nat → Int)) := (if 0 ≤ a25.B ∧ a25.B < 16 then (if 0 ≤ a25.C ∧ a25.C < 16 then ((vm_truth.f (decide (fn24 (a25.B.toNat * 1) < fn24 (a25.C.toNat * 1)))).bind fun t40 => (if 0 ≤ a25.A ∧ a25.A < 16 then some (upd fn24 (a25.A.toNat * 1) t40) else none)) else none) else none)
theorem vm_cpu_less.ok {a2 : List api_Instr} {a6 : Int} {a7 : List api_Link} {a11 a12 a13 a14 a15 a16 a17 : Int} {a18 : Bool} {a19 : Int} {a22 : List api_Out} {a23 : Int} {fn24 : (Nat → Int)} {a25 : api_Instr} {b1 : Nat} {A3 : Option Addr} {c4 : Nat} {A8 : Option Addr} {c9 : Nat} {A20 : Option Addr} {c21 : Nat} (hr5 : SlR E_api_Instr.rep hf A3 c4 a2) (hr10 : SlR E_api_Link.rep hf A8 c9 a7) {r : (Nat → Int)} (h : vm_cpu_less.f a2 a6 a7 a11 a12 a13 a14 a15 a16 a17 a18 a19 a22 a23 fn24 a25 = some r) (hS : St B w (Cl b1 [.slice A3 a2.length c4, .int .i64 a6, .slice A8 a7.length c9, .int .u64 a11, .int .i64 a12, .int .i64 a13, .int .i64 a14, .int .i64 a15, .int .i64 a16, .int .i64 a17, .bool a18, .int .i64 (fn24 0), .int .i64 (fn24 1), .int .i64 (fn24 2), .int .i64 (fn24 3), .int .i64 (fn24 4), .int .i64 (fn24 5), .int .i64 (fn24 6), .int .i64 (fn24 7), .int .i64 (fn24 8), .int .i64 (fn24 9), .int .i64 (fn24 10), .int .i64 (fn24 11), .int .i64 (fn24 12), .int .i64 (fn24 13), .int .i64 (fn24 14), .int .i64 (fn24 15), .int .i64 a19, .slice A20 a22.length c21, .int .i64 a23] 170 :: OSf E_api_Out 176 (.slice A20 a22.length c21) a22 :: l) hf) :
    Calls prog 108 #[.pointer (some ⟨b1, 0, none⟩), .agg #[.int .i64 a25.Op, .int .i64 a25.A, .int .i64 a25.B, .int .i64 a25.C]] w (Ret fun v w => v = .tuple #[] ∧ St B w (Cl b1 [.slice A3 a2.length c4, .int .i64 a6, .slice A8 a7.length c9, .int .u64 a11, .int .i64 a12, .int .i64 a13, .int .i64 a14, .int .i64 a15, .int .i64 a16, .int .i64 a17, .bool a18, .int .i64 (r 0), .int .i64 (r 1), .int .i64 (r 2), .int .i64 (r 3), .int .i64 (r 4), .int .i64 (r 5), .int .i64 (r 6), .int .i64 (r 7), .int .i64 (r 8), .int .i64 (r 9), .int .i64 (r 10), .int .i64 (r 11), .int .i64 (r 12), .int .i64 (r 13), .int .i64 (r 14), .int .i64 (r 15), .int .i64 a19, .slice A20 a22.length c21, .int .i64 a23] 170 :: OSf E_api_Out 176 (.slice A20 a22.length c21) a22 :: l) hf) := by
  have h := Holds.of h
  refine en func108 rfl ntmps108 rfl (sr (bx hS rfl rfl rfl rfl fun b35 w hS => ln (RC.planS (plD [0, 3, 7, 9, 12, 16, 18, 21, 24, 28, 30, 33, 37, 39, 42, 45, 49, 51, 57, 60, 56, 65, 68]) [21, 22] hS (fun w hS => hS) follows rfl (by kernel_rfl) NoTmp.body fun w hS => pp 1 rfl (RP.s0 1 rfl (fun w => Vl.fa 1 underlying134 rfl sizeOf3 rfl rfl) rfl (RP.s 0 2 rfl rfl hS (fun w hS => Vl.ld 0 hS isAgg3 rfl rfl rfl) rfl (pp 1 rfl (RP.s0 4 rfl (fun w => Vl.fa 2 underlying134 rfl sizeOf3 rfl rfl) rfl (RP.s 0 5 rfl rfl hS (fun w hS => Vl.ld 0 hS isAgg3 rfl rfl rfl) rfl (pp 1 rfl (RP.s0 7 rfl (fun w => Vl.fa 11 underlying170 rfl sizeOf168 rfl rfl) rfl ?_))))))))))
  obtain ⟨⟨hq36, hq37⟩, h⟩ := h.req
  refine RP.s0 8 rfl (fun w => Vl.indexAddrA (a'' := ⟨b1, 11 + a25.B.toNat * 1, none⟩) underlying168 sizeOf2 rfl rfl hq36 hq37 (add_mk _ _ _)) rfl (RP.s 0 9 rfl rfl hS (fun w hS => Vl.load isAgg2 rfl (hS.cell (off := 11 + a25.B.toNat * 1) (cs := [.slice A3 a2.length c4, .int .i64 a6, .slice A8 a7.length c9, .int .u64 a11, .int .i64 a12, .int .i64 a13, .int .i64 a14, .int .i64 a15, .int .i64 a16, .int .i64 a17, .bool a18] ++ (fc (Value.int .i64) 16 fn24 ++ [.int .i64 a19, .slice A20 a22.length c21, .int .i64 a23])) 1 rfl (seg_get rfl (by omega)))) rfl (pp 1 rfl (RP.s0 11 rfl (fun w => Vl.fa 3 underlying134 rfl sizeOf3 rfl rfl) rfl (RP.s 0 12 rfl rfl hS (fun w hS => Vl.ld 0 hS isAgg3 rfl rfl rfl) rfl (pp 1 rfl (RP.s0 14 rfl (fun w => Vl.fa 11 underlying170 rfl sizeOf168 rfl rfl) rfl ?_))))))
  obtain ⟨⟨hq38, hq39⟩, h⟩ := h.req
  refine RP.s0 15 rfl (fun w => Vl.indexAddrA (a'' := ⟨b1, 11 + a25.C.toNat * 1, none⟩) underlying168 sizeOf2 rfl rfl hq38 hq39 (add_mk _ _ _)) rfl (RP.s 0 16 rfl rfl hS (fun w hS => Vl.load isAgg2 rfl (hS.cell (off := 11 + a25.C.toNat * 1) (cs := [.slice A3 a2.length c4, .int .i64 a6, .slice A8 a7.length c9, .int .u64 a11, .int .i64 a12, .int .i64 a13, .int .i64 a14, .int .i64 a15, .int .i64 a16, .int .i64 a17, .bool a18] ++ (fc (Value.int .i64) 16 fn24 ++ [.int .i64 a19, .slice A20 a22.length c21, .int .i64 a23])) 1 rfl (seg_get rfl (by omega)))) rfl (pp 2 rfl (RP.s0 20 rfl (fun w => Vl.fa 11 underlying170 rfl sizeOf168 rfl rfl) rfl ?_)))
  obtain ⟨t40, hg41, h⟩ := h.bind
  have hc := vm_truth.ok hg41 hS
  refine RP.e 18 rfl (OW.callF (ls := [.tmp 21]) rfl call124 hc) rfl rfl ?_
  rintro _ w ⟨rfl, hS⟩
  refine ⟨kp ⟨fun _ => hS, trivial⟩, ?_⟩
  obtain ⟨⟨hq42, hq43⟩, h⟩ := h.req
  refine RP.v1 21 rfl (Vl.indexAddrA (a'' := ⟨b1, 11 + a25.A.toNat * 1, none⟩) underlying168 sizeOf2 rfl rfl hq42 hq43 (add_mk _ _ _)) rfl rfl (RP.e0 22 rfl (OW.storeSeg (mk := (Value.int .i64)) (f := fn24) (n := 16) (m := 11) (pre := [.slice A3 a2.length c4, .int .i64 a6, .slice A8 a7.length c9, .int .u64 a11, .int .i64 a12, .int .i64 a13, .int .i64 a14, .int .i64 a15, .int .i64 a16, .int .i64 a17, .bool a18]) (post := [.int .i64 a19, .slice A20 a22.length c21, .int .i64 a23]) 1 hS rfl rfl rfl rfl sizeOf2 (by omega) (fun _ => rfl) (fun _ => rfl) rfl) rfl ?_)
  rintro _ w ⟨rfl, hS⟩
  have hS : St B w (_ :: _ :: _ :: l) hf := hS
  refine ⟨kp ⟨(by intro hx; cases hx), trivial⟩, ?_⟩
  refine RP.nil ?_
  obtain rfl := h.some
  exact rtE results108 rfl ⟨rfl, hS.d0⟩

/-! ### (*isochron/vm.cpu).same: function 109 -/
noncomputable def vm_cpu_same.f (a2 : List api_Instr) (a6 : Int) (a7 : List api_Link) (a11 a12 a13 a14 a15 a16 a17 : Int) (a18 : Bool) (a19 : Int) (a22 : List api_Out) (a23 : Int) (fn24 : (Nat → Int)) (a25 : api_Instr) : Option ((Nat → Int)) := (if 0 ≤ a25.B ∧ a25.B < 16 then (if 0 ≤ a25.C ∧ a25.C < 16 then ((vm_truth.f (decide (fn24 (a25.B.toNat * 1) = fn24 (a25.C.toNat * 1)))).bind fun t40 => (if 0 ≤ a25.A ∧ a25.A < 16 then some (upd fn24 (a25.A.toNat * 1) t40) else none)) else none) else none)
theorem vm_cpu_same.ok {a2 : List api_Instr} {a6 : Int} {a7 : List api_Link} {a11 a12 a13 a14 a15 a16 a17 : Int} {a18 : Bool} {a19 : Int} {a22 : List api_Out} {a23 : Int} {fn24 : (Nat → Int)} {a25 : api_Instr} {b1 : Nat} {A3 : Option Addr} {c4 : Nat} {A8 : Option Addr} {c9 : Nat} {A20 : Option Addr} {c21 : Nat} (hr5 : SlR E_api_Instr.rep hf A3 c4 a2) (hr10 : SlR E_api_Link.rep hf A8 c9 a7) {r : (Nat → Int)} (h : vm_cpu_same.f a2 a6 a7 a11 a12 a13 a14 a15 a16 a17 a18 a19 a22 a23 fn24 a25 = some r) (hS : St B w (Cl b1 [.slice A3 a2.length c4, .int .i64 a6, .slice A8 a7.length c9, .int .u64 a11, .int .i64 a12, .int .i64 a13, .int .i64 a14, .int .i64 a15, .int .i64 a16, .int .i64 a17, .bool a18, .int .i64 (fn24 0), .int .i64 (fn24 1), .int .i64 (fn24 2), .int .i64 (fn24 3), .int .i64 (fn24 4), .int .i64 (fn24 5), .int .i64 (fn24 6), .int .i64 (fn24 7), .int .i64 (fn24 8), .int .i64 (fn24 9), .int .i64 (fn24 10), .int .i64 (fn24 11), .int .i64 (fn24 12), .int .i64 (fn24 13), .int .i64 (fn24 14), .int .i64 (fn24 15), .int .i64 a19, .slice A20 a22.length c21, .int .i64 a23] 170 :: OSf E_api_Out 176 (.slice A20 a22.length c21) a22 :: l) hf) :
    Calls prog 109 #[.pointer (some ⟨b1, 0, none⟩), .agg #[.int .i64 a25.Op, .int .i64 a25.A, .int .i64 a25.B, .int .i64 a25.C]] w (Ret fun v w => v = .tuple #[] ∧ St B w (Cl b1 [.slice A3 a2.length c4, .int .i64 a6, .slice A8 a7.length c9, .int .u64 a11, .int .i64 a12, .int .i64 a13, .int .i64 a14, .int .i64 a15, .int .i64 a16, .int .i64 a17, .bool a18, .int .i64 (r 0), .int .i64 (r 1), .int .i64 (r 2), .int .i64 (r 3), .int .i64 (r 4), .int .i64 (r 5), .int .i64 (r 6), .int .i64 (r 7), .int .i64 (r 8), .int .i64 (r 9), .int .i64 (r 10), .int .i64 (r 11), .int .i64 (r 12), .int .i64 (r 13), .int .i64 (r 14), .int .i64 (r 15), .int .i64 a19, .slice A20 a22.length c21, .int .i64 a23] 170 :: OSf E_api_Out 176 (.slice A20 a22.length c21) a22 :: l) hf) := by
  have h := Holds.of h
  refine en func109 rfl ntmps109 rfl (sr (bx hS rfl rfl rfl rfl fun b35 w hS => ln (RC.planS (plD [0, 3, 7, 9, 12, 16, 18, 21, 24, 28, 30, 33, 37, 39, 42, 45, 49, 51, 57, 60, 56, 65, 68]) [21, 22] hS (fun w hS => hS) follows rfl (by kernel_rfl) NoTmp.body fun w hS => pp 1 rfl (RP.s0 1 rfl (fun w => Vl.fa 1 underlying134 rfl sizeOf3 rfl rfl) rfl (RP.s 0 2 rfl rfl hS (fun w hS => Vl.ld 0 hS isAgg3 rfl rfl rfl) rfl (pp 1 rfl (RP.s0 4 rfl (fun w => Vl.fa 2 underlying134 rfl sizeOf3 rfl rfl) rfl (RP.s 0 5 rfl rfl hS (fun w hS => Vl.ld 0 hS isAgg3 rfl rfl rfl) rfl (pp 1 rfl (RP.s0 7 rfl (fun w => Vl.fa 11 underlying170 rfl sizeOf168 rfl rfl) rfl ?_))))))))))
  obtain ⟨⟨hq36, hq37⟩, h⟩ := h.req
  refine RP.s0 8 rfl (fun w => Vl.indexAddrA (a'' := ⟨b1, 11 + a25.B.toNat * 1, none⟩) underlying168 sizeOf2 rfl rfl hq36 hq37 (add_mk _ _ _)) rfl (RP.s 0 9 rfl rfl hS (fun w hS => Vl.load isAgg2 rfl (hS.cell (off := 11 + a25.B.toNat * 1) (cs := [.slice A3 a2.length c4, .int .i64 a6, .slice A8 a7.length c9, .int .u64 a11, .int .i64 a12, .int .i64 a13, .int .i64 a14, .int .i64 a15, .int .i64 a16, .int .i64 a17, .bool a18] ++ (fc (Value.int .i64) 16 fn24 ++ [.int .i64 a19, .slice A20 a22.length c21, .int .i64 a23])) 1 rfl (seg_get rfl (by omega)))) rfl (pp 1 rfl (RP.s0 11 rfl (fun w => Vl.fa 3 underlying134 rfl sizeOf3 rfl rfl) rfl (RP.s 0 12 rfl rfl hS (fun w hS => Vl.ld 0 hS isAgg3 rfl rfl rfl) rfl (pp 1 rfl (RP.s0 14 rfl (fun w => Vl.fa 11 underlying170 rfl sizeOf168 rfl rfl) rfl ?_))))))
  obtain ⟨⟨hq38, hq39⟩, h⟩ := h.req
  refine RP.s0 15 rfl (fun w => Vl.indexAddrA (a'' := ⟨b1, 11 + a25.C.toNat * 1, none⟩) underlying168 sizeOf2 rfl rfl hq38 hq39 (add_mk _ _ _)) rfl (RP.s 0 16 rfl rfl hS (fun w hS => Vl.load isAgg2 rfl (hS.cell (off := 11 + a25.C.toNat * 1) (cs := [.slice A3 a2.length c4, .int .i64 a6, .slice A8 a7.length c9, .int .u64 a11, .int .i64 a12, .int .i64 a13, .int .i64 a14, .int .i64 a15, .int .i64 a16, .int .i64 a17, .bool a18] ++ (fc (Value.int .i64) 16 fn24 ++ [.int .i64 a19, .slice A20 a22.length c21, .int .i64 a23])) 1 rfl (seg_get rfl (by omega)))) rfl (pp 2 rfl (RP.s0 20 rfl (fun w => Vl.fa 11 underlying170 rfl sizeOf168 rfl rfl) rfl ?_)))
  obtain ⟨t40, hg41, h⟩ := h.bind
  have hc := vm_truth.ok hg41 hS
  refine RP.e 18 rfl (OW.callF (ls := [.tmp 21]) rfl call124 hc) rfl rfl ?_
  rintro _ w ⟨rfl, hS⟩
  refine ⟨kp ⟨fun _ => hS, trivial⟩, ?_⟩
  obtain ⟨⟨hq42, hq43⟩, h⟩ := h.req
  refine RP.v1 21 rfl (Vl.indexAddrA (a'' := ⟨b1, 11 + a25.A.toNat * 1, none⟩) underlying168 sizeOf2 rfl rfl hq42 hq43 (add_mk _ _ _)) rfl rfl (RP.e0 22 rfl (OW.storeSeg (mk := (Value.int .i64)) (f := fn24) (n := 16) (m := 11) (pre := [.slice A3 a2.length c4, .int .i64 a6, .slice A8 a7.length c9, .int .u64 a11, .int .i64 a12, .int .i64 a13, .int .i64 a14, .int .i64 a15, .int .i64 a16, .int .i64 a17, .bool a18]) (post := [.int .i64 a19, .slice A20 a22.length c21, .int .i64 a23]) 1 hS rfl rfl rfl rfl sizeOf2 (by omega) (fun _ => rfl) (fun _ => rfl) rfl) rfl ?_)
  rintro _ w ⟨rfl, hS⟩
  have hS : St B w (_ :: _ :: _ :: l) hf := hS
  refine ⟨kp ⟨(by intro hx; cases hx), trivial⟩, ?_⟩
  refine RP.nil ?_
  obtain rfl := h.some
  exact rtE results109 rfl ⟨rfl, hS.d0⟩

/-! ### (*isochron/vm.cpu).jump: function 110 -/
noncomputable def vm_cpu_jump.f (a2 : List api_Instr) (a6 : Int) (a7 : List api_Link) (a11 a12 a13 a14 a15 a16 a17 : Int) (a18 : Bool) (a19 : Int) (a22 : List api_Out) (a23 : Int) (fn24 : (Nat → Int)) (a25 : api_Instr) : Option (Int) := some a25.A
theorem vm_cpu_jump.ok {a2 : List api_Instr} {a6 : Int} {a7 : List api_Link} {a11 a12 a13 a14 a15 a16 a17 : Int} {a18 : Bool} {a19 : Int} {a22 : List api_Out} {a23 : Int} {fn24 : (Nat → Int)} {a25 : api_Instr} {b1 : Nat} {A3 : Option Addr} {c4 : Nat} {A8 : Option Addr} {c9 : Nat} {A20 : Option Addr} {c21 : Nat} (hr5 : SlR E_api_Instr.rep hf A3 c4 a2) (hr10 : SlR E_api_Link.rep hf A8 c9 a7) {r : Int} (h : vm_cpu_jump.f a2 a6 a7 a11 a12 a13 a14 a15 a16 a17 a18 a19 a22 a23 fn24 a25 = some r) (hS : St B w (Cl b1 [.slice A3 a2.length c4, .int .i64 a6, .slice A8 a7.length c9, .int .u64 a11, .int .i64 a12, .int .i64 a13, .int .i64 a14, .int .i64 a15, .int .i64 a16, .int .i64 a17, .bool a18, .int .i64 (fn24 0), .int .i64 (fn24 1), .int .i64 (fn24 2), .int .i64 (fn24 3), .int .i64 (fn24 4), .int .i64 (fn24 5), .int .i64 (fn24 6), .int .i64 (fn24 7), .int .i64 (fn24 8), .int .i64 (fn24 9), .int .i64 (fn24 10), .int .i64 (fn24 11), .int .i64 (fn24 12), .int .i64 (fn24 13), .int .i64 (fn24 14), .int .i64 (fn24 15), .int .i64 a19, .slice A20 a22.length c21, .int .i64 a23] 170 :: OSf E_api_Out 176 (.slice A20 a22.length c21) a22 :: l) hf) :
    Calls prog 110 #[.pointer (some ⟨b1, 0, none⟩), .agg #[.int .i64 a25.Op, .int .i64 a25.A, .int .i64 a25.B, .int .i64 a25.C]] w (Ret fun v w => v = .tuple #[] ∧ St B w (Cl b1 [.slice A3 a2.length c4, .int .i64 a6, .slice A8 a7.length c9, .int .u64 a11, .int .i64 a12, .int .i64 a13, .int .i64 a14, .int .i64 a15, .int .i64 a16, .int .i64 a17, .bool a18, .int .i64 (fn24 0), .int .i64 (fn24 1), .int .i64 (fn24 2), .int .i64 (fn24 3), .int .i64 (fn24 4), .int .i64 (fn24 5), .int .i64 (fn24 6), .int .i64 (fn24 7), .int .i64 (fn24 8), .int .i64 (fn24 9), .int .i64 (fn24 10), .int .i64 (fn24 11), .int .i64 (fn24 12), .int .i64 (fn24 13), .int .i64 (fn24 14), .int .i64 (fn24 15), .int .i64 a19, .slice A20 a22.length c21, .int .i64 r] 170 :: OSf E_api_Out 176 (.slice A20 a22.length c21) a22 :: l) hf) := by
  have h := Holds.of h
  refine en func110 rfl ntmps110 rfl (sr (bx hS rfl rfl rfl rfl fun b27 w hS => ln (RC.region (pn 1 rfl (RL.s (Vl.fa 1 underlying134 rfl sizeOf3 rfl rfl) rfl (RL.s (Vl.ld 0 hS isAgg3 rfl rfl rfl) rfl (pn 1 rfl (RL.s (Vl.fa 29 underlying170 rfl sizeOf3 rfl rfl) rfl (RL.e0 (OW.store (vs := [.int .i64 a25.A]) 1 hS rfl rfl rfl rfl sizeOf3 rfl rfl rfl rfl) rfl ?_)))))))))
  rintro _ w ⟨rfl, hS⟩
  have hS : St B w (_ :: Cl b1 [.slice A3 a2.length c4, .int .i64 a6, .slice A8 a7.length c9, .int .u64 a11, .int .i64 a12, .int .i64 a13, .int .i64 a14, .int .i64 a15, .int .i64 a16, .int .i64 a17, .bool a18, .int .i64 (fn24 0), .int .i64 (fn24 1), .int .i64 (fn24 2), .int .i64 (fn24 3), .int .i64 (fn24 4), .int .i64 (fn24 5), .int .i64 (fn24 6), .int .i64 (fn24 7), .int .i64 (fn24 8), .int .i64 (fn24 9), .int .i64 (fn24 10), .int .i64 (fn24 11), .int .i64 (fn24 12), .int .i64 (fn24 13), .int .i64 (fn24 14), .int .i64 (fn24 15), .int .i64 a19, .slice A20 a22.length c21, .int .i64 a25.A] 170 :: _ :: l) hf := hS
  refine RL.nil ?_
  obtain rfl := h.some
  exact rtE results110 rfl ⟨rfl, hS.d0⟩

/-! ### (*isochron/vm.cpu).zero: function 111 -/
noncomputable def vm_cpu_zero.f (a2 : List api_Instr) (a6 : Int) (a7 : List api_Link) (a11 a12 a13 a14 a15 a16 a17 : Int) (a18 : Bool) (a19 : Int) (a22 : List api_Out) (a23 : Int) (fn24 : (Nat → Int)) (a25 : api_Instr) : Option (Int) := (if 0 ≤ a25.A ∧ a25.A < 16 then (if fn24 (a25.A.toNat * 1) = 0 then some a25.B else some a23) else none)
theorem vm_cpu_zero.ok {a2 : List api_Instr} {a6 : Int} {a7 : List api_Link} {a11 a12 a13 a14 a15 a16 a17 : Int} {a18 : Bool} {a19 : Int} {a22 : List api_Out} {a23 : Int} {fn24 : (Nat → Int)} {a25 : api_Instr} {b1 : Nat} {A3 : Option Addr} {c4 : Nat} {A8 : Option Addr} {c9 : Nat} {A20 : Option Addr} {c21 : Nat} (hr5 : SlR E_api_Instr.rep hf A3 c4 a2) (hr10 : SlR E_api_Link.rep hf A8 c9 a7) {r : Int} (h : vm_cpu_zero.f a2 a6 a7 a11 a12 a13 a14 a15 a16 a17 a18 a19 a22 a23 fn24 a25 = some r) (hS : St B w (Cl b1 [.slice A3 a2.length c4, .int .i64 a6, .slice A8 a7.length c9, .int .u64 a11, .int .i64 a12, .int .i64 a13, .int .i64 a14, .int .i64 a15, .int .i64 a16, .int .i64 a17, .bool a18, .int .i64 (fn24 0), .int .i64 (fn24 1), .int .i64 (fn24 2), .int .i64 (fn24 3), .int .i64 (fn24 4), .int .i64 (fn24 5), .int .i64 (fn24 6), .int .i64 (fn24 7), .int .i64 (fn24 8), .int .i64 (fn24 9), .int .i64 (fn24 10), .int .i64 (fn24 11), .int .i64 (fn24 12), .int .i64 (fn24 13), .int .i64 (fn24 14), .int .i64 (fn24 15), .int .i64 a19, .slice A20 a22.length c21, .int .i64 a23] 170 :: OSf E_api_Out 176 (.slice A20 a22.length c21) a22 :: l) hf) :
    Calls prog 111 #[.pointer (some ⟨b1, 0, none⟩), .agg #[.int .i64 a25.Op, .int .i64 a25.A, .int .i64 a25.B, .int .i64 a25.C]] w (Ret fun v w => v = .tuple #[] ∧ St B w (Cl b1 [.slice A3 a2.length c4, .int .i64 a6, .slice A8 a7.length c9, .int .u64 a11, .int .i64 a12, .int .i64 a13, .int .i64 a14, .int .i64 a15, .int .i64 a16, .int .i64 a17, .bool a18, .int .i64 (fn24 0), .int .i64 (fn24 1), .int .i64 (fn24 2), .int .i64 (fn24 3), .int .i64 (fn24 4), .int .i64 (fn24 5), .int .i64 (fn24 6), .int .i64 (fn24 7), .int .i64 (fn24 8), .int .i64 (fn24 9), .int .i64 (fn24 10), .int .i64 (fn24 11), .int .i64 (fn24 12), .int .i64 (fn24 13), .int .i64 (fn24 14), .int .i64 (fn24 15), .int .i64 a19, .slice A20 a22.length c21, .int .i64 r] 170 :: OSf E_api_Out 176 (.slice A20 a22.length c21) a22 :: l) hf) := by
  have h := Holds.of h
  refine en func111 rfl ntmps111 rfl (sr (bx hS rfl rfl rfl rfl fun b30 w hS => ln (RC.seq (RC.planS (plD [0, 3, 7, 11, 14, 17, 20, 23]) [5, 6, 7] hS (fun w hS => hS) follows rfl (by kernel_rfl) (NoTmp.then NoTmp.body) fun w hS => pp 1 rfl (RP.s0 1 rfl (fun w => Vl.fa 1 underlying134 rfl sizeOf3 rfl rfl) rfl (RP.s 0 2 rfl rfl hS (fun w hS => Vl.ld 0 hS isAgg3 rfl rfl rfl) rfl (RP.v1 3 rfl (Vl.nilCheck rfl) rfl rfl (RP.v1 4 rfl (Vl.fa 11 underlying170 rfl sizeOf168 rfl rfl) rfl rfl ?_))))))))
  obtain ⟨⟨hq31, hq32⟩, h⟩ := h.req
  refine RP.v1 5 rfl (Vl.indexAddrA (a'' := ⟨b1, 11 + a25.A.toNat * 1, none⟩) underlying168 sizeOf2 rfl rfl hq31 hq32 (add_mk _ _ _)) rfl rfl (RP.v1 6 rfl (Vl.load isAgg2 rfl (hS.cell (off := 11 + a25.A.toNat * 1) (cs := [.slice A3 a2.length c4, .int .i64 a6, .slice A8 a7.length c9, .int .u64 a11, .int .i64 a12, .int .i64 a13, .int .i64 a14, .int .i64 a15, .int .i64 a16, .int .i64 a17, .bool a18] ++ (fc (Value.int .i64) 16 fn24 ++ [.int .i64 a19, .slice A20 a22.length c21, .int .i64 a23])) 1 rfl (seg_get rfl (by omega)))) rfl rfl (RP.v1 7 rfl (Vl.int rfl rfl rfl) rfl rfl (RP.nil (RQ.then_n ?_))))
  refine RC.iteP 11 rfl h (fun hc33 h => ?_) fun hc33 h => ?_
  next =>
   refine RC.condT rfl (RC.region (pn 1 rfl (RL.s (Vl.fa 2 underlying134 rfl sizeOf3 rfl rfl) rfl (RL.s (Vl.ld 0 hS isAgg3 rfl rfl rfl) rfl (pn 1 rfl (RL.s (Vl.fa 29 underlying170 rfl sizeOf3 rfl rfl) rfl (RL.e0 (OW.store (vs := [.int .i64 a25.B]) 1 hS rfl rfl rfl rfl sizeOf3 rfl rfl rfl rfl) rfl ?_)))))))
   rintro _ w ⟨rfl, hS⟩
   have hS : St B w (_ :: Cl b1 [.slice A3 a2.length c4, .int .i64 a6, .slice A8 a7.length c9, .int .u64 a11, .int .i64 a12, .int .i64 a13, .int .i64 a14, .int .i64 a15, .int .i64 a16, .int .i64 a17, .bool a18, .int .i64 (fn24 0), .int .i64 (fn24 1), .int .i64 (fn24 2), .int .i64 (fn24 3), .int .i64 (fn24 4), .int .i64 (fn24 5), .int .i64 (fn24 6), .int .i64 (fn24 7), .int .i64 (fn24 8), .int .i64 (fn24 9), .int .i64 (fn24 10), .int .i64 (fn24 11), .int .i64 (fn24 12), .int .i64 (fn24 13), .int .i64 (fn24 14), .int .i64 (fn24 15), .int .i64 a19, .slice A20 a22.length c21, .int .i64 a25.B] 170 :: _ :: l) hf := hS
   refine RL.nil ?_
   obtain rfl := h.some
   exact rtE results111 rfl ⟨rfl, hS.d0⟩
  next =>
   refine RC.condF rfl (RC.skip ?_)
   obtain rfl := h.some
   exact rtE results111 rfl ⟨rfl, hS.d0⟩

/-! ### isochron/vtime.Add: function 125 -/
noncomputable def vtime_Add.f (a1 a2 : Int) : Option (Int × Int) := ((vtime_Valid.f a1).bind fun t33 => (if t33 = true then (if a2 < 0 then some (0, 1) else (if IntKind.i64.wrap (4611686018427387903 - a1) < a2 then some (0, 10) else some (IntKind.i64.wrap (a1 + a2), 0))) else some (0, 1)))
theorem vtime_Add.ok {a1 a2 : Int} {r : Int × Int} (h : vtime_Add.f a1 a2 = some r) (hS : St B w (l) hf) :
    Calls prog 125 #[.int .i64 a1, .int .i64 a2] w (Ret fun v w => v = .tuple #[.int .i64 r.1, .int .i64 r.2] ∧ St B w (l) hf) := by
  have h := Holds.of h
  refine en func125 rfl ntmps125 rfl (sr (pn 2 rfl (ln (RC.seq (RC.block (RC.seq (RC.block (RC.seq (RC.block (RC.block (RC.seq (RC.seq (RC.seq ?_)))))))))))))
  refine RC.region (pn 1 rfl (cF (fun _ hg => vtime_Valid.ok hg hS) call67 h rfl rfl rfl ?_))
  rintro t33 h _ w ⟨rfl, hS⟩
  refine pn 2 rfl (ln ?_)
  refine RC.iteM 6 rfl h (fun hc35 h => ?_) fun hc35 h => ?_
  next =>
   refine RC.condF rfl (sk (RC.seq (sr (pn 3 rfl (ln ?_)))))
   refine RC.iteP 10 rfl h (fun hc37 h => ?_) fun hc37 h => ?_
   next =>
    refine RC.condT rfl (RC.exit (RQ.exitT (RQ.exitT (RQ.inB_miss rfl (RQ.inB_hit (RQ.then_n (RC.seq (sr (pn 2 rfl (lr (RQ.ret (RQ.inB_ret ?_))))))))))))
    refine RQ.ret (RQ.inB_ret (RQ.ret ?_))
    obtain rfl := h.some
    exact rt results125 rfl ⟨rfl, hS⟩
   next =>
    refine RC.condF rfl (sk (sr (pn 5 rfl (ln ?_))))
    refine RC.iteP 13 rfl h (fun hc38 h => ?_) fun hc38 h => ?_
    next =>
     refine RC.condT rfl (RC.exit (RQ.exitT (RQ.inB_miss rfl (RQ.inB_miss rfl (RQ.exitT (RQ.inB_hit (RQ.then_n (RC.seq (sr (pn 2 rfl (lr (RQ.ret ?_))))))))))))
     refine RQ.inB_ret (RQ.ret ?_)
     obtain rfl := h.some
     exact rt results125 rfl ⟨rfl, hS⟩
    next =>
     refine RC.condF rfl (sk (RC.exit (RQ.inB_miss rfl (RQ.inB_miss rfl (RQ.exitT (RQ.inB_miss rfl (RQ.exitT (RQ.inB_hit (tsr (pn 5 rfl (ln ?_)))))))))))
     refine RC.ret ?_
     obtain rfl := h.some
     exact rt results125 rfl ⟨rfl, hS⟩
  next =>
   refine RC.condT rfl (RC.exit (RQ.exitT (RQ.exitT (RQ.inB_hit (RQ.inB_n (RQ.then_n (RC.seq (sr (pn 2 rfl (lr (RQ.ret (RQ.inB_ret ?_))))))))))))
   refine RQ.ret (RQ.inB_ret (RQ.ret ?_))
   obtain rfl := h.some
   exact rt results125 rfl ⟨rfl, hS⟩

end Go.Proofs.Gx
