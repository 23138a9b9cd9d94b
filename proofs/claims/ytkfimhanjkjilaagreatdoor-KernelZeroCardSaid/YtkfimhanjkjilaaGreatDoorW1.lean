/-
  The walks of functions, each with what it computes: printed by wip/gx.py.
-/
import Derived.Test.YtkfimhanjkjilaaGreatDoorW0
set_option linter.unusedVariables false
set_option maxRecDepth 100000
set_option maxHeartbeats 4000000
namespace Go.Proofs.Gx
open Go.Sl Tryz
variable {B : Base} {w : World} {l : List HProp} {hf : Hp}
/-! ### (*isochron/kernel.Kernel).none: function 18 -/
noncomputable def kernel_Kernel_none.f  : Option (Unit) := some ()
theorem kernel_Kernel_none.ok {r : Unit} (h : kernel_Kernel_none.f = some r) (hS : St B w (l) hf) :
    Calls prog 18 #[.pointer none] w (Ret fun v w => v = .bool true ∧ St B w (l) hf) := by
  have h := Holds.of h
  refine en func18 rfl ntmps18 rfl (sr (pn 1 rfl (lnsr (pn 1 rfl (RL.s (Vl.bin (v := .bool true) rfl rfl (by kernel_rfl)) rfl (pn 8 rfl (lr ?_)))))))
  exact rt results18 rfl ⟨rfl, hS⟩

/-! ### (*isochron/kernel.Kernel).Do: function 4 -/
noncomputable def kernel_Kernel_Do.f (a1 : api_Pick) : Option (Int) := ((kernel_Kernel_none.f).bind fun _ => some 7)
theorem kernel_Kernel_Do.ok {a1 : api_Pick} {r : Int} (h : kernel_Kernel_Do.f a1 = some r) (hS : St B w (l) hf) :
    Calls prog 4 #[.pointer none, .agg #[.int .i64 a1.What, .int .i64 a1.A, .int .i64 a1.B]] w (Ret fun v w => v = .int .i64 r ∧ St B w (l) hf) := by
  have h := Holds.of h
  refine en func4 rfl ntmps4 rfl (sr (bx hS rfl rfl rfl rfl fun b7 w hS => pn 1 rfl (ln (RC.seq (RC.block (sr (pn 1 rfl (cF (fun _ hg => kernel_Kernel_none.ok hg hS) call18 h rfl rfl rfl ?_))))))))
  rintro _ h _ w ⟨rfl, hS⟩
  refine pn 1 rfl (ln (RC.condT rfl (sr (pn 1 rfl (lr (RQ.inB_ret (RQ.ret ?_)))))))
  obtain rfl := h.some
  exact rt results4 rfl ⟨rfl, hS.d0⟩

/-! ### (*isochron/kernel.Kernel).none: function 18 -/
noncomputable def kernel_Kernel_none_2.f (a2 : List (List api_Instr)) (a6 : List api_Link) (a10 : List api_Start) (a14 a15 a16 a17 a18 a19 : Int) (a20 : List api_Done) (a24 : Int) : Option (Unit) := some ()
theorem kernel_Kernel_none_2.ok {a2 : List (List api_Instr)} {a6 : List api_Link} {a10 : List api_Start} {a14 a15 a16 a17 a18 a19 : Int} {a20 : List api_Done} {a24 : Int} {b1 : Nat} {A3 : Option Addr} {c4 : Nat} {A7 : Option Addr} {c8 : Nat} {A11 : Option Addr} {c12 : Nat} {A21 : Option Addr} {c22 : Nat} (hr5 : SlR (Rep.sl E_api_Instr.rep) hf A3 c4 a2) (hr9 : SlR E_api_Link.rep hf A7 c8 a6) (hr13 : SlR E_api_Start.rep hf A11 c12 a10) (hr23 : SlR E_api_Done.rep hf A21 c22 a20) {r : Unit} (h : kernel_Kernel_none_2.f a2 a6 a10 a14 a15 a16 a17 a18 a19 a20 a24 = some r) (hS : St B w (Cl b1 [.slice A3 a2.length c4, .slice A7 a6.length c8, .slice A11 a10.length c12, .int .u64 a14, .int .i64 a15, .int .i64 a16, .slice none 0 0, .slice none 0 0, .pointer none, .int .i64 a17, .int .i64 a18, .int .i64 a19, .slice A21 a20.length c22, .int .i64 a24] 36 :: l) hf) :
    Calls prog 18 #[.pointer (some ⟨b1, 0, none⟩)] w (Ret fun v w => v = .bool true ∧ St B w (Cl b1 [.slice A3 a2.length c4, .slice A7 a6.length c8, .slice A11 a10.length c12, .int .u64 a14, .int .i64 a15, .int .i64 a16, .slice none 0 0, .slice none 0 0, .pointer none, .int .i64 a17, .int .i64 a18, .int .i64 a19, .slice A21 a20.length c22, .int .i64 a24] 36 :: l) hf) := by
  have h := Holds.of h
  refine en func18 rfl ntmps18 rfl (sr (pn 1 rfl (lnsr (pn 1 rfl (RL.s (Vl.bin (v := .bool false) rfl rfl (by kernel_rfl)) rfl (pn 3 rfl (RL.sg (Vl.fa 8 underlying36 rfl sizeOf33 rfl rfl) rfl rfl (RL.sg (Vl.ld 0 hS isAgg33 rfl rfl rfl) rfl rfl (RL.sg (Vl.bin (v := .bool true) rfl rfl (by kernel_rfl)) rfl rfl (pn 2 rfl (RL.nil ?_)))))))))))
  refine tr ?_
  exact rt results18 rfl ⟨rfl, hS⟩

/-! ### (*isochron/kernel.Kernel).Do: function 4 -/
noncomputable def kernel_Kernel_Do_2.f (a2 : List (List api_Instr)) (a6 : List api_Link) (a10 : List api_Start) (a14 a15 a16 a17 a18 a19 : Int) (a20 : List api_Done) (a24 : Int) (a25 : api_Pick) : Option (Int) := ((kernel_Kernel_none_2.f a2 a6 a10 a14 a15 a16 a17 a18 a19 a20 a24).bind fun _ => some 7)
theorem kernel_Kernel_Do_2.ok {a2 : List (List api_Instr)} {a6 : List api_Link} {a10 : List api_Start} {a14 a15 a16 a17 a18 a19 : Int} {a20 : List api_Done} {a24 : Int} {a25 : api_Pick} {b1 : Nat} {A3 : Option Addr} {c4 : Nat} {A7 : Option Addr} {c8 : Nat} {A11 : Option Addr} {c12 : Nat} {A21 : Option Addr} {c22 : Nat} (hr5 : SlR (Rep.sl E_api_Instr.rep) hf A3 c4 a2) (hr9 : SlR E_api_Link.rep hf A7 c8 a6) (hr13 : SlR E_api_Start.rep hf A11 c12 a10) (hr23 : SlR E_api_Done.rep hf A21 c22 a20) {r : Int} (h : kernel_Kernel_Do_2.f a2 a6 a10 a14 a15 a16 a17 a18 a19 a20 a24 a25 = some r) (hS : St B w (Cl b1 [.slice A3 a2.length c4, .slice A7 a6.length c8, .slice A11 a10.length c12, .int .u64 a14, .int .i64 a15, .int .i64 a16, .slice none 0 0, .slice none 0 0, .pointer none, .int .i64 a17, .int .i64 a18, .int .i64 a19, .slice A21 a20.length c22, .int .i64 a24] 36 :: l) hf) :
    Calls prog 4 #[.pointer (some ⟨b1, 0, none⟩), .agg #[.int .i64 a25.What, .int .i64 a25.A, .int .i64 a25.B]] w (Ret fun v w => v = .int .i64 r ∧ St B w (Cl b1 [.slice A3 a2.length c4, .slice A7 a6.length c8, .slice A11 a10.length c12, .int .u64 a14, .int .i64 a15, .int .i64 a16, .slice none 0 0, .slice none 0 0, .pointer none, .int .i64 a17, .int .i64 a18, .int .i64 a19, .slice A21 a20.length c22, .int .i64 a24] 36 :: l) hf) := by
  have h := Holds.of h
  refine en func4 rfl ntmps4 rfl (sr (bx hS rfl rfl rfl rfl fun b31 w hS => pn 1 rfl (ln (RC.seq (RC.block (sr (pn 1 rfl (cF (fun _ hg => kernel_Kernel_none_2.ok hr5 hr9 hr13 hr23 hg hS.p1) call18 h rfl rfl rfl ?_))))))))
  rintro _ h _ w ⟨rfl, hS⟩
  refine pn 1 rfl (ln (RC.condT rfl (sr (pn 1 rfl (lr (RQ.inB_ret (RQ.ret ?_)))))))
  obtain rfl := h.some
  exact rt results4 rfl ⟨rfl, hS.d1⟩

/-! ### (*isochron/kernel.Kernel).History: function 5 -/
noncomputable def kernel_Kernel_History.f  : Option (Unit) := ((kernel_Kernel_none.f).bind fun _ => some ())
theorem kernel_Kernel_History.ok {r : Unit} (h : kernel_Kernel_History.f = some r) (hS : St B w (l) hf) :
    Calls prog 5 #[.pointer none] w (Ret fun v w => v = .slice none 0 0 ∧ St B w (l) hf) := by
  have h := Holds.of h
  refine en func5 rfl ntmps5 rfl (sr (pn 1 rfl (ln (RC.seq (sr (pn 1 rfl (cF (fun _ hg => kernel_Kernel_none.ok hg hS) call18 h rfl rfl rfl ?_)))))))
  rintro _ h _ w ⟨rfl, hS⟩
  refine ln (RC.condT rfl (sr (pn 1 rfl (lr (RQ.ret ?_)))))
  exact rt results5 rfl ⟨rfl, hS⟩

/-! ### (*isochron/kernel.Kernel).Stop: function 6 -/
noncomputable def kernel_Kernel_Stop.f (a2 : List (List api_Instr)) (a6 : List api_Link) (a10 : List api_Start) (a14 a15 a16 a17 a18 a19 : Int) (a20 : List api_Done) (a24 : Int) : Option (Int) := ((kernel_Kernel_none_2.f a2 a6 a10 a14 a15 a16 a17 a18 a19 a20 a24).bind fun _ => some 0)
theorem kernel_Kernel_Stop.ok {a2 : List (List api_Instr)} {a6 : List api_Link} {a10 : List api_Start} {a14 a15 a16 a17 a18 a19 : Int} {a20 : List api_Done} {a24 : Int} {b1 : Nat} {A3 : Option Addr} {c4 : Nat} {A7 : Option Addr} {c8 : Nat} {A11 : Option Addr} {c12 : Nat} {A21 : Option Addr} {c22 : Nat} (hr5 : SlR (Rep.sl E_api_Instr.rep) hf A3 c4 a2) (hr9 : SlR E_api_Link.rep hf A7 c8 a6) (hr13 : SlR E_api_Start.rep hf A11 c12 a10) (hr23 : SlR E_api_Done.rep hf A21 c22 a20) {r : Int} (h : kernel_Kernel_Stop.f a2 a6 a10 a14 a15 a16 a17 a18 a19 a20 a24 = some r) (hS : St B w (Cl b1 [.slice A3 a2.length c4, .slice A7 a6.length c8, .slice A11 a10.length c12, .int .u64 a14, .int .i64 a15, .int .i64 a16, .slice none 0 0, .slice none 0 0, .pointer none, .int .i64 a17, .int .i64 a18, .int .i64 a19, .slice A21 a20.length c22, .int .i64 a24] 36 :: l) hf) :
    Calls prog 6 #[.pointer (some ⟨b1, 0, none⟩)] w (Ret fun v w => v = .int .i64 r ∧ St B w (Cl b1 [.slice A3 a2.length c4, .slice A7 a6.length c8, .slice A11 a10.length c12, .int .u64 a14, .int .i64 a15, .int .i64 a16, .slice none 0 0, .slice none 0 0, .pointer none, .int .i64 a17, .int .i64 a18, .int .i64 a19, .slice A21 a20.length c22, .int .i64 a24] 36 :: l) hf) := by
  have h := Holds.of h
  refine en func6 rfl ntmps6 rfl (sr (pn 1 rfl (ln (RC.seq (sr (pn 1 rfl (cF (fun _ hg => kernel_Kernel_none_2.ok hr5 hr9 hr13 hr23 hg hS) call18 h rfl rfl rfl ?_)))))))
  rintro _ h _ w ⟨rfl, hS⟩
  refine ln (RC.condT rfl (sr (pn 1 rfl (lr (RQ.ret ?_)))))
  obtain rfl := h.some
  exact rt results6 rfl ⟨rfl, hS⟩

/-! ### (*isochron/kernel.Kernel).Global: function 7 -/
noncomputable def kernel_Kernel_Global.f  : Option (Int) := ((kernel_Kernel_none.f).bind fun _ => some 0)
theorem kernel_Kernel_Global.ok {r : Int} (h : kernel_Kernel_Global.f = some r) (hS : St B w (l) hf) :
    Calls prog 7 #[.pointer none] w (Ret fun v w => v = .int .i64 r ∧ St B w (l) hf) := by
  have h := Holds.of h
  refine en func7 rfl ntmps7 rfl (sr (pn 1 rfl (ln (RC.seq (sr (pn 1 rfl (cF (fun _ hg => kernel_Kernel_none.ok hg hS) call18 h rfl rfl rfl ?_)))))))
  rintro _ h _ w ⟨rfl, hS⟩
  refine ln (RC.condT rfl (sr (pn 1 rfl (lr (RQ.ret ?_)))))
  obtain rfl := h.some
  exact rt results7 rfl ⟨rfl, hS⟩

/-! ### (*isochron/kernel.Kernel).Least: function 8 -/
noncomputable def kernel_Kernel_Least.f (a2 : List (List api_Instr)) (a6 : List api_Link) (a10 : List api_Start) (a14 a15 a16 a17 a18 a19 : Int) (a20 : List api_Done) (a24 : Int) : Option (Int) := ((kernel_Kernel_none_2.f a2 a6 a10 a14 a15 a16 a17 a18 a19 a20 a24).bind fun _ => some 0)
theorem kernel_Kernel_Least.ok {a2 : List (List api_Instr)} {a6 : List api_Link} {a10 : List api_Start} {a14 a15 a16 a17 a18 a19 : Int} {a20 : List api_Done} {a24 : Int} {b1 : Nat} {A3 : Option Addr} {c4 : Nat} {A7 : Option Addr} {c8 : Nat} {A11 : Option Addr} {c12 : Nat} {A21 : Option Addr} {c22 : Nat} (hr5 : SlR (Rep.sl E_api_Instr.rep) hf A3 c4 a2) (hr9 : SlR E_api_Link.rep hf A7 c8 a6) (hr13 : SlR E_api_Start.rep hf A11 c12 a10) (hr23 : SlR E_api_Done.rep hf A21 c22 a20) {r : Int} (h : kernel_Kernel_Least.f a2 a6 a10 a14 a15 a16 a17 a18 a19 a20 a24 = some r) (hS : St B w (Cl b1 [.slice A3 a2.length c4, .slice A7 a6.length c8, .slice A11 a10.length c12, .int .u64 a14, .int .i64 a15, .int .i64 a16, .slice none 0 0, .slice none 0 0, .pointer none, .int .i64 a17, .int .i64 a18, .int .i64 a19, .slice A21 a20.length c22, .int .i64 a24] 36 :: l) hf) :
    Calls prog 8 #[.pointer (some ⟨b1, 0, none⟩)] w (Ret fun v w => v = .int .i64 r ∧ St B w (Cl b1 [.slice A3 a2.length c4, .slice A7 a6.length c8, .slice A11 a10.length c12, .int .u64 a14, .int .i64 a15, .int .i64 a16, .slice none 0 0, .slice none 0 0, .pointer none, .int .i64 a17, .int .i64 a18, .int .i64 a19, .slice A21 a20.length c22, .int .i64 a24] 36 :: l) hf) := by
  have h := Holds.of h
  refine en func8 rfl ntmps8 rfl (sr (pn 1 rfl (ln (RC.seq (sr (pn 1 rfl (cF (fun _ hg => kernel_Kernel_none_2.ok hr5 hr9 hr13 hr23 hg hS) call18 h rfl rfl rfl ?_)))))))
  rintro _ h _ w ⟨rfl, hS⟩
  refine ln (RC.condT rfl (sr (pn 1 rfl (lr (RQ.ret ?_)))))
  obtain rfl := h.some
  exact rt results8 rfl ⟨rfl, hS⟩

/-! ### (*isochron/kernel.Kernel).Window: function 9 -/
noncomputable def kernel_Kernel_Window.f  : Option (Int) := ((kernel_Kernel_none.f).bind fun _ => some 0)
theorem kernel_Kernel_Window.ok {r : Int} (h : kernel_Kernel_Window.f = some r) (hS : St B w (l) hf) :
    Calls prog 9 #[.pointer none] w (Ret fun v w => v = .int .i64 r ∧ St B w (l) hf) := by
  have h := Holds.of h
  refine en func9 rfl ntmps9 rfl (sr (pn 1 rfl (ln (RC.seq (sr (pn 1 rfl (cF (fun _ hg => kernel_Kernel_none.ok hg hS) call18 h rfl rfl rfl ?_)))))))
  rintro _ h _ w ⟨rfl, hS⟩
  refine ln (RC.condT rfl (sr (pn 1 rfl (lr (RQ.ret ?_)))))
  obtain rfl := h.some
  exact rt results9 rfl ⟨rfl, hS⟩

/-! ### (*isochron/kernel.Kernel).of: function 23 -/
noncomputable def kernel_Kernel_of.f (a2 : List (List api_Instr)) (a6 : List api_Link) (a10 : List api_Start) (a14 a15 a16 a17 a18 a19 : Int) (a20 : List api_Done) (a24 a25 : Int) : Option (Unit) := ((kernel_Kernel_none_2.f a2 a6 a10 a14 a15 a16 a17 a18 a19 a20 a24).bind fun _ => some ())
theorem kernel_Kernel_of.ok {a2 : List (List api_Instr)} {a6 : List api_Link} {a10 : List api_Start} {a14 a15 a16 a17 a18 a19 : Int} {a20 : List api_Done} {a24 a25 : Int} {b1 : Nat} {A3 : Option Addr} {c4 : Nat} {A7 : Option Addr} {c8 : Nat} {A11 : Option Addr} {c12 : Nat} {A21 : Option Addr} {c22 : Nat} (hr5 : SlR (Rep.sl E_api_Instr.rep) hf A3 c4 a2) (hr9 : SlR E_api_Link.rep hf A7 c8 a6) (hr13 : SlR E_api_Start.rep hf A11 c12 a10) (hr23 : SlR E_api_Done.rep hf A21 c22 a20) {r : Unit} (h : kernel_Kernel_of.f a2 a6 a10 a14 a15 a16 a17 a18 a19 a20 a24 a25 = some r) (hS : St B w (Cl b1 [.slice A3 a2.length c4, .slice A7 a6.length c8, .slice A11 a10.length c12, .int .u64 a14, .int .i64 a15, .int .i64 a16, .slice none 0 0, .slice none 0 0, .pointer none, .int .i64 a17, .int .i64 a18, .int .i64 a19, .slice A21 a20.length c22, .int .i64 a24] 36 :: l) hf) :
    Calls prog 23 #[.pointer (some ⟨b1, 0, none⟩), .int .i64 a25] w (Ret fun v w => ∃ (b_1 : Nat), v = .pointer (some ⟨b_1, 0, none⟩) ∧ St B w (Cl b_1 [.pointer none, .pointer none, .pointer none, .slice none 0 0, .map none] 73 :: Cl b1 [.slice A3 a2.length c4, .slice A7 a6.length c8, .slice A11 a10.length c12, .int .u64 a14, .int .i64 a15, .int .i64 a16, .slice none 0 0, .slice none 0 0, .pointer none, .int .i64 a17, .int .i64 a18, .int .i64 a19, .slice A21 a20.length c22, .int .i64 a24] 36 :: l) hf) := by
  have h := Holds.of h
  refine en func23 rfl ntmps23 rfl (sr (pn 1 rfl (ln (RC.seq (sr (pn 1 rfl (cF (fun _ hg => kernel_Kernel_none_2.ok hr5 hr9 hr13 hr23 hg hS) call18 h rfl rfl rfl ?_)))))))
  rintro _ h _ w ⟨rfl, hS⟩
  refine pn 13 rfl (ln (RC.condT rfl (sr (RL.s (Vl.build (v := .agg #[.pointer none, .pointer none, .pointer none, .slice none 0 0, .map none]) (parts := []) rfl (by kernel_rfl)) rfl (bx hS rfl rfl rfl rfl fun b37 w hS => pn 1 rfl (lr (RQ.ret ?_)))))))
  exact rt results23 rfl ⟨b37, rfl, hS⟩

/-! ### (*isochron/lane.Lane).none: function 39 -/
noncomputable def lane_Lane_none.f  : Option (Unit) := some ()
theorem lane_Lane_none.ok {r : Unit} (h : lane_Lane_none.f = some r) (hS : St B w (l) hf) :
    Calls prog 39 #[.pointer none] w (Ret fun v w => v = .bool true ∧ St B w (l) hf) := by
  have h := Holds.of h
  refine en func39 rfl ntmps39 rfl (sr (pn 1 rfl (lnsr (pn 1 rfl (RL.s (Vl.bin (v := .bool true) rfl rfl (by kernel_rfl)) rfl (pn 8 rfl (lr ?_)))))))
  exact rt results39 rfl ⟨rfl, hS⟩

/-! ### (*isochron/lane.Lane).State: function 24 -/
noncomputable def lane_Lane_State.f  : Option (api_State) := ((lane_Lane_none.f).bind fun _ => some (⟨(⟨0, 0, 0, 0, 0, 0, 0, 0⟩ : Arr8xInti64), 0, 0⟩ : api_State))
theorem lane_Lane_State.ok {r : api_State} (h : lane_Lane_State.f = some r) (hS : St B w (l) hf) :
    Calls prog 24 #[.pointer none] w (Ret fun v w => v = .agg #[.int .i64 r.Regs.c0, .int .i64 r.Regs.c1, .int .i64 r.Regs.c2, .int .i64 r.Regs.c3, .int .i64 r.Regs.c4, .int .i64 r.Regs.c5, .int .i64 r.Regs.c6, .int .i64 r.Regs.c7, .int .i64 r.Draws, .int .i64 r.Sent] ∧ St B w (l) hf) := by
  have h := Holds.of h
  refine en func24 rfl ntmps24 rfl (sr (al hS zeroValue44 rfl rfl rfl fun b6 w hS => ln (RC.seq (sr (pn 1 rfl (cF (fun _ hg => lane_Lane_none.ok hg hS) call39 h rfl rfl rfl ?_))))))
  rintro _ h _ w ⟨rfl, hS⟩
  refine ln (RC.condT rfl (sr (RL.s (Vl.build (v := .agg #[.int .i64 0, .int .i64 0, .int .i64 0, .int .i64 0, .int .i64 0, .int .i64 0, .int .i64 0, .int .i64 0, .int .i64 0, .int .i64 0]) (parts := []) rfl (by kernel_rfl)) rfl (RL.e0 (OW.store (vs := [.int .i64 0, .int .i64 0, .int .i64 0, .int .i64 0, .int .i64 0, .int .i64 0, .int .i64 0, .int .i64 0, .int .i64 0, .int .i64 0]) 0 hS rfl rfl rfl rfl sizeOf44 rfl rfl rfl rfl) rfl ?_))))
  rintro _ w ⟨rfl, hS⟩
  have hS : St B w (Cl _ [_, _, _, _, _, _, _, _, _, _] _ :: l) hf := hS
  refine lr (RQ.ret ?_)
  obtain rfl := h.some
  refine RQ.ret0 (vs := [.agg #[.int .i64 0, .int .i64 0, .int .i64 0, .int .i64 0, .int .i64 0, .int .i64 0, .int .i64 0, .int .i64 0, .int .i64 0, .int .i64 0]]) results24 ⟨⟨_, rfl, run_loadVarA (vs := [.int .i64 0, .int .i64 0, .int .i64 0, .int .i64 0, .int .i64 0, .int .i64 0, .int .i64 0, .int .i64 0, .int .i64 0, .int .i64 0]) isAgg44 sizeOf44 rfl (hS.cellsAt 0 rfl rfl)⟩, trivial⟩ ?_
  exact ⟨rfl, hS.d0⟩

/-! ### (*isochron/kernel.Kernel).State: function 10 -/
noncomputable def kernel_Kernel_State.f (a2 : List (List api_Instr)) (a6 : List api_Link) (a10 : List api_Start) (a14 a15 a16 a17 a18 a19 : Int) (a20 : List api_Done) (a24 a25 : Int) : Option (api_State) := ((kernel_Kernel_of.f a2 a6 a10 a14 a15 a16 a17 a18 a19 a20 a24 a25).bind fun _ => ((lane_Lane_State.f).bind fun t36 => some t36))
theorem kernel_Kernel_State.ok {a2 : List (List api_Instr)} {a6 : List api_Link} {a10 : List api_Start} {a14 a15 a16 a17 a18 a19 : Int} {a20 : List api_Done} {a24 a25 : Int} {b1 : Nat} {A3 : Option Addr} {c4 : Nat} {A7 : Option Addr} {c8 : Nat} {A11 : Option Addr} {c12 : Nat} {A21 : Option Addr} {c22 : Nat} (hr5 : SlR (Rep.sl E_api_Instr.rep) hf A3 c4 a2) (hr9 : SlR E_api_Link.rep hf A7 c8 a6) (hr13 : SlR E_api_Start.rep hf A11 c12 a10) (hr23 : SlR E_api_Done.rep hf A21 c22 a20) {r : api_State} (h : kernel_Kernel_State.f a2 a6 a10 a14 a15 a16 a17 a18 a19 a20 a24 a25 = some r) (hS : St B w (Cl b1 [.slice A3 a2.length c4, .slice A7 a6.length c8, .slice A11 a10.length c12, .int .u64 a14, .int .i64 a15, .int .i64 a16, .slice none 0 0, .slice none 0 0, .pointer none, .int .i64 a17, .int .i64 a18, .int .i64 a19, .slice A21 a20.length c22, .int .i64 a24] 36 :: l) hf) :
    Calls prog 10 #[.pointer (some ⟨b1, 0, none⟩), .int .i64 a25] w (Ret fun v w => v = .agg #[.int .i64 r.Regs.c0, .int .i64 r.Regs.c1, .int .i64 r.Regs.c2, .int .i64 r.Regs.c3, .int .i64 r.Regs.c4, .int .i64 r.Regs.c5, .int .i64 r.Regs.c6, .int .i64 r.Regs.c7, .int .i64 r.Draws, .int .i64 r.Sent] ∧ St B w (Cl b1 [.slice A3 a2.length c4, .slice A7 a6.length c8, .slice A11 a10.length c12, .int .u64 a14, .int .i64 a15, .int .i64 a16, .slice none 0 0, .slice none 0 0, .pointer none, .int .i64 a17, .int .i64 a18, .int .i64 a19, .slice A21 a20.length c22, .int .i64 a24] 36 :: l) hf) := by
  have h := Holds.of h
  refine en func10 rfl ntmps10 rfl (sr (al hS zeroValue44 rfl rfl rfl fun b32 w hS => lnsr (pn 2 rfl (cF (fun _ hg => kernel_Kernel_of.ok hr5 hr9 hr13 hr23 hg hS.p1) call23 h rfl rfl rfl ?_))))
  rintro _ h _ w ⟨b35, rfl, hS⟩
  refine pn 1 rfl (RL.s (Vl.fa 0 underlying73 rfl sizeOf67 rfl rfl) rfl (RL.s (Vl.ld 0 hS isAgg67 rfl rfl rfl) rfl (cF (fun _ hg => lane_Lane_State.ok hg hS) call24 h rfl rfl rfl ?_)))
  rintro t36 h _ w ⟨rfl, hS⟩
  refine RL.e0 (OW.store (vs := [.int .i64 t36.Regs.c0, .int .i64 t36.Regs.c1, .int .i64 t36.Regs.c2, .int .i64 t36.Regs.c3, .int .i64 t36.Regs.c4, .int .i64 t36.Regs.c5, .int .i64 t36.Regs.c6, .int .i64 t36.Regs.c7, .int .i64 t36.Draws, .int .i64 t36.Sent]) 2 hS rfl rfl rfl rfl sizeOf44 rfl rfl rfl rfl) rfl ?_
  rintro _ w ⟨rfl, hS⟩
  have hS : St B w (_ :: _ :: Cl _ [_, _, _, _, _, _, _, _, _, _] _ :: l) hf := hS
  refine lr ?_
  obtain rfl := h.some
  refine RQ.ret0 (vs := [.agg #[.int .i64 t36.Regs.c0, .int .i64 t36.Regs.c1, .int .i64 t36.Regs.c2, .int .i64 t36.Regs.c3, .int .i64 t36.Regs.c4, .int .i64 t36.Regs.c5, .int .i64 t36.Regs.c6, .int .i64 t36.Regs.c7, .int .i64 t36.Draws, .int .i64 t36.Sent]]) results10 ⟨⟨_, rfl, run_loadVarA (vs := [.int .i64 t36.Regs.c0, .int .i64 t36.Regs.c1, .int .i64 t36.Regs.c2, .int .i64 t36.Regs.c3, .int .i64 t36.Regs.c4, .int .i64 t36.Regs.c5, .int .i64 t36.Regs.c6, .int .i64 t36.Regs.c7, .int .i64 t36.Draws, .int .i64 t36.Sent]) isAgg44 sizeOf44 rfl (hS.cellsAt 2 rfl rfl)⟩, trivial⟩ ?_
  exact ⟨rfl, hS.d0.d1⟩

/-! ### (*isochron/kernel.Kernel).of: function 23 -/
noncomputable def kernel_Kernel_of_2.f (a1 : Int) : Option (Unit) := ((kernel_Kernel_none.f).bind fun _ => some ())
theorem kernel_Kernel_of_2.ok {a1 : Int} {r : Unit} (h : kernel_Kernel_of_2.f a1 = some r) (hS : St B w (l) hf) :
    Calls prog 23 #[.pointer none, .int .i64 a1] w (Ret fun v w => ∃ (b_1 : Nat), v = .pointer (some ⟨b_1, 0, none⟩) ∧ St B w (Cl b_1 [.pointer none, .pointer none, .pointer none, .slice none 0 0, .map none] 73 :: l) hf) := by
  have h := Holds.of h
  refine en func23 rfl ntmps23 rfl (sr (pn 1 rfl (ln (RC.seq (sr (pn 1 rfl (cF (fun _ hg => kernel_Kernel_none.ok hg hS) call18 h rfl rfl rfl ?_)))))))
  rintro _ h _ w ⟨rfl, hS⟩
  refine pn 13 rfl (ln (RC.condT rfl (sr (RL.s (Vl.build (v := .agg #[.pointer none, .pointer none, .pointer none, .slice none 0 0, .map none]) (parts := []) rfl (by kernel_rfl)) rfl (bx hS rfl rfl rfl rfl fun b13 w hS => pn 1 rfl (lr (RQ.ret ?_)))))))
  exact rt results23 rfl ⟨b13, rfl, hS⟩

/-! ### (*isochron/lane.Lane).Setting: function 25 -/
noncomputable def lane_Lane_Setting.f  : Option (api_Setting) := ((lane_Lane_none.f).bind fun _ => some (⟨0, 0, 0, 0, 0⟩ : api_Setting))
theorem lane_Lane_Setting.ok {r : api_Setting} (h : lane_Lane_Setting.f = some r) (hS : St B w (l) hf) :
    Calls prog 25 #[.pointer none] w (Ret fun v w => v = .agg #[.int .i64 r.Mode, .int .i64 r.Every, .int .i64 r.Cancel, .int .i64 r.Reach, .int .i64 r.Queue] ∧ St B w (l) hf) := by
  have h := Holds.of h
  refine en func25 rfl ntmps25 rfl (sr (al hS zeroValue47 rfl rfl rfl fun b6 w hS => ln (RC.seq (sr (pn 1 rfl (cF (fun _ hg => lane_Lane_none.ok hg hS) call39 h rfl rfl rfl ?_))))))
  rintro _ h _ w ⟨rfl, hS⟩
  refine ln (RC.condT rfl (sr (RL.s (Vl.build (v := .agg #[.int .i64 0, .int .i64 0, .int .i64 0, .int .i64 0, .int .i64 0]) (parts := []) rfl (by kernel_rfl)) rfl (RL.e0 (OW.store (vs := [.int .i64 0, .int .i64 0, .int .i64 0, .int .i64 0, .int .i64 0]) 0 hS rfl rfl rfl rfl sizeOf47 rfl rfl rfl rfl) rfl ?_))))
  rintro _ w ⟨rfl, hS⟩
  have hS : St B w (Cl _ [_, _, _, _, _] _ :: l) hf := hS
  refine lr (RQ.ret ?_)
  obtain rfl := h.some
  refine RQ.ret0 (vs := [.agg #[.int .i64 0, .int .i64 0, .int .i64 0, .int .i64 0, .int .i64 0]]) results25 ⟨⟨_, rfl, run_loadVarA (vs := [.int .i64 0, .int .i64 0, .int .i64 0, .int .i64 0, .int .i64 0]) isAgg47 sizeOf47 rfl (hS.cellsAt 0 rfl rfl)⟩, trivial⟩ ?_
  exact ⟨rfl, hS.d0⟩

/-! ### (*isochron/kernel.Kernel).Setting: function 11 -/
noncomputable def kernel_Kernel_Setting.f (a1 : Int) : Option (api_Setting) := ((kernel_Kernel_of_2.f a1).bind fun _ => ((lane_Lane_Setting.f).bind fun t12 => some t12))
theorem kernel_Kernel_Setting.ok {a1 : Int} {r : api_Setting} (h : kernel_Kernel_Setting.f a1 = some r) (hS : St B w (l) hf) :
    Calls prog 11 #[.pointer none, .int .i64 a1] w (Ret fun v w => v = .agg #[.int .i64 r.Mode, .int .i64 r.Every, .int .i64 r.Cancel, .int .i64 r.Reach, .int .i64 r.Queue] ∧ St B w (l) hf) := by
  have h := Holds.of h
  refine en func11 rfl ntmps11 rfl (sr (al hS zeroValue47 rfl rfl rfl fun b8 w hS => lnsr (pn 2 rfl (cF (fun _ hg => kernel_Kernel_of_2.ok hg hS) call23 h rfl rfl rfl ?_))))
  rintro _ h _ w ⟨b11, rfl, hS⟩
  refine pn 1 rfl (RL.s (Vl.fa 0 underlying73 rfl sizeOf67 rfl rfl) rfl (RL.s (Vl.ld 0 hS isAgg67 rfl rfl rfl) rfl (cF (fun _ hg => lane_Lane_Setting.ok hg hS) call25 h rfl rfl rfl ?_)))
  rintro t12 h _ w ⟨rfl, hS⟩
  refine RL.e0 (OW.store (vs := [.int .i64 t12.Mode, .int .i64 t12.Every, .int .i64 t12.Cancel, .int .i64 t12.Reach, .int .i64 t12.Queue]) 1 hS rfl rfl rfl rfl sizeOf47 rfl rfl rfl rfl) rfl ?_
  rintro _ w ⟨rfl, hS⟩
  have hS : St B w (_ :: Cl _ [_, _, _, _, _] _ :: l) hf := hS
  refine lr ?_
  obtain rfl := h.some
  refine RQ.ret0 (vs := [.agg #[.int .i64 t12.Mode, .int .i64 t12.Every, .int .i64 t12.Cancel, .int .i64 t12.Reach, .int .i64 t12.Queue]]) results11 ⟨⟨_, rfl, run_loadVarA (vs := [.int .i64 t12.Mode, .int .i64 t12.Every, .int .i64 t12.Cancel, .int .i64 t12.Reach, .int .i64 t12.Queue]) isAgg47 sizeOf47 rfl (hS.cellsAt 1 rfl rfl)⟩, trivial⟩ ?_
  exact ⟨rfl, hS.d0.d0⟩

/-! ### (*isochron/lane.Lane).Stats: function 26 -/
noncomputable def lane_Lane_Stats.f  : Option (api_Stats) := ((lane_Lane_none.f).bind fun _ => some (⟨0, 0, 0, 0⟩ : api_Stats))
theorem lane_Lane_Stats.ok {r : api_Stats} (h : lane_Lane_Stats.f = some r) (hS : St B w (l) hf) :
    Calls prog 26 #[.pointer none] w (Ret fun v w => v = .agg #[.int .i64 r.Done, .int .i64 r.Undone, .int .i64 r.Hits, .int .i64 r.Held] ∧ St B w (l) hf) := by
  have h := Holds.of h
  refine en func26 rfl ntmps26 rfl (sr (al hS zeroValue50 rfl rfl rfl fun b6 w hS => ln (RC.seq (sr (pn 1 rfl (cF (fun _ hg => lane_Lane_none.ok hg hS) call39 h rfl rfl rfl ?_))))))
  rintro _ h _ w ⟨rfl, hS⟩
  refine ln (RC.condT rfl (sr (RL.s (Vl.build (v := .agg #[.int .i64 0, .int .i64 0, .int .i64 0, .int .i64 0]) (parts := []) rfl (by kernel_rfl)) rfl (RL.e0 (OW.store (vs := [.int .i64 0, .int .i64 0, .int .i64 0, .int .i64 0]) 0 hS rfl rfl rfl rfl sizeOf50 rfl rfl rfl rfl) rfl ?_))))
  rintro _ w ⟨rfl, hS⟩
  have hS : St B w (Cl _ [_, _, _, _] _ :: l) hf := hS
  refine lr (RQ.ret ?_)
  obtain rfl := h.some
  refine RQ.ret0 (vs := [.agg #[.int .i64 0, .int .i64 0, .int .i64 0, .int .i64 0]]) results26 ⟨⟨_, rfl, run_loadVarA (vs := [.int .i64 0, .int .i64 0, .int .i64 0, .int .i64 0]) isAgg50 sizeOf50 rfl (hS.cellsAt 0 rfl rfl)⟩, trivial⟩ ?_
  exact ⟨rfl, hS.d0⟩

/-! ### (*isochron/kernel.Kernel).Stats: function 12 -/
noncomputable def kernel_Kernel_Stats.f (a2 : List (List api_Instr)) (a6 : List api_Link) (a10 : List api_Start) (a14 a15 a16 a17 a18 a19 : Int) (a20 : List api_Done) (a24 a25 : Int) : Option (api_Stats) := ((kernel_Kernel_of.f a2 a6 a10 a14 a15 a16 a17 a18 a19 a20 a24 a25).bind fun _ => ((lane_Lane_Stats.f).bind fun t36 => some t36))
theorem kernel_Kernel_Stats.ok {a2 : List (List api_Instr)} {a6 : List api_Link} {a10 : List api_Start} {a14 a15 a16 a17 a18 a19 : Int} {a20 : List api_Done} {a24 a25 : Int} {b1 : Nat} {A3 : Option Addr} {c4 : Nat} {A7 : Option Addr} {c8 : Nat} {A11 : Option Addr} {c12 : Nat} {A21 : Option Addr} {c22 : Nat} (hr5 : SlR (Rep.sl E_api_Instr.rep) hf A3 c4 a2) (hr9 : SlR E_api_Link.rep hf A7 c8 a6) (hr13 : SlR E_api_Start.rep hf A11 c12 a10) (hr23 : SlR E_api_Done.rep hf A21 c22 a20) {r : api_Stats} (h : kernel_Kernel_Stats.f a2 a6 a10 a14 a15 a16 a17 a18 a19 a20 a24 a25 = some r) (hS : St B w (Cl b1 [.slice A3 a2.length c4, .slice A7 a6.length c8, .slice A11 a10.length c12, .int .u64 a14, .int .i64 a15, .int .i64 a16, .slice none 0 0, .slice none 0 0, .pointer none, .int .i64 a17, .int .i64 a18, .int .i64 a19, .slice A21 a20.length c22, .int .i64 a24] 36 :: l) hf) :
    Calls prog 12 #[.pointer (some ⟨b1, 0, none⟩), .int .i64 a25] w (Ret fun v w => v = .agg #[.int .i64 r.Done, .int .i64 r.Undone, .int .i64 r.Hits, .int .i64 r.Held] ∧ St B w (Cl b1 [.slice A3 a2.length c4, .slice A7 a6.length c8, .slice A11 a10.length c12, .int .u64 a14, .int .i64 a15, .int .i64 a16, .slice none 0 0, .slice none 0 0, .pointer none, .int .i64 a17, .int .i64 a18, .int .i64 a19, .slice A21 a20.length c22, .int .i64 a24] 36 :: l) hf) := by
  have h := Holds.of h
  refine en func12 rfl ntmps12 rfl (sr (al hS zeroValue50 rfl rfl rfl fun b32 w hS => lnsr (pn 2 rfl (cF (fun _ hg => kernel_Kernel_of.ok hr5 hr9 hr13 hr23 hg hS.p1) call23 h rfl rfl rfl ?_))))
  rintro _ h _ w ⟨b35, rfl, hS⟩
  refine pn 1 rfl (RL.s (Vl.fa 0 underlying73 rfl sizeOf67 rfl rfl) rfl (RL.s (Vl.ld 0 hS isAgg67 rfl rfl rfl) rfl (cF (fun _ hg => lane_Lane_Stats.ok hg hS) call26 h rfl rfl rfl ?_)))
  rintro t36 h _ w ⟨rfl, hS⟩
  refine RL.e0 (OW.store (vs := [.int .i64 t36.Done, .int .i64 t36.Undone, .int .i64 t36.Hits, .int .i64 t36.Held]) 2 hS rfl rfl rfl rfl sizeOf50 rfl rfl rfl rfl) rfl ?_
  rintro _ w ⟨rfl, hS⟩
  have hS : St B w (_ :: _ :: Cl _ [_, _, _, _] _ :: l) hf := hS
  refine lr ?_
  obtain rfl := h.some
  refine RQ.ret0 (vs := [.agg #[.int .i64 t36.Done, .int .i64 t36.Undone, .int .i64 t36.Hits, .int .i64 t36.Held]]) results12 ⟨⟨_, rfl, run_loadVarA (vs := [.int .i64 t36.Done, .int .i64 t36.Undone, .int .i64 t36.Hits, .int .i64 t36.Held]) isAgg50 sizeOf50 rfl (hS.cellsAt 2 rfl rfl)⟩, trivial⟩ ?_
  exact ⟨rfl, hS.d0.d1⟩

/-! ### (*isochron/lane.Lane).Waiting: function 27 -/
noncomputable def lane_Lane_Waiting.f  : Option (Unit) := ((lane_Lane_none.f).bind fun _ => some ())
theorem lane_Lane_Waiting.ok {r : Unit} (h : lane_Lane_Waiting.f = some r) (hS : St B w (l) hf) :
    Calls prog 27 #[.pointer none] w (Ret fun v w => v = .slice none 0 0 ∧ St B w (l) hf) := by
  have h := Holds.of h
  refine en func27 rfl ntmps27 rfl (sr (pn 1 rfl (ln (RC.seq (sr (pn 1 rfl (cF (fun _ hg => lane_Lane_none.ok hg hS) call39 h rfl rfl rfl ?_)))))))
  rintro _ h _ w ⟨rfl, hS⟩
  refine ln (RC.condT rfl (sr (pn 1 rfl (lr (RQ.ret ?_)))))
  exact rt results27 rfl ⟨rfl, hS⟩

/-! ### (*isochron/kernel.Kernel).Waiting: function 13 -/
noncomputable def kernel_Kernel_Waiting.f (a1 : Int) : Option (Unit) := ((kernel_Kernel_of_2.f a1).bind fun _ => ((lane_Lane_Waiting.f).bind fun _ => some ()))
theorem kernel_Kernel_Waiting.ok {a1 : Int} {r : Unit} (h : kernel_Kernel_Waiting.f a1 = some r) (hS : St B w (l) hf) :
    Calls prog 13 #[.pointer none, .int .i64 a1] w (Ret fun v w => v = .slice none 0 0 ∧ St B w (l) hf) := by
  have h := Holds.of h
  refine en func13 rfl ntmps13 rfl (sr (pn 1 rfl (lnsr (pn 2 rfl (cF (fun _ hg => kernel_Kernel_of_2.ok hg hS) call23 h rfl rfl rfl ?_)))))
  rintro _ h _ w ⟨b9, rfl, hS⟩
  refine pn 1 rfl (RL.s (Vl.fa 0 underlying73 rfl sizeOf67 rfl rfl) rfl (RL.s (Vl.ld 0 hS isAgg67 rfl rfl rfl) rfl (cF (fun _ hg => lane_Lane_Waiting.ok hg hS) call27 h rfl rfl rfl ?_)))
  rintro _ h _ w ⟨rfl, hS⟩
  refine pn 1 rfl (lr ?_)
  exact rt results13 rfl ⟨rfl, hS.d0⟩

/-! ### (*isochron/lane.Lane).Done: function 28 -/
noncomputable def lane_Lane_Done.f  : Option (Unit) := ((lane_Lane_none.f).bind fun _ => some ())
theorem lane_Lane_Done.ok {r : Unit} (h : lane_Lane_Done.f = some r) (hS : St B w (l) hf) :
    Calls prog 28 #[.pointer none] w (Ret fun v w => v = .slice none 0 0 ∧ St B w (l) hf) := by
  have h := Holds.of h
  refine en func28 rfl ntmps28 rfl (sr (pn 1 rfl (ln (RC.seq (sr (pn 1 rfl (cF (fun _ hg => lane_Lane_none.ok hg hS) call39 h rfl rfl rfl ?_)))))))
  rintro _ h _ w ⟨rfl, hS⟩
  refine ln (RC.condT rfl (sr (pn 1 rfl (lr (RQ.ret ?_)))))
  exact rt results28 rfl ⟨rfl, hS⟩

/-! ### (*isochron/kernel.Kernel).Done: function 14 -/
noncomputable def kernel_Kernel_Done.f (a2 : List (List api_Instr)) (a6 : List api_Link) (a10 : List api_Start) (a14 a15 a16 a17 a18 a19 : Int) (a20 : List api_Done) (a24 a25 : Int) : Option (Unit) := ((kernel_Kernel_of.f a2 a6 a10 a14 a15 a16 a17 a18 a19 a20 a24 a25).bind fun _ => ((lane_Lane_Done.f).bind fun _ => some ()))
theorem kernel_Kernel_Done.ok {a2 : List (List api_Instr)} {a6 : List api_Link} {a10 : List api_Start} {a14 a15 a16 a17 a18 a19 : Int} {a20 : List api_Done} {a24 a25 : Int} {b1 : Nat} {A3 : Option Addr} {c4 : Nat} {A7 : Option Addr} {c8 : Nat} {A11 : Option Addr} {c12 : Nat} {A21 : Option Addr} {c22 : Nat} (hr5 : SlR (Rep.sl E_api_Instr.rep) hf A3 c4 a2) (hr9 : SlR E_api_Link.rep hf A7 c8 a6) (hr13 : SlR E_api_Start.rep hf A11 c12 a10) (hr23 : SlR E_api_Done.rep hf A21 c22 a20) {r : Unit} (h : kernel_Kernel_Done.f a2 a6 a10 a14 a15 a16 a17 a18 a19 a20 a24 a25 = some r) (hS : St B w (Cl b1 [.slice A3 a2.length c4, .slice A7 a6.length c8, .slice A11 a10.length c12, .int .u64 a14, .int .i64 a15, .int .i64 a16, .slice none 0 0, .slice none 0 0, .pointer none, .int .i64 a17, .int .i64 a18, .int .i64 a19, .slice A21 a20.length c22, .int .i64 a24] 36 :: l) hf) :
    Calls prog 14 #[.pointer (some ⟨b1, 0, none⟩), .int .i64 a25] w (Ret fun v w => v = .slice none 0 0 ∧ St B w (Cl b1 [.slice A3 a2.length c4, .slice A7 a6.length c8, .slice A11 a10.length c12, .int .u64 a14, .int .i64 a15, .int .i64 a16, .slice none 0 0, .slice none 0 0, .pointer none, .int .i64 a17, .int .i64 a18, .int .i64 a19, .slice A21 a20.length c22, .int .i64 a24] 36 :: l) hf) := by
  have h := Holds.of h
  refine en func14 rfl ntmps14 rfl (sr (pn 1 rfl (lnsr (pn 2 rfl (cF (fun _ hg => kernel_Kernel_of.ok hr5 hr9 hr13 hr23 hg hS) call23 h rfl rfl rfl ?_)))))
  rintro _ h _ w ⟨b33, rfl, hS⟩
  refine pn 1 rfl (RL.s (Vl.fa 0 underlying73 rfl sizeOf67 rfl rfl) rfl (RL.s (Vl.ld 0 hS isAgg67 rfl rfl rfl) rfl (cF (fun _ hg => lane_Lane_Done.ok hg hS) call28 h rfl rfl rfl ?_)))
  rintro _ h _ w ⟨rfl, hS⟩
  refine pn 1 rfl (lr ?_)
  exact rt results14 rfl ⟨rfl, hS.d0⟩

/-! ### (*isochron/kernel.Kernel).Moving: function 15 -/
noncomputable def kernel_Kernel_Moving.f (a1 : Int) : Option (Unit) := ((kernel_Kernel_none.f).bind fun _ => some ())
theorem kernel_Kernel_Moving.ok {a1 : Int} {r : Unit} (h : kernel_Kernel_Moving.f a1 = some r) (hS : St B w (l) hf) :
    Calls prog 15 #[.pointer none, .int .i64 a1] w (Ret fun v w => v = .slice none 0 0 ∧ St B w (l) hf) := by
  have h := Holds.of h
  refine en func15 rfl ntmps15 rfl (sr (pn 1 rfl (ln (RC.seq (sr (pn 1 rfl (cF (fun _ hg => kernel_Kernel_none.ok hg hS) call18 h rfl rfl rfl ?_)))))))
  rintro _ h _ w ⟨rfl, hS⟩
  refine pn 13 rfl (ln (RC.condT rfl (sr (pn 1 rfl (lr (RQ.ret ?_))))))
  exact rt results15 rfl ⟨rfl, hS⟩

/-! ### (*isochron/clock.Clocks).none: function 47 -/
noncomputable def clock_Clocks_none.f  : Option (Unit) := some ()
theorem clock_Clocks_none.ok {r : Unit} (h : clock_Clocks_none.f = some r) (hS : St B w (l) hf) :
    Calls prog 47 #[.pointer none] w (Ret fun v w => v = .bool true ∧ St B w (l) hf) := by
  have h := Holds.of h
  refine en func47 rfl ntmps47 rfl (sr (pn 1 rfl (lnsr (pn 1 rfl (RL.s (Vl.bin (v := .bool true) rfl rfl (by kernel_rfl)) rfl (pn 8 rfl (lr ?_)))))))
  exact rt results47 rfl ⟨rfl, hS⟩

/-! ### (*isochron/clock.Clocks).Bound: function 30 -/
noncomputable def clock_Clocks_Bound.f  : Option (Int) := ((clock_Clocks_none.f).bind fun _ => some 0)
theorem clock_Clocks_Bound.ok {r : Int} (h : clock_Clocks_Bound.f = some r) (hS : St B w (l) hf) :
    Calls prog 30 #[.pointer none] w (Ret fun v w => v = .int .i64 r ∧ St B w (l) hf) := by
  have h := Holds.of h
  refine en func30 rfl ntmps30 rfl (sr (pn 1 rfl (ln (RC.seq (sr (pn 1 rfl (cF (fun _ hg => clock_Clocks_none.ok hg hS) call47 h rfl rfl rfl ?_)))))))
  rintro _ h _ w ⟨rfl, hS⟩
  refine ln (RC.condT rfl (sr (pn 1 rfl (lr (RQ.ret ?_)))))
  obtain rfl := h.some
  exact rt results30 rfl ⟨rfl, hS⟩

/-! ### (*isochron/kernel.Kernel).Bound: function 16 -/
noncomputable def kernel_Kernel_Bound.f (a2 : List (List api_Instr)) (a6 : List api_Link) (a10 : List api_Start) (a14 a15 a16 a17 a18 a19 : Int) (a20 : List api_Done) (a24 a25 : Int) : Option (Int) := ((kernel_Kernel_of.f a2 a6 a10 a14 a15 a16 a17 a18 a19 a20 a24 a25).bind fun _ => ((clock_Clocks_Bound.f).bind fun t34 => some t34))
theorem kernel_Kernel_Bound.ok {a2 : List (List api_Instr)} {a6 : List api_Link} {a10 : List api_Start} {a14 a15 a16 a17 a18 a19 : Int} {a20 : List api_Done} {a24 a25 : Int} {b1 : Nat} {A3 : Option Addr} {c4 : Nat} {A7 : Option Addr} {c8 : Nat} {A11 : Option Addr} {c12 : Nat} {A21 : Option Addr} {c22 : Nat} (hr5 : SlR (Rep.sl E_api_Instr.rep) hf A3 c4 a2) (hr9 : SlR E_api_Link.rep hf A7 c8 a6) (hr13 : SlR E_api_Start.rep hf A11 c12 a10) (hr23 : SlR E_api_Done.rep hf A21 c22 a20) {r : Int} (h : kernel_Kernel_Bound.f a2 a6 a10 a14 a15 a16 a17 a18 a19 a20 a24 a25 = some r) (hS : St B w (Cl b1 [.slice A3 a2.length c4, .slice A7 a6.length c8, .slice A11 a10.length c12, .int .u64 a14, .int .i64 a15, .int .i64 a16, .slice none 0 0, .slice none 0 0, .pointer none, .int .i64 a17, .int .i64 a18, .int .i64 a19, .slice A21 a20.length c22, .int .i64 a24] 36 :: l) hf) :
    Calls prog 16 #[.pointer (some ⟨b1, 0, none⟩), .int .i64 a25] w (Ret fun v w => v = .int .i64 r ∧ St B w (Cl b1 [.slice A3 a2.length c4, .slice A7 a6.length c8, .slice A11 a10.length c12, .int .u64 a14, .int .i64 a15, .int .i64 a16, .slice none 0 0, .slice none 0 0, .pointer none, .int .i64 a17, .int .i64 a18, .int .i64 a19, .slice A21 a20.length c22, .int .i64 a24] 36 :: l) hf) := by
  have h := Holds.of h
  refine en func16 rfl ntmps16 rfl (sr (pn 1 rfl (lnsr (pn 2 rfl (cF (fun _ hg => kernel_Kernel_of.ok hr5 hr9 hr13 hr23 hg hS) call23 h rfl rfl rfl ?_)))))
  rintro _ h _ w ⟨b33, rfl, hS⟩
  refine pn 1 rfl (RL.s (Vl.fa 2 underlying73 rfl sizeOf69 rfl rfl) rfl (RL.s (Vl.ld 0 hS isAgg69 rfl rfl rfl) rfl (cF (fun _ hg => clock_Clocks_Bound.ok hg hS) call30 h rfl rfl rfl ?_)))
  rintro t34 h _ w ⟨rfl, hS⟩
  refine pn 1 rfl (lr ?_)
  obtain rfl := h.some
  exact rt results16 rfl ⟨rfl, hS.d0⟩

/-! ### (*isochron/lane.Lane).Kept: function 31 -/
noncomputable def lane_Lane_Kept.f  : Option (Int) := ((lane_Lane_none.f).bind fun _ => some 0)
theorem lane_Lane_Kept.ok {r : Int} (h : lane_Lane_Kept.f = some r) (hS : St B w (l) hf) :
    Calls prog 31 #[.pointer none] w (Ret fun v w => v = .int .i64 r ∧ St B w (l) hf) := by
  have h := Holds.of h
  refine en func31 rfl ntmps31 rfl (sr (pn 1 rfl (ln (RC.seq (sr (pn 1 rfl (cF (fun _ hg => lane_Lane_none.ok hg hS) call39 h rfl rfl rfl ?_)))))))
  rintro _ h _ w ⟨rfl, hS⟩
  refine ln (RC.condT rfl (sr (pn 1 rfl (lr (RQ.ret ?_)))))
  obtain rfl := h.some
  exact rt results31 rfl ⟨rfl, hS⟩

/-! ### (*isochron/kernel.Kernel).Kept: function 17 -/
noncomputable def kernel_Kernel_Kept.f (a1 : Int) : Option (Int) := ((kernel_Kernel_of_2.f a1).bind fun _ => ((lane_Lane_Kept.f).bind fun t10 => some t10))
theorem kernel_Kernel_Kept.ok {a1 : Int} {r : Int} (h : kernel_Kernel_Kept.f a1 = some r) (hS : St B w (l) hf) :
    Calls prog 17 #[.pointer none, .int .i64 a1] w (Ret fun v w => v = .int .i64 r ∧ St B w (l) hf) := by
  have h := Holds.of h
  refine en func17 rfl ntmps17 rfl (sr (pn 1 rfl (lnsr (pn 2 rfl (cF (fun _ hg => kernel_Kernel_of_2.ok hg hS) call23 h rfl rfl rfl ?_)))))
  rintro _ h _ w ⟨b9, rfl, hS⟩
  refine pn 1 rfl (RL.s (Vl.fa 0 underlying73 rfl sizeOf67 rfl rfl) rfl (RL.s (Vl.ld 0 hS isAgg67 rfl rfl rfl) rfl (cF (fun _ hg => lane_Lane_Kept.ok hg hS) call31 h rfl rfl rfl ?_)))
  rintro t10 h _ w ⟨rfl, hS⟩
  refine pn 1 rfl (lr ?_)
  obtain rfl := h.some
  exact rt results17 rfl ⟨rfl, hS.d0⟩

/-! ### isochron/isochronlaw18.KernelZero: function 3 -/
noncomputable def isochronlaw18vKernelZero.f (a1 : api_Pick) (a2 : Int) : Option (Bool) := ((kernel_Kernel_Do.f a1).bind fun t47 => (if t47 = 7 then ((kernel_Kernel_Do_2.f ([]) ([]) ([]) 0 0 0 0 0 0 ([]) 0 a1).bind fun t50 => (if t50 = 7 then ((kernel_Kernel_History.f).bind fun _ => ((kernel_Kernel_Stop.f ([]) ([]) ([]) 0 0 0 0 0 0 ([]) 0).bind fun t55 => (if t55 = 0 then ((kernel_Kernel_Global.f).bind fun t58 => (if t58 = 0 then ((kernel_Kernel_Least.f ([]) ([]) ([]) 0 0 0 0 0 0 ([]) 0).bind fun t61 => (if t61 = 0 then ((kernel_Kernel_Window.f).bind fun t64 => (if t64 = 0 then ((kernel_Kernel_State.f ([]) ([]) ([]) 0 0 0 0 0 0 ([]) 0 a2).bind fun t67 => (if t67 = (⟨(⟨0, 0, 0, 0, 0, 0, 0, 0⟩ : Arr8xInti64), 0, 0⟩ : api_State) then ((kernel_Kernel_Setting.f a2).bind fun t70 => (if t70 = (⟨0, 0, 0, 0, 0⟩ : api_Setting) then ((kernel_Kernel_Stats.f ([]) ([]) ([]) 0 0 0 0 0 0 ([]) 0 a2).bind fun t73 => (if t73 = (⟨0, 0, 0, 0⟩ : api_Stats) then ((kernel_Kernel_Waiting.f a2).bind fun _ => ((kernel_Kernel_Done.f ([]) ([]) ([]) 0 0 0 0 0 0 ([]) 0 a2).bind fun _ => ((kernel_Kernel_Moving.f a2).bind fun _ => ((kernel_Kernel_Bound.f ([]) ([]) ([]) 0 0 0 0 0 0 ([]) 0 a2).bind fun t82 => (if t82 = 0 then ((kernel_Kernel_Kept.f a2).bind fun t85 => some (decide (t85 = 0))) else some false))))) else some false)) else some false)) else some false)) else some false)) else some false)) else some false)) else some false))) else some false)) else some false))
theorem isochronlaw18vKernelZero.ok {a1 : api_Pick} {a2 : Int} {r : Bool} (h : isochronlaw18vKernelZero.f a1 a2 = some r) (hS : St B w (l) hf) :
    Calls prog 3 #[.agg #[.int .i64 a1.What, .int .i64 a1.A, .int .i64 a1.B], .int .i64 a2] w (Ret fun v w => v = .bool r ∧ St B w (l) hf) := by
  have h := Holds.of h
  refine en func3 rfl ntmps3 rfl (sr (bx hS rfl rfl rfl rfl fun b45 w hS => pn 1 rfl (lnsr (pn 1 rfl (lnsr (al hS zeroValue36 rfl rfl rfl fun b46 w hS => RL.nil ?_))))))
  refine tsr (pn 1 rfl (RL.s (Vl.lw 1 hS isAgg23 sizeOf23 rfl rfl rfl) rfl (cF (fun _ hg => kernel_Kernel_Do.ok hg hS) call4 h rfl rfl rfl ?_)))
  rintro t47 h _ w ⟨rfl, hS⟩
  refine pn 2 rfl ?_
  refine RL.iteP 11 rfl h (fun hc49 h => ?_) fun hc49 h => ?_
  next =>
   refine RL.sg (Vl.lw 1 hS isAgg23 sizeOf23 rfl rfl rfl) rfl rfl (cF (fun _ hg => kernel_Kernel_Do_2.ok (SlR.nil (A := none) (c := 0)) (SlR.nil (A := none) (c := 0)) (SlR.nil (A := none) (c := 0)) (SlR.nil (A := none) (c := 0)) hg hS) call4 h rfl rfl rfl ?_)
   rintro t50 h _ w ⟨rfl, hS⟩
   refine pn 3 rfl ?_
   refine RL.iteP 16 rfl h (fun hc52 h => ?_) fun hc52 h => ?_
   next =>
    refine pn 1 rfl (cF (fun _ hg => kernel_Kernel_History.ok hg hS) call5 h rfl rfl rfl ?_)
    rintro _ h _ w ⟨rfl, hS⟩
    refine RL.sg (Vl.lenSl underlying34 rfl) rfl rfl (pn 3 rfl (cF (fun _ hg => kernel_Kernel_Stop.ok (SlR.nil (A := none) (c := 0)) (SlR.nil (A := none) (c := 0)) (SlR.nil (A := none) (c := 0)) (SlR.nil (A := none) (c := 0)) hg hS) call6 h rfl rfl rfl ?_))
    rintro t55 h _ w ⟨rfl, hS⟩
    refine pn 3 rfl ?_
    refine RL.iteP 26 rfl h (fun hc57 h => ?_) fun hc57 h => ?_
    next =>
     refine pn 1 rfl (cF (fun _ hg => kernel_Kernel_Global.ok hg hS) call7 h rfl rfl rfl ?_)
     rintro t58 h _ w ⟨rfl, hS⟩
     refine pn 3 rfl ?_
     refine RL.iteP 31 rfl h (fun hc60 h => ?_) fun hc60 h => ?_
     next =>
      refine cF (fun _ hg => kernel_Kernel_Least.ok (SlR.nil (A := none) (c := 0)) (SlR.nil (A := none) (c := 0)) (SlR.nil (A := none) (c := 0)) (SlR.nil (A := none) (c := 0)) hg hS) call8 h rfl rfl rfl ?_
      rintro t61 h _ w ⟨rfl, hS⟩
      refine pn 3 rfl ?_
      refine RL.iteP 35 rfl h (fun hc63 h => ?_) fun hc63 h => ?_
      next =>
       refine pn 1 rfl (cF (fun _ hg => kernel_Kernel_Window.ok hg hS) call9 h rfl rfl rfl ?_)
       rintro t64 h _ w ⟨rfl, hS⟩
       refine pn 3 rfl ?_
       refine RL.iteP 40 rfl h (fun hc66 h => ?_) fun hc66 h => ?_
       next =>
        refine pn 1 rfl (cF (fun _ hg => kernel_Kernel_State.ok (SlR.nil (A := none) (c := 0)) (SlR.nil (A := none) (c := 0)) (SlR.nil (A := none) (c := 0)) (SlR.nil (A := none) (c := 0)) hg hS) call10 h rfl rfl rfl ?_)
        rintro t67 h _ w ⟨rfl, hS⟩
        refine RL.sg (Vl.build (v := .agg #[.int .i64 0, .int .i64 0, .int .i64 0, .int .i64 0, .int .i64 0, .int .i64 0, .int .i64 0, .int .i64 0, .int .i64 0, .int .i64 0]) (parts := []) rfl (by kernel_rfl)) rfl rfl (RL.sg (Vl.eqlS (run_eql_api_State _ _ t67 (⟨(⟨0, 0, 0, 0, 0, 0, 0, 0⟩ : Arr8xInti64), 0, 0⟩ : api_State)) rfl rfl) rfl rfl (pn 2 rfl ?_))
        refine RL.iteP 46 rfl h (fun hc69 h => ?_) fun hc69 h => ?_
        next =>
         refine pn 2 rfl (cF (fun _ hg => kernel_Kernel_Setting.ok hg hS) call11 h rfl rfl rfl ?_)
         rintro t70 h _ w ⟨rfl, hS⟩
         refine RL.sg (Vl.build (v := .agg #[.int .i64 0, .int .i64 0, .int .i64 0, .int .i64 0, .int .i64 0]) (parts := []) rfl (by kernel_rfl)) rfl rfl (RL.sg (Vl.eqlS (run_eql_api_Setting _ _ t70 (⟨0, 0, 0, 0, 0⟩ : api_Setting)) rfl rfl) rfl rfl (pn 2 rfl ?_))
         refine RL.iteP 53 rfl h (fun hc72 h => ?_) fun hc72 h => ?_
         next =>
          refine pn 1 rfl (cF (fun _ hg => kernel_Kernel_Stats.ok (SlR.nil (A := none) (c := 0)) (SlR.nil (A := none) (c := 0)) (SlR.nil (A := none) (c := 0)) (SlR.nil (A := none) (c := 0)) hg hS) call12 h rfl rfl rfl ?_)
          rintro t73 h _ w ⟨rfl, hS⟩
          refine RL.sg (Vl.build (v := .agg #[.int .i64 0, .int .i64 0, .int .i64 0, .int .i64 0]) (parts := []) rfl (by kernel_rfl)) rfl rfl (RL.sg (Vl.eqlS (run_eql_api_Stats _ _ t73 (⟨0, 0, 0, 0⟩ : api_Stats)) rfl rfl) rfl rfl (pn 2 rfl ?_))
          refine RL.iteP 59 rfl h (fun hc75 h => ?_) fun hc75 h => ?_
          next =>
           refine pn 2 rfl (cF (fun _ hg => kernel_Kernel_Waiting.ok hg hS) call13 h rfl rfl rfl ?_)
           rintro _ h _ w ⟨rfl, hS⟩
           refine RL.sg (Vl.lenSl underlying52 rfl) rfl rfl (pn 4 rfl (cF (fun _ hg => kernel_Kernel_Done.ok (SlR.nil (A := none) (c := 0)) (SlR.nil (A := none) (c := 0)) (SlR.nil (A := none) (c := 0)) (SlR.nil (A := none) (c := 0)) hg hS) call14 h rfl rfl rfl ?_))
           rintro _ h _ w ⟨rfl, hS⟩
           refine RL.sg (Vl.lenSl underlying54 rfl) rfl rfl (pn 5 rfl (cF (fun _ hg => kernel_Kernel_Moving.ok hg hS) call15 h rfl rfl rfl ?_))
           rintro _ h _ w ⟨rfl, hS⟩
           refine RL.sg (Vl.lenSl underlying56 rfl) rfl rfl (pn 4 rfl (cF (fun _ hg => kernel_Kernel_Bound.ok (SlR.nil (A := none) (c := 0)) (SlR.nil (A := none) (c := 0)) (SlR.nil (A := none) (c := 0)) (SlR.nil (A := none) (c := 0)) hg hS) call16 h rfl rfl rfl ?_))
           rintro t82 h _ w ⟨rfl, hS⟩
           refine pn 3 rfl ?_
           refine RL.iteP 84 rfl h (fun hc84 h => ?_) fun hc84 h => ?_
           next =>
            refine pn 2 rfl (cF (fun _ hg => kernel_Kernel_Kept.ok hg hS) call17 h rfl rfl rfl ?_)
            rintro t85 h _ w ⟨rfl, hS⟩
            refine pn 3 rfl (lr ?_)
            obtain rfl := h.some
            exact rt results3 rfl ⟨rfl, hS.d0.d0⟩
           next =>
            refine pn 6 rfl (lr ?_)
            obtain rfl := h.some
            exact rt results3 rfl ⟨rfl, hS.d0.d0⟩
          next =>
           refine pn 31 rfl (lr ?_)
           obtain rfl := h.some
           exact rt results3 rfl ⟨rfl, hS.d0.d0⟩
         next =>
          refine pn 37 rfl (lr ?_)
          obtain rfl := h.some
          exact rt results3 rfl ⟨rfl, hS.d0.d0⟩
        next =>
         refine pn 44 rfl (lr ?_)
         obtain rfl := h.some
         exact rt results3 rfl ⟨rfl, hS.d0.d0⟩
       next =>
        refine pn 50 rfl (lr ?_)
        obtain rfl := h.some
        exact rt results3 rfl ⟨rfl, hS.d0.d0⟩
      next =>
       refine pn 55 rfl (lr ?_)
       obtain rfl := h.some
       exact rt results3 rfl ⟨rfl, hS.d0.d0⟩
     next =>
      refine pn 59 rfl (lr ?_)
      obtain rfl := h.some
      exact rt results3 rfl ⟨rfl, hS.d0.d0⟩
    next =>
     refine pn 64 rfl (lr ?_)
     obtain rfl := h.some
     exact rt results3 rfl ⟨rfl, hS.d0.d0⟩
   next =>
    refine pn 74 rfl (lr ?_)
    obtain rfl := h.some
    exact rt results3 rfl ⟨rfl, hS.d0.d0⟩
  next =>
   refine pn 79 rfl (lr ?_)
   obtain rfl := h.some
   exact rt results3 rfl ⟨rfl, hS.d0.d0⟩

end Go.Proofs.Gx
