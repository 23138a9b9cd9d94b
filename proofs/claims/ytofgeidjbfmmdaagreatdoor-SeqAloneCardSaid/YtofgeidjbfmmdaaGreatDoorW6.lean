/-
  The walks of functions, each with what it computes: printed by wip/gx.py.
-/
import Derived.Test.YtofgeidjbfmmdaaGreatDoorW0
import Derived.Test.YtofgeidjbfmmdaaGreatDoorW5
set_option linter.unusedVariables false
set_option maxRecDepth 100000
set_option maxHeartbeats 4000000
namespace Go.Proofs.Gx
open Go.Sl Tryz
variable {B : Base} {w : World} {l : List HProp} {hf : Hp}
/-! ### (*isochron/vm.cpu).send: function 112 -/
noncomputable def vm_cpu_send.f (a2 : List api_Instr) (a6 : Int) (a7 : List api_Link) (a11 a12 a13 a14 a15 a16 a17 : Int) (a18 : Bool) (a19 : Int) (a22 : List api_Out) (a23 : Int) (fn24 : (Nat → Int)) (a25 : api_Instr) : Option ((List api_Out) ⊕ (vm_fault)) := (if (a7.length : Int) = 0 then some (.inl a22) else (if (a22.length : Int) = 8 then some (.inl a22) else (if 0 ≤ a25.A ∧ a25.A < 16 then (if ¬ (a7.length : Int) = 0 then (if 0 ≤ a25.B ∧ a25.B < 16 then (if 0 ≤ a25.C ∧ a25.C < 16 then (if 0 ≤ Int.tmod (IntKind.i64.wrap ((Int.tmod (fn24 (a25.A.toNat * 1)) (a7.length : Int)) + (a7.length : Int))) (a7.length : Int) ∧ Int.tmod (IntKind.i64.wrap ((Int.tmod (fn24 (a25.A.toNat * 1)) (a7.length : Int)) + (a7.length : Int))) (a7.length : Int) < (a7.length : Int) then (if fn24 (a25.B.toNat * 1) < (nth a7 (Int.tmod (IntKind.i64.wrap ((Int.tmod (fn24 (a25.A.toNat * 1)) (a7.length : Int)) + (a7.length : Int))) (a7.length : Int))).Look then some (.inr ((⟨a23, 50⟩ : vm_fault))) else ((vtime_Add.f a12 (fn24 (a25.B.toNat * 1))).bind fun (y86, y87) => (if y87 = 0 then (if (a22.length + 1) * 24 ≤ 140737488355328 then some (.inl (a22 ++ ([(⟨Int.tmod (IntKind.i64.wrap ((Int.tmod (fn24 (a25.A.toNat * 1)) (a7.length : Int)) + (a7.length : Int))) (a7.length : Int), fn24 (a25.B.toNat * 1), fn24 (a25.C.toNat * 1)⟩ : api_Out)]))) else none) else some (.inr ((⟨a23, y87⟩ : vm_fault)))))) else none) else none) else none) else none) else none)))
theorem vm_cpu_send.ok {a2 : List api_Instr} {a6 : Int} {a7 : List api_Link} {a11 a12 a13 a14 a15 a16 a17 : Int} {a18 : Bool} {a19 : Int} {a22 : List api_Out} {a23 : Int} {fn24 : (Nat → Int)} {a25 : api_Instr} {b1 : Nat} {A3 : Option Addr} {c4 : Nat} {A8 : Option Addr} {c9 : Nat} {A20 : Option Addr} {c21 : Nat} (hr5 : SlR E_api_Instr.rep hf A3 c4 a2) (hr10 : SlR E_api_Link.rep hf A8 c9 a7) {r : (List api_Out) ⊕ (vm_fault)} (h : vm_cpu_send.f a2 a6 a7 a11 a12 a13 a14 a15 a16 a17 a18 a19 a22 a23 fn24 a25 = some r) (hS : St B w (Cl b1 [.slice A3 a2.length c4, .int .i64 a6, .slice A8 a7.length c9, .int .u64 a11, .int .i64 a12, .int .i64 a13, .int .i64 a14, .int .i64 a15, .int .i64 a16, .int .i64 a17, .bool a18, .int .i64 (fn24 0), .int .i64 (fn24 1), .int .i64 (fn24 2), .int .i64 (fn24 3), .int .i64 (fn24 4), .int .i64 (fn24 5), .int .i64 (fn24 6), .int .i64 (fn24 7), .int .i64 (fn24 8), .int .i64 (fn24 9), .int .i64 (fn24 10), .int .i64 (fn24 11), .int .i64 (fn24 12), .int .i64 (fn24 13), .int .i64 (fn24 14), .int .i64 (fn24 15), .int .i64 a19, .slice A20 a22.length c21, .int .i64 a23] 170 :: OSf E_api_Out 176 (.slice A20 a22.length c21) a22 :: l) hf) :
    Calls prog 112 #[.pointer (some ⟨b1, 0, none⟩), .agg #[.int .i64 a25.Op, .int .i64 a25.A, .int .i64 a25.B, .int .i64 a25.C]] w (RetP (fun v w => match (generalizing := false) r with | .inl r_ => ∃ (A_1 : Option Addr) (c_2 : Nat), v = .tuple #[] ∧ St B w (OSf E_api_Out 176 (.slice A_1 r_.length c_2) r_ :: Cl b1 [.slice A3 a2.length c4, .int .i64 a6, .slice A8 a7.length c9, .int .u64 a11, .int .i64 a12, .int .i64 a13, .int .i64 a14, .int .i64 a15, .int .i64 a16, .int .i64 a17, .bool a18, .int .i64 (fn24 0), .int .i64 (fn24 1), .int .i64 (fn24 2), .int .i64 (fn24 3), .int .i64 (fn24 4), .int .i64 (fn24 5), .int .i64 (fn24 6), .int .i64 (fn24 7), .int .i64 (fn24 8), .int .i64 (fn24 9), .int .i64 (fn24 10), .int .i64 (fn24 11), .int .i64 (fn24 12), .int .i64 (fn24 13), .int .i64 (fn24 14), .int .i64 (fn24 15), .int .i64 a19, .slice A_1 r_.length c_2, .int .i64 a23] 170 :: l) hf | .inr (r_) => False) (fun v w => match (generalizing := false) r with | .inl r_ => False | .inr (r_) => v = .iface 173 (.agg #[.int .i64 r_.at_, .int .i64 r_.why]) ∧ St B w (Cl b1 [.slice A3 a2.length c4, .int .i64 a6, .slice A8 a7.length c9, .int .u64 a11, .int .i64 a12, .int .i64 a13, .int .i64 a14, .int .i64 a15, .int .i64 a16, .int .i64 a17, .bool a18, .int .i64 (fn24 0), .int .i64 (fn24 1), .int .i64 (fn24 2), .int .i64 (fn24 3), .int .i64 (fn24 4), .int .i64 (fn24 5), .int .i64 (fn24 6), .int .i64 (fn24 7), .int .i64 (fn24 8), .int .i64 (fn24 9), .int .i64 (fn24 10), .int .i64 (fn24 11), .int .i64 (fn24 12), .int .i64 (fn24 13), .int .i64 (fn24 14), .int .i64 (fn24 15), .int .i64 a19, .slice A20 a22.length c21, .int .i64 a23] 170 :: OSf E_api_Out 176 (.slice A20 a22.length c21) a22 :: l) hf)) := by
  have h := Holds.of h
  refine en func112 rfl ntmps112 rfl (sr (bx hS rfl rfl rfl rfl fun b60 w hS => lnsr (pn 2 rfl (RL.s (Vl.fa 0 underlying170 rfl sizeOf124 rfl rfl) rfl (RL.s (Vl.fa 2 underlying124 rfl sizeOf23 rfl rfl) rfl (RL.s (Vl.ld 1 hS isAgg23 rfl rfl rfl) rfl (RL.s (Vl.lenSl underlying23 rfl) rfl (pn 1 rfl (ln ?_)))))))))
  refine RC.seq (sr (pn 3 rfl ?_))
  refine RL.iteP 16 rfl h (fun hc63 h => ?_) fun hc63 h => ?_
  next =>
   refine pn 7 rfl (ln (RC.condT rfl (RC.ret (RQ.ret ?_))))
   obtain rfl := h.some
   refine RQ.retP (vs := []) results112 trivial ?_
   exact ⟨A20, c21, rfl, hS.d0.p1⟩
  next =>
   refine pn 2 rfl (RL.sg (Vl.fa 28 underlying170 rfl sizeOf128 rfl rfl) rfl rfl (RL.sg (Vl.ld 1 hS isAgg128 rfl rfl rfl) rfl rfl (RL.sg (Vl.lenSl underlying128 rfl) rfl rfl (pn 2 rfl (ln ?_)))))
   refine RC.iteP 23 rfl h (fun hc64 h => ?_) fun hc64 h => ?_
   next =>
    refine RC.condT rfl (RC.ret (RQ.ret ?_))
    obtain rfl := h.some
    refine RQ.retP (vs := []) results112 trivial ?_
    exact ⟨A20, c21, rfl, hS.d0.p1⟩
   next =>
    refine RC.condF rfl (sk (RC.seq (RC.planS (plD [0, 3, 7, 9, 12, 15, 19, 21, 24, 27, 30, 33, 36, 39, 42, 46, 48, 51, 54, 58, 60, 63, 67, 69, 72, 75, 79, 81, 86, 89]) [29] hS (fun w hS => hS) follows rfl (by kernel_rfl) (NoTmp.then NoTmp.body) fun w hS => pp 1 rfl (RP.s0 1 rfl (fun w => Vl.fa 1 underlying134 rfl sizeOf3 rfl rfl) rfl (RP.s 0 2 rfl rfl hS (fun w hS => Vl.ld 0 hS isAgg3 rfl rfl rfl) rfl (pp 1 rfl (RP.s0 4 rfl (fun w => Vl.fa 11 underlying170 rfl sizeOf168 rfl rfl) rfl ?_)))))))
    obtain ⟨⟨hq65, hq66⟩, h⟩ := h.req
    refine RP.s0 5 rfl (fun w => Vl.indexAddrA (a'' := ⟨b1, 11 + a25.A.toNat * 1, none⟩) underlying168 sizeOf2 rfl rfl hq65 hq66 (add_mk _ _ _)) rfl (RP.s 0 6 rfl rfl hS (fun w hS => Vl.load isAgg2 rfl (hS.cell (off := 11 + a25.A.toNat * 1) (cs := [.slice A3 a2.length c4, .int .i64 a6, .slice A8 a7.length c9, .int .u64 a11, .int .i64 a12, .int .i64 a13, .int .i64 a14, .int .i64 a15, .int .i64 a16, .int .i64 a17, .bool a18] ++ (fc (Value.int .i64) 16 fn24 ++ [.int .i64 a19, .slice A20 a22.length c21, .int .i64 a23])) 1 rfl (seg_get rfl (by omega)))) rfl (pp 1 rfl ?_))
    obtain ⟨hq67, h⟩ := h.req
    refine RP.s0 8 rfl (fun w => Vl.rem rfl rfl hq67) rfl (pp 3 rfl (RP.s0 12 rfl (fun w => Vl.rem rfl rfl hq67) rfl (pp 1 rfl (RP.s0 14 rfl (fun w => Vl.fa 2 underlying134 rfl sizeOf3 rfl rfl) rfl (RP.s 0 15 rfl rfl hS (fun w hS => Vl.ld 0 hS isAgg3 rfl rfl rfl) rfl (pp 1 rfl (RP.s0 17 rfl (fun w => Vl.fa 11 underlying170 rfl sizeOf168 rfl rfl) rfl ?_)))))))
    obtain ⟨⟨hq68, hq69⟩, h⟩ := h.req
    refine RP.s0 18 rfl (fun w => Vl.indexAddrA (a'' := ⟨b1, 11 + a25.B.toNat * 1, none⟩) underlying168 sizeOf2 rfl rfl hq68 hq69 (add_mk _ _ _)) rfl (RP.s 0 19 rfl rfl hS (fun w hS => Vl.load isAgg2 rfl (hS.cell (off := 11 + a25.B.toNat * 1) (cs := [.slice A3 a2.length c4, .int .i64 a6, .slice A8 a7.length c9, .int .u64 a11, .int .i64 a12, .int .i64 a13, .int .i64 a14, .int .i64 a15, .int .i64 a16, .int .i64 a17, .bool a18] ++ (fc (Value.int .i64) 16 fn24 ++ [.int .i64 a19, .slice A20 a22.length c21, .int .i64 a23])) 1 rfl (seg_get rfl (by omega)))) rfl (pp 1 rfl (RP.s0 21 rfl (fun w => Vl.fa 3 underlying134 rfl sizeOf3 rfl rfl) rfl (RP.s 0 22 rfl rfl hS (fun w hS => Vl.ld 0 hS isAgg3 rfl rfl rfl) rfl (pp 1 rfl (RP.s0 24 rfl (fun w => Vl.fa 11 underlying170 rfl sizeOf168 rfl rfl) rfl ?_))))))
    obtain ⟨⟨hq70, hq71⟩, h⟩ := h.req
    refine RP.s0 25 rfl (fun w => Vl.indexAddrA (a'' := ⟨b1, 11 + a25.C.toNat * 1, none⟩) underlying168 sizeOf2 rfl rfl hq70 hq71 (add_mk _ _ _)) rfl (RP.s 0 26 rfl rfl hS (fun w hS => Vl.load isAgg2 rfl (hS.cell (off := 11 + a25.C.toNat * 1) (cs := [.slice A3 a2.length c4, .int .i64 a6, .slice A8 a7.length c9, .int .u64 a11, .int .i64 a12, .int .i64 a13, .int .i64 a14, .int .i64 a15, .int .i64 a16, .int .i64 a17, .bool a18] ++ (fc (Value.int .i64) 16 fn24 ++ [.int .i64 a19, .slice A20 a22.length c21, .int .i64 a23])) 1 rfl (seg_get rfl (by omega)))) rfl (RP.s0 27 rfl (fun w => Vl.build (v := .agg #[.int .i64 (Int.tmod (IntKind.i64.wrap ((Int.tmod (fn24 (a25.A.toNat * 1)) (a7.length : Int)) + (a7.length : Int))) (a7.length : Int)), .int .i64 (fn24 (a25.B.toNat * 1)), .int .i64 (fn24 (a25.C.toNat * 1))]) (parts := [(0, .tmp 36), (1, .tmp 43), (2, .tmp 50)]) rfl (by kernel_rfl)) rfl (RP.e 28 rfl (OW.alloc (cs := [.int .i64 0, .int .i64 0, .int .i64 0]) hS zeroValue176 rfl) rfl rfl ?_)))
    rintro _ w ⟨b72, rfl, hS⟩
    refine ⟨kp ⟨fun _ => hS.d0, trivial⟩, ?_⟩
    refine RP.e0 29 rfl (OW.store (vs := [.int .i64 (Int.tmod (IntKind.i64.wrap ((Int.tmod (fn24 (a25.A.toNat * 1)) (a7.length : Int)) + (a7.length : Int))) (a7.length : Int)), .int .i64 (fn24 (a25.B.toNat * 1)), .int .i64 (fn24 (a25.C.toNat * 1))]) 0 hS rfl rfl rfl rfl sizeOf176 rfl rfl rfl rfl) rfl ?_
    rintro _ w ⟨rfl, hS⟩
    have hS : St B w (Cl _ [_, _, _] _ :: _ :: _ :: _ :: l) hf := hS
    refine ⟨kp ⟨(by intro hx; cases hx), trivial⟩, ?_⟩
    refine RP.nil (RQ.then_n (RC.seq (RC.seq (RC.planS (plD [0, 4, 6, 9, 12, 15, 19, 23, 26, 29, 32, 35, 38]) [12] hS (fun w hS => hS) follows rfl (by kernel_rfl) (NoTmp.then (NoTmp.then NoTmp.body)) fun w hS => RP.s0 0 rfl (fun w => Vl.fa 1 underlying176 rfl sizeOf2 rfl rfl) rfl (RP.s 0 1 rfl rfl hS (fun w hS => Vl.ld 0 hS isAgg2 rfl rfl rfl) rfl (pp 2 rfl (RP.s0 4 rfl (fun w => Vl.fa 0 underlying170 rfl sizeOf124 rfl rfl) rfl (RP.s0 5 rfl (fun w => Vl.fa 2 underlying124 rfl sizeOf23 rfl rfl) rfl (RP.s 0 6 rfl rfl hS (fun w hS => Vl.ld 2 hS isAgg23 rfl rfl rfl) rfl (RP.v1 7 rfl (Vl.fa 0 underlying176 rfl sizeOf3 rfl rfl) rfl rfl (RP.v1 8 rfl (Vl.ld 0 hS isAgg3 rfl rfl rfl) rfl rfl ?_)))))))))))
    obtain ⟨⟨hq76, hq77⟩, h⟩ := h.req
    refine RP.v1 9 rfl (Vl.indexAddr underlying23 sizeOf136 rfl rfl ((hr10.2.world hS.sub).adr hq76 hq77) hq76 hq77 rfl) rfl rfl (RP.v1 10 rfl (Vl.fieldAddr (a'' := (ad A8).add ((Int.tmod (IntKind.i64.wrap ((Int.tmod (fn24 (a25.A.toNat * 1)) (a7.length : Int)) + (a7.length : Int))) (a7.length : Int)).toNat * 4 + 2)) underlying136 rfl sizeOf2 rfl (add_add _ _ _)) rfl rfl (RP.v1 11 rfl (Vl.load isAgg2 rfl ((hr10.2.world hS.sub).cell (j := 2) hq76 hq77 rfl)) rfl rfl (RP.v1 12 rfl (Vl.int rfl rfl rfl) rfl rfl (RP.nil (RQ.then_n ?_)))))
    refine RC.iteP 64 rfl h (fun hc78 h => ?_) fun hc78 h => ?_
    next =>
     refine RC.condT rfl (RC.region (pn 2 rfl (RL.s (Vl.fa 29 underlying170 rfl sizeOf3 rfl rfl) rfl (RL.s (Vl.ld 2 hS isAgg3 rfl rfl rfl) rfl (RL.s (Vl.build (v := .agg #[.int .i64 a23, .int .i64 50]) (parts := [(0, .tmp 68), (1, .const (.int .i64 50))]) rfl (by kernel_rfl)) rfl (RL.s (Vl.makeIface underlying173 rfl rfl) rfl (RL.panic rfl (RQ.panT ?_))))))))
     obtain rfl := h.some
     refine RQ.pan0 ?_
     exact ⟨rfl, hS.d0.d0⟩
    next =>
     refine RC.condF rfl (sk (RC.seq (RC.seq (RC.planS (plD [0, 3, 6, 9, 12, 16, 18, 22, 26, 27, 30, 33, 38, 41]) [12, 13] hS (fun w hS => hS) follows rfl (by kernel_rfl) (NoTmp.then (NoTmp.then NoTmp.body)) fun w hS => pp 2 rfl (RP.s0 2 rfl (fun w => Vl.fa 4 underlying170 rfl sizeOf53 rfl rfl) rfl (RP.s0 3 rfl (fun w => Vl.fa 4 underlying53 rfl sizeOf42 rfl rfl) rfl (RP.s0 4 rfl (fun w => Vl.fa 4 underlying42 rfl sizeOf2 rfl rfl) rfl (RP.s 0 5 rfl rfl hS (fun w hS => Vl.ld 2 hS isAgg2 rfl rfl rfl) rfl (RP.s0 6 rfl (fun w => Vl.fa 1 underlying176 rfl sizeOf2 rfl rfl) rfl (RP.s 0 7 rfl rfl hS (fun w hS => Vl.ld 0 hS isAgg2 rfl rfl rfl) rfl ?_))))))))))
     obtain ⟨t84, hg85, h⟩ := h.bind
     have hc := vtime_Add.ok hg85 hS
     obtain ⟨y86, y87⟩ := t84
     refine RP.e 8 rfl (OW.callF (ls := [.tmp 77, .tmp 79]) rfl call125 hc) rfl rfl ?_
     rintro _ w ⟨rfl, hS⟩
     refine ⟨kp ⟨fun _ => hS, trivial⟩, ?_⟩
     refine pp 3 rfl (RP.v1 12 rfl (Vl.assign rfl) rfl rfl (RP.v1 13 rfl (Vl.assign rfl) rfl rfl (RP.nil (tsr (pn 2 rfl (ln ?_))))))
     refine RC.iteN 84 rfl h (fun hc88 h => ?_) fun hc88 h => ?_
     next =>
      refine RC.condF rfl (sk (RC.planS (plD [0, 3, 6, 9, 13, 17, 20, 23, 26, 29, 32]) [7, 8, 9, 10] hS (fun w hS => hS) follows rfl (by kernel_rfl) NoTmp.body fun w hS => pp 3 rfl (RP.s0 3 rfl (fun w => Vl.fa 28 underlying170 rfl sizeOf128 rfl rfl) rfl (RP.s 0 4 rfl rfl hS (fun w hS => Vl.ld 2 hS isAgg128 rfl rfl rfl) rfl (RP.v1 5 rfl (Vl.lw 0 hS isAgg176 sizeOf176 rfl rfl rfl) rfl rfl (RP.e 6 rfl (OW.buildSlice (E := E_api_Out) (xs := [(⟨Int.tmod (IntKind.i64.wrap ((Int.tmod (fn24 (a25.A.toNat * 1)) (a7.length : Int)) + (a7.length : Int))) (a7.length : Int), fn24 (a25.B.toNat * 1), fn24 (a25.C.toNat * 1)⟩ : api_Out)]) (cs := [.int .i64 (Int.tmod (IntKind.i64.wrap ((Int.tmod (fn24 (a25.A.toNat * 1)) (a7.length : Int)) + (a7.length : Int))) (a7.length : Int)), .int .i64 (fn24 (a25.B.toNat * 1)), .int .i64 (fn24 (a25.C.toNat * 1))]) hS underlying128 zeroValue176 sizeOf176 (parts := [(0, .tmp 97)]) rfl rfl (by decide) (by decide) (by kernel_rfl) rfl) rfl rfl ?_))))))
      rintro _ w ⟨b89, rfl, hS⟩
      refine ⟨kp ⟨fun _ => hS.d0, trivial⟩, ?_⟩
      obtain ⟨hq90, h⟩ := h.req
      refine RP.e 7 rfl (OW.append (E := E_api_Out) (xs := a22) (ys := [(⟨Int.tmod (IntKind.i64.wrap ((Int.tmod (fn24 (a25.A.toNat * 1)) (a7.length : Int)) + (a7.length : Int))) (a7.length : Int), fn24 (a25.B.toNat * 1), fn24 (a25.C.toNat * 1)⟩ : api_Out)]) 4 hS rfl underlying128 type176 rfl rfl rfl rfl (by decide) rfl rfl rfl (hS.slW 0 rfl).2.2.flat (by simp only [maxLen, List.length_cons, List.length_nil] at *; omega) hq90 rfl) rfl rfl ?_
      rintro v93 w hS
      obtain ⟨A91, c92, rfl, _⟩ := hS.osShape 0 rfl
      have hS : St B w (_ :: _ :: _ :: _ :: _ :: l) hf := hS
      refine ⟨kp ⟨(by intro hx; cases hx), trivial⟩, ?_⟩
      refine RP.v1 8 rfl (Vl.nilCheck rfl) rfl rfl (RP.v1 9 rfl (Vl.fa 28 underlying170 rfl sizeOf128 rfl rfl) rfl rfl (RP.e0 10 rfl (OW.store (vs := [.slice A91 (a22 ++ ([(⟨Int.tmod (IntKind.i64.wrap ((Int.tmod (fn24 (a25.A.toNat * 1)) (a7.length : Int)) + (a7.length : Int))) (a7.length : Int), fn24 (a25.B.toNat * 1), fn24 (a25.C.toNat * 1)⟩ : api_Out)])).length c92]) 4 hS rfl rfl rfl rfl sizeOf128 rfl rfl rfl rfl) rfl ?_))
      rintro _ w ⟨rfl, hS⟩
      have hS : St B w (_ :: _ :: _ :: _ :: Cl b1 [.slice A3 a2.length c4, .int .i64 a6, .slice A8 a7.length c9, .int .u64 a11, .int .i64 a12, .int .i64 a13, .int .i64 a14, .int .i64 a15, .int .i64 a16, .int .i64 a17, .bool a18, .int .i64 (fn24 0), .int .i64 (fn24 1), .int .i64 (fn24 2), .int .i64 (fn24 3), .int .i64 (fn24 4), .int .i64 (fn24 5), .int .i64 (fn24 6), .int .i64 (fn24 7), .int .i64 (fn24 8), .int .i64 (fn24 9), .int .i64 (fn24 10), .int .i64 (fn24 11), .int .i64 (fn24 12), .int .i64 (fn24 13), .int .i64 (fn24 14), .int .i64 (fn24 15), .int .i64 a19, .slice A91 (a22 ++ ([(⟨Int.tmod (IntKind.i64.wrap ((Int.tmod (fn24 (a25.A.toNat * 1)) (a7.length : Int)) + (a7.length : Int))) (a7.length : Int), fn24 (a25.B.toNat * 1), fn24 (a25.C.toNat * 1)⟩ : api_Out)])).length c92, .int .i64 a23] 170 :: l) hf := hS
      refine ⟨kp ⟨(by intro hx; cases hx), trivial⟩, ?_⟩
      refine RP.nil ?_
      obtain rfl := h.some
      refine RQ.endP (vs := []) results112 trivial ?_
      exact ⟨A91, c92, rfl, hS.d1.d1.d1⟩
     next =>
      refine RC.condT rfl (RC.region (pn 2 rfl (RL.s (Vl.fa 29 underlying170 rfl sizeOf3 rfl rfl) rfl (RL.s (Vl.ld 2 hS isAgg3 rfl rfl rfl) rfl (pn 1 rfl (RL.s (Vl.build (v := .agg #[.int .i64 a23, .int .i64 y87]) (parts := [(0, .tmp 88), (1, .tmp 89)]) rfl (by kernel_rfl)) rfl (RL.s (Vl.makeIface underlying173 rfl rfl) rfl (RL.panic rfl (RQ.panT ?_)))))))))
      obtain rfl := h.some
      refine RQ.pan0 ?_
      exact ⟨rfl, hS.d0.d0⟩

/-! ### (isochron/draw.word).fold: function 131 -/
noncomputable def draw_word_fold.f (a1 : draw_word) (a2 : Int) : Option (Int) := (if 0 ≤ a2 then some (IntKind.u64.wrap (BitVec.ofInt IntKind.u64.bits a1.x ^^^ BitVec.ofInt IntKind.u64.bits (Int.fdiv a1.x (2 ^ (min (a2 : Int).toNat IntKind.u64.bits)))).toNat) else none)
theorem draw_word_fold.ok {a1 : draw_word} {a2 : Int} {r : Int} (h : draw_word_fold.f a1 a2 = some r) (hS : St B w (l) hf) :
    Calls prog 131 #[.agg #[.int .u64 a1.x], .int .u64 a2] w (Ret fun v w => v = .int .u64 r ∧ St B w (l) hf) := by
  have h := Holds.of h
  refine en func131 rfl ntmps131 rfl (sr (bx hS rfl rfl rfl rfl fun b5 w hS => pn 1 rfl (lnsr (RL.s (Vl.fa 0 underlying219 rfl sizeOf25 rfl rfl) rfl (RL.s (Vl.ld 0 hS isAgg25 rfl rfl rfl) rfl (RL.s (Vl.fa 0 underlying219 rfl sizeOf25 rfl rfl) rfl (RL.s (Vl.ld 0 hS isAgg25 rfl rfl rfl) rfl (pn 1 rfl ?_))))))))
  obtain ⟨hq6, h⟩ := h.req
  refine RL.s (Vl.shr rfl rfl hq6) rfl (pn 2 rfl (lr ?_))
  obtain rfl := h.some
  exact rt results131 rfl ⟨rfl, hS.d0⟩

/-! ### (isochron/draw.mixer).times: function 130 -/
noncomputable def draw_mixer_times.f (a1 : draw_mixer) (a2 a3 : Int) : Option (draw_mixer) := ((draw_word_fold.f a1.word a2).bind fun t10 => some (⟨(⟨IntKind.u64.wrap (t10 * a3)⟩ : draw_word)⟩ : draw_mixer))
theorem draw_mixer_times.ok {a1 : draw_mixer} {a2 a3 : Int} {r : draw_mixer} (h : draw_mixer_times.f a1 a2 a3 = some r) (hS : St B w (l) hf) :
    Calls prog 130 #[.agg #[.int .u64 a1.word.x], .int .u64 a2, .int .u64 a3] w (Ret fun v w => v = .agg #[.int .u64 r.word.x] ∧ St B w (l) hf) := by
  have h := Holds.of h
  refine en func130 rfl ntmps130 rfl (sr (bx hS rfl rfl rfl rfl fun b8 w hS => al hS zeroValue221 rfl rfl rfl fun b9 w hS => lnsr (RL.s (Vl.fa 0 underlying221 rfl sizeOf219 rfl rfl) rfl (RL.s (Vl.lw 1 hS isAgg219 sizeOf219 rfl rfl rfl) rfl (pn 1 rfl (cF (fun _ hg => draw_word_fold.ok hg hS) call131 h rfl rfl rfl ?_))))))
  rintro t10 h _ w ⟨rfl, hS⟩
  refine pn 2 rfl (RL.s (Vl.build (v := .agg #[.int .u64 (IntKind.u64.wrap (t10 * a3))]) (parts := [(0, .tmp 12)]) rfl (by kernel_rfl)) rfl (RL.s (Vl.build (v := .agg #[.int .u64 (IntKind.u64.wrap (t10 * a3))]) (parts := [(0, .tmp 13)]) rfl (by kernel_rfl)) rfl (RL.e0 (OW.store (vs := [.int .u64 (IntKind.u64.wrap (t10 * a3))]) 0 hS rfl rfl rfl rfl sizeOf221 rfl rfl rfl rfl) rfl ?_)))
  rintro _ w ⟨rfl, hS⟩
  have hS : St B w (Cl _ [_] _ :: _ :: l) hf := hS
  refine lr ?_
  obtain rfl := h.some
  refine RQ.ret0 (vs := [.agg #[.int .u64 (IntKind.u64.wrap (t10 * a3))]]) results130 ⟨⟨_, rfl, run_loadVarA (vs := [.int .u64 (IntKind.u64.wrap (t10 * a3))]) isAgg221 sizeOf221 rfl (hS.cellsAt 0 rfl rfl)⟩, trivial⟩ ?_
  exact ⟨rfl, hS.d0.d0⟩

/-! ### isochron/draw.Mix: function 129 -/
noncomputable def draw_Mix.f (a1 : Int) : Option (Int) := ((draw_mixer_times.f (⟨(⟨IntKind.u64.wrap (a1 + 11400714819323198485)⟩ : draw_word)⟩ : draw_mixer) 30 13787848793156543929).bind fun t9 => ((draw_mixer_times.f t9 27 10723151780598845931).bind fun t12 => ((draw_word_fold.f t12.word 31).bind fun t14 => some t14)))
theorem draw_Mix.ok {a1 : Int} {r : Int} (h : draw_Mix.f a1 = some r) (hS : St B w (l) hf) :
    Calls prog 129 #[.int .u64 a1] w (Ret fun v w => v = .int .u64 r ∧ St B w (l) hf) := by
  have h := Holds.of h
  refine en func129 rfl ntmps129 rfl (sr (pn 1 rfl (lnsr (pn 1 rfl (lnsr (pn 3 rfl (RL.s (Vl.build (v := .agg #[.int .u64 (IntKind.u64.wrap (a1 + 11400714819323198485))]) (parts := [(0, .tmp 7)]) rfl (by kernel_rfl)) rfl (RL.s (Vl.build (v := .agg #[.int .u64 (IntKind.u64.wrap (a1 + 11400714819323198485))]) (parts := [(0, .tmp 8)]) rfl (by kernel_rfl)) rfl ?_))))))))
  obtain ⟨t9, hg10, h⟩ := h.bind
  have hc := draw_mixer_times.ok hg10 hS
  refine RL.e (OW.call (ls := [.tmp 9, .const (.int .u64 30), .const (.int .u64 13787848793156543929)]) rfl rfl call130 rfl hc) rfl rfl ?_
  rintro _ w ⟨rfl, hS⟩
  refine al hS zeroValue221 rfl rfl rfl fun b11 w hS => RL.e0 (OW.store (vs := [.int .u64 t9.word.x]) 0 hS rfl rfl rfl rfl sizeOf221 rfl rfl rfl rfl) rfl ?_
  rintro _ w ⟨rfl, hS⟩
  have hS : St B w (Cl _ [_] _ :: l) hf := hS
  refine lnsr (pn 1 rfl (RL.s (Vl.lw 0 hS isAgg221 sizeOf221 rfl rfl rfl) rfl ?_))
  obtain ⟨t12, hg13, h⟩ := h.bind
  have hc := draw_mixer_times.ok hg13 hS
  refine RL.e (OW.call (ls := [.tmp 12, .const (.int .u64 27), .const (.int .u64 10723151780598845931)]) rfl rfl call130 rfl hc) rfl rfl ?_
  rintro _ w ⟨rfl, hS⟩
  refine RL.s (Vl.field (v := .agg #[.int .u64 t12.word.x]) underlying221 rfl rfl (run_partA isAgg219 sizeOf219)) rfl (cF (fun _ hg => draw_word_fold.ok hg hS) call131 h rfl rfl rfl ?_)
  rintro t14 h _ w ⟨rfl, hS⟩
  refine pn 1 rfl (lr ?_)
  obtain rfl := h.some
  exact rt results129 rfl ⟨rfl, hS.d0⟩

/-! ### isochron/draw.At: function 128 -/
noncomputable def draw_At.l2b (a2 a3 : Int) : Int × Int → Option ((Int × Int) ⊕ (Int))
  | (x41, x42) => (if x42 < 2 then (if 0 ≤ x42 then ((draw_Mix.f (IntKind.u64.wrap (x41 + (IntKind.u64.wrap (nth ([a2, a3] : List Int) x42))))).bind fun t60 => some (.inl (t60, IntKind.i64.wrap (x42 + 1)))) else none) else some (.inr x41))
noncomputable def draw_At.l2 (a2 a3 : Int) (s : Int × Int) : Option (Int) := loopR (draw_At.l2b a2 a3) s
noncomputable def draw_At.f (a1 a2 a3 : Int) : Option (Int) := ((draw_Mix.f a1).bind fun t33 => draw_At.l2 a2 a3 (t33, 0))
theorem draw_At.ok {a1 a2 a3 : Int} {r : Int} (h : draw_At.f a1 a2 a3 = some r) (hS : St B w (l) hf) :
    Calls prog 128 #[.int .u64 a1, .int .i64 a2, .int .i64 a3] w (Ret fun v w => v = .int .u64 r ∧ St B w (l) hf) := by
  have h := Holds.of h
  refine en func128 rfl ntmps128 rfl (sr (pn 1 rfl (lnsr (pn 1 rfl (cF (fun _ hg => draw_Mix.ok hg hS) call129 h rfl rfl rfl ?_)))))
  rintro t33 h _ w ⟨rfl, hS⟩
  refine pn 1 rfl (ln (RC.seq (sr (pn 2 rfl (RL.s (Vl.build (v := .agg #[.int .i64 a2, .int .i64 a3]) (parts := [(0, .tmp 12), (1, .tmp 13)]) rfl (by kernel_rfl)) rfl (pn 1 rfl (ln (RC.block ?_))))))))
  refine fun a ha => RC.loop (N := 25) (body := (draw_At.l2b a2 a3)) (φ := (· = r)) (fun (s : Int × Int) a w => ∃ (x41 : Int) (x42 : Int), s = (x41, x42) ∧ Has 25 [(7, .int .u64 x41), (14, .agg #[.int .i64 a2, .int .i64 a3]), (15, .int .i64 x42)] a ∧ St B w (l) hf) ?_ (s0 := (t33, 0)) h ⟨t33, 0, rfl, ha.to ⟨rfl, rfl, rfl, trivial⟩, hS⟩
  rintro G53 _ a w ⟨x41, x42, rfl, ha, hS⟩ h
  revert a
  show RC _ _ _ _ _ _
  refine sr (pn 1 rfl (ln (RC.seq ?_)))
  refine RC.iteP 16 rfl h (fun hc55 h => ?_) fun hc55 h => ?_
  next =>
   refine RC.condT rfl (sk (RC.seq (RC.block (sr ?_))))
   obtain ⟨hq59, h⟩ := h.req
   refine RL.s (Vl.indexMap (f := (Value.int .i64)) (l := ([a2, a3] : List Int)) underlying215 sizeOf3 isAgg3 rfl rfl rfl hq59 hc55) rfl (pn 1 rfl (ln (RC.region (pn 2 rfl (RL.s (Vl.conv underlying3 underlying25 rfl) rfl (pn 1 rfl (cF (fun _ hg => draw_Mix.ok hg hS) call129 h rfl rfl rfl ?_)))))))
   rintro t60 h _ w ⟨rfl, hS⟩
   refine pn 1 rfl (RL.nil (RQ.inB_n (RQ.then_n (RC.region (pn 2 rfl (RL.nil ?_))))))
   exact fun a ha => ⟨(t60, IntKind.i64.wrap (x42 + 1)), ⟨t60, (IntKind.i64.wrap (x42 + 1)), rfl, ha.to ⟨rfl, rfl, rfl, trivial⟩, hS⟩, h.some⟩
  next =>
   refine RC.condF rfl (RC.exit (RQ.exitT ?_))
   have h := h.inrS
   refine RQ.exitT (RQ.inB_hit (tsr (pn 2 rfl (lr ?_))))
   obtain rfl := h.some
   exact rt results128 rfl ⟨rfl, hS⟩

/-! ### isochron/draw.Below: function 126 -/
noncomputable def draw_Below.f (a1 a2 a3 a4 : Int) : Option (Int) := (if a4 ≤ 0 then some 0 else ((draw_At.f a1 a2 a3).bind fun t12 => (if ¬ (IntKind.u64.wrap a4) = 0 then some (IntKind.i64.wrap (Int.tmod t12 (IntKind.u64.wrap a4))) else none)))
theorem draw_Below.ok {a1 a2 a3 a4 : Int} {r : Int} (h : draw_Below.f a1 a2 a3 a4 = some r) (hS : St B w (l) hf) :
    Calls prog 126 #[.int .u64 a1, .int .i64 a2, .int .i64 a3, .int .i64 a4] w (Ret fun v w => v = .int .i64 r ∧ St B w (l) hf) := by
  have h := Holds.of h
  refine en func126 rfl ntmps126 rfl (sr (pn 1 rfl (ln (RC.seq (sr (pn 2 rfl (ln ?_)))))))
  refine RC.iteP 10 rfl h (fun hc11 h => ?_) fun hc11 h => ?_
  next =>
   refine RC.condT rfl (sr (pn 1 rfl (lr (RQ.ret ?_))))
   obtain rfl := h.some
   exact rt results126 rfl ⟨rfl, hS⟩
  next =>
   refine RC.condF rfl (sk (sr (pn 3 rfl (cF (fun _ hg => draw_At.ok hg hS) call128 h rfl rfl rfl ?_))))
   rintro t12 h _ w ⟨rfl, hS⟩
   refine pn 1 rfl (RL.s (Vl.conv underlying2 underlying25 rfl) rfl ?_)
   obtain ⟨hq14, h⟩ := h.req
   refine RL.s (Vl.rem rfl rfl hq14) rfl (RL.s (Vl.conv underlying25 underlying2 rfl) rfl (pn 1 rfl (lr ?_)))
   obtain rfl := h.some
   exact rt results126 rfl ⟨rfl, hS⟩

/-! ### (*isochron/vm.cpu).draw: function 113 -/
noncomputable def vm_cpu_draw.f (a2 : List api_Instr) (a6 : Int) (a7 : List api_Link) (a11 a12 a13 a14 a15 a16 a17 : Int) (a18 : Bool) (a19 : Int) (a22 : List api_Out) (a23 : Int) (fn24 : (Nat → Int)) (a25 : api_Instr) : Option ((Nat → Int) × Int) := (if 0 ≤ a25.B ∧ a25.B < 16 then ((draw_Below.f a11 a6 a19 (fn24 (a25.B.toNat * 1))).bind fun t36 => (if 0 ≤ a25.A ∧ a25.A < 16 then some (upd fn24 (a25.A.toNat * 1) t36, IntKind.i64.wrap (a19 + 1)) else none)) else none)
theorem vm_cpu_draw.ok {a2 : List api_Instr} {a6 : Int} {a7 : List api_Link} {a11 a12 a13 a14 a15 a16 a17 : Int} {a18 : Bool} {a19 : Int} {a22 : List api_Out} {a23 : Int} {fn24 : (Nat → Int)} {a25 : api_Instr} {b1 : Nat} {A3 : Option Addr} {c4 : Nat} {A8 : Option Addr} {c9 : Nat} {A20 : Option Addr} {c21 : Nat} (hr5 : SlR E_api_Instr.rep hf A3 c4 a2) (hr10 : SlR E_api_Link.rep hf A8 c9 a7) {r : (Nat → Int) × Int} (h : vm_cpu_draw.f a2 a6 a7 a11 a12 a13 a14 a15 a16 a17 a18 a19 a22 a23 fn24 a25 = some r) (hS : St B w (Cl b1 [.slice A3 a2.length c4, .int .i64 a6, .slice A8 a7.length c9, .int .u64 a11, .int .i64 a12, .int .i64 a13, .int .i64 a14, .int .i64 a15, .int .i64 a16, .int .i64 a17, .bool a18, .int .i64 (fn24 0), .int .i64 (fn24 1), .int .i64 (fn24 2), .int .i64 (fn24 3), .int .i64 (fn24 4), .int .i64 (fn24 5), .int .i64 (fn24 6), .int .i64 (fn24 7), .int .i64 (fn24 8), .int .i64 (fn24 9), .int .i64 (fn24 10), .int .i64 (fn24 11), .int .i64 (fn24 12), .int .i64 (fn24 13), .int .i64 (fn24 14), .int .i64 (fn24 15), .int .i64 a19, .slice A20 a22.length c21, .int .i64 a23] 170 :: OSf E_api_Out 176 (.slice A20 a22.length c21) a22 :: l) hf) :
    Calls prog 113 #[.pointer (some ⟨b1, 0, none⟩), .agg #[.int .i64 a25.Op, .int .i64 a25.A, .int .i64 a25.B, .int .i64 a25.C]] w (Ret fun v w => v = .tuple #[] ∧ St B w (Cl b1 [.slice A3 a2.length c4, .int .i64 a6, .slice A8 a7.length c9, .int .u64 a11, .int .i64 a12, .int .i64 a13, .int .i64 a14, .int .i64 a15, .int .i64 a16, .int .i64 a17, .bool a18, .int .i64 (r.1 0), .int .i64 (r.1 1), .int .i64 (r.1 2), .int .i64 (r.1 3), .int .i64 (r.1 4), .int .i64 (r.1 5), .int .i64 (r.1 6), .int .i64 (r.1 7), .int .i64 (r.1 8), .int .i64 (r.1 9), .int .i64 (r.1 10), .int .i64 (r.1 11), .int .i64 (r.1 12), .int .i64 (r.1 13), .int .i64 (r.1 14), .int .i64 (r.1 15), .int .i64 r.2, .slice A20 a22.length c21, .int .i64 a23] 170 :: OSf E_api_Out 176 (.slice A20 a22.length c21) a22 :: l) hf) := by
  have h := Holds.of h
  refine en func113 rfl ntmps113 rfl (sr (bx hS rfl rfl rfl rfl fun b33 w hS => ln (RC.seq (RC.planS (plD [0, 3, 7, 9, 12, 15, 18, 22, 24, 27, 30, 33, 37, 39, 42, 45, 49, 51, 54, 58, 60, 63, 66, 70, 75, 78, 74, 83, 86]) [27, 28] hS (fun w hS => hS) follows rfl (by kernel_rfl) (NoTmp.then NoTmp.body) fun w hS => pp 1 rfl (RP.s0 1 rfl (fun w => Vl.fa 1 underlying134 rfl sizeOf3 rfl rfl) rfl (RP.s 0 2 rfl rfl hS (fun w hS => Vl.ld 0 hS isAgg3 rfl rfl rfl) rfl (pp 2 rfl (RP.s0 5 rfl (fun w => Vl.fa 0 underlying170 rfl sizeOf124 rfl rfl) rfl (RP.s0 6 rfl (fun w => Vl.fa 3 underlying124 rfl sizeOf25 rfl rfl) rfl (RP.s 0 7 rfl rfl hS (fun w hS => Vl.ld 1 hS isAgg25 rfl rfl rfl) rfl (pp 2 rfl ?_)))))))))))
  refine RP.s0 10 rfl (fun w => Vl.fa 0 underlying170 rfl sizeOf124 rfl rfl) rfl (RP.s0 11 rfl (fun w => Vl.fa 1 underlying124 rfl sizeOf3 rfl rfl) rfl (RP.s 0 12 rfl rfl hS (fun w hS => Vl.ld 1 hS isAgg3 rfl rfl rfl) rfl (pp 2 rfl (RP.s0 15 rfl (fun w => Vl.fa 27 underlying170 rfl sizeOf3 rfl rfl) rfl (RP.s 0 16 rfl rfl hS (fun w hS => Vl.ld 1 hS isAgg3 rfl rfl rfl) rfl (pp 1 rfl (RP.s0 18 rfl (fun w => Vl.fa 2 underlying134 rfl sizeOf3 rfl rfl) rfl (RP.s 0 19 rfl rfl hS (fun w hS => Vl.ld 0 hS isAgg3 rfl rfl rfl) rfl (pp 1 rfl (RP.s0 21 rfl (fun w => Vl.fa 11 underlying170 rfl sizeOf168 rfl rfl) rfl ?_))))))))))
  obtain ⟨⟨hq34, hq35⟩, h⟩ := h.req
  refine RP.s0 22 rfl (fun w => Vl.indexAddrA (a'' := ⟨b1, 11 + a25.B.toNat * 1, none⟩) underlying168 sizeOf2 rfl rfl hq34 hq35 (add_mk _ _ _)) rfl (RP.s 0 23 rfl rfl hS (fun w hS => Vl.load isAgg2 rfl (hS.cell (off := 11 + a25.B.toNat * 1) (cs := [.slice A3 a2.length c4, .int .i64 a6, .slice A8 a7.length c9, .int .u64 a11, .int .i64 a12, .int .i64 a13, .int .i64 a14, .int .i64 a15, .int .i64 a16, .int .i64 a17, .bool a18] ++ (fc (Value.int .i64) 16 fn24 ++ [.int .i64 a19, .slice A20 a22.length c21, .int .i64 a23])) 1 rfl (seg_get rfl (by omega)))) rfl (pp 1 rfl (RP.s0 26 rfl (fun w => Vl.fa 11 underlying170 rfl sizeOf168 rfl rfl) rfl ?_)))
  obtain ⟨t36, hg37, h⟩ := h.bind
  have hc := draw_Below.ok hg37 hS
  refine RP.e 24 rfl (OW.callF (ls := [.tmp 11, .tmp 16, .tmp 20, .tmp 27]) rfl call126 hc) rfl rfl ?_
  rintro _ w ⟨rfl, hS⟩
  refine ⟨kp ⟨fun _ => hS, trivial⟩, ?_⟩
  obtain ⟨⟨hq38, hq39⟩, h⟩ := h.req
  refine RP.v1 27 rfl (Vl.indexAddrA (a'' := ⟨b1, 11 + a25.A.toNat * 1, none⟩) underlying168 sizeOf2 rfl rfl hq38 hq39 (add_mk _ _ _)) rfl rfl (RP.e0 28 rfl (OW.storeSeg (mk := (Value.int .i64)) (f := fn24) (n := 16) (m := 11) (pre := [.slice A3 a2.length c4, .int .i64 a6, .slice A8 a7.length c9, .int .u64 a11, .int .i64 a12, .int .i64 a13, .int .i64 a14, .int .i64 a15, .int .i64 a16, .int .i64 a17, .bool a18]) (post := [.int .i64 a19, .slice A20 a22.length c21, .int .i64 a23]) 1 hS rfl rfl rfl rfl sizeOf2 (by omega) (fun _ => rfl) (fun _ => rfl) rfl) rfl ?_)
  rintro _ w ⟨rfl, hS⟩
  have hS : St B w (_ :: _ :: _ :: l) hf := hS
  refine ⟨kp ⟨(by intro hx; cases hx), trivial⟩, ?_⟩
  refine RP.nil (RQ.then_n (RC.region (pn 2 rfl (RL.s (Vl.fa 27 underlying170 rfl sizeOf3 rfl rfl) rfl (RL.s (Vl.ld 1 hS isAgg3 rfl rfl rfl) rfl (pn 2 rfl (RL.s (Vl.fa 27 underlying170 rfl sizeOf3 rfl rfl) rfl (RL.e0 (OW.store (vs := [.int .i64 (IntKind.i64.wrap (a19 + 1))]) 1 hS rfl rfl rfl rfl sizeOf3 rfl rfl rfl rfl) rfl ?_))))))))
  rintro _ w ⟨rfl, hS⟩
  have hS : St B w (_ :: Cl b1 [.slice A3 a2.length c4, .int .i64 a6, .slice A8 a7.length c9, .int .u64 a11, .int .i64 a12, .int .i64 a13, .int .i64 a14, .int .i64 a15, .int .i64 a16, .int .i64 a17, .bool a18, .int .i64 ((upd fn24 (a25.A.toNat * 1) t36) 0), .int .i64 ((upd fn24 (a25.A.toNat * 1) t36) 1), .int .i64 ((upd fn24 (a25.A.toNat * 1) t36) 2), .int .i64 ((upd fn24 (a25.A.toNat * 1) t36) 3), .int .i64 ((upd fn24 (a25.A.toNat * 1) t36) 4), .int .i64 ((upd fn24 (a25.A.toNat * 1) t36) 5), .int .i64 ((upd fn24 (a25.A.toNat * 1) t36) 6), .int .i64 ((upd fn24 (a25.A.toNat * 1) t36) 7), .int .i64 ((upd fn24 (a25.A.toNat * 1) t36) 8), .int .i64 ((upd fn24 (a25.A.toNat * 1) t36) 9), .int .i64 ((upd fn24 (a25.A.toNat * 1) t36) 10), .int .i64 ((upd fn24 (a25.A.toNat * 1) t36) 11), .int .i64 ((upd fn24 (a25.A.toNat * 1) t36) 12), .int .i64 ((upd fn24 (a25.A.toNat * 1) t36) 13), .int .i64 ((upd fn24 (a25.A.toNat * 1) t36) 14), .int .i64 ((upd fn24 (a25.A.toNat * 1) t36) 15), .int .i64 (IntKind.i64.wrap (a19 + 1)), .slice A20 a22.length c21, .int .i64 a23] 170 :: _ :: l) hf := hS
  refine RL.nil ?_
  obtain rfl := h.some
  exact rtE results113 rfl ⟨rfl, hS.d0⟩

/-! ### (*isochron/vm.cpu).value: function 114 -/
noncomputable def vm_cpu_value.f (a2 : List api_Instr) (a6 : Int) (a7 : List api_Link) (a11 a12 a13 a14 a15 a16 a17 : Int) (a18 : Bool) (a19 : Int) (a22 : List api_Out) (a23 : Int) (fn24 : (Nat → Int)) (a25 : api_Instr) : Option ((Nat → Int)) := (if 0 ≤ a25.A ∧ a25.A < 16 then some (upd fn24 (a25.A.toNat * 1) a16) else none)
theorem vm_cpu_value.ok {a2 : List api_Instr} {a6 : Int} {a7 : List api_Link} {a11 a12 a13 a14 a15 a16 a17 : Int} {a18 : Bool} {a19 : Int} {a22 : List api_Out} {a23 : Int} {fn24 : (Nat → Int)} {a25 : api_Instr} {b1 : Nat} {A3 : Option Addr} {c4 : Nat} {A8 : Option Addr} {c9 : Nat} {A20 : Option Addr} {c21 : Nat} (hr5 : SlR E_api_Instr.rep hf A3 c4 a2) (hr10 : SlR E_api_Link.rep hf A8 c9 a7) {r : (Nat → Int)} (h : vm_cpu_value.f a2 a6 a7 a11 a12 a13 a14 a15 a16 a17 a18 a19 a22 a23 fn24 a25 = some r) (hS : St B w (Cl b1 [.slice A3 a2.length c4, .int .i64 a6, .slice A8 a7.length c9, .int .u64 a11, .int .i64 a12, .int .i64 a13, .int .i64 a14, .int .i64 a15, .int .i64 a16, .int .i64 a17, .bool a18, .int .i64 (fn24 0), .int .i64 (fn24 1), .int .i64 (fn24 2), .int .i64 (fn24 3), .int .i64 (fn24 4), .int .i64 (fn24 5), .int .i64 (fn24 6), .int .i64 (fn24 7), .int .i64 (fn24 8), .int .i64 (fn24 9), .int .i64 (fn24 10), .int .i64 (fn24 11), .int .i64 (fn24 12), .int .i64 (fn24 13), .int .i64 (fn24 14), .int .i64 (fn24 15), .int .i64 a19, .slice A20 a22.length c21, .int .i64 a23] 170 :: OSf E_api_Out 176 (.slice A20 a22.length c21) a22 :: l) hf) :
    Calls prog 114 #[.pointer (some ⟨b1, 0, none⟩), .agg #[.int .i64 a25.Op, .int .i64 a25.A, .int .i64 a25.B, .int .i64 a25.C]] w (Ret fun v w => v = .tuple #[] ∧ St B w (Cl b1 [.slice A3 a2.length c4, .int .i64 a6, .slice A8 a7.length c9, .int .u64 a11, .int .i64 a12, .int .i64 a13, .int .i64 a14, .int .i64 a15, .int .i64 a16, .int .i64 a17, .bool a18, .int .i64 (r 0), .int .i64 (r 1), .int .i64 (r 2), .int .i64 (r 3), .int .i64 (r 4), .int .i64 (r 5), .int .i64 (r 6), .int .i64 (r 7), .int .i64 (r 8), .int .i64 (r 9), .int .i64 (r 10), .int .i64 (r 11), .int .i64 (r 12), .int .i64 (r 13), .int .i64 (r 14), .int .i64 (r 15), .int .i64 a19, .slice A20 a22.length c21, .int .i64 a23] 170 :: OSf E_api_Out 176 (.slice A20 a22.length c21) a22 :: l) hf) := by
  have h := Holds.of h
  refine en func114 rfl ntmps114 rfl (sr (bx hS rfl rfl rfl rfl fun b29 w hS => ln (RC.planS (plD [0, 3, 7, 9, 12, 15, 18, 22, 26, 29, 32, 35]) [10, 11] hS (fun w hS => hS) follows rfl (by kernel_rfl) NoTmp.body fun w hS => pp 1 rfl (RP.s0 1 rfl (fun w => Vl.fa 1 underlying134 rfl sizeOf3 rfl rfl) rfl (RP.s 0 2 rfl rfl hS (fun w hS => Vl.ld 0 hS isAgg3 rfl rfl rfl) rfl (pp 2 rfl (RP.s0 5 rfl (fun w => Vl.fa 4 underlying170 rfl sizeOf53 rfl rfl) rfl (RP.s0 6 rfl (fun w => Vl.fa 8 underlying53 rfl sizeOf2 rfl rfl) rfl (RP.s 0 7 rfl rfl hS (fun w hS => Vl.ld 1 hS isAgg2 rfl rfl rfl) rfl (RP.v1 8 rfl (Vl.nilCheck rfl) rfl rfl (RP.v1 9 rfl (Vl.fa 11 underlying170 rfl sizeOf168 rfl rfl) rfl rfl ?_)))))))))))
  obtain ⟨⟨hq30, hq31⟩, h⟩ := h.req
  refine RP.v1 10 rfl (Vl.indexAddrA (a'' := ⟨b1, 11 + a25.A.toNat * 1, none⟩) underlying168 sizeOf2 rfl rfl hq30 hq31 (add_mk _ _ _)) rfl rfl (RP.e0 11 rfl (OW.storeSeg (mk := (Value.int .i64)) (f := fn24) (n := 16) (m := 11) (pre := [.slice A3 a2.length c4, .int .i64 a6, .slice A8 a7.length c9, .int .u64 a11, .int .i64 a12, .int .i64 a13, .int .i64 a14, .int .i64 a15, .int .i64 a16, .int .i64 a17, .bool a18]) (post := [.int .i64 a19, .slice A20 a22.length c21, .int .i64 a23]) 1 hS rfl rfl rfl rfl sizeOf2 (by omega) (fun _ => rfl) (fun _ => rfl) rfl) rfl ?_)
  rintro _ w ⟨rfl, hS⟩
  have hS : St B w (_ :: _ :: _ :: l) hf := hS
  refine ⟨kp ⟨(by intro hx; cases hx), trivial⟩, ?_⟩
  refine RP.nil ?_
  obtain rfl := h.some
  exact rtE results114 rfl ⟨rfl, hS.d0⟩

/-! ### (*isochron/vm.cpu).time: function 115 -/
noncomputable def vm_cpu_time.f (a2 : List api_Instr) (a6 : Int) (a7 : List api_Link) (a11 a12 a13 a14 a15 a16 a17 : Int) (a18 : Bool) (a19 : Int) (a22 : List api_Out) (a23 : Int) (fn24 : (Nat → Int)) (a25 : api_Instr) : Option ((Nat → Int)) := (if 0 ≤ a25.A ∧ a25.A < 16 then some (upd fn24 (a25.A.toNat * 1) a12) else none)
theorem vm_cpu_time.ok {a2 : List api_Instr} {a6 : Int} {a7 : List api_Link} {a11 a12 a13 a14 a15 a16 a17 : Int} {a18 : Bool} {a19 : Int} {a22 : List api_Out} {a23 : Int} {fn24 : (Nat → Int)} {a25 : api_Instr} {b1 : Nat} {A3 : Option Addr} {c4 : Nat} {A8 : Option Addr} {c9 : Nat} {A20 : Option Addr} {c21 : Nat} (hr5 : SlR E_api_Instr.rep hf A3 c4 a2) (hr10 : SlR E_api_Link.rep hf A8 c9 a7) {r : (Nat → Int)} (h : vm_cpu_time.f a2 a6 a7 a11 a12 a13 a14 a15 a16 a17 a18 a19 a22 a23 fn24 a25 = some r) (hS : St B w (Cl b1 [.slice A3 a2.length c4, .int .i64 a6, .slice A8 a7.length c9, .int .u64 a11, .int .i64 a12, .int .i64 a13, .int .i64 a14, .int .i64 a15, .int .i64 a16, .int .i64 a17, .bool a18, .int .i64 (fn24 0), .int .i64 (fn24 1), .int .i64 (fn24 2), .int .i64 (fn24 3), .int .i64 (fn24 4), .int .i64 (fn24 5), .int .i64 (fn24 6), .int .i64 (fn24 7), .int .i64 (fn24 8), .int .i64 (fn24 9), .int .i64 (fn24 10), .int .i64 (fn24 11), .int .i64 (fn24 12), .int .i64 (fn24 13), .int .i64 (fn24 14), .int .i64 (fn24 15), .int .i64 a19, .slice A20 a22.length c21, .int .i64 a23] 170 :: OSf E_api_Out 176 (.slice A20 a22.length c21) a22 :: l) hf) :
    Calls prog 115 #[.pointer (some ⟨b1, 0, none⟩), .agg #[.int .i64 a25.Op, .int .i64 a25.A, .int .i64 a25.B, .int .i64 a25.C]] w (Ret fun v w => v = .tuple #[] ∧ St B w (Cl b1 [.slice A3 a2.length c4, .int .i64 a6, .slice A8 a7.length c9, .int .u64 a11, .int .i64 a12, .int .i64 a13, .int .i64 a14, .int .i64 a15, .int .i64 a16, .int .i64 a17, .bool a18, .int .i64 (r 0), .int .i64 (r 1), .int .i64 (r 2), .int .i64 (r 3), .int .i64 (r 4), .int .i64 (r 5), .int .i64 (r 6), .int .i64 (r 7), .int .i64 (r 8), .int .i64 (r 9), .int .i64 (r 10), .int .i64 (r 11), .int .i64 (r 12), .int .i64 (r 13), .int .i64 (r 14), .int .i64 (r 15), .int .i64 a19, .slice A20 a22.length c21, .int .i64 a23] 170 :: OSf E_api_Out 176 (.slice A20 a22.length c21) a22 :: l) hf) := by
  have h := Holds.of h
  refine en func115 rfl ntmps115 rfl (sr (bx hS rfl rfl rfl rfl fun b29 w hS => ln (RC.planS (plD [0, 3, 7, 9, 12, 15, 18, 21, 25, 29, 32, 35, 38]) [11, 12] hS (fun w hS => hS) follows rfl (by kernel_rfl) NoTmp.body fun w hS => pp 1 rfl (RP.s0 1 rfl (fun w => Vl.fa 1 underlying134 rfl sizeOf3 rfl rfl) rfl (RP.s 0 2 rfl rfl hS (fun w hS => Vl.ld 0 hS isAgg3 rfl rfl rfl) rfl (pp 2 rfl (RP.s0 5 rfl (fun w => Vl.fa 4 underlying170 rfl sizeOf53 rfl rfl) rfl (RP.s0 6 rfl (fun w => Vl.fa 4 underlying53 rfl sizeOf42 rfl rfl) rfl (RP.s0 7 rfl (fun w => Vl.fa 4 underlying42 rfl sizeOf2 rfl rfl) rfl (RP.s 0 8 rfl rfl hS (fun w hS => Vl.ld 1 hS isAgg2 rfl rfl rfl) rfl (RP.v1 9 rfl (Vl.nilCheck rfl) rfl rfl ?_)))))))))))
  refine RP.v1 10 rfl (Vl.fa 11 underlying170 rfl sizeOf168 rfl rfl) rfl rfl ?_
  obtain ⟨⟨hq30, hq31⟩, h⟩ := h.req
  refine RP.v1 11 rfl (Vl.indexAddrA (a'' := ⟨b1, 11 + a25.A.toNat * 1, none⟩) underlying168 sizeOf2 rfl rfl hq30 hq31 (add_mk _ _ _)) rfl rfl (RP.e0 12 rfl (OW.storeSeg (mk := (Value.int .i64)) (f := fn24) (n := 16) (m := 11) (pre := [.slice A3 a2.length c4, .int .i64 a6, .slice A8 a7.length c9, .int .u64 a11, .int .i64 a12, .int .i64 a13, .int .i64 a14, .int .i64 a15, .int .i64 a16, .int .i64 a17, .bool a18]) (post := [.int .i64 a19, .slice A20 a22.length c21, .int .i64 a23]) 1 hS rfl rfl rfl rfl sizeOf2 (by omega) (fun _ => rfl) (fun _ => rfl) rfl) rfl ?_)
  rintro _ w ⟨rfl, hS⟩
  have hS : St B w (_ :: _ :: _ :: l) hf := hS
  refine ⟨kp ⟨(by intro hx; cases hx), trivial⟩, ?_⟩
  refine RP.nil ?_
  obtain rfl := h.some
  exact rtE results115 rfl ⟨rfl, hS.d0⟩

/-! ### (*isochron/vm.cpu).self: function 116 -/
noncomputable def vm_cpu_self.f (a2 : List api_Instr) (a6 : Int) (a7 : List api_Link) (a11 a12 a13 a14 a15 a16 a17 : Int) (a18 : Bool) (a19 : Int) (a22 : List api_Out) (a23 : Int) (fn24 : (Nat → Int)) (a25 : api_Instr) : Option ((Nat → Int)) := (if 0 ≤ a25.A ∧ a25.A < 16 then some (upd fn24 (a25.A.toNat * 1) a6) else none)
theorem vm_cpu_self.ok {a2 : List api_Instr} {a6 : Int} {a7 : List api_Link} {a11 a12 a13 a14 a15 a16 a17 : Int} {a18 : Bool} {a19 : Int} {a22 : List api_Out} {a23 : Int} {fn24 : (Nat → Int)} {a25 : api_Instr} {b1 : Nat} {A3 : Option Addr} {c4 : Nat} {A8 : Option Addr} {c9 : Nat} {A20 : Option Addr} {c21 : Nat} (hr5 : SlR E_api_Instr.rep hf A3 c4 a2) (hr10 : SlR E_api_Link.rep hf A8 c9 a7) {r : (Nat → Int)} (h : vm_cpu_self.f a2 a6 a7 a11 a12 a13 a14 a15 a16 a17 a18 a19 a22 a23 fn24 a25 = some r) (hS : St B w (Cl b1 [.slice A3 a2.length c4, .int .i64 a6, .slice A8 a7.length c9, .int .u64 a11, .int .i64 a12, .int .i64 a13, .int .i64 a14, .int .i64 a15, .int .i64 a16, .int .i64 a17, .bool a18, .int .i64 (fn24 0), .int .i64 (fn24 1), .int .i64 (fn24 2), .int .i64 (fn24 3), .int .i64 (fn24 4), .int .i64 (fn24 5), .int .i64 (fn24 6), .int .i64 (fn24 7), .int .i64 (fn24 8), .int .i64 (fn24 9), .int .i64 (fn24 10), .int .i64 (fn24 11), .int .i64 (fn24 12), .int .i64 (fn24 13), .int .i64 (fn24 14), .int .i64 (fn24 15), .int .i64 a19, .slice A20 a22.length c21, .int .i64 a23] 170 :: OSf E_api_Out 176 (.slice A20 a22.length c21) a22 :: l) hf) :
    Calls prog 116 #[.pointer (some ⟨b1, 0, none⟩), .agg #[.int .i64 a25.Op, .int .i64 a25.A, .int .i64 a25.B, .int .i64 a25.C]] w (Ret fun v w => v = .tuple #[] ∧ St B w (Cl b1 [.slice A3 a2.length c4, .int .i64 a6, .slice A8 a7.length c9, .int .u64 a11, .int .i64 a12, .int .i64 a13, .int .i64 a14, .int .i64 a15, .int .i64 a16, .int .i64 a17, .bool a18, .int .i64 (r 0), .int .i64 (r 1), .int .i64 (r 2), .int .i64 (r 3), .int .i64 (r 4), .int .i64 (r 5), .int .i64 (r 6), .int .i64 (r 7), .int .i64 (r 8), .int .i64 (r 9), .int .i64 (r 10), .int .i64 (r 11), .int .i64 (r 12), .int .i64 (r 13), .int .i64 (r 14), .int .i64 (r 15), .int .i64 a19, .slice A20 a22.length c21, .int .i64 a23] 170 :: OSf E_api_Out 176 (.slice A20 a22.length c21) a22 :: l) hf) := by
  have h := Holds.of h
  refine en func116 rfl ntmps116 rfl (sr (bx hS rfl rfl rfl rfl fun b29 w hS => ln (RC.planS (plD [0, 3, 7, 9, 12, 15, 18, 22, 26, 29, 32, 35]) [10, 11] hS (fun w hS => hS) follows rfl (by kernel_rfl) NoTmp.body fun w hS => pp 1 rfl (RP.s0 1 rfl (fun w => Vl.fa 1 underlying134 rfl sizeOf3 rfl rfl) rfl (RP.s 0 2 rfl rfl hS (fun w hS => Vl.ld 0 hS isAgg3 rfl rfl rfl) rfl (pp 2 rfl (RP.s0 5 rfl (fun w => Vl.fa 0 underlying170 rfl sizeOf124 rfl rfl) rfl (RP.s0 6 rfl (fun w => Vl.fa 1 underlying124 rfl sizeOf3 rfl rfl) rfl (RP.s 0 7 rfl rfl hS (fun w hS => Vl.ld 1 hS isAgg3 rfl rfl rfl) rfl (RP.v1 8 rfl (Vl.nilCheck rfl) rfl rfl (RP.v1 9 rfl (Vl.fa 11 underlying170 rfl sizeOf168 rfl rfl) rfl rfl ?_)))))))))))
  obtain ⟨⟨hq30, hq31⟩, h⟩ := h.req
  refine RP.v1 10 rfl (Vl.indexAddrA (a'' := ⟨b1, 11 + a25.A.toNat * 1, none⟩) underlying168 sizeOf2 rfl rfl hq30 hq31 (add_mk _ _ _)) rfl rfl (RP.e0 11 rfl (OW.storeSeg (mk := (Value.int .i64)) (f := fn24) (n := 16) (m := 11) (pre := [.slice A3 a2.length c4, .int .i64 a6, .slice A8 a7.length c9, .int .u64 a11, .int .i64 a12, .int .i64 a13, .int .i64 a14, .int .i64 a15, .int .i64 a16, .int .i64 a17, .bool a18]) (post := [.int .i64 a19, .slice A20 a22.length c21, .int .i64 a23]) 1 hS rfl rfl rfl rfl sizeOf2 (by omega) (fun _ => rfl) (fun _ => rfl) rfl) rfl ?_)
  rintro _ w ⟨rfl, hS⟩
  have hS : St B w (_ :: _ :: _ :: l) hf := hS
  refine ⟨kp ⟨(by intro hx; cases hx), trivial⟩, ?_⟩
  refine RP.nil ?_
  obtain rfl := h.some
  exact rtE results116 rfl ⟨rfl, hS.d0⟩

/-! ### (*isochron/vm.cpu).run$1: function 92 -/
noncomputable def vm_cpu_run_1.f  : Option (Unit) := some ()
theorem vm_cpu_run_1.ok {b1 : Nat} {r : Unit} (h : vm_cpu_run_1.f = some r) (hS : St B w (Cl b1 [.nilIface] 83 :: l) hf) :
    CallsD prog 92 #[.pointer (some ⟨b1, 0, none⟩)] (.returning) w (fun e u' w' => u' = .returning ∧ (Ret fun v w => v = .tuple #[] ∧ St B w (Cl b1 [.nilIface] 83 :: l) hf) e w') := by
  have h := Holds.of h
  refine deferIdle (args := [.pointer (some ⟨b1, 0, none⟩)]) func92 rfl ntmps92 (Nat.le_of_ble_eq_true rfl) rfl (RC.block (sr (RL.s (Vl.bin (v := .bool true) rfl rfl (by kernel_rfl)) rfl (ln (RC.condT rfl (RC.region (pn 1 rfl (RL.nil (RQ.inB_n ?_)))))))))
  exact rtE results92 rfl ⟨rfl, hS⟩

/-! ### errors.Join: function 69 -/
noncomputable def errors_Join_2.f (a3 : vm_fault) : Option (vm_fault) := some a3
theorem errors_Join_2.ok {a3 : vm_fault} {A1 : Option Addr} {c2 : Nat} {r : vm_fault} (h : errors_Join_2.f a3 = some r) (hS : St B w (OSl 83 1 (.slice A1 1 c2) 1 [.iface 173 (.agg #[.int .i64 a3.at_, .int .i64 a3.why])] :: l) hf) :
    Calls prog 69 #[.slice A1 1 c2] w (Ret fun v w => ∃ (b_1 : Nat) (A_2 : Option Addr) (c_3 : Nat), v = .iface 186 (.pointer (some ⟨b_1, 0, none⟩)) ∧ St B w (Cl b_1 [.slice A_2 1 c_3] 188 :: OSl 83 1 (.slice A_2 1 c_3) 1 [.iface 173 (.agg #[.int .i64 r.at_, .int .i64 r.why])] :: OSl 83 1 (.slice A1 1 c2) 1 [.iface 173 (.agg #[.int .i64 a3.at_, .int .i64 a3.why])] :: l) hf) := by
  have h := Holds.of h
  refine en func69 rfl ntmps69 rfl (sr (pn 1 rfl (lnsr (pn 1 rfl (ln (RC.seq (sr (pn 1 rfl (RL.s (Vl.lenSl underlying157 rfl) rfl ?_)))))))))
  refine pn 1 rfl (ln (RC.block (RC.unroll (RQ.round (sr (pn 1 rfl (ln (RC.seq (RC.condT rfl (sk (RC.seq ?_)))))))))))
  refine RC.block (sr (RL.s (Vl.indexAddr (a'' := (ad A1).add 0) underlying157 sizeOf83 rfl rfl (hS.litAdr 0 rfl (by decide)) (by decide) (by decide) rfl) rfl (RL.s (Vl.load isAgg83 rfl (hS.litCell 0 rfl rfl)) rfl (pn 1 rfl (lnsr (pn 1 rfl (RL.s (Vl.bin (v := .bool true) rfl rfl (by kernel_rfl)) rfl (ln (RC.condT rfl (RC.region ?_))))))))))
  refine pn 3 rfl (RL.nil (RQ.inB_n (RQ.then_n (RC.region (pn 2 rfl (ln (RQ.round (sr (pn 1 rfl (ln (RC.seq (RC.condF rfl ?_))))))))))))
  refine RC.exit (RQ.exitT (RQ.exitT (RQ.inB_hit (RQ.then_n (RC.seq (sr (pn 2 rfl (ln (RC.condF rfl (sk (sr ?_)))))))))))
  refine pn 1 rfl (RL.e (OW.make0L (c := 1) (sz := 1) hS underlying157 type83 rfl rfl rfl rfl (by decide) (by decide)) rfl rfl ?_)
  rintro _ w ⟨b18, rfl, hS⟩
  refine RL.s (Vl.build (v := .agg #[.slice (some ⟨b18, 0, none⟩) 0 1]) (parts := [(0, .tmp 23)]) rfl (by kernel_rfl)) rfl (bx hS rfl rfl rfl rfl fun b19 w hS => pn 1 rfl (ln (RC.seq (sr (pn 1 rfl (RL.s (Vl.lenSl underlying157 rfl) rfl (pn 1 rfl (ln (RC.block (RC.unroll (RQ.round ?_)))))))))))
  refine sr (pn 1 rfl (ln (RC.seq (RC.condT rfl (sk (RC.seq (RC.block (sr (RL.s (Vl.indexAddr (a'' := (ad A1).add 0) underlying157 sizeOf83 rfl rfl (hS.litAdr 2 rfl (by decide)) (by decide) (by decide) rfl) rfl (RL.s (Vl.load isAgg83 rfl (hS.litCell 2 rfl rfl)) rfl (pn 1 rfl ?_)))))))))))
  refine lnsr (pn 1 rfl (RL.s (Vl.bin (v := .bool true) rfl rfl (by kernel_rfl)) rfl (ln (RC.condT rfl (RC.region (pn 3 rfl (RL.s (Vl.fa 0 underlying188 rfl sizeOf157 rfl rfl) rfl (RL.s (Vl.ld 0 hS isAgg157 rfl rfl rfl) rfl (pn 1 rfl (RL.e (OW.buildSliceR (sz := 1) (cs := [.iface 173 (.agg #[.int .i64 a3.at_, .int .i64 a3.why])]) hS underlying157 zeroValue83 sizeOf83 (parts := [(0, .tmp 39)]) rfl rfl (by decide) (by decide) (by kernel_rfl)) rfl rfl ?_))))))))))
  rintro _ w ⟨b29, rfl, hS⟩
  refine RL.e (OW.appendL (k := 1) (es := [.iface 173 (.agg #[.int .i64 a3.at_, .int .i64 a3.why])]) 2 0 hS rfl rfl underlying157 type83 rfl rfl rfl rfl (by decide) (by decide) rfl rfl rfl (by decide) rfl rfl rfl) rfl rfl ?_
  rintro _ w ⟨A30, c31, rfl, hS⟩
  have hS : St B w (_ :: _ :: _ :: _ :: l) hf := hS
  refine pn 1 rfl (RL.s (Vl.fa 0 underlying188 rfl sizeOf157 rfl rfl) rfl (RL.e0 (OW.store (vs := [.slice A30 1 c31]) 2 hS rfl rfl rfl rfl sizeOf157 rfl rfl rfl rfl) rfl ?_))
  rintro _ w ⟨rfl, hS⟩
  have hS : St B w (_ :: _ :: Cl _ [_] _ :: _ :: l) hf := hS
  refine RL.nil (RQ.inB_n (RQ.then_n (RC.region (pn 2 rfl (ln (RQ.round (sr (pn 1 rfl (ln (RC.seq (RC.condF rfl (RC.exit ?_))))))))))))
  refine RQ.exitT (RQ.exitT (RQ.inB_hit (tsr (pn 1 rfl (RL.s (Vl.makeIface underlying186 rfl rfl) rfl (pn 1 rfl (lr ?_)))))))
  obtain rfl := h.some
  exact rt results69 rfl ⟨b19, A30, c31, rfl, hS.d1.p1⟩

/-! ### (*isochron/vm.cpu).run$1: function 92 -/
noncomputable def vm_cpu_run_1v2.f (a2 : vm_fault) : Option (vm_fault) := ((errors_Join_2.f a2).bind fun t12 => some t12)
theorem vm_cpu_run_1v2.ok {a2 : vm_fault} {b1 : Nat} {r : vm_fault} (h : vm_cpu_run_1v2.f a2 = some r) (hS : St B w (Cl b1 [.nilIface] 83 :: l) hf) :
    CallsD prog 92 #[.pointer (some ⟨b1, 0, none⟩)] (.panicking (pan (.iface 173 (.agg #[.int .i64 a2.at_, .int .i64 a2.why])))) w (fun e u' w' => u' = .panicking (panR (.iface 173 (.agg #[.int .i64 a2.at_, .int .i64 a2.why]))) ∧ (Ret fun v w => ∃ (b_1 : Nat) (A_2 : Option Addr) (c_3 : Nat), v = .tuple #[] ∧ St B w (Cl b_1 [.slice A_2 1 c_3] 188 :: OSl 83 1 (.slice A_2 1 c_3) 1 [.iface 173 (.agg #[.int .i64 r.at_, .int .i64 r.why])] :: Cl b1 [.iface 186 (.pointer (some ⟨b_1, 0, none⟩))] 83 :: l) hf) e w') := by
  have h := Holds.of h
  refine deferCatch (args := [.pointer (some ⟨b1, 0, none⟩)]) func92 rfl ntmps92 (Nat.le_of_ble_eq_true rfl) rfl (RC.block (sr (RL.s (Vl.bin (v := .bool false) rfl rfl (by kernel_rfl)) rfl (ln (RC.condF rfl (sr (RL.s (Vl.tassert (r := .tuple #[.agg #[.int .i64 a2.at_, .int .i64 a2.why], .bool true]) rfl (fun w => run_tassert_same underlying173 rfl _ _ w)) rfl (pn 2 rfl (ln (RC.condT rfl (RC.seq ?_)))))))))))
  refine RC.region (al hS zeroValue173 rfl rfl rfl fun b10 w hS => RL.e0 (OW.store (vs := [.int .i64 a2.at_, .int .i64 a2.why]) 0 hS rfl rfl rfl rfl sizeOf173 rfl rfl rfl rfl) rfl ?_)
  rintro _ w ⟨rfl, hS⟩
  have hS : St B w (Cl _ [_, _] _ :: _ :: l) hf := hS
  refine ln (RC.region (RL.s (Vl.lw 0 hS isAgg173 sizeOf173 rfl rfl rfl) rfl (RL.s (Vl.makeIface underlying173 rfl rfl) rfl (RL.e (OW.buildSliceR (sz := 1) (cs := [.iface 173 (.agg #[.int .i64 a2.at_, .int .i64 a2.why])]) hS underlying157 zeroValue83 sizeOf83 (parts := [(0, .tmp 11)]) rfl rfl (by decide) (by decide) (by kernel_rfl)) rfl rfl ?_))))
  rintro _ w ⟨b11, rfl, hS⟩
  refine cF (fun _ hg => errors_Join_2.ok hg hS) call69 h rfl rfl rfl ?_
  rintro t12 h _ w ⟨b14, A15, c16, rfl, hS⟩
  refine RL.e0 (OW.store (vs := [.iface 186 (.pointer (some ⟨b14, 0, none⟩))]) 4 hS rfl rfl rfl rfl sizeOf83 rfl rfl rfl rfl) rfl ?_
  rintro _ w ⟨rfl, hS⟩
  have hS : St B w (_ :: _ :: _ :: _ :: Cl _ [_] _ :: l) hf := hS
  refine RL.nil (RQ.inB_n ?_)
  obtain rfl := h.some
  exact rtE results92 rfl ⟨b14, A15, c16, rfl, hS.d2.d2⟩

end Go.Proofs.Gx
