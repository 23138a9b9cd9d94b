/-
  The walks of functions, each with what it computes: printed by wip/gx.py.
-/
import Derived.Test.YtioiognklelipaaDoorW0
set_option linter.unusedVariables false
set_option maxRecDepth 100000
set_option maxHeartbeats 4000000
namespace Go.Proofs.Gx
open Go.Sl Tryd
variable {B : Base} {w : World} {l : List HProp} {hf : Hp}
/-! ### isochron/code.shapes: function 42 -/
noncomputable def code_shapes.f  : Option (Unit) := some ()
theorem code_shapes.ok {r : Unit} (h : code_shapes.f = some r) (hS : St B w (l) hf) :
    Calls prog 42 #[] w (Ret fun v w => v = .agg #[.string lit_2d2d2d, .string lit_726e2d, .string lit_72722d, .string lit_rrr, .string lit_rrr, .string lit_rrr, .string lit_rrr, .string lit_rrr, .string lit_rrr, .string lit_rrr, .string lit_702d2d, .string lit_72702d, .string lit_rrr, .string lit_72722d, .string lit_722d2d, .string lit_722d2d, .string lit_722d2d] ∧ St B w (l) hf) := by
  have h := Holds.of h
  refine en func42 rfl ntmps42 rfl (sr (al hS zeroValue111 rfl rfl rfl fun b2 w hS => lnsr (RL.s (Vl.build (v := .agg #[.string lit_2d2d2d, .string lit_726e2d, .string lit_72722d, .string lit_rrr, .string lit_rrr, .string lit_rrr, .string lit_rrr, .string lit_rrr, .string lit_rrr, .string lit_rrr, .string lit_702d2d, .string lit_72702d, .string lit_rrr, .string lit_72722d, .string lit_722d2d, .string lit_722d2d, .string lit_722d2d]) (parts := [(0, .const (.string lit_2d2d2d)), (1, .const (.string lit_726e2d)), (2, .const (.string lit_72722d)), (3, .const (.string lit_rrr)), (4, .const (.string lit_rrr)), (5, .const (.string lit_rrr)), (6, .const (.string lit_rrr)), (7, .const (.string lit_rrr)), (8, .const (.string lit_rrr)), (9, .const (.string lit_rrr)), (10, .const (.string lit_702d2d)), (11, .const (.string lit_72702d)), (12, .const (.string lit_rrr)), (13, .const (.string lit_72722d)), (14, .const (.string lit_722d2d)), (15, .const (.string lit_722d2d)), (16, .const (.string lit_722d2d))]) rfl (by kernel_rfl)) rfl (RL.e0 (OW.store (vs := [.string lit_2d2d2d, .string lit_726e2d, .string lit_72722d, .string lit_rrr, .string lit_rrr, .string lit_rrr, .string lit_rrr, .string lit_rrr, .string lit_rrr, .string lit_rrr, .string lit_702d2d, .string lit_72702d, .string lit_rrr, .string lit_72722d, .string lit_722d2d, .string lit_722d2d, .string lit_722d2d]) 0 hS rfl rfl rfl rfl sizeOf111 rfl rfl rfl rfl) rfl ?_))))
  rintro _ w ⟨rfl, hS⟩
  have hS : St B w (Cl _ [_, _, _, _, _, _, _, _, _, _, _, _, _, _, _, _, _] _ :: l) hf := hS
  refine lr ?_
  have e := h.some
  refine RQ.ret0 (vs := [.agg #[.string lit_2d2d2d, .string lit_726e2d, .string lit_72722d, .string lit_rrr, .string lit_rrr, .string lit_rrr, .string lit_rrr, .string lit_rrr, .string lit_rrr, .string lit_rrr, .string lit_702d2d, .string lit_72702d, .string lit_rrr, .string lit_72722d, .string lit_722d2d, .string lit_722d2d, .string lit_722d2d]]) results42 ⟨⟨_, rfl, run_loadVarA (vs := [.string lit_2d2d2d, .string lit_726e2d, .string lit_72722d, .string lit_rrr, .string lit_rrr, .string lit_rrr, .string lit_rrr, .string lit_rrr, .string lit_rrr, .string lit_rrr, .string lit_702d2d, .string lit_72702d, .string lit_rrr, .string lit_72722d, .string lit_722d2d, .string lit_722d2d, .string lit_722d2d]) isAgg111 sizeOf111 rfl (hS.cellsAt 0 rfl rfl)⟩, trivial⟩ ?_
  exact ⟨rfl, hS.d0⟩

/-! ### isochron/code.right: function 43 -/
noncomputable def code_right.j2 (a1 x22 x23 : Int) : Option (Bool) := (if x22 ≤ a1 then some (decide (a1 ≤ x23)) else some false)
noncomputable def code_right.f (a1 a2 a3 : Int) : Option (Bool) := (if a2 = 110 then code_right.j2 a1 (-2147483648) 2147483647 else (if a2 = 112 then code_right.j2 a1 0 a3 else (if a2 = 114 then code_right.j2 a1 0 15 else code_right.j2 a1 0 0)))
theorem code_right.ok {a1 a2 a3 : Int} {r : Bool} (h : code_right.f a1 a2 a3 = some r) (hS : St B w (l) hf) :
    Calls prog 43 #[.int .i64 a1, .int .u8 a2, .int .i64 a3] w (Ret fun v w => v = .bool r ∧ St B w (l) hf) := by
  have h := Holds.of h
  refine en func43 rfl ntmps43 rfl (sr (pn 1 rfl (lnsr (pn 2 rfl (ln ?_)))))
  refine RC.join (fun (s : Int × Int) a w => ∃ (x22 : Int) (x23 : Int), s = (x22, x23) ∧ Has 25 [(0, .int .i64 a1), (7, .int .i64 x22), (8, .int .i64 x23)] a ∧ St B w (l) hf ∧ Holds (· = r) (code_right.j2 a1 x22 x23)) ?_ ?_
  · rintro _ a w ⟨x22, x23, rfl, ha, hS, h⟩
    revert a
    show RC _ _ _ _ _ _
    refine sr (pn 4 rfl ?_)
    refine RL.iteP 20 rfl h (fun hc24 h => ?_) fun hc24 h => ?_
    next =>
     refine pn 5 rfl (lr ?_)
     obtain rfl := h.some
     exact rt results43 rfl ⟨rfl, hS⟩
    next =>
     refine pn 5 rfl (lr ?_)
     obtain rfl := h.some
     exact rt results43 rfl ⟨rfl, hS⟩
  · refine RC.seq ?_
    refine RC.region (pn 1 rfl (ln (RC.block (RC.seq (RC.block (RC.seq (RC.block (RC.seq (RC.block (RC.seq (RC.block (RC.seq (RC.seq (RC.seq ?_))))))))))))))
    refine RC.region (pn 2 rfl (ln ?_))
    refine RC.iteP 10 rfl h (fun hc26 h => ?_) fun hc26 h => ?_
    next =>
     refine RC.condT rfl (RC.exit (RQ.exitT (RQ.exitT (RQ.inB_hit (tsr (pn 2 rfl (ln (RC.exit (RQ.inB_miss rfl (RQ.exitT (RQ.inB_miss rfl (RQ.exitT ?_))))))))))))
     refine RQ.inB_miss rfl (RQ.exitT (RQ.inB_hit ?_))
     exact fun a ha => ⟨((-2147483648), 2147483647), (-2147483648), 2147483647, rfl, ha.to ⟨rfl, rfl, rfl, trivial⟩, hS, h⟩
    next =>
     refine RC.condF rfl (sk (RC.seq (sr (pn 2 rfl (ln ?_)))))
     refine RC.iteP 12 rfl h (fun hc28 h => ?_) fun hc28 h => ?_
     next =>
      refine RC.condT rfl (RC.exit (RQ.exitT (RQ.exitT (RQ.inB_miss rfl (RQ.exitT (RQ.inB_hit (tsr (pn 2 rfl (ln (RC.exit (RQ.inB_miss rfl (RQ.exitT ?_))))))))))))
      refine RQ.inB_miss rfl (RQ.exitT (RQ.inB_hit ?_))
      exact fun a ha => ⟨(0, a3), 0, a3, rfl, ha.to ⟨rfl, rfl, rfl, trivial⟩, hS, h⟩
     next =>
      refine RC.condF rfl (sk (sr (pn 2 rfl (ln ?_))))
      refine RC.iteP 14 rfl h (fun hc29 h => ?_) fun hc29 h => ?_
      next =>
       refine RC.condT rfl (RC.exit (RQ.exitT (RQ.inB_miss rfl (RQ.exitT (RQ.inB_miss rfl (RQ.exitT (RQ.inB_hit (RQ.then_n (RC.region (pn 1 rfl (RL.nil (RQ.inB_n (tsr ?_)))))))))))))
       refine pn 1 rfl (ln (RC.exit (RQ.inB_hit ?_)))
       exact fun a ha => ⟨(0, 15), 0, 15, rfl, ha.to ⟨rfl, rfl, rfl, trivial⟩, hS, h⟩
      next =>
       refine RC.condF rfl (sk (RC.exit (RQ.inB_miss rfl (RQ.exitT (RQ.inB_miss rfl (RQ.exitT (RQ.inB_miss rfl (RQ.exitT (RQ.inB_hit (tsr (pn 1 rfl (RL.nil ?_))))))))))))
       refine RQ.then_n (RC.exit (RQ.inB_hit ?_))
       exact fun a ha => ⟨(0, 0), 0, 0, rfl, ha.to ⟨rfl, rfl, rfl, trivial⟩, hS, h⟩

/-! ### isochron/code.may: function 36 -/
noncomputable def code_may.f (a1 : api_Instr) (a2 : Int) : Option (Bool) := (if a1.Op < 0 then some false else (if 17 ≤ a1.Op then some false else ((code_shapes.f).bind fun _ => (if 0 ≤ a1.Op ∧ a1.Op < 17 then (if 0 < ((nth ([lit_2d2d2d, lit_726e2d, lit_72722d, lit_rrr, lit_rrr, lit_rrr, lit_rrr, lit_rrr, lit_rrr, lit_rrr, lit_702d2d, lit_72702d, lit_rrr, lit_72722d, lit_722d2d, lit_722d2d, lit_722d2d] : List ByteArray) a1.Op).size : Int) then ((code_right.f a1.A (bt (nth ([lit_2d2d2d, lit_726e2d, lit_72722d, lit_rrr, lit_rrr, lit_rrr, lit_rrr, lit_rrr, lit_rrr, lit_rrr, lit_702d2d, lit_72702d, lit_rrr, lit_72722d, lit_722d2d, lit_722d2d, lit_722d2d] : List ByteArray) a1.Op) 0) a2).bind fun t33 => (if t33 = true then (if 1 < ((nth ([lit_2d2d2d, lit_726e2d, lit_72722d, lit_rrr, lit_rrr, lit_rrr, lit_rrr, lit_rrr, lit_rrr, lit_rrr, lit_702d2d, lit_72702d, lit_rrr, lit_72722d, lit_722d2d, lit_722d2d, lit_722d2d] : List ByteArray) a1.Op).size : Int) then ((code_right.f a1.B (bt (nth ([lit_2d2d2d, lit_726e2d, lit_72722d, lit_rrr, lit_rrr, lit_rrr, lit_rrr, lit_rrr, lit_rrr, lit_rrr, lit_702d2d, lit_72702d, lit_rrr, lit_72722d, lit_722d2d, lit_722d2d, lit_722d2d] : List ByteArray) a1.Op) 1) a2).bind fun t37 => (if t37 = true then (if 2 < ((nth ([lit_2d2d2d, lit_726e2d, lit_72722d, lit_rrr, lit_rrr, lit_rrr, lit_rrr, lit_rrr, lit_rrr, lit_rrr, lit_702d2d, lit_72702d, lit_rrr, lit_72722d, lit_722d2d, lit_722d2d, lit_722d2d] : List ByteArray) a1.Op).size : Int) then ((code_right.f a1.C (bt (nth ([lit_2d2d2d, lit_726e2d, lit_72722d, lit_rrr, lit_rrr, lit_rrr, lit_rrr, lit_rrr, lit_rrr, lit_rrr, lit_702d2d, lit_72702d, lit_rrr, lit_72722d, lit_722d2d, lit_722d2d, lit_722d2d] : List ByteArray) a1.Op) 2) a2).bind fun t41 => some t41) else none) else some false)) else none) else some false)) else none) else none))))
theorem code_may.ok {a1 : api_Instr} {a2 : Int} {r : Bool} (h : code_may.f a1 a2 = some r) (hS : St B w (l) hf) :
    Calls prog 36 #[.agg #[.int .i64 a1.Op, .int .i64 a1.A, .int .i64 a1.B, .int .i64 a1.C], .int .i64 a2] w (Ret fun v w => v = .bool r ∧ St B w (l) hf) := by
  have h := Holds.of h
  refine en func36 rfl ntmps36 rfl (sr (bx hS rfl rfl rfl rfl fun b23 w hS => pn 1 rfl (ln (RC.seq (sr (RL.s (Vl.fa 0 underlying89 rfl sizeOf3 rfl rfl) rfl (RL.s (Vl.ld 0 hS isAgg3 rfl rfl rfl) rfl (pn 2 rfl ?_))))))))
  refine RL.iteP 9 rfl h (fun hc26 h => ?_) fun hc26 h => ?_
  next =>
   refine pn 4 rfl (ln (RC.condT rfl (sr (pn 1 rfl (lr (RQ.ret ?_))))))
   obtain rfl := h.some
   exact rt results36 rfl ⟨rfl, hS.d0⟩
  next =>
   refine RL.sg (Vl.fa 0 underlying89 rfl sizeOf3 rfl rfl) rfl rfl (RL.sg (Vl.ld 0 hS isAgg3 rfl rfl rfl) rfl rfl (pn 2 rfl (ln ?_)))
   refine RC.iteP 13 rfl h (fun hc27 h => ?_) fun hc27 h => ?_
   next =>
    refine RC.condT rfl (sr (pn 1 rfl (lr (RQ.ret ?_))))
    obtain rfl := h.some
    exact rt results36 rfl ⟨rfl, hS.d0⟩
   next =>
    refine RC.condF rfl (sk (RC.seq (RC.planS (plD [3, 7, 2, 11, 14]) [3, 4] hS (fun w hS => hS) follows rfl (by kernel_rfl) (NoTmp.then NoTmp.body) fun w hS => RP.s0 1 rfl (fun w => Vl.fa 0 underlying89 rfl sizeOf3 rfl rfl) rfl (RP.s 0 2 rfl rfl hS (fun w hS => Vl.ld 0 hS isAgg3 rfl rfl rfl) rfl ?_))))
    obtain ⟨t28, hg29, h⟩ := h.bind
    have hc := code_shapes.ok hg29 hS
    refine RP.e 0 rfl (OW.callF (ls := []) rfl call42 hc) rfl rfl ?_
    rintro _ w ⟨rfl, hS⟩
    refine ⟨kp ⟨fun _ => hS, trivial⟩, ?_⟩
    obtain ⟨⟨hq30, hq31⟩, h⟩ := h.req
    refine RP.v1 3 rfl (Vl.indexMap (f := Value.string) (l := ([lit_2d2d2d, lit_726e2d, lit_72722d, lit_rrr, lit_rrr, lit_rrr, lit_rrr, lit_rrr, lit_rrr, lit_rrr, lit_702d2d, lit_72702d, lit_rrr, lit_72722d, lit_722d2d, lit_722d2d, lit_722d2d] : List ByteArray)) underlying111 sizeOf9 isAgg9 rfl rfl rfl hq30 hq31) rfl rfl (RP.v1 4 rfl (Vl.assign rfl) rfl rfl (RP.nil (RQ.then_n (RC.seq (RC.planS (plD [0, 4, 6, 10, 12, 17, 18, 21, 25, 27, 31, 33, 38, 39, 42, 45, 49, 51, 55, 59, 62, 65, 68]) [20, 21, 22] hS (fun w hS => hS) follows rfl (by kernel_rfl) (NoTmp.then NoTmp.body) fun w hS => RP.s0 0 rfl (fun w => Vl.fa 1 underlying89 rfl sizeOf3 rfl rfl) rfl (RP.s 0 1 rfl rfl hS (fun w hS => Vl.ld 0 hS isAgg3 rfl rfl rfl) rfl (pp 1 rfl ?_)))))))
    obtain ⟨hq32, h⟩ := h.req
    refine RP.s 0 3 rfl rfl hS (fun w hS => Vl.indexS underlying9 rfl rfl (by decide) hq32) rfl (pp 1 rfl ?_)
    obtain ⟨t33, hg34, h⟩ := h.bind
    have hc := code_right.ok hg34 hS
    refine RP.e 5 rfl (OW.callF (ls := [.tmp 19, .tmp 21, .tmp 22]) rfl call43 hc) rfl rfl ?_
    rintro _ w ⟨rfl, hS⟩
    refine ⟨kp ⟨fun _ => hS, trivial⟩, ?_⟩
    refine pp 1 rfl ?_
    refine RP.iteB 24 rfl h (fun hc35 h => ?_) fun hc35 h => ?_
    next =>
     refine RP.sg0 7 rfl (fun w => Vl.fa 2 underlying89 rfl sizeOf3 rfl rfl) rfl rfl (RP.sg 0 8 rfl rfl hS (fun w hS => Vl.ld 0 hS isAgg3 rfl rfl rfl) rfl rfl (pp 1 rfl ?_))
     obtain ⟨hq36, h⟩ := h.req
     refine RP.sg 0 10 rfl rfl hS (fun w hS => Vl.indexS underlying9 rfl rfl (by decide) hq36) rfl rfl (pp 1 rfl ?_)
     obtain ⟨t37, hg38, h⟩ := h.bind
     have hc := code_right.ok hg38 hS
     refine RP.e 12 rfl (OW.callF (ls := [.tmp 26, .tmp 28, .tmp 29]) rfl call43 hc) rfl rfl ?_
     rintro _ w ⟨rfl, hS⟩
     refine ⟨kp ⟨fun _ => hS, trivial⟩, ?_⟩
     refine pp 2 rfl ?_
     refine RP.iteB 32 rfl h (fun hc39 h => ?_) fun hc39 h => ?_
     next =>
      refine RP.sg0 15 rfl (fun w => Vl.fa 3 underlying89 rfl sizeOf3 rfl rfl) rfl rfl (RP.sg 0 16 rfl rfl hS (fun w hS => Vl.ld 0 hS isAgg3 rfl rfl rfl) rfl rfl (pp 1 rfl ?_))
      obtain ⟨hq40, h⟩ := h.req
      refine RP.sg 0 18 rfl rfl hS (fun w hS => Vl.indexS underlying9 rfl rfl (by decide) hq40) rfl rfl (RP.v1 19 rfl (Vl.move rfl) rfl rfl ?_)
      obtain ⟨t41, hg42, h⟩ := h.bind
      have hc := code_right.ok hg42 hS
      refine RP.e 20 rfl (OW.callF (ls := [.tmp 34, .tmp 36, .tmp 37]) rfl call43 hc) rfl rfl ?_
      rintro _ w ⟨rfl, hS⟩
      refine ⟨kp ⟨(by intro hx; cases hx), trivial⟩, ?_⟩
      refine RP.v1 21 rfl (Vl.pickT rfl rfl) rfl rfl (RP.v1 22 rfl (Vl.assign rfl) rfl rfl (RP.nil (tr ?_)))
      obtain rfl := h.some
      exact rt results36 rfl ⟨rfl, hS.d0⟩
     next =>
      refine pp 1 rfl (RP.nn 0 16 rfl rfl rfl (pp 1 rfl (RP.nn 0 18 rfl rfl rfl (RP.n1 19 rfl rfl rfl (RP.n1 20 rfl rfl rfl (RP.v1 21 rfl (Vl.pickF rfl rfl) rfl rfl (RP.v1 22 rfl (Vl.assign rfl) rfl rfl (RP.nil (tr ?_)))))))))
      obtain rfl := h.some
      exact rt results36 rfl ⟨rfl, hS.d0⟩
    next =>
     refine pp 1 rfl (RP.nn 0 8 rfl rfl rfl (pp 1 rfl (RP.nn 0 10 rfl rfl rfl (pp 1 rfl (RP.n1 12 rfl rfl rfl (pp 3 rfl (RP.nn 0 16 rfl rfl rfl (pp 1 rfl (RP.nn 0 18 rfl rfl rfl (RP.n1 19 rfl rfl rfl (RP.n1 20 rfl rfl rfl (RP.v1 21 rfl (Vl.pickF rfl rfl) rfl rfl (RP.v1 22 rfl (Vl.assign rfl) rfl rfl (RP.nil (RQ.then_n ?_)))))))))))))))
     refine RC.ret ?_
     obtain rfl := h.some
     exact rt results36 rfl ⟨rfl, hS.d0⟩

/-! ### isochron/code.check: function 28 -/
noncomputable def code_check.l2b (a1 : List api_Instr) : Int → Option ((Int) ⊕ ((Int) ⊕ (Int × Int) ⊕ (Unit)))
  | (x66) => (if x66 < (a1.length : Int) then (if 0 ≤ x66 then ((code_may.f (nth a1 x66) (a1.length : Int)).bind fun t93 => (if t93 = true then some (.inl (IntKind.i64.wrap (x66 + 1))) else some (.inr (.inr (.inl (x66, 130)))))) else none) else some (.inr (.inr (.inr (())))))
noncomputable def code_check.l2 (a1 : List api_Instr) (s : Int) : Option ((Int) ⊕ (Int × Int) ⊕ (Unit)) := loopR (code_check.l2b a1) s
noncomputable def code_check.f (a1 : List api_Instr) : Option ((Int) ⊕ (Int × Int) ⊕ (Unit)) := (if 256 < (a1.length : Int) then some (.inl 2) else code_check.l2 a1 (0))
theorem code_check.ok {a1 : List api_Instr} {A2 : Option Addr} {c3 : Nat} (hr4 : SlR E_api_Instr.rep hf A2 c3 a1) {r : (Int) ⊕ (Int × Int) ⊕ (Unit)} (h : code_check.f a1 = some r) (hS : St B w (l) hf) :
    Calls prog 28 #[.slice A2 a1.length c3] w (Ret fun v w => match (generalizing := false) r with | .inl r_ => v = .iface 33 (.int .i64 r_) ∧ St B w (l) hf | .inr (.inl r_) => ∃ (b_1 : Nat), v = .iface 91 (.pointer (some ⟨b_1, 0, none⟩)) ∧ St B w (Cl b_1 [.int .i64 r_.1, .iface 33 (.int .i64 r_.2)] 93 :: l) hf | .inr (.inr (r_)) => v = .nilIface ∧ St B w (l) hf) := by
  have h := Holds.of h
  refine en func28 rfl ntmps28 rfl (sr (pn 1 rfl (ln (RC.seq (sr (pn 1 rfl (RL.s (Vl.lenSl underlying22 rfl) rfl (pn 1 rfl (ln ?_)))))))))
  refine RC.iteP 7 rfl h (fun hc52 h => ?_) fun hc52 h => ?_
  next =>
   refine RC.condT rfl (sr (RL.s (Vl.makeIface underlying33 rfl rfl) rfl (pn 1 rfl (lr (RQ.ret ?_)))))
   obtain rfl := h.some
   exact rt results28 rfl ⟨rfl, hS⟩
  next =>
   refine RC.condF rfl (sk (RC.seq (sr (pn 1 rfl (RL.s (Vl.lenSl underlying22 rfl) rfl (pn 1 rfl (ln (RC.block ?_))))))))
   refine fun a ha => RC.loop (N := 27) (body := (code_check.l2b a1)) (φ := (· = r)) (fun (s : Int) a w => ∃ (x66 : Int), s = (x66) ∧ Has 27 [(0, .slice A2 a1.length c3), (9, .slice A2 a1.length c3), (10, .int .i64 (a1.length : Int)), (11, .int .i64 x66)] a ∧ St B w (l) hf) ?_ (s0 := (0)) h ⟨0, rfl, ha.to ⟨rfl, rfl, rfl, rfl, trivial⟩, hS⟩
   rintro G82 x66 a w ⟨_, rfl, ha, hS⟩ h
   revert a
   show RC _ _ _ _ _ _
   refine sr (pn 1 rfl (ln (RC.seq ?_)))
   refine RC.iteP 12 rfl h (fun hc84 h => ?_) fun hc84 h => ?_
   next =>
    refine RC.condT rfl (sk (RC.seq (RC.block (sr (pn 1 rfl ?_)))))
    obtain ⟨hq91, h⟩ := h.req
    refine RL.s (Vl.indexAddr underlying22 sizeOf89 rfl rfl ((hr4.2.world hS.sub).adr hq91 hc84) hq91 hc84 rfl) rfl (RL.s (Vl.loadA isAgg89 sizeOf89 rfl rfl ((hr4.2.world hS.sub).cells hq91 hc84)) rfl (al hS zeroValue89 rfl rfl rfl fun b92 w hS => pn 1 rfl (RL.e0 (OW.store (vs := [.int .i64 ((nth a1 x66).Op), .int .i64 ((nth a1 x66).A), .int .i64 ((nth a1 x66).B), .int .i64 ((nth a1 x66).C)]) 0 hS rfl rfl rfl rfl sizeOf89 rfl rfl rfl rfl) rfl ?_)))
    rintro _ w ⟨rfl, hS⟩
    have hS : St B w (Cl _ [_, _, _, _] _ :: l) hf := hS
    refine lnsr (RL.s (Vl.lw 0 hS isAgg89 sizeOf89 rfl rfl rfl) rfl (pn 1 rfl (RL.s (Vl.lenSl underlying22 rfl) rfl (cF (fun _ hg => code_may.ok hg hS) call36 h rfl rfl rfl ?_))))
    rintro t93 h _ w ⟨rfl, hS⟩
    refine pn 1 rfl (ln ?_)
    refine RC.iteM 20 rfl h (fun hc95 h => ?_) fun hc95 h => ?_
    next =>
     refine RC.condF rfl (RC.skip (RQ.inB_n (RQ.then_n (RC.region (pn 2 rfl (RL.nil ?_))))))
     exact fun a ha => ⟨(IntKind.i64.wrap (x66 + 1)), ⟨(IntKind.i64.wrap (x66 + 1)), rfl, ha.to ⟨rfl, rfl, rfl, rfl, trivial⟩, hS.d0⟩, h.some⟩
    next =>
     refine RC.condT rfl (sr (pn 1 rfl (RL.s (Vl.makeIface underlying33 rfl rfl) rfl (RL.s (Vl.build (v := .agg #[.int .i64 x66, .iface 33 (.int .i64 130)]) (parts := [(0, .tmp 21), (1, .tmp 22)]) rfl (by kernel_rfl)) rfl (bx hS rfl rfl rfl rfl fun b96 w hS => RL.s (Vl.makeIface underlying91 rfl rfl) rfl (pn 1 rfl (lr (RQ.inB_ret (RQ.ret ?_)))))))))
     have h := h.inrS
     refine RQ.ret (RQ.inB_ret (RQ.ret ?_))
     obtain rfl := h.some
     exact rt results28 rfl ⟨b96, rfl, hS.d1⟩
   next =>
    refine RC.condF rfl (RC.exit (RQ.exitT ?_))
    have h := h.inrS
    refine RQ.exitT (RQ.inB_hit (tsr (pn 1 rfl (lr ?_))))
    obtain rfl := h.some
    exact rt results28 rfl ⟨rfl, hS⟩

/-! ### errors.is: function 38 -/
noncomputable def errors_is.f (a1 a2 : Int) (a3 : Bool) : Option (Bool) := (if a3 = true then (if a1 = a2 then some true else some false) else some false)
theorem errors_is.ok {a1 a2 : Int} {a3 : Bool} {r : Bool} (h : errors_is.f a1 a2 a3 = some r) (hS : St B w (l) hf) :
    Calls prog 38 #[.iface 33 (.int .i64 a1), .iface 33 (.int .i64 a2), .bool a3] w (Ret fun v w => v = .bool r ∧ St B w (l) hf) := by
  have h := Holds.of h
  refine en func38 rfl ntmps38 rfl (sr (pn 1 rfl (ln (RC.block (RC.unroll (RQ.round (RC.block (RC.seq (sr (pn 2 rfl ?_))))))))))
  refine RL.iteB 15 rfl h (fun hc10 h => ?_) fun hc10 h => ?_
  next =>
   refine pn 2 rfl (RL.sg (Vl.ifaceInt rfl rfl underlying75 underlying33 type33 rfl) rfl rfl (pn 1 rfl (ln ?_)))
   refine RC.iteP 19 rfl h (fun hc11 h => ?_) fun hc11 h => ?_
   next =>
    refine RC.condT rfl (sr (pn 1 rfl (lr (RQ.ret (RQ.inB_ret (RQ.ret (RQ.inB_ret ?_)))))))
    obtain rfl := h.some
    exact rt results38 rfl ⟨rfl, hS⟩
   next =>
    refine RC.condF rfl (sk (RC.seq (sr (pn 1 rfl (RL.s (Vl.tassert (r := .tuple #[.nilIface, .bool false]) rfl (fun w => run_typeAssert_lacksB underlying117 (by kernel_rfl) (by kernel_rfl) _ _ w)) rfl (pn 5 rfl (lnsr (pn 6 rfl (ln ?_)))))))))
    refine RC.condF rfl (sk (sr (pn 1 rfl (ln (RC.block (sr (RL.s (Vl.tassert (r := .tuple #[.nilIface, .bool false]) rfl (fun w => run_typeAssert_lacksB underlying120 (by kernel_rfl) (by kernel_rfl) _ _ w)) rfl (pn 2 rfl (ln (RC.condF rfl ?_))))))))))
    refine sr (RL.s (Vl.tassert (r := .tuple #[.nilIface, .bool false]) rfl (fun w => run_typeAssert_lacksB underlying121 (by kernel_rfl) (by kernel_rfl) _ _ w)) rfl (pn 2 rfl (ln (RC.condF rfl (sr (pn 1 rfl (lnsr (pn 1 rfl (RL.nil ?_)))))))))
    refine tr (RQ.inB_ret (RQ.inB_ret (RQ.ret (RQ.inB_ret ?_))))
    obtain rfl := h.some
    exact rt results38 rfl ⟨rfl, hS⟩
  next =>
   refine pn 4 rfl (ln (RC.condF rfl (sk (RC.seq (sr (pn 1 rfl (RL.s (Vl.tassert (r := .tuple #[.nilIface, .bool false]) rfl (fun w => run_typeAssert_lacksB underlying117 (by kernel_rfl) (by kernel_rfl) _ _ w)) rfl (pn 5 rfl (lnsr ?_)))))))))
   refine pn 6 rfl (ln (RC.condF rfl (sk (sr (pn 1 rfl (ln (RC.block (sr (RL.s (Vl.tassert (r := .tuple #[.nilIface, .bool false]) rfl (fun w => run_typeAssert_lacksB underlying120 (by kernel_rfl) (by kernel_rfl) _ _ w)) rfl (pn 2 rfl ?_))))))))))
   refine ln (RC.condF rfl (sr (RL.s (Vl.tassert (r := .tuple #[.nilIface, .bool false]) rfl (fun w => run_typeAssert_lacksB underlying121 (by kernel_rfl) (by kernel_rfl) _ _ w)) rfl (pn 2 rfl (ln (RC.condF rfl (sr (pn 1 rfl (ln (RC.seq ?_))))))))))
   refine RC.region (pn 1 rfl (lr (RQ.inB_ret (RQ.inB_ret (RQ.ret (RQ.inB_ret ?_))))))
   obtain rfl := h.some
   exact rt results38 rfl ⟨rfl, hS⟩

/-! ### errors.Is: function 29 -/
noncomputable def errors_Is.f (a1 a2 : Int) : Option (Bool) := ((errors_is.f a1 a2 true).bind fun t5 => some t5)
theorem errors_Is.ok {a1 a2 : Int} {r : Bool} (h : errors_Is.f a1 a2 = some r) (hS : St B w (l) hf) :
    Calls prog 29 #[.iface 33 (.int .i64 a1), .iface 33 (.int .i64 a2)] w (Ret fun v w => v = .bool r ∧ St B w (l) hf) := by
  have h := Holds.of h
  refine en func29 rfl ntmps29 rfl (sr (pn 1 rfl (ln (RC.seq (sr (pn 1 rfl (RL.s (Vl.bin (v := .bool false) rfl rfl (by kernel_rfl)) rfl (pn 2 rfl (RL.sg (Vl.bin (v := .bool false) rfl rfl (by kernel_rfl)) rfl rfl (pn 1 rfl (ln ?_)))))))))))
  refine RC.condF rfl (sk (sr (pn 1 rfl (RL.s (Vl.extern (ls := [.tmp 15]) (v := .iface 115 (.agg #[.pointer (some ⟨1, 33, none⟩)])) rfl func37 (by kernel_rfl) (by kernel_rfl) (by kernel_rfl) (e := Extern.ReflectliteType.typeOf) (by kernel_rfl) (fun w => by kernel_rfl)) rfl (RL.s (Vl.invokeX (F := 107) (ls := []) (v := .bool true) (u' := .agg #[.pointer (some ⟨1, 33, none⟩)]) rfl rfl (fun w => by kernel_rfl) func107 (by kernel_rfl) (by kernel_rfl) (by kernel_rfl) (e := (Extern.ReflectliteType.method fun t => do Extern.Rtype.noPackHeld "Comparable" t; pure (.bool (← typeInfo t).comparable))) (by kernel_rfl) (fun w => by kernel_rfl)) rfl (pn 1 rfl (lnsr (pn 3 rfl (cF (fun _ hg => errors_is.ok hg hS) call38 h rfl rfl rfl ?_)))))))))
  rintro t5 h _ w ⟨rfl, hS⟩
  refine pn 1 rfl (lr ?_)
  obtain rfl := h.some
  exact rt results29 rfl ⟨rfl, hS⟩

/-! ### (*isochron/code.wrong).Unwrap: function 103 -/
noncomputable def code_wrong_Unwrap.f (a2 a3 : Int) : Option (Int) := some a3
theorem code_wrong_Unwrap.ok {a2 a3 : Int} {b1 : Nat} {r : Int} (h : code_wrong_Unwrap.f a2 a3 = some r) (hS : St B w (Cl b1 [.int .i64 a2, .iface 33 (.int .i64 a3)] 93 :: l) hf) :
    Calls prog 103 #[.pointer (some ⟨b1, 0, none⟩)] w (Ret fun v w => v = .iface 33 (.int .i64 r) ∧ St B w (Cl b1 [.int .i64 a2, .iface 33 (.int .i64 a3)] 93 :: l) hf) := by
  have h := Holds.of h
  refine en func103 rfl ntmps103 rfl (sr (pn 1 rfl (lnsr (pn 2 rfl (RL.s (Vl.fa 1 underlying93 rfl sizeOf75 rfl rfl) rfl (RL.s (Vl.ld 0 hS isAgg75 rfl rfl rfl) rfl (pn 1 rfl (lr ?_))))))))
  obtain rfl := h.some
  exact rt results103 rfl ⟨rfl, hS⟩

/-! ### errors.is: function 38 -/
noncomputable def errors_is_2.f (a2 a3 a4 : Int) (a5 : Bool) : Option (Bool) := (if a5 = true then ((code_wrong_Unwrap.f a2 a3).bind fun t16 => (if t16 = a4 then some true else some false)) else ((code_wrong_Unwrap.f a2 a3).bind fun t20 => some false))
theorem errors_is_2.ok {a2 a3 a4 : Int} {a5 : Bool} {b1 : Nat} {r : Bool} (h : errors_is_2.f a2 a3 a4 a5 = some r) (hS : St B w (Cl b1 [.int .i64 a2, .iface 33 (.int .i64 a3)] 93 :: l) hf) :
    Calls prog 38 #[.iface 91 (.pointer (some ⟨b1, 0, none⟩)), .iface 33 (.int .i64 a4), .bool a5] w (Ret fun v w => v = .bool r ∧ St B w (Cl b1 [.int .i64 a2, .iface 33 (.int .i64 a3)] 93 :: l) hf) := by
  have h := Holds.of h
  refine en func38 rfl ntmps38 rfl (sr (pn 1 rfl (ln (RC.block (RC.unroll (RQ.round (RC.block (RC.seq (sr (pn 2 rfl ?_))))))))))
  refine RL.iteB 15 rfl h (fun hc15 h => ?_) fun hc15 h => ?_
  next =>
   refine pn 2 rfl (RL.sg (Vl.ifaceNeq rfl rfl underlying75 rfl) rfl rfl (pn 1 rfl (ln (RC.condF rfl (sk (RC.seq (sr (pn 1 rfl (RL.s (Vl.tassert (r := .tuple #[.nilIface, .bool false]) rfl (fun w => run_typeAssert_lacksB underlying117 (by kernel_rfl) (by kernel_rfl) _ _ w)) rfl (pn 5 rfl (ln ?_)))))))))))
   refine sr (pn 6 rfl (ln (RC.condF rfl (sk (sr (pn 1 rfl (ln (RC.block (sr ?_)))))))))
   refine RL.s (Vl.tassert (r := .tuple #[.iface 91 (.pointer (some ⟨b1, 0, none⟩)), .bool true]) rfl (fun w => run_typeAssert_hasB underlying120 (by kernel_rfl) _ _ w)) rfl (pn 2 rfl (ln (RC.condT rfl (sr (pn 1 rfl (lnsr (pn 1 rfl ?_)))))))
   obtain ⟨t16, hg17, h⟩ := h.bind
   have hc := code_wrong_Unwrap.ok hg17 hS
   refine RL.e (OW.invoke (F := 103) (u' := .pointer (some ⟨b1, 0, none⟩)) (ls := []) rfl rfl (fun w => by kernel_rfl) call103 rfl hc) rfl rfl ?_
   rintro _ w ⟨rfl, hS⟩
   refine pn 1 rfl (lnsr (pn 1 rfl (RL.s (Vl.bin (v := .bool false) rfl rfl (by kernel_rfl)) rfl (ln (RC.condF rfl (RC.skip (RQ.inB_n (RQ.inB_n (RQ.then_n (RQ.round (RC.block ?_)))))))))))
   refine RC.seq (sr (pn 2 rfl (RL.re 15 rfl (congrArg Value.bool (id hc15)) (pn 2 rfl (RL.sg (Vl.ifaceInt rfl rfl underlying75 underlying33 type33 rfl) rfl rfl (pn 1 rfl (ln ?_)))))))
   refine RC.iteP 19 rfl h (fun hc19 h => ?_) fun hc19 h => ?_
   next =>
    refine RC.condT rfl (sr (pn 1 rfl (lr (RQ.ret (RQ.inB_ret (RQ.ret (RQ.inB_ret ?_)))))))
    obtain rfl := h.some
    exact rt results38 rfl ⟨rfl, hS⟩
   next =>
    refine RC.condF rfl (sk (RC.seq (sr (pn 1 rfl (RL.s (Vl.tassert (r := .tuple #[.nilIface, .bool false]) rfl (fun w => run_typeAssert_lacksB underlying117 (by kernel_rfl) (by kernel_rfl) _ _ w)) rfl (pn 5 rfl (lnsr (pn 6 rfl (ln ?_)))))))))
    refine RC.condF rfl (sk (sr (pn 1 rfl (ln (RC.block (sr (RL.s (Vl.tassert (r := .tuple #[.nilIface, .bool false]) rfl (fun w => run_typeAssert_lacksB underlying120 (by kernel_rfl) (by kernel_rfl) _ _ w)) rfl (pn 2 rfl (ln (RC.condF rfl ?_))))))))))
    refine sr (RL.s (Vl.tassert (r := .tuple #[.nilIface, .bool false]) rfl (fun w => run_typeAssert_lacksB underlying121 (by kernel_rfl) (by kernel_rfl) _ _ w)) rfl (pn 2 rfl (ln (RC.condF rfl (sr (pn 1 rfl (lnsr (pn 1 rfl (RL.nil ?_)))))))))
    refine tr (RQ.inB_ret (RQ.inB_ret (RQ.ret (RQ.inB_ret ?_))))
    obtain rfl := h.some
    exact rt results38 rfl ⟨rfl, hS⟩
  next =>
   refine pn 4 rfl (ln (RC.condF rfl (sk (RC.seq (sr (pn 1 rfl (RL.s (Vl.tassert (r := .tuple #[.nilIface, .bool false]) rfl (fun w => run_typeAssert_lacksB underlying117 (by kernel_rfl) (by kernel_rfl) _ _ w)) rfl (pn 5 rfl (lnsr ?_)))))))))
   refine pn 6 rfl (ln (RC.condF rfl (sk (sr (pn 1 rfl (ln (RC.block (sr (RL.s (Vl.tassert (r := .tuple #[.iface 91 (.pointer (some ⟨b1, 0, none⟩)), .bool true]) rfl (fun w => run_typeAssert_hasB underlying120 (by kernel_rfl) _ _ w)) rfl (pn 2 rfl ?_))))))))))
   refine ln (RC.condT rfl (sr (pn 1 rfl (lnsr (pn 1 rfl ?_)))))
   obtain ⟨t20, hg21, h⟩ := h.bind
   have hc := code_wrong_Unwrap.ok hg21 hS
   refine RL.e (OW.invoke (F := 103) (u' := .pointer (some ⟨b1, 0, none⟩)) (ls := []) rfl rfl (fun w => by kernel_rfl) call103 rfl hc) rfl rfl ?_
   rintro _ w ⟨rfl, hS⟩
   refine pn 1 rfl (lnsr (pn 1 rfl (RL.s (Vl.bin (v := .bool false) rfl rfl (by kernel_rfl)) rfl (ln (RC.condF rfl (RC.skip (RQ.inB_n (RQ.inB_n (RQ.then_n (RQ.round (RC.block ?_)))))))))))
   refine RC.seq (sr (pn 2 rfl (RL.re 15 rfl (congrArg Value.bool (eq_false_of hc15)) (pn 4 rfl (ln (RC.condF rfl (sk (RC.seq (sr (pn 1 rfl (RL.s (Vl.tassert (r := .tuple #[.nilIface, .bool false]) rfl (fun w => run_typeAssert_lacksB underlying117 (by kernel_rfl) (by kernel_rfl) _ _ w)) rfl ?_)))))))))))
   refine pn 5 rfl (lnsr (pn 6 rfl (ln (RC.condF rfl (sk (sr (pn 1 rfl (ln ?_))))))))
   refine RC.block (sr (RL.s (Vl.tassert (r := .tuple #[.nilIface, .bool false]) rfl (fun w => run_typeAssert_lacksB underlying120 (by kernel_rfl) (by kernel_rfl) _ _ w)) rfl (pn 2 rfl (ln (RC.condF rfl (sr (RL.s (Vl.tassert (r := .tuple #[.nilIface, .bool false]) rfl (fun w => run_typeAssert_lacksB underlying121 (by kernel_rfl) (by kernel_rfl) _ _ w)) rfl (pn 2 rfl (ln (RC.condF rfl (RC.seq ?_)))))))))))
   refine RC.region (pn 1 rfl (lnsr (pn 1 rfl (lr (RQ.inB_ret (RQ.inB_ret (RQ.ret (RQ.inB_ret ?_))))))))
   obtain rfl := h.some
   exact rt results38 rfl ⟨rfl, hS⟩

/-! ### errors.Is: function 29 -/
noncomputable def errors_Is_2.f (a2 a3 a4 : Int) : Option (Bool) := ((errors_is_2.f a2 a3 a4 true).bind fun t7 => some t7)
theorem errors_Is_2.ok {a2 a3 a4 : Int} {b1 : Nat} {r : Bool} (h : errors_Is_2.f a2 a3 a4 = some r) (hS : St B w (Cl b1 [.int .i64 a2, .iface 33 (.int .i64 a3)] 93 :: l) hf) :
    Calls prog 29 #[.iface 91 (.pointer (some ⟨b1, 0, none⟩)), .iface 33 (.int .i64 a4)] w (Ret fun v w => v = .bool r ∧ St B w (Cl b1 [.int .i64 a2, .iface 33 (.int .i64 a3)] 93 :: l) hf) := by
  have h := Holds.of h
  refine en func29 rfl ntmps29 rfl (sr (pn 1 rfl (ln (RC.seq (sr (pn 1 rfl (RL.s (Vl.bin (v := .bool false) rfl rfl (by kernel_rfl)) rfl (pn 2 rfl (RL.sg (Vl.bin (v := .bool false) rfl rfl (by kernel_rfl)) rfl rfl (pn 1 rfl (ln ?_)))))))))))
  refine RC.condF rfl (sk (sr (pn 1 rfl (RL.s (Vl.extern (ls := [.tmp 15]) (v := .iface 115 (.agg #[.pointer (some ⟨1, 33, none⟩)])) rfl func37 (by kernel_rfl) (by kernel_rfl) (by kernel_rfl) (e := Extern.ReflectliteType.typeOf) (by kernel_rfl) (fun w => by kernel_rfl)) rfl (RL.s (Vl.invokeX (F := 107) (ls := []) (v := .bool true) (u' := .agg #[.pointer (some ⟨1, 33, none⟩)]) rfl rfl (fun w => by kernel_rfl) func107 (by kernel_rfl) (by kernel_rfl) (by kernel_rfl) (e := (Extern.ReflectliteType.method fun t => do Extern.Rtype.noPackHeld "Comparable" t; pure (.bool (← typeInfo t).comparable))) (by kernel_rfl) (fun w => by kernel_rfl)) rfl (pn 1 rfl (lnsr (pn 3 rfl (cF (fun _ hg => errors_is_2.ok hg hS) call38 h rfl rfl rfl ?_)))))))))
  rintro t7 h _ w ⟨rfl, hS⟩
  refine pn 1 rfl (lr ?_)
  obtain rfl := h.some
  exact rt results29 rfl ⟨rfl, hS⟩

/-! ### errors.Is: function 29 -/
noncomputable def errors_Is_3.f (a1 : Int) : Option (Bool) := some false
theorem errors_Is_3.ok {a1 : Int} {r : Bool} (h : errors_Is_3.f a1 = some r) (hS : St B w (l) hf) :
    Calls prog 29 #[.nilIface, .iface 33 (.int .i64 a1)] w (Ret fun v w => v = .bool r ∧ St B w (l) hf) := by
  have h := Holds.of h
  refine en func29 rfl ntmps29 rfl (sr (pn 1 rfl (ln (RC.seq (sr (pn 1 rfl (RL.s (Vl.bin (v := .bool true) rfl rfl (by kernel_rfl)) rfl (pn 4 rfl (ln (RC.condT rfl (RC.seq ?_)))))))))))
  refine RC.region (pn 2 rfl (RL.s (Vl.bin (v := .bool false) rfl rfl (by kernel_rfl)) rfl (pn 1 rfl (lr (RQ.ret ?_)))))
  obtain rfl := h.some
  exact rt results29 rfl ⟨rfl, hS⟩

/-! ### isochron/code.Check: function 17 -/
noncomputable def code_Check.f (a1 : List api_Instr) : Option (Int) := ((code_check.f a1).bind fun t20 => match t20 with | .inl y22 => ((errors_Is.f y22 2).bind fun t23 => (if t23 = true then some 2 else some 130)) | .inr (.inl (y26, y27)) => ((errors_Is_2.f y26 y27 2).bind fun t29 => (if t29 = true then some 2 else some 130)) | .inr (.inr (_)) => ((errors_Is_3.f 2).bind fun t32 => (if t32 = true then some 2 else some 0)))
theorem code_Check.ok {a1 : List api_Instr} {A2 : Option Addr} {c3 : Nat} (hr4 : SlR E_api_Instr.rep hf A2 c3 a1) {r : Int} (h : code_Check.f a1 = some r) (hS : St B w (l) hf) :
    Calls prog 17 #[.slice A2 a1.length c3] w (Ret fun v w => v = .int .i64 r ∧ St B w (l) hf) := by
  have h := Holds.of h
  refine en func17 rfl ntmps17 rfl (sr (pn 1 rfl (ln (RC.seq (sr (pn 1 rfl ?_))))))
  obtain ⟨t20, hg21, h⟩ := h.bind
  have hc := code_check.ok hr4 hg21 hS
  rcases t20 with y22 | ⟨y26, y27⟩ | _
  · refine RL.e (OW.callF (ls := [.tmp 4]) rfl call28 hc) rfl rfl ?_
    rintro _ w ⟨rfl, hS⟩
    refine pn 1 rfl (ln (RC.block (sr (pn 1 rfl (RL.s (Vl.makeIface underlying33 rfl rfl) rfl (cF (fun _ hg => errors_Is.ok hg hS) call29 h rfl rfl rfl ?_))))))
    rintro t23 h _ w ⟨rfl, hS⟩
    refine pn 1 rfl (ln ?_)
    refine RC.iteB 6 rfl h (fun hc25 h => ?_) fun hc25 h => ?_
    next =>
     refine RC.condT rfl (sr (pn 1 rfl (lr (RQ.inB_ret (RQ.ret ?_)))))
     obtain rfl := h.some
     exact rt results17 rfl ⟨rfl, hS⟩
    next =>
     refine RC.condF rfl (sr (pn 1 rfl (RL.s (Vl.bin (v := .bool true) rfl rfl (by kernel_rfl)) rfl (pn 1 rfl (ln (RC.condT rfl (sr (pn 1 rfl (lr (RQ.inB_ret ?_))))))))))
     refine RQ.ret ?_
     obtain rfl := h.some
     exact rt results17 rfl ⟨rfl, hS⟩
  · refine RL.e (OW.callF (ls := [.tmp 4]) rfl call28 hc) rfl rfl ?_
    rintro _ w ⟨b28, rfl, hS⟩
    refine pn 1 rfl (ln (RC.block (sr (pn 1 rfl (RL.s (Vl.makeIface underlying33 rfl rfl) rfl (cF (fun _ hg => errors_Is_2.ok hg hS) call29 h rfl rfl rfl ?_))))))
    rintro t29 h _ w ⟨rfl, hS⟩
    refine pn 1 rfl (ln ?_)
    refine RC.iteB 6 rfl h (fun hc31 h => ?_) fun hc31 h => ?_
    next =>
     refine RC.condT rfl (sr (pn 1 rfl (lr (RQ.inB_ret (RQ.ret ?_)))))
     obtain rfl := h.some
     exact rt results17 rfl ⟨rfl, hS.d0⟩
    next =>
     refine RC.condF rfl (sr (pn 1 rfl (RL.s (Vl.bin (v := .bool true) rfl rfl (by kernel_rfl)) rfl (pn 1 rfl (ln (RC.condT rfl (sr (pn 1 rfl (lr (RQ.inB_ret ?_))))))))))
     refine RQ.ret ?_
     obtain rfl := h.some
     exact rt results17 rfl ⟨rfl, hS.d0⟩
  · refine RL.e (OW.callF (ls := [.tmp 4]) rfl call28 hc) rfl rfl ?_
    rintro _ w ⟨rfl, hS⟩
    refine pn 1 rfl (ln (RC.block (sr (pn 1 rfl (RL.s (Vl.makeIface underlying33 rfl rfl) rfl (cF (fun _ hg => errors_Is_3.ok hg hS) call29 h rfl rfl rfl ?_))))))
    rintro t32 h _ w ⟨rfl, hS⟩
    refine pn 1 rfl (ln ?_)
    refine RC.iteB 6 rfl h (fun hc34 h => ?_) fun hc34 h => ?_
    next =>
     refine RC.condT rfl (sr (pn 1 rfl (lr (RQ.inB_ret (RQ.ret ?_)))))
     obtain rfl := h.some
     exact rt results17 rfl ⟨rfl, hS⟩
    next =>
     refine RC.condF rfl (sr (pn 1 rfl (RL.s (Vl.bin (v := .bool false) rfl rfl (by kernel_rfl)) rfl (pn 1 rfl (ln (RC.condF rfl (RC.skip (RQ.inB_n (tsr (pn 1 rfl (RL.nil ?_)))))))))))
     refine tr ?_
     obtain rfl := h.some
     exact rt results17 rfl ⟨rfl, hS⟩

/-! ### isochron/vm.lane: function 18 -/
noncomputable def vm_lane.f (a1 : Int) : Option (Bool) := (if 0 ≤ a1 then some (decide (a1 < 16)) else some false)
theorem vm_lane.ok {a1 : Int} {r : Bool} (h : vm_lane.f a1 = some r) (hS : St B w (l) hf) :
    Calls prog 18 #[.int .i64 a1] w (Ret fun v w => v = .bool r ∧ St B w (l) hf) := by
  have h := Holds.of h
  refine en func18 rfl ntmps18 rfl (sr (pn 1 rfl (lnsr (pn 3 rfl ?_))))
  refine RL.iteP 5 rfl h (fun hc3 h => ?_) fun hc3 h => ?_
  next =>
   refine pn 4 rfl (lr ?_)
   obtain rfl := h.some
   exact rt results18 rfl ⟨rfl, hS⟩
  next =>
   refine pn 4 rfl (lr ?_)
   obtain rfl := h.some
   exact rt results18 rfl ⟨rfl, hS⟩

/-! ### isochron/vtime.Valid: function 19 -/
noncomputable def vtime_Valid.f (a1 : Int) : Option (Bool) := (if 0 ≤ a1 then some (decide (a1 ≤ 4611686018427387903)) else some false)
theorem vtime_Valid.ok {a1 : Int} {r : Bool} (h : vtime_Valid.f a1 = some r) (hS : St B w (l) hf) :
    Calls prog 19 #[.int .i64 a1] w (Ret fun v w => v = .bool r ∧ St B w (l) hf) := by
  have h := Holds.of h
  refine en func19 rfl ntmps19 rfl (sr (pn 1 rfl (lnsr (pn 3 rfl ?_))))
  refine RL.iteP 5 rfl h (fun hc3 h => ?_) fun hc3 h => ?_
  next =>
   refine pn 4 rfl (lr ?_)
   obtain rfl := h.some
   exact rt results19 rfl ⟨rfl, hS⟩
  next =>
   refine pn 4 rfl (lr ?_)
   obtain rfl := h.some
   exact rt results19 rfl ⟨rfl, hS⟩

/-! ### isochron/vm.Check: function 6 -/
noncomputable def vm_Check.l2b (a1 : api_World) : Int → Option ((Int) ⊕ (Int))
  | (x119) => (if x119 < (a1.Links.length : Int) then (if 0 ≤ x119 then ((vm_lane.f ((nth a1.Links x119).To)).bind fun t155 => (if t155 = true then (if (nth a1.Links x119).Look < 1 then some (.inr 1) else ((vtime_Valid.f ((nth a1.Links x119).Look)).bind fun t159 => (if t159 = true then some (.inl (IntKind.i64.wrap (x119 + 1))) else some (.inr 1)))) else some (.inr 1))) else none) else some (.inr 0))
noncomputable def vm_Check.l2 (a1 : api_World) (s : Int) : Option (Int) := loopR (vm_Check.l2b a1) s
noncomputable def vm_Check.f (a1 : api_World) : Option (Int) := ((code_Check.f a1.Prog).bind fun t89 => (if t89 = 0 then ((vm_lane.f a1.Self).bind fun t96 => (if t96 = true then (if 1024 < (a1.Links.length : Int) then some 1 else vm_Check.l2 a1 (0)) else some 1)) else some t89))
theorem vm_Check.ok {a1 : api_World} {A2 : Option Addr} {c3 : Nat} {A5 : Option Addr} {c6 : Nat} (hr4 : SlR E_api_Instr.rep hf A2 c3 a1.Prog) (hr7 : SlR E_api_Link.rep hf A5 c6 a1.Links) {r : Int} (h : vm_Check.f a1 = some r) (hS : St B w (l) hf) :
    Calls prog 6 #[.agg #[.slice A2 a1.Prog.length c3, .int .i64 a1.Self, .slice A5 a1.Links.length c6, .int .u64 a1.Seed]] w (Ret fun v w => v = .int .i64 r ∧ St B w (l) hf) := by
  have h := Holds.of h
  refine en func6 rfl ntmps6 rfl (sr (bx hS rfl rfl rfl rfl fun b85 w hS => pn 1 rfl (ln (RC.seq (sr (RL.s (Vl.fa 0 underlying26 rfl sizeOf22 rfl rfl) rfl (RL.s (Vl.ld 0 hS isAgg22 rfl rfl rfl) rfl (cF (fun _ hg => code_Check.ok hr4 hg hS) call17 h rfl rfl rfl ?_))))))))
  rintro t89 h _ w ⟨rfl, hS⟩
  refine pn 1 rfl (lnsr (pn 2 rfl (ln ?_)))
  refine RC.iteN 10 rfl h (fun hc91 h => ?_) fun hc91 h => ?_
  next =>
   refine RC.condF rfl (sk (RC.seq (sr (RL.s (Vl.fa 1 underlying26 rfl sizeOf3 rfl rfl) rfl (RL.s (Vl.ld 0 hS isAgg3 rfl rfl rfl) rfl (cF (fun _ hg => vm_lane.ok hg hS) call18 h rfl rfl rfl ?_))))))
   rintro t96 h _ w ⟨rfl, hS⟩
   refine pn 2 rfl ?_
   refine RL.iteM 16 rfl h (fun hc98 h => ?_) fun hc98 h => ?_
   next =>
    refine RL.sg (Vl.fa 2 underlying26 rfl sizeOf23 rfl rfl) rfl rfl (RL.sg (Vl.ld 0 hS isAgg23 rfl rfl rfl) rfl rfl (RL.sg (Vl.lenSl underlying23 rfl) rfl rfl (pn 2 rfl (ln ?_))))
    refine RC.iteP 21 rfl h (fun hc99 h => ?_) fun hc99 h => ?_
    next =>
     refine RC.condT rfl (sr (pn 1 rfl (lr (RQ.ret ?_))))
     obtain rfl := h.some
     exact rt results6 rfl ⟨rfl, hS.d0⟩
    next =>
     refine RC.condF rfl (sk (RC.seq (sr (RL.s (Vl.fa 2 underlying26 rfl sizeOf23 rfl rfl) rfl (RL.s (Vl.ld 0 hS isAgg23 rfl rfl rfl) rfl (RL.s (Vl.lenSl underlying23 rfl) rfl (pn 1 rfl (ln (RC.block ?_)))))))))
     refine fun a ha => RC.loop (N := 45) (body := (vm_Check.l2b a1)) (φ := (· = r)) (fun (s : Int) a w => ∃ (x119 : Int), s = (x119) ∧ Has 45 [(23, .slice A5 a1.Links.length c6), (24, .int .i64 (a1.Links.length : Int)), (25, .int .i64 x119)] a ∧ St B w (l) hf) ?_ (s0 := (0)) h ⟨0, rfl, ha.to ⟨rfl, rfl, rfl, trivial⟩, hS.d0⟩
     rintro G141 x119 a w ⟨_, rfl, ha, hS⟩ h
     revert a
     show RC _ _ _ _ _ _
     refine sr (pn 1 rfl (ln (RC.seq ?_)))
     refine RC.iteP 26 rfl h (fun hc143 h => ?_) fun hc143 h => ?_
     next =>
      refine RC.condT rfl (sk (RC.seq (RC.block (sr ?_))))
      obtain ⟨hq153, h⟩ := h.req
      refine RL.s (Vl.indexAddr underlying23 sizeOf62 rfl rfl ((hr7.2.world hS.sub).adr hq153 hc143) hq153 hc143 rfl) rfl (RL.s (Vl.loadA isAgg62 sizeOf62 rfl rfl ((hr7.2.world hS.sub).cells hq153 hc143)) rfl (al hS zeroValue62 rfl rfl rfl fun b154 w hS => RL.e0 (OW.store (vs := [.int .i64 ((nth a1.Links x119).From), .int .i64 ((nth a1.Links x119).To), .int .i64 ((nth a1.Links x119).Look), .bool ((nth a1.Links x119).Loose)]) 0 hS rfl rfl rfl rfl sizeOf62 rfl rfl rfl rfl) rfl ?_))
      rintro _ w ⟨rfl, hS⟩
      have hS : St B w (Cl _ [_, _, _, _] _ :: l) hf := hS
      refine lnsr (RL.s (Vl.fa 1 underlying62 rfl sizeOf3 rfl rfl) rfl (RL.s (Vl.ld 0 hS isAgg3 rfl rfl rfl) rfl (cF (fun _ hg => vm_lane.ok hg hS) call18 h rfl rfl rfl ?_)))
      rintro t155 h _ w ⟨rfl, hS⟩
      refine pn 2 rfl ?_
      refine RL.iteM 33 rfl h (fun hc157 h => ?_) fun hc157 h => ?_
      next =>
       refine RL.sg (Vl.fa 2 underlying62 rfl sizeOf2 rfl rfl) rfl rfl (RL.sg (Vl.ld 0 hS isAgg2 rfl rfl rfl) rfl rfl (pn 3 rfl ?_))
       refine RL.iteP 38 rfl h (fun hc158 h => ?_) fun hc158 h => ?_
       next =>
        refine pn 5 rfl (ln (RC.condT rfl (sr (pn 1 rfl (lr (RQ.inB_ret (RQ.ret ?_)))))))
        have h := h.inrS
        refine RQ.ret (RQ.inB_ret (RQ.ret ?_))
        obtain rfl := h.some
        exact rt results6 rfl ⟨rfl, hS.d0⟩
       next =>
        refine RL.sg (Vl.fa 2 underlying62 rfl sizeOf2 rfl rfl) rfl rfl (RL.sg (Vl.ld 0 hS isAgg2 rfl rfl rfl) rfl rfl (cF (fun _ hg => vtime_Valid.ok hg hS) call19 h rfl rfl rfl ?_))
        rintro t159 h _ w ⟨rfl, hS⟩
        refine pn 2 rfl (ln ?_)
        refine RC.iteM 43 rfl h (fun hc161 h => ?_) fun hc161 h => ?_
        next =>
         refine RC.condF rfl (RC.skip (RQ.inB_n (RQ.then_n (RC.region (pn 2 rfl (RL.nil ?_))))))
         exact fun a ha => ⟨(IntKind.i64.wrap (x119 + 1)), ⟨(IntKind.i64.wrap (x119 + 1)), rfl, ha.to ⟨rfl, rfl, rfl, trivial⟩, hS.d0⟩, h.some⟩
        next =>
         refine RC.condT rfl (sr (pn 1 rfl (lr (RQ.inB_ret (RQ.ret ?_)))))
         have h := h.inrS
         refine RQ.ret (RQ.inB_ret (RQ.ret ?_))
         obtain rfl := h.some
         exact rt results6 rfl ⟨rfl, hS.d0⟩
      next =>
       refine pn 10 rfl (ln (RC.condT rfl (sr (pn 1 rfl (lr (RQ.inB_ret (RQ.ret ?_)))))))
       have h := h.inrS
       refine RQ.ret (RQ.inB_ret (RQ.ret ?_))
       obtain rfl := h.some
       exact rt results6 rfl ⟨rfl, hS.d0⟩
     next =>
      refine RC.condF rfl (RC.exit (RQ.exitT ?_))
      have h := h.inrS
      refine RQ.exitT (RQ.inB_hit (tsr (pn 1 rfl (lr ?_))))
      obtain rfl := h.some
      exact rt results6 rfl ⟨rfl, hS⟩
   next =>
    refine pn 5 rfl (ln (RC.condT rfl (sr (pn 1 rfl (lr (RQ.ret ?_))))))
    obtain rfl := h.some
    exact rt results6 rfl ⟨rfl, hS.d0⟩
  next =>
   refine RC.condT rfl (sr (pn 2 rfl (lr (RQ.ret ?_))))
   obtain rfl := h.some
   exact rt results6 rfl ⟨rfl, hS.d0⟩

/-! ### isochron/log.New: function 5 -/
noncomputable def log_New.f (a1 : api_World) (a8 : api_State) (a9 : Int) : Option ((Int) ⊕ (log_Log × Int)) := ((vm_Check.f a1).bind fun t44 => (if t44 = 0 then (if (if a8.Sent < a8.Draws then a8.Sent else a8.Draws) < 0 then some (.inl 1) else (if 1099511627776 < (if a8.Draws < a8.Sent then a8.Sent else a8.Draws) then some (.inl 1) else (if a9 < 1 then some (.inl 1) else (if 1024 < a9 then some (.inl 1) else (if (([] : List api_Instr).length + a1.Prog.length) * 32 ≤ 140737488355328 then (if (([] : List api_Link).length + a1.Links.length) * 32 ≤ 140737488355328 then some (.inr (((⟨(⟨(([] : List api_Instr) ++ a1.Prog), a1.Self, (([] : List api_Link) ++ a1.Links), a1.Seed⟩ : api_World), true, a8, a9, [], false⟩ : log_Log), 0))) else none) else none))))) else some (.inl t44)))
theorem log_New.ok {a1 : api_World} {a8 : api_State} {a9 : Int} {A2 : Option Addr} {c3 : Nat} {A5 : Option Addr} {c6 : Nat} (hr4 : SlR E_api_Instr.rep hf A2 c3 a1.Prog) (hr7 : SlR E_api_Link.rep hf A5 c6 a1.Links) {r : (Int) ⊕ (log_Log × Int)} (h : log_New.f a1 a8 a9 = some r) (hS : St B w (l) hf) :
    Calls prog 5 #[.agg #[.slice A2 a1.Prog.length c3, .int .i64 a1.Self, .slice A5 a1.Links.length c6, .int .u64 a1.Seed], .agg #[.int .i64 a8.Regs.c0, .int .i64 a8.Regs.c1, .int .i64 a8.Regs.c2, .int .i64 a8.Regs.c3, .int .i64 a8.Regs.c4, .int .i64 a8.Regs.c5, .int .i64 a8.Regs.c6, .int .i64 a8.Regs.c7, .int .i64 a8.Draws, .int .i64 a8.Sent], .int .i64 a9] w (Ret fun v w => match (generalizing := false) r with | .inl r_ => v = .tuple #[.pointer none, .int .i64 r_] ∧ St B w (l) hf | .inr (r_) => ∃ hf_ : Hp, Sub hf hf_ ∧ ∃ (b_1 : Nat) (A_2 : Option Addr) (c_3 : Nat) (A_5 : Option Addr) (c_6 : Nat), v = .tuple #[.pointer (some ⟨b_1, 0, none⟩), .int .i64 r_.2] ∧ St B w (Cl b_1 [.slice A_2 r_.1.w.Prog.length c_3, .int .i64 r_.1.w.Self, .slice A_5 r_.1.w.Links.length c_6, .int .u64 r_.1.w.Seed, .bool r_.1.made, .int .i64 r_.1.state.Regs.c0, .int .i64 r_.1.state.Regs.c1, .int .i64 r_.1.state.Regs.c2, .int .i64 r_.1.state.Regs.c3, .int .i64 r_.1.state.Regs.c4, .int .i64 r_.1.state.Regs.c5, .int .i64 r_.1.state.Regs.c6, .int .i64 r_.1.state.Regs.c7, .int .i64 r_.1.state.Draws, .int .i64 r_.1.state.Sent, .int .i64 r_.1.every, .slice none 0 0, .bool r_.1.stuck] 58 :: l) hf_ ∧ SlR E_api_Instr.rep hf_ A_2 c_3 r_.1.w.Prog ∧ SlR E_api_Link.rep hf_ A_5 c_6 r_.1.w.Links) := by
  have h := Holds.of h
  refine en func5 rfl ntmps5 rfl (sr (bx hS rfl rfl rfl rfl fun b39 w hS => bx hS rfl rfl rfl rfl fun b40 w hS => pn 2 rfl (ln (RC.seq (sr (RL.s (Vl.lw 1 hS isAgg26 sizeOf26 rfl rfl rfl) rfl (cF (fun _ hg => vm_Check.ok hr4 hr7 hg hS) call6 h rfl rfl rfl ?_)))))))
  rintro t44 h _ w ⟨rfl, hS⟩
  refine pn 1 rfl (lnsr (pn 2 rfl (ln ?_)))
  refine RC.iteN 12 rfl h (fun hc46 h => ?_) fun hc46 h => ?_
  next =>
   refine RC.condF rfl (sk (RC.seq (sr (RL.s (Vl.fa 8 underlying38 rfl sizeOf3 rfl rfl) rfl (RL.s (Vl.ld 0 hS isAgg3 rfl rfl rfl) rfl (RL.s (Vl.fa 9 underlying38 rfl sizeOf3 rfl rfl) rfl (RL.s (Vl.ld 0 hS isAgg3 rfl rfl rfl) rfl (RL.s (Vl.min2 rfl rfl) rfl (pn 2 rfl ?_)))))))))
   refine RL.iteP 20 rfl h (fun hc51 h => ?_) fun hc51 h => ?_
   next =>
    refine pn 15 rfl (ln (RC.condT rfl (sr (pn 2 rfl (lr (RQ.ret ?_))))))
    obtain rfl := h.some
    exact rt results5 rfl ⟨rfl, hS.d0.d0⟩
   next =>
    refine RL.sg (Vl.fa 8 underlying38 rfl sizeOf3 rfl rfl) rfl rfl (RL.sg (Vl.ld 0 hS isAgg3 rfl rfl rfl) rfl rfl (RL.sg (Vl.fa 9 underlying38 rfl sizeOf3 rfl rfl) rfl rfl (RL.sg (Vl.ld 0 hS isAgg3 rfl rfl rfl) rfl rfl (RL.sg (Vl.max2 rfl rfl) rfl rfl (pn 3 rfl ?_)))))
    refine RL.iteP 28 rfl h (fun hc52 h => ?_) fun hc52 h => ?_
    next =>
     refine pn 7 rfl (ln (RC.condT rfl (sr (pn 2 rfl (lr (RQ.ret ?_))))))
     obtain rfl := h.some
     exact rt results5 rfl ⟨rfl, hS.d0.d0⟩
    next =>
     refine pn 4 rfl ?_
     refine RL.iteP 32 rfl h (fun hc53 h => ?_) fun hc53 h => ?_
     next =>
      refine pn 3 rfl (ln (RC.condT rfl (sr (pn 2 rfl (lr (RQ.ret ?_))))))
      obtain rfl := h.some
      exact rt results5 rfl ⟨rfl, hS.d0.d0⟩
     next =>
      refine pn 3 rfl (ln ?_)
      refine RC.iteP 35 rfl h (fun hc54 h => ?_) fun hc54 h => ?_
      next =>
       refine RC.condT rfl (sr (pn 2 rfl (lr (RQ.ret ?_))))
       obtain rfl := h.some
       exact rt results5 rfl ⟨rfl, hS.d0.d0⟩
      next =>
       refine RC.condF rfl (sk (sr (RL.s (Vl.fa 0 underlying26 rfl sizeOf22 rfl rfl) rfl (RL.s (Vl.ld 1 hS isAgg22 rfl rfl rfl) rfl ?_))))
       obtain ⟨hq55, h⟩ := h.req
       have hS := hS.nilSl E_api_Instr 89
       refine RL.e (OW.appendV (E := E_api_Instr) (xs := ([] : List api_Instr)) (ys := a1.Prog) 0 hS rfl underlying22 type89 rfl rfl rfl rfl (by decide) (by decide) rfl rfl (hr4.2.world hS.sub) hq55 rfl) rfl rfl ?_
       rintro v58 w hS
       obtain ⟨A56, c57, rfl, _⟩ := hS.osShape 0 rfl
       have hS : St B w (_ :: _ :: _ :: l) hf := hS
       refine RL.s (Vl.fa 0 underlying26 rfl sizeOf22 rfl rfl) rfl (RL.e0 (OW.store (vs := [.slice A56 (([] : List api_Instr) ++ a1.Prog).length c57]) 2 hS rfl rfl rfl rfl sizeOf22 rfl rfl rfl rfl) rfl ?_)
       rintro _ w ⟨rfl, hS⟩
       have hS : St B w (_ :: _ :: Cl _ [_, _, _, _] _ :: l) hf := hS
       refine lnsr (RL.s (Vl.fa 2 underlying26 rfl sizeOf23 rfl rfl) rfl (RL.s (Vl.ld 2 hS isAgg23 rfl rfl rfl) rfl ?_))
       obtain ⟨hq59, h⟩ := h.req
       have hS := hS.nilSl E_api_Link 62
       refine RL.e (OW.appendV (E := E_api_Link) (xs := ([] : List api_Link)) (ys := a1.Links) 0 hS rfl underlying23 type62 rfl rfl rfl rfl (by decide) (by decide) rfl rfl (hr7.2.world hS.sub) hq59 rfl) rfl rfl ?_
       rintro v62 w hS
       obtain ⟨A60, c61, rfl, _⟩ := hS.osShape 0 rfl
       have hS : St B w (_ :: _ :: _ :: _ :: l) hf := hS
       refine RL.s (Vl.fa 2 underlying26 rfl sizeOf23 rfl rfl) rfl (RL.e0 (OW.store (vs := [.slice A60 (([] : List api_Link) ++ a1.Links).length c61]) 3 hS rfl rfl rfl rfl sizeOf23 rfl rfl rfl rfl) rfl ?_)
       rintro _ w ⟨rfl, hS⟩
       have hS : St B w (_ :: _ :: _ :: Cl _ [_, _, _, _] _ :: l) hf := hS
       refine lnsr (RL.s (Vl.lw 3 hS isAgg26 sizeOf26 rfl rfl rfl) rfl (RL.s (Vl.lw 2 hS isAgg38 sizeOf38 rfl rfl rfl) rfl (pn 1 rfl (RL.s (Vl.build (v := .agg #[.slice A56 (([] : List api_Instr) ++ a1.Prog).length c57, .int .i64 a1.Self, .slice A60 (([] : List api_Link) ++ a1.Links).length c61, .int .u64 a1.Seed, .bool true, .int .i64 a8.Regs.c0, .int .i64 a8.Regs.c1, .int .i64 a8.Regs.c2, .int .i64 a8.Regs.c3, .int .i64 a8.Regs.c4, .int .i64 a8.Regs.c5, .int .i64 a8.Regs.c6, .int .i64 a8.Regs.c7, .int .i64 a8.Draws, .int .i64 a8.Sent, .int .i64 a9, .slice none 0 0, .bool false]) (parts := [(0, .tmp 44), (1, .const (.bool true)), (2, .tmp 45), (3, .tmp 46)]) rfl (by kernel_rfl)) rfl ?_))))
       obtain ⟨hf, hs63, hS, hr64⟩ := St.promote hS.p1
       obtain ⟨hf, hs65, hS, hr66⟩ := St.promote hS
       refine bx hS rfl rfl rfl rfl fun b67 w hS => pn 2 rfl (lr ?_)
       obtain rfl := h.some
       exact rt results5 rfl ⟨_, (hs63.trans hs65), b67, A56, c57, A60, c61, rfl, hS.d1.d1, (hr64.mono hs65), hr66⟩
  next =>
   refine RC.condT rfl (sr (pn 3 rfl (lr (RQ.ret ?_))))
   obtain rfl := h.some
   exact rt results5 rfl ⟨rfl, hS.d0.d0⟩

/-! ### (*isochron/log.Log).none: function 20 -/
noncomputable def log_Log_none.f (a2 : log_Log) : Option (Bool) := some (!a2.made)
theorem log_Log_none.ok {a2 : log_Log} {b1 : Nat} {A3 : Option Addr} {c4 : Nat} {A6 : Option Addr} {c7 : Nat} {A9 : Option Addr} {c10 : Nat} {cs11 : List Value} (hr5 : SlR E_api_Instr.rep hf A3 c4 a2.w.Prog) (hr8 : SlR E_api_Link.rep hf A6 c7 a2.w.Links) (hx12 : RepL R_log_done hf cs11 a2.l) {r : Bool} (h : log_Log_none.f a2 = some r) (hS : St B w (Cl b1 [.slice A3 a2.w.Prog.length c4, .int .i64 a2.w.Self, .slice A6 a2.w.Links.length c7, .int .u64 a2.w.Seed, .bool a2.made, .int .i64 a2.state.Regs.c0, .int .i64 a2.state.Regs.c1, .int .i64 a2.state.Regs.c2, .int .i64 a2.state.Regs.c3, .int .i64 a2.state.Regs.c4, .int .i64 a2.state.Regs.c5, .int .i64 a2.state.Regs.c6, .int .i64 a2.state.Regs.c7, .int .i64 a2.state.Draws, .int .i64 a2.state.Sent, .int .i64 a2.every, .slice A9 a2.l.length c10, .bool a2.stuck] 58 :: OSl 67 10 (.slice A9 a2.l.length c10) a2.l.length cs11 :: l) hf) :
    Calls prog 20 #[.pointer (some ⟨b1, 0, none⟩)] w (Ret fun v w => v = .bool r ∧ St B w (Cl b1 [.slice A3 a2.w.Prog.length c4, .int .i64 a2.w.Self, .slice A6 a2.w.Links.length c7, .int .u64 a2.w.Seed, .bool a2.made, .int .i64 a2.state.Regs.c0, .int .i64 a2.state.Regs.c1, .int .i64 a2.state.Regs.c2, .int .i64 a2.state.Regs.c3, .int .i64 a2.state.Regs.c4, .int .i64 a2.state.Regs.c5, .int .i64 a2.state.Regs.c6, .int .i64 a2.state.Regs.c7, .int .i64 a2.state.Draws, .int .i64 a2.state.Sent, .int .i64 a2.every, .slice A9 a2.l.length c10, .bool a2.stuck] 58 :: OSl 67 10 (.slice A9 a2.l.length c10) a2.l.length cs11 :: l) hf) := by
  have h := Holds.of h
  refine en func20 rfl ntmps20 rfl (sr (pn 1 rfl (lnsr (pn 1 rfl (RL.s (Vl.bin (v := .bool false) rfl rfl (by kernel_rfl)) rfl (pn 3 rfl (RL.sg (Vl.fa 4 underlying58 rfl sizeOf4 rfl rfl) rfl rfl (RL.sg (Vl.ld 0 hS isAgg4 rfl rfl rfl) rfl rfl (pn 3 rfl (ln ?_))))))))))
  refine RC.ret ?_
  obtain rfl := h.some
  exact rt results20 rfl ⟨rfl, hS⟩

/-! ### (*isochron/log.Log).Kept: function 16 -/
noncomputable def log_Log_Kept.l2b (a2 : log_Log) : Int × Int → Option ((Int × Int) ⊕ (Int))
  | (x162, x163) => (if x163 < (a2.l.length : Int) then (if 0 ≤ x163 then (if 0 < x163 then (if ((nth a2.l x163).ahead).has = true then some (.inl (IntKind.i64.wrap (x162 + 1), IntKind.i64.wrap (x163 + 1))) else some (.inl (x162, IntKind.i64.wrap (x163 + 1)))) else some (.inl (x162, IntKind.i64.wrap (x163 + 1)))) else none) else some (.inr x162))
noncomputable def log_Log_Kept.l2 (a2 : log_Log) (s : Int × Int) : Option (Int) := loopR (log_Log_Kept.l2b a2) s
noncomputable def log_Log_Kept.f (a2 : log_Log) : Option (Int) := ((log_Log_none.f a2).bind fun t116 => (if t116 = true then some 0 else log_Log_Kept.l2 a2 (1, 0)))
theorem log_Log_Kept.ok {a2 : log_Log} {b1 : Nat} {A3 : Option Addr} {c4 : Nat} {A6 : Option Addr} {c7 : Nat} {A9 : Option Addr} {c10 : Nat} {cs11 : List Value} (hr5 : SlR E_api_Instr.rep hf A3 c4 a2.w.Prog) (hr8 : SlR E_api_Link.rep hf A6 c7 a2.w.Links) (hx12 : RepL R_log_done hf cs11 a2.l) {r : Int} (h : log_Log_Kept.f a2 = some r) (hS : St B w (Cl b1 [.slice A3 a2.w.Prog.length c4, .int .i64 a2.w.Self, .slice A6 a2.w.Links.length c7, .int .u64 a2.w.Seed, .bool a2.made, .int .i64 a2.state.Regs.c0, .int .i64 a2.state.Regs.c1, .int .i64 a2.state.Regs.c2, .int .i64 a2.state.Regs.c3, .int .i64 a2.state.Regs.c4, .int .i64 a2.state.Regs.c5, .int .i64 a2.state.Regs.c6, .int .i64 a2.state.Regs.c7, .int .i64 a2.state.Draws, .int .i64 a2.state.Sent, .int .i64 a2.every, .slice A9 a2.l.length c10, .bool a2.stuck] 58 :: OSl 67 10 (.slice A9 a2.l.length c10) a2.l.length cs11 :: l) hf) :
    Calls prog 16 #[.pointer (some ⟨b1, 0, none⟩)] w (Ret fun v w => v = .int .i64 r ∧ St B w (Cl b1 [.slice A3 a2.w.Prog.length c4, .int .i64 a2.w.Self, .slice A6 a2.w.Links.length c7, .int .u64 a2.w.Seed, .bool a2.made, .int .i64 a2.state.Regs.c0, .int .i64 a2.state.Regs.c1, .int .i64 a2.state.Regs.c2, .int .i64 a2.state.Regs.c3, .int .i64 a2.state.Regs.c4, .int .i64 a2.state.Regs.c5, .int .i64 a2.state.Regs.c6, .int .i64 a2.state.Regs.c7, .int .i64 a2.state.Draws, .int .i64 a2.state.Sent, .int .i64 a2.every, .slice A9 a2.l.length c10, .bool a2.stuck] 58 :: OSl 67 10 (.slice A9 a2.l.length c10) a2.l.length cs11 :: l) hf) := by
  have h := Holds.of h
  refine en func16 rfl ntmps16 rfl (sr (pn 1 rfl (ln (RC.seq (sr (pn 1 rfl (cF (fun _ hg => log_Log_none.ok hr5 hr8 hx12 hg hS) call20 h rfl rfl rfl ?_)))))))
  rintro t116 h _ w ⟨rfl, hS⟩
  refine ln ?_
  refine RC.iteB 7 rfl h (fun hc118 h => ?_) fun hc118 h => ?_
  next =>
   refine RC.condT rfl (sr (pn 1 rfl (lr (RQ.ret ?_))))
   obtain rfl := h.some
   exact rt results16 rfl ⟨rfl, hS⟩
  next =>
   refine RC.condF rfl (sk (sr (pn 1 rfl (ln (RC.seq (sr (pn 2 rfl (RL.s (Vl.fa 16 underlying58 rfl sizeOf56 rfl rfl) rfl (RL.s (Vl.ld 0 hS isAgg56 rfl rfl rfl) rfl (RL.s (Vl.lenSl underlying56 rfl) rfl (pn 1 rfl ?_)))))))))))
   refine ln (RC.block ?_)
   refine fun a ha => RC.loop (N := 29) (body := (log_Log_Kept.l2b a2)) (φ := (· = r)) (fun (s : Int × Int) a w => ∃ (x162 : Int) (x163 : Int), s = (x162, x163) ∧ Has 29 [(3, .int .i64 x162), (11, .slice A9 a2.l.length c10), (12, .int .i64 (a2.l.length : Int)), (13, .int .i64 x163)] a ∧ St B w (OSl 67 10 (.slice A9 a2.l.length c10) a2.l.length cs11 :: Cl b1 [.slice A3 a2.w.Prog.length c4, .int .i64 a2.w.Self, .slice A6 a2.w.Links.length c7, .int .u64 a2.w.Seed, .bool a2.made, .int .i64 a2.state.Regs.c0, .int .i64 a2.state.Regs.c1, .int .i64 a2.state.Regs.c2, .int .i64 a2.state.Regs.c3, .int .i64 a2.state.Regs.c4, .int .i64 a2.state.Regs.c5, .int .i64 a2.state.Regs.c6, .int .i64 a2.state.Regs.c7, .int .i64 a2.state.Draws, .int .i64 a2.state.Sent, .int .i64 a2.every, .slice A9 a2.l.length c10, .bool a2.stuck] 58 :: l) hf) ?_ (s0 := (1, 0)) h ⟨1, 0, rfl, ha.to ⟨rfl, rfl, rfl, rfl, trivial⟩, hS.p1⟩
   rintro G189 _ a w ⟨x162, x163, rfl, ha, hS⟩ h
   revert a
   show RC _ _ _ _ _ _
   refine sr (pn 1 rfl (ln (RC.seq ?_)))
   refine RC.iteP 14 rfl h (fun hc191 h => ?_) fun hc191 h => ?_
   next =>
    refine RC.condT rfl (sk (RC.seq (RC.block (sr (pn 1 rfl ?_)))))
    obtain ⟨hq203, h⟩ := h.req
    refine RL.s (Vl.indexOwn 0 hS rfl underlying56 sizeOf67 rfl rfl hq203 hc191) rfl ?_
    obtain ⟨_, ⟨A205, c206, b208, rfl, hr207, hr209⟩, hl204⟩ := RepL.elem R_log_done_ok hx12 hq203 hc191
    refine RL.s (Vl.loadA (vs := [.int .i64 ((((nth a2.l x163).event).Key).Time), .int .i64 ((((nth a2.l x163).event).Key).From), .int .i64 ((((nth a2.l x163).event).Key).Seq), .int .i64 (((nth a2.l x163).event).To), .int .i64 (((nth a2.l x163).event).Value), .int .i64 (((nth a2.l x163).event).Uid), .bool (((nth a2.l x163).event).Anti), .int .i64 ((nth a2.l x163).fault), .slice A205 ((nth a2.l x163).sent).length c206, .pointer (pz b208 ((nth a2.l x163).ahead).has)]) isAgg67 sizeOf67 rfl rfl (hS.elemCells 0 rfl hl204 (off := 0) rfl)) rfl (al hS zeroValue67 rfl rfl rfl fun b210 w hS => pn 1 rfl (RL.e0 (OW.store (vs := [.int .i64 ((((nth a2.l x163).event).Key).Time), .int .i64 ((((nth a2.l x163).event).Key).From), .int .i64 ((((nth a2.l x163).event).Key).Seq), .int .i64 (((nth a2.l x163).event).To), .int .i64 (((nth a2.l x163).event).Value), .int .i64 (((nth a2.l x163).event).Uid), .bool (((nth a2.l x163).event).Anti), .int .i64 ((nth a2.l x163).fault), .slice A205 ((nth a2.l x163).sent).length c206, .pointer (pz b208 ((nth a2.l x163).ahead).has)]) 0 hS rfl rfl rfl rfl sizeOf67 rfl rfl rfl rfl) rfl ?_))
    rintro _ w ⟨rfl, hS⟩
    have hS : St B w (Cl _ [_, _, _, _, _, _, _, _, _, _] _ :: _ :: _ :: l) hf := hS
    refine lnsr (pn 3 rfl ?_)
    refine RL.iteP 20 rfl h (fun hc211 h => ?_) fun hc211 h => ?_
    next =>
     refine RL.sg (Vl.fa 9 underlying67 rfl sizeOf65 rfl rfl) rfl rfl (RL.sg (Vl.ld 0 hS isAgg65 rfl rfl rfl) rfl rfl (RL.sg (Vl.ptNeq (fun b w => by kernel_rfl) (fun w => by kernel_rfl) rfl rfl) rfl rfl (pn 1 rfl (ln ?_))))
     refine RC.iteB 24 rfl h (fun hc212 h => ?_) fun hc212 h => ?_
     next =>
      refine RC.condT rfl (RC.region (pn 3 rfl (RL.nil (RQ.inB_n (RQ.then_n (RC.region (pn 2 rfl (RL.nil ?_))))))))
      exact fun a ha => ⟨(IntKind.i64.wrap (x162 + 1), IntKind.i64.wrap (x163 + 1)), ⟨(IntKind.i64.wrap (x162 + 1)), (IntKind.i64.wrap (x163 + 1)), rfl, ha.to ⟨rfl, rfl, rfl, rfl, trivial⟩, hS.d0⟩, h.some⟩
     next =>
      refine RC.condF rfl (RC.skip (RQ.inB_n (RQ.then_n (RC.region (pn 2 rfl (RL.nil ?_))))))
      exact fun a ha => ⟨(x162, IntKind.i64.wrap (x163 + 1)), ⟨x162, (IntKind.i64.wrap (x163 + 1)), rfl, ha.to ⟨rfl, rfl, rfl, rfl, trivial⟩, hS.d0⟩, h.some⟩
    next =>
     refine pn 4 rfl (ln (RC.condF rfl (RC.skip (RQ.inB_n (RQ.then_n (RC.region (pn 2 rfl (RL.nil ?_))))))))
     exact fun a ha => ⟨(x162, IntKind.i64.wrap (x163 + 1)), ⟨x162, (IntKind.i64.wrap (x163 + 1)), rfl, ha.to ⟨rfl, rfl, rfl, rfl, trivial⟩, hS.d0⟩, h.some⟩
   next =>
    refine RC.condF rfl (RC.exit (RQ.exitT ?_))
    have h := h.inrS
    refine RQ.exitT (RQ.inB_hit (tsr (pn 2 rfl (lr ?_))))
    obtain rfl := h.some
    exact rt results16 rfl ⟨rfl, hS.p1⟩

/-! ### isochron/isochronlaw10.awake: function 7 -/
noncomputable def isochronlaw10vawake.f  : Option (Bool) := ((log_New.f (⟨[], 0, [], 0⟩ : api_World) (⟨(⟨0, 0, 0, 0, 0, 0, 0, 0⟩ : Arr8xInti64), 0, 0⟩ : api_State) 1).bind fun t17 => match t17 with | .inl y19 => some false | .inr ((y20, y21)) => (if y21 = 0 then ((log_Log_Kept.f (⟨y20.w, y20.made, y20.state, y20.every, ([] : List log_done), y20.stuck⟩ : log_Log)).bind fun t31 => some (decide (t31 = 1))) else some false))
theorem isochronlaw10vawake.ok {r : Bool} (h : isochronlaw10vawake.f = some r) (hS : St B w (l) hf) :
    Calls prog 7 #[] w (Ret fun v w => v = .bool r ∧ St B w (l) hf) := by
  have h := Holds.of h
  refine en func7 rfl ntmps7 rfl (sr (pn 1 rfl (lnsr (RL.s (Vl.build (v := .agg #[.slice none 0 0, .int .i64 0, .slice none 0 0, .int .u64 0]) (parts := []) rfl (by kernel_rfl)) rfl (RL.s (Vl.build (v := .agg #[.int .i64 0, .int .i64 0, .int .i64 0, .int .i64 0, .int .i64 0, .int .i64 0, .int .i64 0, .int .i64 0, .int .i64 0, .int .i64 0]) (parts := []) rfl (by kernel_rfl)) rfl ?_)))))
  obtain ⟨t17, hg18, h⟩ := h.bind
  have hc := log_New.ok (a1 := (⟨[], 0, [], 0⟩ : api_World)) (SlR.nil (A := none) (c := 0)) (SlR.nil (A := none) (c := 0)) hg18 hS
  rcases t17 with y19 | ⟨y20, y21⟩
  · refine RL.e (OW.callF (ls := [.tmp 4, .tmp 5, .const (.int .i64 1)]) rfl call5 hc) rfl rfl ?_
    rintro _ w ⟨rfl, hS⟩
    refine pn 5 rfl (lnsr (pn 1 rfl (RL.s (Vl.bin (v := .bool false) rfl rfl (by kernel_rfl)) rfl (pn 10 rfl (lr ?_)))))
    obtain rfl := h.some
    exact rt results7 rfl ⟨rfl, hS⟩
  · refine RL.e (OW.callF (ls := [.tmp 4, .tmp 5, .const (.int .i64 1)]) rfl call5 hc) rfl rfl ?_
    rintro _ w ⟨hf, hs29, b22, A23, c24, A26, c27, rfl, hS, hr25, hr28⟩
    refine pn 5 rfl (lnsr (pn 1 rfl (RL.s (Vl.bin (v := .bool true) rfl rfl (by kernel_rfl)) rfl (pn 5 rfl ?_))))
    refine RL.iteP 15 rfl h (fun hc30 h => ?_) fun hc30 h => ?_
    next =>
     refine pn 1 rfl ?_
     have hS := hS.nilSlR 67 10
     have hS : St B w (_ :: _ :: l) hf := hS
     refine cF (fun _ hg => log_Log_Kept.ok (a2 := (⟨y20.w, y20.made, y20.state, y20.every, ([] : List log_done), y20.stuck⟩ : log_Log)) hr25 hr28 RepL.nil hg hS.p1) call16 h rfl rfl rfl ?_
     rintro t31 h _ w ⟨rfl, hS⟩
     refine pn 3 rfl (lr ?_)
     obtain rfl := h.some
     exact rt results7 rfl ⟨rfl, (hS.d0.d0).down hs29⟩
    next =>
     refine pn 5 rfl (lr ?_)
     obtain rfl := h.some
     exact rt results7 rfl ⟨rfl, (hS.d0).down hs29⟩

end Go.Proofs.Gx
