/-
  The walks of functions, each with what it computes: printed by wip/gx.py.
-/
import Derived.Test.YtofgeidjbfmmdaaGreatDoorW0
import Derived.Test.YtofgeidjbfmmdaaGreatDoorW11
set_option linter.unusedVariables false
set_option maxRecDepth 100000
set_option maxHeartbeats 4000000
namespace Go.Proofs.Gx
open Go.Sl Tryz
variable {B : Base} {w : World} {l : List HProp} {hf : Hp}
/-! ### isochron/isochronref05.math: function 96 -/
noncomputable def isochronref05vmath.j2 (a1 a2 a3 : Int) : Option (Int) := (if a1 = 6 then (if ¬ a3 = 0 then some (IntKind.i64.wrap (Int.tdiv a2 a3)) else none) else (if ¬ a3 = 0 then some (Int.tmod a2 a3) else none))
noncomputable def isochronref05vmath.f (a1 a2 a3 : Int) : Option (Int) := (if a1 = 3 then some (IntKind.i64.wrap (a2 + a3)) else (if a1 = 4 then some (IntKind.i64.wrap (a2 - a3)) else (if a1 = 5 then some (IntKind.i64.wrap (a2 * a3)) else (if a1 = 8 then (if a2 < a3 then some 1 else some 0) else (if a1 = 9 then (if a2 = a3 then some 1 else some 0) else (if a3 = 0 then some 0 else ((isochronref05vleast.f a2).bind fun t61 => (if t61 = true then (if a3 = (-1) then (if a1 = 6 then some a2 else some 0) else isochronref05vmath.j2 a1 a2 a3) else isochronref05vmath.j2 a1 a2 a3))))))))
theorem isochronref05vmath.ok {a1 a2 a3 : Int} {r : Int} (h : isochronref05vmath.f a1 a2 a3 = some r) (hS : St B w (l) hf) :
    Calls prog 96 #[.int .i64 a1, .int .i64 a2, .int .i64 a3] w (Ret fun v w => v = .int .i64 r ∧ St B w (l) hf) := by
  have h := Holds.of h
  refine en func96 rfl ntmps96 rfl (sr (pn 1 rfl (ln (RC.seq (sr (pn 1 rfl (ln (RC.block (sr (pn 2 rfl ?_))))))))))
  refine ln ?_
  refine RC.iteP 8 rfl h (fun hc42 h => ?_) fun hc42 h => ?_
  next =>
   refine RC.condT rfl (sr (pn 4 rfl (lr (RQ.inB_ret (RQ.ret ?_)))))
   obtain rfl := h.some
   exact rt results96 rfl ⟨rfl, hS⟩
  next =>
   refine RC.condF rfl (sr (pn 2 rfl (ln ?_)))
   refine RC.iteP 13 rfl h (fun hc43 h => ?_) fun hc43 h => ?_
   next =>
    refine RC.condT rfl (sr (pn 4 rfl (lr (RQ.inB_ret (RQ.ret ?_)))))
    obtain rfl := h.some
    exact rt results96 rfl ⟨rfl, hS⟩
   next =>
    refine RC.condF rfl (sr (pn 2 rfl (ln ?_)))
    refine RC.iteP 18 rfl h (fun hc44 h => ?_) fun hc44 h => ?_
    next =>
     refine RC.condT rfl (sr (pn 4 rfl (lr (RQ.inB_ret (RQ.ret ?_)))))
     obtain rfl := h.some
     exact rt results96 rfl ⟨rfl, hS⟩
    next =>
     refine RC.condF rfl (sr (pn 2 rfl (ln ?_)))
     refine RC.iteP 23 rfl h (fun hc45 h => ?_) fun hc45 h => ?_
     next =>
      refine RC.condT rfl (RC.seq (sr (pn 3 rfl (ln ?_))))
      refine RC.iteP 27 rfl h (fun hc46 h => ?_) fun hc46 h => ?_
      next =>
       refine RC.condT rfl (sr (pn 1 rfl (lr (RQ.ret (RQ.inB_ret (RQ.ret ?_))))))
       obtain rfl := h.some
       exact rt results96 rfl ⟨rfl, hS⟩
      next =>
       refine RC.condF rfl (sk (sr (pn 1 rfl (lr (RQ.inB_ret (RQ.ret ?_))))))
       obtain rfl := h.some
       exact rt results96 rfl ⟨rfl, hS⟩
     next =>
      refine RC.condF rfl (sr (pn 2 rfl (ln ?_)))
      refine RC.iteP 28 rfl h (fun hc47 h => ?_) fun hc47 h => ?_
      next =>
       refine RC.condT rfl (RC.seq (sr (pn 3 rfl (ln ?_))))
       refine RC.iteP 32 rfl h (fun hc48 h => ?_) fun hc48 h => ?_
       next =>
        refine RC.condT rfl (sr (pn 1 rfl (lr (RQ.ret (RQ.inB_ret (RQ.ret ?_))))))
        obtain rfl := h.some
        exact rt results96 rfl ⟨rfl, hS⟩
       next =>
        refine RC.condF rfl (sk (sr (pn 1 rfl (lr (RQ.inB_ret (RQ.ret ?_))))))
        obtain rfl := h.some
        exact rt results96 rfl ⟨rfl, hS⟩
      next =>
       refine RC.condF rfl (RC.skip (RQ.inB_n (RQ.then_n (RC.seq (sr (pn 2 rfl (ln ?_)))))))
       refine RC.iteP 34 rfl h (fun hc50 h => ?_) fun hc50 h => ?_
       next =>
        refine RC.condT rfl (sr (pn 1 rfl (lr (RQ.ret ?_))))
        obtain rfl := h.some
        exact rt results96 rfl ⟨rfl, hS⟩
       next =>
        refine RC.condF rfl (sk ?_)
        refine RC.join (fun (s : Unit) a w => s = () ∧ Has 52 [(0, .int .i64 a1), (1, .int .i64 a2), (2, .int .i64 a3)] a ∧ St B w (l) hf ∧ Holds (· = r) (isochronref05vmath.j2 a1 a2 a3)) ?_ ?_
        · rintro _ a w ⟨rfl, ha, hS, h⟩
          revert a
          show RC _ _ _ _ _ _
          refine RC.seq (sr (pn 2 rfl (ln ?_)))
          refine RC.iteP 45 rfl h (fun hc58 h => ?_) fun hc58 h => ?_
          next =>
           refine RC.condT rfl (sr (pn 2 rfl ?_))
           obtain ⟨hq59, h⟩ := h.req
           refine RL.s (Vl.quo rfl rfl hq59) rfl (pn 1 rfl (lr (RQ.ret ?_)))
           obtain rfl := h.some
           exact rt results96 rfl ⟨rfl, hS⟩
          next =>
           refine RC.condF rfl (sk (sr (pn 2 rfl ?_)))
           obtain ⟨hq60, h⟩ := h.req
           refine RL.s (Vl.rem rfl rfl hq60) rfl (pn 1 rfl (lr ?_))
           obtain rfl := h.some
           exact rt results96 rfl ⟨rfl, hS⟩
        · refine RC.seq ?_
          refine RC.region (pn 1 rfl (cF (fun _ hg => isochronref05vleast.ok hg hS) call118 h rfl rfl rfl ?_))
          rintro t61 h _ w ⟨rfl, hS⟩
          refine pn 1 rfl ?_
          refine RL.iteB 37 rfl h (fun hc63 h => ?_) fun hc63 h => ?_
          next =>
           refine pn 3 rfl (ln ?_)
           refine RC.iteP 40 rfl h (fun hc64 h => ?_) fun hc64 h => ?_
           next =>
            refine RC.condT rfl (RC.seq (sr (pn 2 rfl (ln ?_))))
            refine RC.iteP 42 rfl h (fun hc65 h => ?_) fun hc65 h => ?_
            next =>
             refine RC.condT rfl (sr (pn 2 rfl (lr (RQ.ret (RQ.ret ?_)))))
             obtain rfl := h.some
             exact rt results96 rfl ⟨rfl, hS⟩
            next =>
             refine RC.condF rfl (sk (sr (pn 1 rfl (lr (RQ.ret ?_)))))
             obtain rfl := h.some
             exact rt results96 rfl ⟨rfl, hS⟩
           next =>
            refine RC.condF rfl (RC.skip ?_)
            exact fun a ha => ⟨(), rfl, ha.to ⟨rfl, rfl, rfl, trivial⟩, hS, h⟩
          next =>
           refine pn 3 rfl (ln (RC.condF rfl (RC.skip ?_)))
           exact fun a ha => ⟨(), rfl, ha.to ⟨rfl, rfl, rfl, trivial⟩, hS, h⟩

/-! ### (*isochron/isochronref05.run).step: function 83 -/
noncomputable def isochronref05vrun_step.f (a2 : List api_Instr) (a6 : Int) (a7 : List api_Link) (a11 a12 a13 a14 a15 a16 a17 : Int) (a18 : Bool) (fn21 : (Nat → Int)) (a22 : Int) (a25 : List api_Out) (a26 : Int) : Option (Int × Bool × (Nat → Int) × Int × List api_Out × Int) := (if 0 ≤ a26 ∧ a26 < (a2.length : Int) then (if (nth a2 a26).Op = 0 then some (0, false, fn21, a22, a25, IntKind.i64.wrap (a26 + 1)) else (if (nth a2 a26).Op = 1 then (if 0 ≤ (nth a2 a26).A ∧ (nth a2 a26).A < 16 then some (0, true, upd fn21 (((nth a2 a26).A).toNat * 1) ((nth a2 a26).B), a22, a25, IntKind.i64.wrap (a26 + 1)) else none) else (if (nth a2 a26).Op = 2 then (if 0 ≤ (nth a2 a26).B ∧ (nth a2 a26).B < 16 then (if 0 ≤ (nth a2 a26).A ∧ (nth a2 a26).A < 16 then some (0, true, upd fn21 (((nth a2 a26).A).toNat * 1) (fn21 (((nth a2 a26).B).toNat * 1)), a22, a25, IntKind.i64.wrap (a26 + 1)) else none) else none) else (if (nth a2 a26).Op = 10 then some (0, true, fn21, a22, a25, (nth a2 a26).A) else (if (nth a2 a26).Op = 11 then (if 0 ≤ (nth a2 a26).A ∧ (nth a2 a26).A < 16 then (if fn21 (((nth a2 a26).A).toNat * 1) = 0 then some (0, true, fn21, a22, a25, (nth a2 a26).B) else some (0, true, fn21, a22, a25, IntKind.i64.wrap (a26 + 1))) else none) else (if (nth a2 a26).Op = 12 then ((isochronref05vrun_send.f a2 a6 a7 a11 a12 a13 a14 a15 a16 a17 a18 fn21 a22 a25 (IntKind.i64.wrap (a26 + 1)) (nth a2 a26)).bind fun (y95, y96) => some (y95, (decide (y95 = 0)), fn21, a22, y96, IntKind.i64.wrap (a26 + 1))) else (if (nth a2 a26).Op = 13 then (if 0 ≤ (nth a2 a26).B ∧ (nth a2 a26).B < 16 then ((isochronref04vBelow.f a11 a6 a22 (fn21 (((nth a2 a26).B).toNat * 1))).bind fun t102 => (if 0 ≤ (nth a2 a26).A ∧ (nth a2 a26).A < 16 then some (0, true, upd fn21 (((nth a2 a26).A).toNat * 1) t102, IntKind.i64.wrap (a22 + 1), a25, IntKind.i64.wrap (a26 + 1)) else none)) else none) else (if (nth a2 a26).Op = 14 then (if 0 ≤ (nth a2 a26).A ∧ (nth a2 a26).A < 16 then some (0, true, upd fn21 (((nth a2 a26).A).toNat * 1) a16, a22, a25, IntKind.i64.wrap (a26 + 1)) else none) else (if (nth a2 a26).Op = 15 then (if 0 ≤ (nth a2 a26).A ∧ (nth a2 a26).A < 16 then some (0, true, upd fn21 (((nth a2 a26).A).toNat * 1) a12, a22, a25, IntKind.i64.wrap (a26 + 1)) else none) else (if (nth a2 a26).Op = 16 then (if 0 ≤ (nth a2 a26).A ∧ (nth a2 a26).A < 16 then some (0, true, upd fn21 (((nth a2 a26).A).toNat * 1) a6, a22, a25, IntKind.i64.wrap (a26 + 1)) else none) else (if 0 ≤ (nth a2 a26).B ∧ (nth a2 a26).B < 16 then (if 0 ≤ (nth a2 a26).C ∧ (nth a2 a26).C < 16 then ((isochronref05vmath.f ((nth a2 a26).Op) (fn21 (((nth a2 a26).B).toNat * 1)) (fn21 (((nth a2 a26).C).toNat * 1))).bind fun t119 => (if 0 ≤ (nth a2 a26).A ∧ (nth a2 a26).A < 16 then some (0, true, upd fn21 (((nth a2 a26).A).toNat * 1) t119, a22, a25, IntKind.i64.wrap (a26 + 1)) else none)) else none) else none))))))))))) else none)
theorem isochronref05vrun_step.ok {a2 : List api_Instr} {a6 : Int} {a7 : List api_Link} {a11 a12 a13 a14 a15 a16 a17 : Int} {a18 : Bool} {fn21 : (Nat → Int)} {a22 : Int} {a25 : List api_Out} {a26 : Int} {b1 : Nat} {A3 : Option Addr} {c4 : Nat} {A8 : Option Addr} {c9 : Nat} {A19 : Option Addr} {c20 : Nat} {A23 : Option Addr} {c24 : Nat} (hr5 : SlR E_api_Instr.rep hf A3 c4 a2) (hr10 : SlR E_api_Link.rep hf A8 c9 a7) {r : Int × Bool × (Nat → Int) × Int × List api_Out × Int} (h : isochronref05vrun_step.f a2 a6 a7 a11 a12 a13 a14 a15 a16 a17 a18 fn21 a22 a25 a26 = some r) (hS : St B w (OSl 2 1 (.slice A19 16 c20) 16 [.int .i64 (fn21 0), .int .i64 (fn21 1), .int .i64 (fn21 2), .int .i64 (fn21 3), .int .i64 (fn21 4), .int .i64 (fn21 5), .int .i64 (fn21 6), .int .i64 (fn21 7), .int .i64 (fn21 8), .int .i64 (fn21 9), .int .i64 (fn21 10), .int .i64 (fn21 11), .int .i64 (fn21 12), .int .i64 (fn21 13), .int .i64 (fn21 14), .int .i64 (fn21 15)] :: Cl b1 [.slice A3 a2.length c4, .int .i64 a6, .slice A8 a7.length c9, .int .u64 a11, .int .i64 a12, .int .i64 a13, .int .i64 a14, .int .i64 a15, .int .i64 a16, .int .i64 a17, .bool a18, .slice A19 16 c20, .int .i64 a22, .slice A23 a25.length c24, .int .i64 a26] 182 :: OSf E_api_Out 176 (.slice A23 a25.length c24) a25 :: l) hf) :
    Calls prog 83 #[.pointer (some ⟨b1, 0, none⟩)] w (Ret fun v w => ∃ (A_1 : Option Addr) (c_2 : Nat), v = .tuple #[.int .i64 r.1, .bool r.2.1] ∧ St B w (OSf E_api_Out 176 (.slice A_1 r.2.2.2.2.1.length c_2) r.2.2.2.2.1 :: OSl 2 1 (.slice A19 16 c20) 16 [.int .i64 (r.2.2.1 0), .int .i64 (r.2.2.1 1), .int .i64 (r.2.2.1 2), .int .i64 (r.2.2.1 3), .int .i64 (r.2.2.1 4), .int .i64 (r.2.2.1 5), .int .i64 (r.2.2.1 6), .int .i64 (r.2.2.1 7), .int .i64 (r.2.2.1 8), .int .i64 (r.2.2.1 9), .int .i64 (r.2.2.1 10), .int .i64 (r.2.2.1 11), .int .i64 (r.2.2.1 12), .int .i64 (r.2.2.1 13), .int .i64 (r.2.2.1 14), .int .i64 (r.2.2.1 15)] :: Cl b1 [.slice A3 a2.length c4, .int .i64 a6, .slice A8 a7.length c9, .int .u64 a11, .int .i64 a12, .int .i64 a13, .int .i64 a14, .int .i64 a15, .int .i64 a16, .int .i64 a17, .bool a18, .slice A19 16 c20, .int .i64 r.2.2.2.1, .slice A_1 r.2.2.2.2.1.length c_2, .int .i64 r.2.2.2.2.2] 182 :: l) hf) := by
  have h := Holds.of h
  refine en func83 rfl ntmps83 rfl (sr (pn 2 rfl (ln (RC.seq (RC.planS (plD [0, 3, 6, 9, 13, 15, 18, 21, 25, 28, 31, 35, 38]) [12] hS (fun w hS => hS) follows rfl (by kernel_rfl) (NoTmp.then NoTmp.body) fun w hS => pp 2 rfl (RP.s0 2 rfl (fun w => Vl.fa 0 underlying182 rfl sizeOf124 rfl rfl) rfl (RP.s0 3 rfl (fun w => Vl.fa 0 underlying124 rfl sizeOf100 rfl rfl) rfl (RP.s 4 rfl rfl hS (fun w hS => Vl.ld 1 hS isAgg100 rfl rfl rfl) rfl (pp 2 rfl (RP.s0 7 rfl (fun w => Vl.fa 14 underlying182 rfl sizeOf3 rfl rfl) rfl (RP.s 8 rfl rfl hS (fun w hS => Vl.ld 1 hS isAgg3 rfl rfl rfl) rfl ?_)))))))))))
  obtain ⟨⟨hq75, hq76⟩, h⟩ := h.req
  refine RP.s 9 rfl rfl hS (fun w hS => Vl.indexAddr underlying100 sizeOf134 rfl rfl ((hr5.2.world hS.sub).adr hq75 hq76) hq75 hq76 rfl) rfl (RP.s 10 rfl rfl hS (fun w hS => Vl.loadA isAgg134 sizeOf134 rfl rfl ((hr5.2.world hS.sub).cells hq75 hq76)) rfl (RP.e 11 rfl (OW.alloc (cs := [.int .i64 0, .int .i64 0, .int .i64 0, .int .i64 0]) hS zeroValue134 rfl) rfl rfl ?_))
  rintro _ w ⟨b77, rfl, hS⟩
  refine ⟨fun _ => hS.d0, ?_⟩
  refine RP.e0 12 rfl (OW.store (vs := [.int .i64 ((nth a2 a26).Op), .int .i64 ((nth a2 a26).A), .int .i64 ((nth a2 a26).B), .int .i64 ((nth a2 a26).C)]) 0 hS rfl rfl rfl rfl sizeOf134 rfl rfl rfl rfl) rfl ?_
  rintro _ w ⟨rfl, hS⟩
  have hS : St B w (Cl _ [_, _, _, _] _ :: _ :: _ :: _ :: l) hf := hS
  refine ⟨(by intro hx; cases hx), ?_⟩
  refine RP.nil (tsr (pn 2 rfl (RL.s (Vl.fa 14 underlying182 rfl sizeOf3 rfl rfl) rfl (RL.s (Vl.ld 2 hS isAgg3 rfl rfl rfl) rfl (pn 2 rfl (RL.s (Vl.fa 14 underlying182 rfl sizeOf3 rfl rfl) rfl (RL.e0 (OW.store (vs := [.int .i64 (IntKind.i64.wrap (a26 + 1))]) 2 hS rfl rfl rfl rfl sizeOf3 rfl rfl rfl rfl) rfl ?_)))))))
  rintro _ w ⟨rfl, hS⟩
  have hS : St B w (_ :: _ :: Cl _ [_, _, _, _, _, _, _, _, _, _, _, _, _, _, _] _ :: _ :: l) hf := hS
  refine ln (RC.seq (sr (RL.s (Vl.fa 0 underlying134 rfl sizeOf3 rfl rfl) rfl (RL.s (Vl.ld 0 hS isAgg3 rfl rfl rfl) rfl (ln (RC.block (sr (pn 2 rfl (ln ?_)))))))))
  refine RC.iteP 52 rfl h (fun hc78 h => ?_) fun hc78 h => ?_
  next =>
   refine RC.condT rfl (sr (pn 2 rfl (lr (RQ.inB_ret (RQ.ret ?_)))))
   obtain rfl := h.some
   exact rt results83 rfl ⟨A23, c24, rfl, hS.d0.p2⟩
  next =>
   refine RC.condF rfl (sr (pn 2 rfl (ln ?_)))
   refine RC.iteP 54 rfl h (fun hc79 h => ?_) fun hc79 h => ?_
   next =>
    refine RC.condT rfl (RC.planS (plD [0, 3, 6, 10, 12, 16, 20, 23, 26, 29]) [8, 9] hS (fun w hS => hS) follows rfl (by kernel_rfl) (NoTmp.block (NoTmp.then NoTmp.body)) fun w hS => pp 2 rfl (RP.s0 2 rfl (fun w => Vl.fa 11 underlying182 rfl sizeOf171 rfl rfl) rfl (RP.s 3 rfl rfl hS (fun w hS => Vl.ld 2 hS isAgg171 rfl rfl rfl) rfl (RP.s0 4 rfl (fun w => Vl.fa 1 underlying134 rfl sizeOf3 rfl rfl) rfl (RP.s 5 rfl rfl hS (fun w hS => Vl.ld 0 hS isAgg3 rfl rfl rfl) rfl (RP.v1 6 rfl (Vl.fa 2 underlying134 rfl sizeOf3 rfl rfl) rfl rfl (RP.v1 7 rfl (Vl.ld 0 hS isAgg3 rfl rfl rfl) rfl rfl ?_)))))))
    obtain ⟨⟨hq80, hq81⟩, h⟩ := h.req
    refine RP.v1 8 rfl (Vl.indexAddr (a'' := (ad A19).add (((nth a2 a26).A).toNat * 1)) underlying171 sizeOf2 rfl rfl (hS.litAdr 1 rfl (by decide)) hq80 hq81 rfl) rfl rfl (RP.e0 9 rfl (OW.storeLitF (mk := (Value.int .i64)) (f := fn21) (n := 16) 1 hS rfl rfl rfl sizeOf2 (by omega) (fun _ => rfl) (fun _ => rfl) rfl) rfl ?_)
    rintro _ w ⟨rfl, hS⟩
    have hS : St B w (_ :: _ :: _ :: _ :: l) hf := hS
    refine ⟨(by intro hx; cases hx), ?_⟩
    refine RP.nil (RQ.inB_n (tsr (pn 2 rfl (lr ?_))))
    obtain rfl := h.some
    exact rt results83 rfl ⟨A23, c24, rfl, hS.d0.p2⟩
   next =>
    refine RC.condF rfl (sr (pn 2 rfl (ln ?_)))
    refine RC.iteP 65 rfl h (fun hc82 h => ?_) fun hc82 h => ?_
    next =>
     refine RC.condT rfl (RC.planS (plD [0, 3, 6, 10, 12, 16, 18, 21, 24, 28, 32, 35, 38, 41, 44, 47]) [14, 15] hS (fun w hS => hS) follows rfl (by kernel_rfl) (NoTmp.block (NoTmp.then NoTmp.body)) fun w hS => pp 2 rfl (RP.s0 2 rfl (fun w => Vl.fa 11 underlying182 rfl sizeOf171 rfl rfl) rfl (RP.s 3 rfl rfl hS (fun w hS => Vl.ld 2 hS isAgg171 rfl rfl rfl) rfl (RP.s0 4 rfl (fun w => Vl.fa 1 underlying134 rfl sizeOf3 rfl rfl) rfl (RP.s 5 rfl rfl hS (fun w hS => Vl.ld 0 hS isAgg3 rfl rfl rfl) rfl (pp 2 rfl (RP.s0 8 rfl (fun w => Vl.fa 11 underlying182 rfl sizeOf171 rfl rfl) rfl (RP.s 9 rfl rfl hS (fun w hS => Vl.ld 2 hS isAgg171 rfl rfl rfl) rfl (RP.v1 10 rfl (Vl.fa 2 underlying134 rfl sizeOf3 rfl rfl) rfl rfl (RP.v1 11 rfl (Vl.ld 0 hS isAgg3 rfl rfl rfl) rfl rfl ?_))))))))))
     obtain ⟨⟨hq83, hq84⟩, h⟩ := h.req
     refine RP.v1 12 rfl (Vl.indexAddr (a'' := (ad A19).add (((nth a2 a26).B).toNat * 1)) underlying171 sizeOf2 rfl rfl (hS.litAdr 1 rfl (by decide)) hq83 hq84 rfl) rfl rfl (RP.v1 13 rfl (Vl.load isAgg2 rfl (hS.litCell (j := ((nth a2 a26).B).toNat * 1) (cs := fc (Value.int .i64) 16 fn21) 1 rfl (fc_get (by omega)))) rfl rfl ?_)
     obtain ⟨⟨hq85, hq86⟩, h⟩ := h.req
     refine RP.v1 14 rfl (Vl.indexAddr (a'' := (ad A19).add (((nth a2 a26).A).toNat * 1)) underlying171 sizeOf2 rfl rfl (hS.litAdr 1 rfl (by decide)) hq85 hq86 rfl) rfl rfl (RP.e0 15 rfl (OW.storeLitF (mk := (Value.int .i64)) (f := fn21) (n := 16) 1 hS rfl rfl rfl sizeOf2 (by omega) (fun _ => rfl) (fun _ => rfl) rfl) rfl ?_)
     rintro _ w ⟨rfl, hS⟩
     have hS : St B w (_ :: _ :: _ :: _ :: l) hf := hS
     refine ⟨(by intro hx; cases hx), ?_⟩
     refine RP.nil (RQ.inB_n (tsr (pn 2 rfl (lr ?_))))
     obtain rfl := h.some
     exact rt results83 rfl ⟨A23, c24, rfl, hS.d0.p2⟩
    next =>
     refine RC.condF rfl (sr (pn 2 rfl (ln ?_)))
     refine RC.iteP 82 rfl h (fun hc87 h => ?_) fun hc87 h => ?_
     next =>
      refine RC.condT rfl (RC.region (pn 1 rfl (RL.s (Vl.fa 1 underlying134 rfl sizeOf3 rfl rfl) rfl (RL.s (Vl.ld 0 hS isAgg3 rfl rfl rfl) rfl (pn 1 rfl (RL.s (Vl.fa 14 underlying182 rfl sizeOf3 rfl rfl) rfl (RL.e0 (OW.store (vs := [.int .i64 ((nth a2 a26).A)]) 2 hS rfl rfl rfl rfl sizeOf3 rfl rfl rfl rfl) rfl ?_)))))))
      rintro _ w ⟨rfl, hS⟩
      have hS : St B w (_ :: _ :: Cl _ [_, _, _, _, _, _, _, _, _, _, _, _, _, _, _] _ :: _ :: l) hf := hS
      refine RL.nil (RQ.inB_n (tsr (pn 2 rfl (lr ?_))))
      obtain rfl := h.some
      exact rt results83 rfl ⟨A23, c24, rfl, hS.d0.p2⟩
     next =>
      refine RC.condF rfl (sr (pn 2 rfl (ln ?_)))
      refine RC.iteP 89 rfl h (fun hc88 h => ?_) fun hc88 h => ?_
      next =>
       refine RC.condT rfl (RC.seq (RC.planS (plD [0, 3, 6, 10, 14, 17, 20, 23, 26]) [6, 7, 8] hS (fun w hS => hS) follows rfl (by kernel_rfl) (NoTmp.then (NoTmp.block (NoTmp.then NoTmp.body))) fun w hS => pp 2 rfl (RP.s0 2 rfl (fun w => Vl.fa 11 underlying182 rfl sizeOf171 rfl rfl) rfl (RP.s 3 rfl rfl hS (fun w hS => Vl.ld 2 hS isAgg171 rfl rfl rfl) rfl (RP.v1 4 rfl (Vl.fa 1 underlying134 rfl sizeOf3 rfl rfl) rfl rfl (RP.v1 5 rfl (Vl.ld 0 hS isAgg3 rfl rfl rfl) rfl rfl ?_))))))
       obtain ⟨⟨hq89, hq90⟩, h⟩ := h.req
       refine RP.v1 6 rfl (Vl.indexAddr (a'' := (ad A19).add (((nth a2 a26).A).toNat * 1)) underlying171 sizeOf2 rfl rfl (hS.litAdr 1 rfl (by decide)) hq89 hq90 rfl) rfl rfl (RP.v1 7 rfl (Vl.load isAgg2 rfl (hS.litCell (j := ((nth a2 a26).A).toNat * 1) (cs := fc (Value.int .i64) 16 fn21) 1 rfl (fc_get (by omega)))) rfl rfl (RP.v1 8 rfl (Vl.int rfl rfl rfl) rfl rfl (RP.nil (RQ.then_n ?_))))
       refine RC.iteP 99 rfl h (fun hc91 h => ?_) fun hc91 h => ?_
       next =>
        refine RC.condT rfl (RC.region (pn 1 rfl (RL.s (Vl.fa 2 underlying134 rfl sizeOf3 rfl rfl) rfl (RL.s (Vl.ld 0 hS isAgg3 rfl rfl rfl) rfl (pn 1 rfl (RL.s (Vl.fa 14 underlying182 rfl sizeOf3 rfl rfl) rfl (RL.e0 (OW.store (vs := [.int .i64 ((nth a2 a26).B)]) 2 hS rfl rfl rfl rfl sizeOf3 rfl rfl rfl rfl) rfl ?_)))))))
        rintro _ w ⟨rfl, hS⟩
        have hS : St B w (_ :: _ :: Cl _ [_, _, _, _, _, _, _, _, _, _, _, _, _, _, _] _ :: _ :: l) hf := hS
        refine RL.nil (RQ.inB_n (tsr (pn 2 rfl (lr ?_))))
        obtain rfl := h.some
        exact rt results83 rfl ⟨A23, c24, rfl, hS.d0.p2⟩
       next =>
        refine RC.condF rfl (RC.skip (RQ.inB_n (tsr (pn 2 rfl (lr ?_)))))
        obtain rfl := h.some
        exact rt results83 rfl ⟨A23, c24, rfl, hS.d0.p2⟩
      next =>
       refine RC.condF rfl (sr (pn 2 rfl (ln ?_)))
       refine RC.iteP 105 rfl h (fun hc92 h => ?_) fun hc92 h => ?_
       next =>
        refine RC.condT rfl (sr (pn 1 rfl (RL.s (Vl.lw 0 hS isAgg134 sizeOf134 rfl rfl rfl) rfl (cF (fun _ hg => isochronref05vrun_send.ok hr5 hr10 hg hS.p3.p3.p3) call94 h rfl rfl rfl ?_))))
        rintro ⟨y95, y96⟩ h _ w ⟨A97, c98, rfl, hS⟩
        refine pn 1 rfl (lnsr (pn 5 rfl (lr (RQ.inB_ret (RQ.ret ?_)))))
        obtain rfl := h.some
        exact rt results83 rfl ⟨A97, c98, rfl, hS.d3⟩
       next =>
        refine RC.condF rfl (sr (pn 2 rfl (ln ?_)))
        refine RC.iteP 113 rfl h (fun hc99 h => ?_) fun hc99 h => ?_
        next =>
         refine RC.condT rfl (RC.seq (RC.planS (plD [0, 3, 6, 10, 12, 16, 18, 21, 24, 27, 31, 33, 36, 39, 42, 46, 48, 51, 54, 58, 60, 63, 66, 70, 74, 77, 80, 83, 86, 89, 92]) [29, 30] hS (fun w hS => hS) follows rfl (by kernel_rfl) (NoTmp.then (NoTmp.block (NoTmp.then NoTmp.body))) fun w hS => pp 2 rfl (RP.s0 2 rfl (fun w => Vl.fa 11 underlying182 rfl sizeOf171 rfl rfl) rfl (RP.s 3 rfl rfl hS (fun w hS => Vl.ld 2 hS isAgg171 rfl rfl rfl) rfl (RP.s0 4 rfl (fun w => Vl.fa 1 underlying134 rfl sizeOf3 rfl rfl) rfl (RP.s 5 rfl rfl hS (fun w hS => Vl.ld 0 hS isAgg3 rfl rfl rfl) rfl (pp 2 rfl (RP.s0 8 rfl (fun w => Vl.fa 0 underlying182 rfl sizeOf124 rfl rfl) rfl (RP.s0 9 rfl (fun w => Vl.fa 3 underlying124 rfl sizeOf25 rfl rfl) rfl (RP.s 10 rfl rfl hS (fun w hS => Vl.ld 2 hS isAgg25 rfl rfl rfl) rfl (pp 2 rfl (RP.s0 13 rfl (fun w => Vl.fa 0 underlying182 rfl sizeOf124 rfl rfl) rfl (RP.s0 14 rfl (fun w => Vl.fa 1 underlying124 rfl sizeOf3 rfl rfl) rfl (RP.s 15 rfl rfl hS (fun w hS => Vl.ld 2 hS isAgg3 rfl rfl rfl) rfl ?_))))))))))))))
         refine pp 2 rfl (RP.s0 18 rfl (fun w => Vl.fa 12 underlying182 rfl sizeOf3 rfl rfl) rfl (RP.s 19 rfl rfl hS (fun w hS => Vl.ld 2 hS isAgg3 rfl rfl rfl) rfl (pp 2 rfl (RP.s0 22 rfl (fun w => Vl.fa 11 underlying182 rfl sizeOf171 rfl rfl) rfl (RP.s 23 rfl rfl hS (fun w hS => Vl.ld 2 hS isAgg171 rfl rfl rfl) rfl (RP.v1 24 rfl (Vl.fa 2 underlying134 rfl sizeOf3 rfl rfl) rfl rfl (RP.v1 25 rfl (Vl.ld 0 hS isAgg3 rfl rfl rfl) rfl rfl ?_)))))))
         obtain ⟨⟨hq100, hq101⟩, h⟩ := h.req
         refine RP.v1 26 rfl (Vl.indexAddr (a'' := (ad A19).add (((nth a2 a26).B).toNat * 1)) underlying171 sizeOf2 rfl rfl (hS.litAdr 1 rfl (by decide)) hq100 hq101 rfl) rfl rfl (RP.v1 27 rfl (Vl.load isAgg2 rfl (hS.litCell (j := ((nth a2 a26).B).toNat * 1) (cs := fc (Value.int .i64) 16 fn21) 1 rfl (fc_get (by omega)))) rfl rfl ?_)
         obtain ⟨t102, hg103, h⟩ := h.bind
         have hc := isochronref04vBelow.ok hg103 hS
         refine RP.e 28 rfl (OW.callF (ls := [.tmp 125, .tmp 130, .tmp 134, .tmp 142]) rfl call95 hc) rfl rfl ?_
         rintro _ w ⟨rfl, hS⟩
         refine ⟨fun _ => hS, ?_⟩
         obtain ⟨⟨hq104, hq105⟩, h⟩ := h.req
         refine RP.v1 29 rfl (Vl.indexAddr (a'' := (ad A19).add (((nth a2 a26).A).toNat * 1)) underlying171 sizeOf2 rfl rfl (hS.litAdr 1 rfl (by decide)) hq104 hq105 rfl) rfl rfl (RP.e0 30 rfl (OW.storeLitF (mk := (Value.int .i64)) (f := fn21) (n := 16) 1 hS rfl rfl rfl sizeOf2 (by omega) (fun _ => rfl) (fun _ => rfl) rfl) rfl ?_)
         rintro _ w ⟨rfl, hS⟩
         have hS : St B w (_ :: _ :: _ :: _ :: l) hf := hS
         refine ⟨(by intro hx; cases hx), ?_⟩
         refine RP.nil (RQ.then_n (RC.region (pn 2 rfl (RL.s (Vl.fa 12 underlying182 rfl sizeOf3 rfl rfl) rfl (RL.s (Vl.ld 2 hS isAgg3 rfl rfl rfl) rfl (pn 2 rfl (RL.s (Vl.fa 12 underlying182 rfl sizeOf3 rfl rfl) rfl (RL.e0 (OW.store (vs := [.int .i64 (IntKind.i64.wrap (a22 + 1))]) 2 hS rfl rfl rfl rfl sizeOf3 rfl rfl rfl rfl) rfl ?_))))))))
         rintro _ w ⟨rfl, hS⟩
         have hS : St B w (_ :: _ :: Cl _ [_, _, _, _, _, _, _, _, _, _, _, _, _, _, _] _ :: _ :: l) hf := hS
         refine RL.nil (RQ.inB_n (tsr (pn 2 rfl (lr ?_))))
         obtain rfl := h.some
         exact rt results83 rfl ⟨A23, c24, rfl, hS.d0.p2⟩
        next =>
         refine RC.condF rfl (sr (pn 2 rfl (ln ?_)))
         refine RC.iteP 152 rfl h (fun hc106 h => ?_) fun hc106 h => ?_
         next =>
          refine RC.condT rfl (RC.planS (plD [0, 3, 6, 10, 12, 16, 20, 23, 26, 29, 32, 35, 38]) [11, 12] hS (fun w hS => hS) follows rfl (by kernel_rfl) (NoTmp.block (NoTmp.then NoTmp.body)) fun w hS => pp 2 rfl (RP.s0 2 rfl (fun w => Vl.fa 11 underlying182 rfl sizeOf171 rfl rfl) rfl (RP.s 3 rfl rfl hS (fun w hS => Vl.ld 2 hS isAgg171 rfl rfl rfl) rfl (RP.s0 4 rfl (fun w => Vl.fa 1 underlying134 rfl sizeOf3 rfl rfl) rfl (RP.s 5 rfl rfl hS (fun w hS => Vl.ld 0 hS isAgg3 rfl rfl rfl) rfl (RP.v1 6 rfl (Vl.move rfl) rfl rfl (RP.v1 7 rfl (Vl.nilCheck rfl) rfl rfl (RP.v1 8 rfl (Vl.fa 4 underlying182 rfl sizeOf53 rfl rfl) rfl rfl (RP.v1 9 rfl (Vl.fa 8 underlying53 rfl sizeOf2 rfl rfl) rfl rfl (RP.v1 10 rfl (Vl.ld 2 hS isAgg2 rfl rfl rfl) rfl rfl ?_))))))))))
          obtain ⟨⟨hq107, hq108⟩, h⟩ := h.req
          refine RP.v1 11 rfl (Vl.indexAddr (a'' := (ad A19).add (((nth a2 a26).A).toNat * 1)) underlying171 sizeOf2 rfl rfl (hS.litAdr 1 rfl (by decide)) hq107 hq108 rfl) rfl rfl (RP.e0 12 rfl (OW.storeLitF (mk := (Value.int .i64)) (f := fn21) (n := 16) 1 hS rfl rfl rfl sizeOf2 (by omega) (fun _ => rfl) (fun _ => rfl) rfl) rfl ?_)
          rintro _ w ⟨rfl, hS⟩
          have hS : St B w (_ :: _ :: _ :: _ :: l) hf := hS
          refine ⟨(by intro hx; cases hx), ?_⟩
          refine RP.nil (RQ.inB_n (tsr (pn 2 rfl (lr ?_))))
          obtain rfl := h.some
          exact rt results83 rfl ⟨A23, c24, rfl, hS.d0.p2⟩
         next =>
          refine RC.condF rfl (sr (pn 2 rfl (ln ?_)))
          refine RC.iteP 166 rfl h (fun hc109 h => ?_) fun hc109 h => ?_
          next =>
           refine RC.condT rfl (RC.planS (plD [0, 3, 6, 10, 12, 16, 20, 23, 26, 29, 32, 35, 38, 41]) [12, 13] hS (fun w hS => hS) follows rfl (by kernel_rfl) (NoTmp.block (NoTmp.then NoTmp.body)) fun w hS => pp 2 rfl (RP.s0 2 rfl (fun w => Vl.fa 11 underlying182 rfl sizeOf171 rfl rfl) rfl (RP.s 3 rfl rfl hS (fun w hS => Vl.ld 2 hS isAgg171 rfl rfl rfl) rfl (RP.s0 4 rfl (fun w => Vl.fa 1 underlying134 rfl sizeOf3 rfl rfl) rfl (RP.s 5 rfl rfl hS (fun w hS => Vl.ld 0 hS isAgg3 rfl rfl rfl) rfl (RP.v1 6 rfl (Vl.move rfl) rfl rfl (RP.v1 7 rfl (Vl.nilCheck rfl) rfl rfl (RP.v1 8 rfl (Vl.fa 4 underlying182 rfl sizeOf53 rfl rfl) rfl rfl (RP.v1 9 rfl (Vl.fa 4 underlying53 rfl sizeOf42 rfl rfl) rfl rfl (RP.v1 10 rfl (Vl.fa 4 underlying42 rfl sizeOf2 rfl rfl) rfl rfl (RP.v1 11 rfl (Vl.ld 2 hS isAgg2 rfl rfl rfl) rfl rfl ?_)))))))))))
           obtain ⟨⟨hq110, hq111⟩, h⟩ := h.req
           refine RP.v1 12 rfl (Vl.indexAddr (a'' := (ad A19).add (((nth a2 a26).A).toNat * 1)) underlying171 sizeOf2 rfl rfl (hS.litAdr 1 rfl (by decide)) hq110 hq111 rfl) rfl rfl (RP.e0 13 rfl (OW.storeLitF (mk := (Value.int .i64)) (f := fn21) (n := 16) 1 hS rfl rfl rfl sizeOf2 (by omega) (fun _ => rfl) (fun _ => rfl) rfl) rfl ?_)
           rintro _ w ⟨rfl, hS⟩
           have hS : St B w (_ :: _ :: _ :: _ :: l) hf := hS
           refine ⟨(by intro hx; cases hx), ?_⟩
           refine RP.nil (RQ.inB_n (tsr (pn 2 rfl (lr ?_))))
           obtain rfl := h.some
           exact rt results83 rfl ⟨A23, c24, rfl, hS.d0.p2⟩
          next =>
           refine RC.condF rfl (sr (pn 2 rfl (ln ?_)))
           refine RC.iteP 181 rfl h (fun hc112 h => ?_) fun hc112 h => ?_
           next =>
            refine RC.condT rfl (RC.planS (plD [0, 3, 6, 10, 12, 16, 20, 23, 26, 29, 32, 35, 38]) [11, 12] hS (fun w hS => hS) follows rfl (by kernel_rfl) (NoTmp.block (NoTmp.then NoTmp.body)) fun w hS => pp 2 rfl (RP.s0 2 rfl (fun w => Vl.fa 11 underlying182 rfl sizeOf171 rfl rfl) rfl (RP.s 3 rfl rfl hS (fun w hS => Vl.ld 2 hS isAgg171 rfl rfl rfl) rfl (RP.s0 4 rfl (fun w => Vl.fa 1 underlying134 rfl sizeOf3 rfl rfl) rfl (RP.s 5 rfl rfl hS (fun w hS => Vl.ld 0 hS isAgg3 rfl rfl rfl) rfl (RP.v1 6 rfl (Vl.move rfl) rfl rfl (RP.v1 7 rfl (Vl.nilCheck rfl) rfl rfl (RP.v1 8 rfl (Vl.fa 0 underlying182 rfl sizeOf124 rfl rfl) rfl rfl (RP.v1 9 rfl (Vl.fa 1 underlying124 rfl sizeOf3 rfl rfl) rfl rfl (RP.v1 10 rfl (Vl.ld 2 hS isAgg3 rfl rfl rfl) rfl rfl ?_))))))))))
            obtain ⟨⟨hq113, hq114⟩, h⟩ := h.req
            refine RP.v1 11 rfl (Vl.indexAddr (a'' := (ad A19).add (((nth a2 a26).A).toNat * 1)) underlying171 sizeOf2 rfl rfl (hS.litAdr 1 rfl (by decide)) hq113 hq114 rfl) rfl rfl (RP.e0 12 rfl (OW.storeLitF (mk := (Value.int .i64)) (f := fn21) (n := 16) 1 hS rfl rfl rfl sizeOf2 (by omega) (fun _ => rfl) (fun _ => rfl) rfl) rfl ?_)
            rintro _ w ⟨rfl, hS⟩
            have hS : St B w (_ :: _ :: _ :: _ :: l) hf := hS
            refine ⟨(by intro hx; cases hx), ?_⟩
            refine RP.nil (RQ.inB_n (tsr (pn 2 rfl (lr ?_))))
            obtain rfl := h.some
            exact rt results83 rfl ⟨A23, c24, rfl, hS.d0.p2⟩
           next =>
            refine RC.condF rfl (RC.planS (plD [0, 3, 6, 10, 12, 16, 18, 22, 24, 27, 30, 34, 36, 40, 43, 46, 48, 51, 54, 58, 62, 65, 68, 71, 74, 77, 80]) [25, 26] hS (fun w hS => hS) follows rfl (by kernel_rfl) (NoTmp.block (NoTmp.then NoTmp.body)) fun w hS => pp 2 rfl (RP.s0 2 rfl (fun w => Vl.fa 11 underlying182 rfl sizeOf171 rfl rfl) rfl (RP.s 3 rfl rfl hS (fun w hS => Vl.ld 2 hS isAgg171 rfl rfl rfl) rfl (RP.s0 4 rfl (fun w => Vl.fa 1 underlying134 rfl sizeOf3 rfl rfl) rfl (RP.s 5 rfl rfl hS (fun w hS => Vl.ld 0 hS isAgg3 rfl rfl rfl) rfl (RP.s0 6 rfl (fun w => Vl.fa 0 underlying134 rfl sizeOf3 rfl rfl) rfl (RP.s 7 rfl rfl hS (fun w hS => Vl.ld 0 hS isAgg3 rfl rfl rfl) rfl (pp 2 rfl (RP.s0 10 rfl (fun w => Vl.fa 11 underlying182 rfl sizeOf171 rfl rfl) rfl (RP.s 11 rfl rfl hS (fun w hS => Vl.ld 2 hS isAgg171 rfl rfl rfl) rfl (RP.s0 12 rfl (fun w => Vl.fa 2 underlying134 rfl sizeOf3 rfl rfl) rfl (RP.s 13 rfl rfl hS (fun w hS => Vl.ld 0 hS isAgg3 rfl rfl rfl) rfl ?_))))))))))))
            obtain ⟨⟨hq115, hq116⟩, h⟩ := h.req
            refine RP.s 14 rfl rfl hS (fun w hS => Vl.indexAddr (a'' := (ad A19).add (((nth a2 a26).B).toNat * 1)) underlying171 sizeOf2 rfl rfl (hS.litAdr 1 rfl (by decide)) hq115 hq116 rfl) rfl (RP.s 15 rfl rfl hS (fun w hS => Vl.load isAgg2 rfl (hS.litCell (j := ((nth a2 a26).B).toNat * 1) (cs := fc (Value.int .i64) 16 fn21) 1 rfl (fc_get (by omega)))) rfl (pp 2 rfl (RP.s0 18 rfl (fun w => Vl.fa 11 underlying182 rfl sizeOf171 rfl rfl) rfl (RP.s 19 rfl rfl hS (fun w hS => Vl.ld 2 hS isAgg171 rfl rfl rfl) rfl (RP.v1 20 rfl (Vl.fa 3 underlying134 rfl sizeOf3 rfl rfl) rfl rfl (RP.v1 21 rfl (Vl.ld 0 hS isAgg3 rfl rfl rfl) rfl rfl ?_))))))
            obtain ⟨⟨hq117, hq118⟩, h⟩ := h.req
            refine RP.v1 22 rfl (Vl.indexAddr (a'' := (ad A19).add (((nth a2 a26).C).toNat * 1)) underlying171 sizeOf2 rfl rfl (hS.litAdr 1 rfl (by decide)) hq117 hq118 rfl) rfl rfl (RP.v1 23 rfl (Vl.load isAgg2 rfl (hS.litCell (j := ((nth a2 a26).C).toNat * 1) (cs := fc (Value.int .i64) 16 fn21) 1 rfl (fc_get (by omega)))) rfl rfl ?_)
            obtain ⟨t119, hg120, h⟩ := h.bind
            have hc := isochronref05vmath.ok hg120 hS
            refine RP.e 24 rfl (OW.callF (ls := [.tmp 33, .tmp 41, .tmp 49]) rfl call96 hc) rfl rfl ?_
            rintro _ w ⟨rfl, hS⟩
            refine ⟨fun _ => hS, ?_⟩
            obtain ⟨⟨hq121, hq122⟩, h⟩ := h.req
            refine RP.v1 25 rfl (Vl.indexAddr (a'' := (ad A19).add (((nth a2 a26).A).toNat * 1)) underlying171 sizeOf2 rfl rfl (hS.litAdr 1 rfl (by decide)) hq121 hq122 rfl) rfl rfl (RP.e0 26 rfl (OW.storeLitF (mk := (Value.int .i64)) (f := fn21) (n := 16) 1 hS rfl rfl rfl sizeOf2 (by omega) (fun _ => rfl) (fun _ => rfl) rfl) rfl ?_)
            rintro _ w ⟨rfl, hS⟩
            have hS : St B w (_ :: _ :: _ :: _ :: l) hf := hS
            refine ⟨(by intro hx; cases hx), ?_⟩
            refine RP.nil (RQ.inB_n (tsr (pn 2 rfl (lr ?_))))
            obtain rfl := h.some
            exact rt results83 rfl ⟨A23, c24, rfl, hS.d0.p2⟩

end Go.Proofs.Gx
