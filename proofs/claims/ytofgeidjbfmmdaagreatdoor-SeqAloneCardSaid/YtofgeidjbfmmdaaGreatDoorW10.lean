/-
  The walks of functions, each with what it computes: printed by wip/gx.py.
-/
import Derived.Test.YtofgeidjbfmmdaaGreatDoorW0
import Derived.Test.YtofgeidjbfmmdaaGreatDoorW9
set_option linter.unusedVariables false
set_option maxRecDepth 100000
set_option maxHeartbeats 4000000
namespace Go.Proofs.Gx
open Go.Sl Tryz
variable {B : Base} {w : World} {l : List HProp} {hf : Hp}
/-! ### isochron/isochronref03.may: function 60 -/
noncomputable def isochronref03vmay.j6 (a1 : api_Instr) (q115 : Bool) : Option (Bool) := (if q115 = true then ((isochronref03vreg.f a1.A).bind fun t117 => (if t117 = true then (if a1.B = 0 then some (decide (a1.C = 0)) else some false) else some false)) else some false)
noncomputable def isochronref03vmay.j5 (a1 : api_Instr) (a2 : Int) (q93 : Bool) : Option (Bool) := (if q93 = true then ((isochronref03vreg.f a1.A).bind fun t95 => (if t95 = true then ((isochronref03vreg.f a1.B).bind fun t98 => (if t98 = true then ((isochronref03vreg.f a1.C).bind fun t101 => some t101) else some false)) else some false)) else (if a1.Op = 10 then (if 0 ≤ a1.A then (if a1.A ≤ a2 then (if a1.B = 0 then some (decide (a1.C = 0)) else some false) else some false) else some false) else (if a1.Op = 11 then ((isochronref03vreg.f a1.A).bind fun t108 => (if t108 = true then (if 0 ≤ a1.B then (if a1.B ≤ a2 then some (decide (a1.C = 0)) else some false) else some false) else some false)) else (if a1.Op = 14 then isochronref03vmay.j6 a1 true else (if a1.Op = 15 then isochronref03vmay.j6 a1 true else isochronref03vmay.j6 a1 (decide (a1.Op = 16)))))))
noncomputable def isochronref03vmay.j4 (a1 : api_Instr) (a2 : Int) (q78 : Bool) : Option (Bool) := (if q78 = true then ((isochronref03vreg.f a1.A).bind fun t80 => (if t80 = true then ((isochronref03vreg.f a1.B).bind fun t83 => (if t83 = true then some (decide (a1.C = 0)) else some false)) else some false)) else (if a1.Op = 3 then isochronref03vmay.j5 a1 a2 true else (if a1.Op = 4 then isochronref03vmay.j5 a1 a2 true else (if a1.Op = 5 then isochronref03vmay.j5 a1 a2 true else (if a1.Op = 6 then isochronref03vmay.j5 a1 a2 true else (if a1.Op = 7 then isochronref03vmay.j5 a1 a2 true else (if a1.Op = 8 then isochronref03vmay.j5 a1 a2 true else (if a1.Op = 9 then isochronref03vmay.j5 a1 a2 true else isochronref03vmay.j5 a1 a2 (decide (a1.Op = 12))))))))))
noncomputable def isochronref03vmay.f (a1 : api_Instr) (a2 : Int) : Option (Bool) := (if a1.Op = 0 then (if a1.A = 0 then (if a1.B = 0 then some (decide (a1.C = 0)) else some false) else some false) else (if a1.Op = 1 then ((isochronref03vreg.f a1.A).bind fun t72 => (if t72 = true then (if (-2147483648) ≤ a1.B then (if a1.B ≤ 2147483647 then some (decide (a1.C = 0)) else some false) else some false) else some false)) else (if a1.Op = 2 then isochronref03vmay.j4 a1 a2 true else isochronref03vmay.j4 a1 a2 (decide (a1.Op = 13)))))
theorem isochronref03vmay.ok {a1 : api_Instr} {a2 : Int} {r : Bool} (h : isochronref03vmay.f a1 a2 = some r) (hS : St B w (l) hf) :
    Calls prog 60 #[.agg #[.int .i64 a1.Op, .int .i64 a1.A, .int .i64 a1.B, .int .i64 a1.C], .int .i64 a2] w (Ret fun v w => v = .bool r ∧ St B w (l) hf) := by
  have h := Holds.of h
  refine en func60 rfl ntmps60 rfl (sr (bx hS rfl rfl rfl rfl fun b67 w hS => pn 1 rfl (ln (RC.seq (sr (RL.s (Vl.fa 0 underlying134 rfl sizeOf3 rfl rfl) rfl (RL.s (Vl.ld 0 hS isAgg3 rfl rfl rfl) rfl (ln (RC.block (RC.seq ?_))))))))))
  refine RC.region (pn 2 rfl (ln ?_))
  refine RC.iteP 7 rfl h (fun hc68 h => ?_) fun hc68 h => ?_
  next =>
   refine RC.condT rfl (sr (RL.s (Vl.fa 1 underlying134 rfl sizeOf3 rfl rfl) rfl (RL.s (Vl.ld 0 hS isAgg3 rfl rfl rfl) rfl (pn 2 rfl ?_))))
   refine RL.iteP 12 rfl h (fun hc69 h => ?_) fun hc69 h => ?_
   next =>
    refine RL.sg (Vl.fa 2 underlying134 rfl sizeOf3 rfl rfl) rfl rfl (RL.sg (Vl.ld 0 hS isAgg3 rfl rfl rfl) rfl rfl (pn 3 rfl ?_))
    refine RL.iteP 17 rfl h (fun hc70 h => ?_) fun hc70 h => ?_
    next =>
     refine RL.sg (Vl.fa 3 underlying134 rfl sizeOf3 rfl rfl) rfl rfl (RL.sg (Vl.ld 0 hS isAgg3 rfl rfl rfl) rfl rfl (pn 3 rfl (lr (RQ.inB_ret (RQ.ret ?_)))))
     obtain rfl := h.some
     exact rt results60 rfl ⟨rfl, hS.d0⟩
    next =>
     refine pn 5 rfl (lr (RQ.inB_ret (RQ.ret ?_)))
     obtain rfl := h.some
     exact rt results60 rfl ⟨rfl, hS.d0⟩
   next =>
    refine pn 10 rfl (lr (RQ.inB_ret (RQ.ret ?_)))
    obtain rfl := h.some
    exact rt results60 rfl ⟨rfl, hS.d0⟩
  next =>
   refine RC.condF rfl (sr (pn 2 rfl (ln ?_)))
   refine RC.iteP 22 rfl h (fun hc71 h => ?_) fun hc71 h => ?_
   next =>
    refine RC.condT rfl (sr (RL.s (Vl.fa 1 underlying134 rfl sizeOf3 rfl rfl) rfl (RL.s (Vl.ld 0 hS isAgg3 rfl rfl rfl) rfl (cF (fun _ hg => isochronref03vreg.ok hg hS) call78 h rfl rfl rfl ?_))))
    rintro t72 h _ w ⟨rfl, hS⟩
    refine pn 1 rfl ?_
    refine RL.iteB 27 rfl h (fun hc74 h => ?_) fun hc74 h => ?_
    next =>
     refine RL.sg (Vl.fa 2 underlying134 rfl sizeOf3 rfl rfl) rfl rfl (RL.sg (Vl.ld 0 hS isAgg3 rfl rfl rfl) rfl rfl (pn 3 rfl ?_))
     refine RL.iteP 32 rfl h (fun hc75 h => ?_) fun hc75 h => ?_
     next =>
      refine RL.sg (Vl.fa 2 underlying134 rfl sizeOf3 rfl rfl) rfl rfl (RL.sg (Vl.ld 0 hS isAgg3 rfl rfl rfl) rfl rfl (pn 3 rfl ?_))
      refine RL.iteP 37 rfl h (fun hc76 h => ?_) fun hc76 h => ?_
      next =>
       refine RL.sg (Vl.fa 3 underlying134 rfl sizeOf3 rfl rfl) rfl rfl (RL.sg (Vl.ld 0 hS isAgg3 rfl rfl rfl) rfl rfl (pn 3 rfl (lr (RQ.inB_ret (RQ.ret ?_)))))
       obtain rfl := h.some
       exact rt results60 rfl ⟨rfl, hS.d0⟩
      next =>
       refine pn 5 rfl (lr (RQ.inB_ret (RQ.ret ?_)))
       obtain rfl := h.some
       exact rt results60 rfl ⟨rfl, hS.d0⟩
     next =>
      refine pn 10 rfl (lr (RQ.inB_ret (RQ.ret ?_)))
      obtain rfl := h.some
      exact rt results60 rfl ⟨rfl, hS.d0⟩
    next =>
     refine pn 15 rfl (lr (RQ.inB_ret (RQ.ret ?_)))
     obtain rfl := h.some
     exact rt results60 rfl ⟨rfl, hS.d0⟩
   next =>
    refine RC.condF rfl ?_
    refine RC.join (fun (s : Bool) a w => ∃ (q78 : Bool), s = (q78) ∧ Has 139 [(1, .int .i64 a2), (2, .pointer (some ⟨b67, 0, none⟩)), (6, .int .i64 a1.Op), (42, .bool q78)] a ∧ St B w (Cl b67 [.int .i64 a1.Op, .int .i64 a1.A, .int .i64 a1.B, .int .i64 a1.C] 134 :: l) hf ∧ Holds (· = r) (isochronref03vmay.j4 a1 a2 q78)) ?_ ?_
    · rintro q78 a w ⟨_, rfl, ha, hS, h⟩
      revert a
      show RC _ _ _ _ _ _
      refine RC.iteB 42 rfl h (fun hc79 h => ?_) fun hc79 h => ?_
      next =>
       refine RC.condT rfl (sr (RL.s (Vl.fa 1 underlying134 rfl sizeOf3 rfl rfl) rfl (RL.s (Vl.ld 0 hS isAgg3 rfl rfl rfl) rfl (cF (fun _ hg => isochronref03vreg.ok hg hS) call78 h rfl rfl rfl ?_))))
       rintro t80 h _ w ⟨rfl, hS⟩
       refine pn 1 rfl ?_
       refine RL.iteB 48 rfl h (fun hc82 h => ?_) fun hc82 h => ?_
       next =>
        refine RL.sg (Vl.fa 2 underlying134 rfl sizeOf3 rfl rfl) rfl rfl (RL.sg (Vl.ld 0 hS isAgg3 rfl rfl rfl) rfl rfl (cF (fun _ hg => isochronref03vreg.ok hg hS) call78 h rfl rfl rfl ?_))
        rintro t83 h _ w ⟨rfl, hS⟩
        refine pn 2 rfl ?_
        refine RL.iteB 53 rfl h (fun hc85 h => ?_) fun hc85 h => ?_
        next =>
         refine RL.sg (Vl.fa 3 underlying134 rfl sizeOf3 rfl rfl) rfl rfl (RL.sg (Vl.ld 0 hS isAgg3 rfl rfl rfl) rfl rfl (pn 3 rfl (lr (RQ.inB_ret (RQ.ret ?_)))))
         obtain rfl := h.some
         exact rt results60 rfl ⟨rfl, hS.d0⟩
        next =>
         refine pn 5 rfl (lr (RQ.inB_ret (RQ.ret ?_)))
         obtain rfl := h.some
         exact rt results60 rfl ⟨rfl, hS.d0⟩
       next =>
        refine pn 10 rfl (lr (RQ.inB_ret (RQ.ret ?_)))
        obtain rfl := h.some
        exact rt results60 rfl ⟨rfl, hS.d0⟩
      next =>
       refine RC.condF rfl ?_
       refine RC.join (fun (s : Bool) a w => ∃ (q93 : Bool), s = (q93) ∧ Has 139 [(1, .int .i64 a2), (2, .pointer (some ⟨b67, 0, none⟩)), (6, .int .i64 a1.Op), (58, .bool q93)] a ∧ St B w (Cl b67 [.int .i64 a1.Op, .int .i64 a1.A, .int .i64 a1.B, .int .i64 a1.C] 134 :: l) hf ∧ Holds (· = r) (isochronref03vmay.j5 a1 a2 q93)) ?_ ?_
       · rintro q93 a w ⟨_, rfl, ha, hS, h⟩
         revert a
         show RC _ _ _ _ _ _
         refine RC.iteB 58 rfl h (fun hc94 h => ?_) fun hc94 h => ?_
         next =>
          refine RC.condT rfl (sr (RL.s (Vl.fa 1 underlying134 rfl sizeOf3 rfl rfl) rfl (RL.s (Vl.ld 0 hS isAgg3 rfl rfl rfl) rfl (cF (fun _ hg => isochronref03vreg.ok hg hS) call78 h rfl rfl rfl ?_))))
          rintro t95 h _ w ⟨rfl, hS⟩
          refine pn 1 rfl ?_
          refine RL.iteB 70 rfl h (fun hc97 h => ?_) fun hc97 h => ?_
          next =>
           refine RL.sg (Vl.fa 2 underlying134 rfl sizeOf3 rfl rfl) rfl rfl (RL.sg (Vl.ld 0 hS isAgg3 rfl rfl rfl) rfl rfl (cF (fun _ hg => isochronref03vreg.ok hg hS) call78 h rfl rfl rfl ?_))
           rintro t98 h _ w ⟨rfl, hS⟩
           refine pn 2 rfl ?_
           refine RL.iteB 75 rfl h (fun hc100 h => ?_) fun hc100 h => ?_
           next =>
            refine RL.sg (Vl.fa 3 underlying134 rfl sizeOf3 rfl rfl) rfl rfl (RL.sg (Vl.ld 0 hS isAgg3 rfl rfl rfl) rfl rfl (cF (fun _ hg => isochronref03vreg.ok hg hS) call78 h rfl rfl rfl ?_))
            rintro t101 h _ w ⟨rfl, hS⟩
            refine pn 2 rfl (lr (RQ.inB_ret (RQ.ret ?_)))
            obtain rfl := h.some
            exact rt results60 rfl ⟨rfl, hS.d0⟩
           next =>
            refine pn 5 rfl (lr (RQ.inB_ret (RQ.ret ?_)))
            obtain rfl := h.some
            exact rt results60 rfl ⟨rfl, hS.d0⟩
          next =>
           refine pn 10 rfl (lr (RQ.inB_ret (RQ.ret ?_)))
           obtain rfl := h.some
           exact rt results60 rfl ⟨rfl, hS.d0⟩
         next =>
          refine RC.condF rfl (sr (pn 2 rfl (ln ?_)))
          refine RC.iteP 80 rfl h (fun hc103 h => ?_) fun hc103 h => ?_
          next =>
           refine RC.condT rfl (sr (RL.s (Vl.fa 1 underlying134 rfl sizeOf3 rfl rfl) rfl (RL.s (Vl.ld 0 hS isAgg3 rfl rfl rfl) rfl (pn 2 rfl ?_))))
           refine RL.iteP 85 rfl h (fun hc104 h => ?_) fun hc104 h => ?_
           next =>
            refine RL.sg (Vl.fa 1 underlying134 rfl sizeOf3 rfl rfl) rfl rfl (RL.sg (Vl.ld 0 hS isAgg3 rfl rfl rfl) rfl rfl (pn 4 rfl ?_))
            refine RL.iteP 91 rfl h (fun hc105 h => ?_) fun hc105 h => ?_
            next =>
             refine RL.sg (Vl.fa 2 underlying134 rfl sizeOf3 rfl rfl) rfl rfl (RL.sg (Vl.ld 0 hS isAgg3 rfl rfl rfl) rfl rfl (pn 3 rfl ?_))
             refine RL.iteP 96 rfl h (fun hc106 h => ?_) fun hc106 h => ?_
             next =>
              refine RL.sg (Vl.fa 3 underlying134 rfl sizeOf3 rfl rfl) rfl rfl (RL.sg (Vl.ld 0 hS isAgg3 rfl rfl rfl) rfl rfl (pn 3 rfl (lr (RQ.inB_ret (RQ.ret ?_)))))
              obtain rfl := h.some
              exact rt results60 rfl ⟨rfl, hS.d0⟩
             next =>
              refine pn 5 rfl (lr (RQ.inB_ret (RQ.ret ?_)))
              obtain rfl := h.some
              exact rt results60 rfl ⟨rfl, hS.d0⟩
            next =>
             refine pn 10 rfl (lr (RQ.inB_ret (RQ.ret ?_)))
             obtain rfl := h.some
             exact rt results60 rfl ⟨rfl, hS.d0⟩
           next =>
            refine pn 16 rfl (lr (RQ.inB_ret (RQ.ret ?_)))
            obtain rfl := h.some
            exact rt results60 rfl ⟨rfl, hS.d0⟩
          next =>
           refine RC.condF rfl (sr (pn 2 rfl (ln ?_)))
           refine RC.iteP 101 rfl h (fun hc107 h => ?_) fun hc107 h => ?_
           next =>
            refine RC.condT rfl (sr (RL.s (Vl.fa 1 underlying134 rfl sizeOf3 rfl rfl) rfl (RL.s (Vl.ld 0 hS isAgg3 rfl rfl rfl) rfl (cF (fun _ hg => isochronref03vreg.ok hg hS) call78 h rfl rfl rfl ?_))))
            rintro t108 h _ w ⟨rfl, hS⟩
            refine pn 1 rfl ?_
            refine RL.iteB 106 rfl h (fun hc110 h => ?_) fun hc110 h => ?_
            next =>
             refine RL.sg (Vl.fa 2 underlying134 rfl sizeOf3 rfl rfl) rfl rfl (RL.sg (Vl.ld 0 hS isAgg3 rfl rfl rfl) rfl rfl (pn 3 rfl ?_))
             refine RL.iteP 111 rfl h (fun hc111 h => ?_) fun hc111 h => ?_
             next =>
              refine RL.sg (Vl.fa 2 underlying134 rfl sizeOf3 rfl rfl) rfl rfl (RL.sg (Vl.ld 0 hS isAgg3 rfl rfl rfl) rfl rfl (pn 4 rfl ?_))
              refine RL.iteP 117 rfl h (fun hc112 h => ?_) fun hc112 h => ?_
              next =>
               refine RL.sg (Vl.fa 3 underlying134 rfl sizeOf3 rfl rfl) rfl rfl (RL.sg (Vl.ld 0 hS isAgg3 rfl rfl rfl) rfl rfl (pn 3 rfl (lr (RQ.inB_ret (RQ.ret ?_)))))
               obtain rfl := h.some
               exact rt results60 rfl ⟨rfl, hS.d0⟩
              next =>
               refine pn 5 rfl (lr (RQ.inB_ret (RQ.ret ?_)))
               obtain rfl := h.some
               exact rt results60 rfl ⟨rfl, hS.d0⟩
             next =>
              refine pn 11 rfl (lr (RQ.inB_ret (RQ.ret ?_)))
              obtain rfl := h.some
              exact rt results60 rfl ⟨rfl, hS.d0⟩
            next =>
             refine pn 16 rfl (lr (RQ.inB_ret (RQ.ret ?_)))
             obtain rfl := h.some
             exact rt results60 rfl ⟨rfl, hS.d0⟩
           next =>
            refine RC.condF rfl ?_
            refine RC.join (fun (s : Bool) a w => ∃ (q115 : Bool), s = (q115) ∧ Has 139 [(2, .pointer (some ⟨b67, 0, none⟩)), (122, .bool q115)] a ∧ St B w (Cl b67 [.int .i64 a1.Op, .int .i64 a1.A, .int .i64 a1.B, .int .i64 a1.C] 134 :: l) hf ∧ Holds (· = r) (isochronref03vmay.j6 a1 q115)) ?_ ?_
            · rintro q115 a w ⟨_, rfl, ha, hS, h⟩
              revert a
              show RC _ _ _ _ _ _
              refine RC.iteB 122 rfl h (fun hc116 h => ?_) fun hc116 h => ?_
              next =>
               refine RC.condT rfl (sr (RL.s (Vl.fa 1 underlying134 rfl sizeOf3 rfl rfl) rfl (RL.s (Vl.ld 0 hS isAgg3 rfl rfl rfl) rfl (cF (fun _ hg => isochronref03vreg.ok hg hS) call78 h rfl rfl rfl ?_))))
               rintro t117 h _ w ⟨rfl, hS⟩
               refine pn 1 rfl ?_
               refine RL.iteB 129 rfl h (fun hc119 h => ?_) fun hc119 h => ?_
               next =>
                refine RL.sg (Vl.fa 2 underlying134 rfl sizeOf3 rfl rfl) rfl rfl (RL.sg (Vl.ld 0 hS isAgg3 rfl rfl rfl) rfl rfl (pn 3 rfl ?_))
                refine RL.iteP 134 rfl h (fun hc120 h => ?_) fun hc120 h => ?_
                next =>
                 refine RL.sg (Vl.fa 3 underlying134 rfl sizeOf3 rfl rfl) rfl rfl (RL.sg (Vl.ld 0 hS isAgg3 rfl rfl rfl) rfl rfl (pn 3 rfl (lr (RQ.inB_ret (RQ.ret ?_)))))
                 obtain rfl := h.some
                 exact rt results60 rfl ⟨rfl, hS.d0⟩
                next =>
                 refine pn 5 rfl (lr (RQ.inB_ret (RQ.ret ?_)))
                 obtain rfl := h.some
                 exact rt results60 rfl ⟨rfl, hS.d0⟩
               next =>
                refine pn 10 rfl (lr (RQ.inB_ret (RQ.ret ?_)))
                obtain rfl := h.some
                exact rt results60 rfl ⟨rfl, hS.d0⟩
              next =>
               refine RC.condF rfl (RC.skip (RQ.inB_n (tsr (pn 1 rfl (lr ?_)))))
               obtain rfl := h.some
               exact rt results60 rfl ⟨rfl, hS.d0⟩
            · refine RC.seq ?_
              refine RC.region (pn 2 rfl (ln ?_))
              refine RC.iteP 122 rfl h (fun hc121 h => ?_) fun hc121 h => ?_
              next =>
               refine RC.condT rfl (RC.skip ?_)
               exact fun a ha => ⟨(true), true, rfl, ha.to ⟨rfl, rfl, trivial⟩, hS, h⟩
              next =>
               refine RC.condF rfl (sr (pn 2 rfl (ln ?_)))
               refine RC.iteP 122 rfl h (fun hc122 h => ?_) fun hc122 h => ?_
               next =>
                refine RC.condT rfl (RC.skip ?_)
                exact fun a ha => ⟨(true), true, rfl, ha.to ⟨rfl, rfl, trivial⟩, hS, h⟩
               next =>
                refine RC.condF rfl (RC.region (pn 2 rfl (RL.nil ?_)))
                exact fun a ha => ⟨((decide (a1.Op = 16))), (decide (a1.Op = 16)), rfl, ha.to ⟨rfl, rfl, trivial⟩, hS, h⟩
       · refine RC.seq ?_
         refine RC.region (pn 2 rfl (ln ?_))
         refine RC.iteP 58 rfl h (fun hc123 h => ?_) fun hc123 h => ?_
         next =>
          refine RC.condT rfl (RC.skip ?_)
          exact fun a ha => ⟨(true), true, rfl, ha.to ⟨rfl, rfl, rfl, rfl, trivial⟩, hS, h⟩
         next =>
          refine RC.condF rfl (sr (pn 2 rfl (ln ?_)))
          refine RC.iteP 58 rfl h (fun hc124 h => ?_) fun hc124 h => ?_
          next =>
           refine RC.condT rfl (RC.skip ?_)
           exact fun a ha => ⟨(true), true, rfl, ha.to ⟨rfl, rfl, rfl, rfl, trivial⟩, hS, h⟩
          next =>
           refine RC.condF rfl (sr (pn 2 rfl (ln ?_)))
           refine RC.iteP 58 rfl h (fun hc125 h => ?_) fun hc125 h => ?_
           next =>
            refine RC.condT rfl (RC.skip ?_)
            exact fun a ha => ⟨(true), true, rfl, ha.to ⟨rfl, rfl, rfl, rfl, trivial⟩, hS, h⟩
           next =>
            refine RC.condF rfl (sr (pn 2 rfl (ln ?_)))
            refine RC.iteP 58 rfl h (fun hc126 h => ?_) fun hc126 h => ?_
            next =>
             refine RC.condT rfl (RC.skip ?_)
             exact fun a ha => ⟨(true), true, rfl, ha.to ⟨rfl, rfl, rfl, rfl, trivial⟩, hS, h⟩
            next =>
             refine RC.condF rfl (sr (pn 2 rfl (ln ?_)))
             refine RC.iteP 58 rfl h (fun hc127 h => ?_) fun hc127 h => ?_
             next =>
              refine RC.condT rfl (RC.skip ?_)
              exact fun a ha => ⟨(true), true, rfl, ha.to ⟨rfl, rfl, rfl, rfl, trivial⟩, hS, h⟩
             next =>
              refine RC.condF rfl (sr (pn 2 rfl (ln ?_)))
              refine RC.iteP 58 rfl h (fun hc128 h => ?_) fun hc128 h => ?_
              next =>
               refine RC.condT rfl (RC.skip ?_)
               exact fun a ha => ⟨(true), true, rfl, ha.to ⟨rfl, rfl, rfl, rfl, trivial⟩, hS, h⟩
              next =>
               refine RC.condF rfl (sr (pn 2 rfl (ln ?_)))
               refine RC.iteP 58 rfl h (fun hc129 h => ?_) fun hc129 h => ?_
               next =>
                refine RC.condT rfl (RC.skip ?_)
                exact fun a ha => ⟨(true), true, rfl, ha.to ⟨rfl, rfl, rfl, rfl, trivial⟩, hS, h⟩
               next =>
                refine RC.condF rfl (RC.region (pn 2 rfl (RL.nil ?_)))
                exact fun a ha => ⟨((decide (a1.Op = 12))), (decide (a1.Op = 12)), rfl, ha.to ⟨rfl, rfl, rfl, rfl, trivial⟩, hS, h⟩
    · refine RC.seq ?_
      refine RC.region (pn 2 rfl (ln ?_))
      refine RC.iteP 42 rfl h (fun hc130 h => ?_) fun hc130 h => ?_
      next =>
       refine RC.condT rfl (RC.skip ?_)
       exact fun a ha => ⟨(true), true, rfl, ha.to ⟨rfl, rfl, rfl, rfl, trivial⟩, hS, h⟩
      next =>
       refine RC.condF rfl (RC.region (pn 2 rfl (RL.nil ?_)))
       exact fun a ha => ⟨((decide (a1.Op = 13))), (decide (a1.Op = 13)), rfl, ha.to ⟨rfl, rfl, rfl, rfl, trivial⟩, hS, h⟩

/-! ### isochron/isochronref03.Check: function 37 -/
noncomputable def isochronref03vCheck.l2b (a1 : List api_Instr) : Int → Option ((Int) ⊕ (Int))
  | (x50) => (if x50 < (a1.length : Int) then (if 0 ≤ x50 then ((isochronref03vmay.f (nth a1 x50) (a1.length : Int)).bind fun t70 => (if t70 = true then some (.inl (IntKind.i64.wrap (x50 + 1))) else some (.inr 130))) else none) else some (.inr 0))
noncomputable def isochronref03vCheck.l2 (a1 : List api_Instr) (s : Int) : Option (Int) := loopR (isochronref03vCheck.l2b a1) s
noncomputable def isochronref03vCheck.f (a1 : List api_Instr) : Option (Int) := (if 256 < (a1.length : Int) then some 2 else isochronref03vCheck.l2 a1 (0))
theorem isochronref03vCheck.ok {a1 : List api_Instr} {A2 : Option Addr} {c3 : Nat} (hr4 : SlR E_api_Instr.rep hf A2 c3 a1) {r : Int} (h : isochronref03vCheck.f a1 = some r) (hS : St B w (l) hf) :
    Calls prog 37 #[.slice A2 a1.length c3] w (Ret fun v w => v = .int .i64 r ∧ St B w (l) hf) := by
  have h := Holds.of h
  refine en func37 rfl ntmps37 rfl (sr (pn 1 rfl (ln (RC.seq (sr (pn 1 rfl (RL.s (Vl.lenSl underlying100 rfl) rfl (pn 1 rfl (ln ?_)))))))))
  refine RC.iteP 6 rfl h (fun hc40 h => ?_) fun hc40 h => ?_
  next =>
   refine RC.condT rfl (sr (pn 1 rfl (lr (RQ.ret ?_))))
   obtain rfl := h.some
   exact rt results37 rfl ⟨rfl, hS⟩
  next =>
   refine RC.condF rfl (sk (RC.seq (sr (pn 1 rfl (ln (RC.block ?_))))))
   refine fun a ha => RC.loop (N := 21) (body := (isochronref03vCheck.l2b a1)) (φ := (· = r)) (fun (s : Int) a w => ∃ (x50 : Int), s = (x50) ∧ Has 21 [(0, .slice A2 a1.length c3), (3, .int .i64 x50)] a ∧ St B w (l) hf) ?_ (s0 := (0)) h ⟨0, rfl, ha.to ⟨rfl, rfl, trivial⟩, hS⟩
   rintro G62 x50 a w ⟨_, rfl, ha, hS⟩ h
   revert a
   show RC _ _ _ _ _ _
   refine RC.seq (sr (pn 2 rfl (RL.s (Vl.lenSl underlying100 rfl) rfl (pn 1 rfl (ln ?_)))))
   refine RC.iteP 10 rfl h (fun hc64 h => ?_) fun hc64 h => ?_
   next =>
    refine RC.condT rfl (sk (RC.seq (RC.block (sr (pn 2 rfl ?_)))))
    obtain ⟨hq69, h⟩ := h.req
    refine RL.s (Vl.indexAddr underlying100 sizeOf134 rfl rfl ((hr4.2.world hS.sub).adr hq69 hc64) hq69 hc64 rfl) rfl (RL.s (Vl.loadA isAgg134 sizeOf134 rfl rfl ((hr4.2.world hS.sub).cells hq69 hc64)) rfl (pn 1 rfl (RL.s (Vl.lenSl underlying100 rfl) rfl (cF (fun _ hg => isochronref03vmay.ok hg hS) call60 h rfl rfl rfl ?_))))
    rintro t70 h _ w ⟨rfl, hS⟩
    refine pn 1 rfl (ln ?_)
    refine RC.iteM 20 rfl h (fun hc72 h => ?_) fun hc72 h => ?_
    next =>
     refine RC.condF rfl (RC.skip (RQ.inB_n (RQ.then_n (RC.region (pn 3 rfl (RL.nil ?_))))))
     exact fun a ha => ⟨(IntKind.i64.wrap (x50 + 1)), ⟨(IntKind.i64.wrap (x50 + 1)), rfl, ha.to ⟨rfl, rfl, trivial⟩, hS⟩, h.some⟩
    next =>
     refine RC.condT rfl (sr (pn 1 rfl (lr (RQ.inB_ret (RQ.ret ?_)))))
     have h := h.inrS
     refine RQ.ret (RQ.inB_ret (RQ.ret ?_))
     obtain rfl := h.some
     exact rt results37 rfl ⟨rfl, hS⟩
   next =>
    refine RC.condF rfl (RC.exit (RQ.exitT ?_))
    have h := h.inrS
    refine RQ.exitT (RQ.inB_hit (tsr (pn 1 rfl (lr ?_))))
    obtain rfl := h.some
    exact rt results37 rfl ⟨rfl, hS⟩

/-! ### isochron/isochronref13.links: function 38 -/
noncomputable def isochronref13vlinks.l14b (a1 : api_Model) (x270 : Int) : Int → Option ((Int) ⊕ ((Int) ⊕ (Bool)))
  | (x438) => (if x438 < x270 then (if 0 ≤ x438 ∧ x438 < (a1.Links.length : Int) then (if (nth a1.Links x438).From = (nth a1.Links x270).From then (if (nth a1.Links x438).To = (nth a1.Links x270).To then some (.inr (.inr false)) else some (.inl (IntKind.i64.wrap (x438 + 1)))) else some (.inl (IntKind.i64.wrap (x438 + 1)))) else none) else some (.inr (.inl (IntKind.i64.wrap (x270 + 1)))))
noncomputable def isochronref13vlinks.l14 (a1 : api_Model) (x270 : Int) (s : Int) : Option ((Int) ⊕ (Bool)) := loopR (isochronref13vlinks.l14b a1 x270) s
noncomputable def isochronref13vlinks.l12b (a1 : api_Model) : Int → Option ((Int) ⊕ (Bool))
  | (x270) => (if x270 < (a1.Links.length : Int) then (if 0 ≤ x270 then (if (nth a1.Links x270).From < 0 then some (.inr false) else (if (a1.Progs.length : Int) ≤ (nth a1.Links x270).From then some (.inr false) else (if (nth a1.Links x270).To < 0 then some (.inr false) else (if (a1.Progs.length : Int) ≤ (nth a1.Links x270).To then some (.inr false) else (if (nth a1.Links x270).Look < 1 then some (.inr false) else (if 4611686018427387903 < (nth a1.Links x270).Look then some (.inr false) else isochronref13vlinks.l14 a1 x270 (0))))))) else none) else some (.inr true))
noncomputable def isochronref13vlinks.l12 (a1 : api_Model) (s : Int) : Option (Bool) := loopR (isochronref13vlinks.l12b a1) s
noncomputable def isochronref13vlinks.f (a1 : api_Model) : Option (Bool) := (if 1024 < (a1.Links.length : Int) then some false else isochronref13vlinks.l12 a1 (0))
theorem isochronref13vlinks.ok {a1 : api_Model} {A2 : Option Addr} {c3 : Nat} {A5 : Option Addr} {c6 : Nat} {A8 : Option Addr} {c9 : Nat} (hr4 : SlR (Rep.sl E_api_Instr.rep) hf A2 c3 a1.Progs) (hr7 : SlR E_api_Link.rep hf A5 c6 a1.Links) (hr10 : SlR E_api_Start.rep hf A8 c9 a1.Starts) {r : Bool} (h : isochronref13vlinks.f a1 = some r) (hS : St B w (l) hf) :
    Calls prog 38 #[.agg #[.slice A2 a1.Progs.length c3, .slice A5 a1.Links.length c6, .slice A8 a1.Starts.length c9, .int .u64 a1.Seed, .int .i64 a1.End, .int .i64 a1.Budget]] w (Ret fun v w => v = .bool r ∧ St B w (l) hf) := by
  have h := Holds.of h
  refine en func38 rfl ntmps38 rfl (sr (bx hS rfl rfl rfl rfl fun b236 w hS => pn 1 rfl (lnsr (RL.s (Vl.fa 0 underlying27 rfl sizeOf22 rfl rfl) rfl (RL.s (Vl.ld 0 hS isAgg22 rfl rfl rfl) rfl (RL.s (Vl.lenSl underlying22 rfl) rfl (pn 1 rfl (ln (RC.seq ?_)))))))))
  refine sr (RL.s (Vl.fa 1 underlying27 rfl sizeOf23 rfl rfl) rfl (RL.s (Vl.ld 0 hS isAgg23 rfl rfl rfl) rfl (RL.s (Vl.lenSl underlying23 rfl) rfl (pn 1 rfl (ln ?_)))))
  refine RC.iteP 13 rfl h (fun hc238 h => ?_) fun hc238 h => ?_
  next =>
   refine RC.condT rfl (sr (pn 1 rfl (lr (RQ.ret ?_))))
   obtain rfl := h.some
   exact rt results38 rfl ⟨rfl, hS.d0⟩
  next =>
   refine RC.condF rfl (sk (RC.seq (sr (pn 1 rfl (ln (RC.block ?_))))))
   refine fun a ha => RC.loop (N := 81) (body := (isochronref13vlinks.l12b a1)) (φ := (· = r)) (fun (s : Int) a w => ∃ (x270 : Int), s = (x270) ∧ Has 81 [(1, .pointer (some ⟨b236, 0, none⟩)), (3, .int .i64 (a1.Progs.length : Int)), (4, .int .i64 x270)] a ∧ St B w (Cl b236 [.slice A2 a1.Progs.length c3, .slice A5 a1.Links.length c6, .slice A8 a1.Starts.length c9, .int .u64 a1.Seed, .int .i64 a1.End, .int .i64 a1.Budget] 27 :: l) hf) ?_ (s0 := (0)) h ⟨0, rfl, ha.to ⟨rfl, rfl, rfl, trivial⟩, hS⟩
   rintro G366 x270 a w ⟨_, rfl, ha, hS⟩ h
   revert a
   show RC _ _ _ _ _ _
   refine RC.seq (sr (pn 1 rfl (RL.s (Vl.fa 1 underlying27 rfl sizeOf23 rfl rfl) rfl (RL.s (Vl.ld 0 hS isAgg23 rfl rfl rfl) rfl (RL.s (Vl.lenSl underlying23 rfl) rfl (pn 1 rfl (ln ?_)))))))
   refine RC.iteP 18 rfl h (fun hc368 h => ?_) fun hc368 h => ?_
   next =>
    refine RC.condT rfl (sk (RC.seq (RC.block (sr (RL.s (Vl.fa 1 underlying27 rfl sizeOf23 rfl rfl) rfl (RL.s (Vl.ld 0 hS isAgg23 rfl rfl rfl) rfl (pn 1 rfl ?_)))))))
    obtain ⟨hq415, h⟩ := h.req
    refine RL.s (Vl.indexAddr underlying23 sizeOf136 rfl rfl ((hr7.2.world hS.sub).adr hq415 hc368) hq415 hc368 rfl) rfl (RL.s (Vl.loadA isAgg136 sizeOf136 rfl rfl ((hr7.2.world hS.sub).cells hq415 hc368)) rfl (al hS zeroValue136 rfl rfl rfl fun b416 w hS => RL.e0 (OW.store (vs := [.int .i64 ((nth a1.Links x270).From), .int .i64 ((nth a1.Links x270).To), .int .i64 ((nth a1.Links x270).Look), .bool ((nth a1.Links x270).Loose)]) 0 hS rfl rfl rfl rfl sizeOf136 rfl rfl rfl rfl) rfl ?_))
    rintro _ w ⟨rfl, hS⟩
    have hS : St B w (Cl _ [_, _, _, _] _ :: _ :: l) hf := hS
    refine ln (RC.seq (sr (RL.s (Vl.fa 0 underlying136 rfl sizeOf3 rfl rfl) rfl (RL.s (Vl.ld 0 hS isAgg3 rfl rfl rfl) rfl (pn 2 rfl ?_)))))
    refine RL.iteP 29 rfl h (fun hc423 h => ?_) fun hc423 h => ?_
    next =>
     refine pn 26 rfl (ln (RC.condT rfl (sr (pn 1 rfl (lr (RQ.ret (RQ.inB_ret (RQ.ret ?_))))))))
     have h := h.inrS
     refine RQ.ret (RQ.inB_ret (RQ.ret ?_))
     obtain rfl := h.some
     exact rt results38 rfl ⟨rfl, hS.d0.d0⟩
    next =>
     refine RL.sg (Vl.fa 0 underlying136 rfl sizeOf3 rfl rfl) rfl rfl (RL.sg (Vl.ld 0 hS isAgg3 rfl rfl rfl) rfl rfl (pn 4 rfl ?_))
     refine RL.iteP 35 rfl h (fun hc424 h => ?_) fun hc424 h => ?_
     next =>
      refine pn 20 rfl (ln (RC.condT rfl (sr (pn 1 rfl (lr (RQ.ret (RQ.inB_ret (RQ.ret ?_))))))))
      have h := h.inrS
      refine RQ.ret (RQ.inB_ret (RQ.ret ?_))
      obtain rfl := h.some
      exact rt results38 rfl ⟨rfl, hS.d0.d0⟩
     next =>
      refine RL.sg (Vl.fa 1 underlying136 rfl sizeOf3 rfl rfl) rfl rfl (RL.sg (Vl.ld 0 hS isAgg3 rfl rfl rfl) rfl rfl (pn 3 rfl ?_))
      refine RL.iteP 40 rfl h (fun hc425 h => ?_) fun hc425 h => ?_
      next =>
       refine pn 15 rfl (ln (RC.condT rfl (sr (pn 1 rfl (lr (RQ.ret (RQ.inB_ret (RQ.ret ?_))))))))
       have h := h.inrS
       refine RQ.ret (RQ.inB_ret (RQ.ret ?_))
       obtain rfl := h.some
       exact rt results38 rfl ⟨rfl, hS.d0.d0⟩
      next =>
       refine RL.sg (Vl.fa 1 underlying136 rfl sizeOf3 rfl rfl) rfl rfl (RL.sg (Vl.ld 0 hS isAgg3 rfl rfl rfl) rfl rfl (pn 4 rfl ?_))
       refine RL.iteP 46 rfl h (fun hc426 h => ?_) fun hc426 h => ?_
       next =>
        refine pn 9 rfl (ln (RC.condT rfl (sr (pn 1 rfl (lr (RQ.ret (RQ.inB_ret (RQ.ret ?_))))))))
        have h := h.inrS
        refine RQ.ret (RQ.inB_ret (RQ.ret ?_))
        obtain rfl := h.some
        exact rt results38 rfl ⟨rfl, hS.d0.d0⟩
       next =>
        refine RL.sg (Vl.fa 2 underlying136 rfl sizeOf2 rfl rfl) rfl rfl (RL.sg (Vl.ld 0 hS isAgg2 rfl rfl rfl) rfl rfl (pn 3 rfl ?_))
        refine RL.iteP 51 rfl h (fun hc427 h => ?_) fun hc427 h => ?_
        next =>
         refine pn 4 rfl (ln (RC.condT rfl (sr (pn 1 rfl (lr (RQ.ret (RQ.inB_ret (RQ.ret ?_))))))))
         have h := h.inrS
         refine RQ.ret (RQ.inB_ret (RQ.ret ?_))
         obtain rfl := h.some
         exact rt results38 rfl ⟨rfl, hS.d0.d0⟩
        next =>
         refine RL.sg (Vl.fa 2 underlying136 rfl sizeOf2 rfl rfl) rfl rfl (RL.sg (Vl.ld 0 hS isAgg2 rfl rfl rfl) rfl rfl (pn 2 rfl (ln ?_)))
         refine RC.iteP 55 rfl h (fun hc428 h => ?_) fun hc428 h => ?_
         next =>
          refine RC.condT rfl (sr (pn 1 rfl (lr (RQ.ret (RQ.inB_ret (RQ.ret ?_))))))
          have h := h.inrS
          refine RQ.ret (RQ.inB_ret (RQ.ret ?_))
          obtain rfl := h.some
          exact rt results38 rfl ⟨rfl, hS.d0.d0⟩
         next =>
          refine RC.condF rfl (sk (sr (pn 1 rfl (ln (RC.block ?_)))))
          refine fun a ha => RC.loop (N := 81) (body := (isochronref13vlinks.l14b a1 x270)) (φ := (Sum.elim G366 (· = r))) (fun (s : Int) a w => ∃ (x438 : Int), s = (x438) ∧ Has 81 [(1, .pointer (some ⟨b236, 0, none⟩)), (3, .int .i64 (a1.Progs.length : Int)), (4, .int .i64 x270), (5, .pointer (some ⟨b416, 0, none⟩)), (6, .int .i64 x438), (30, .pointer (some ⟨b416, 0, none⟩)), (31, .int .i64 ((nth a1.Links x270).From)), (32, .int .i64 (a1.Progs.length : Int)), (33, .bool (decide ((a1.Progs.length : Int) ≤ (nth a1.Links x270).From))), (36, .pointer (some ⟨b416, 1, none⟩)), (37, .int .i64 ((nth a1.Links x270).To)), (38, .bool (decide ((nth a1.Links x270).To < 0))), (41, .pointer (some ⟨b416, 1, none⟩)), (42, .int .i64 ((nth a1.Links x270).To)), (43, .int .i64 (a1.Progs.length : Int)), (44, .bool (decide ((a1.Progs.length : Int) ≤ (nth a1.Links x270).To))), (47, .pointer (some ⟨b416, 2, none⟩)), (48, .int .i64 ((nth a1.Links x270).Look)), (49, .bool (decide ((nth a1.Links x270).Look < 1))), (52, .pointer (some ⟨b416, 2, none⟩)), (53, .int .i64 ((nth a1.Links x270).Look)), (54, .bool (decide (4611686018427387903 < (nth a1.Links x270).Look)))] a ∧ St B w (Cl b416 [.int .i64 ((nth a1.Links x270).From), .int .i64 ((nth a1.Links x270).To), .int .i64 ((nth a1.Links x270).Look), .bool ((nth a1.Links x270).Loose)] 136 :: Cl b236 [.slice A2 a1.Progs.length c3, .slice A5 a1.Links.length c6, .slice A8 a1.Starts.length c9, .int .u64 a1.Seed, .int .i64 a1.End, .int .i64 a1.Budget] 27 :: l) hf) ?_ (s0 := (0)) h ⟨0, rfl, ha.to ⟨rfl, rfl, rfl, rfl, rfl, rfl, rfl, rfl, rfl, rfl, rfl, rfl, rfl, rfl, rfl, rfl, rfl, rfl, rfl, rfl, rfl, rfl, trivial⟩, hS⟩
          rintro G450 x438 a w ⟨_, rfl, ha, hS⟩ h
          revert a
          show RC _ _ _ _ _ _
          refine RC.seq (sr (pn 3 rfl (ln ?_)))
          refine RC.iteP 58 rfl h (fun hc452 h => ?_) fun hc452 h => ?_
          next =>
           refine RC.condT rfl (sk (RC.seq (RC.block (RC.seq (RC.planS (plD [0, 4, 6, 10, 12, 16, 18, 22, 24, 27, 30, 34, 36, 40, 42, 46, 50, 53, 56, 59]) [18, 19] hS (fun w hS => hS) follows rfl (by kernel_rfl) (NoTmp.then (NoTmp.block (NoTmp.then (NoTmp.then (NoTmp.block (NoTmp.block (NoTmp.then (NoTmp.then (NoTmp.block (NoTmp.then NoTmp.body)))))))))) fun w hS => RP.s0 0 rfl (fun w => Vl.fa 1 underlying27 rfl sizeOf23 rfl rfl) rfl (RP.s 0 1 rfl rfl hS (fun w hS => Vl.ld 1 hS isAgg23 rfl rfl rfl) rfl (pp 1 rfl ?_)))))))
           obtain ⟨⟨hq457, hq458⟩, h⟩ := h.req
           refine RP.s 0 3 rfl rfl hS (fun w hS => Vl.indexAddr underlying23 sizeOf136 rfl rfl ((hr7.2.world hS.sub).adr hq457 hq458) hq457 hq458 rfl) rfl (RP.s0 4 rfl (fun w => Vl.fieldAddr (a'' := (ad A5).add (x438.toNat * 4 + 0)) underlying136 rfl sizeOf3 rfl (add_add _ _ _)) rfl (RP.s 0 5 rfl rfl hS (fun w hS => Vl.load isAgg3 rfl ((hr7.2.world hS.sub).cell (j := 0) hq457 hq458 rfl)) rfl (RP.s0 6 rfl (fun w => Vl.fa 0 underlying136 rfl sizeOf3 rfl rfl) rfl (RP.s 0 7 rfl rfl hS (fun w hS => Vl.ld 0 hS isAgg3 rfl rfl rfl) rfl (pp 2 rfl ?_)))))
           refine RP.iteP 70 rfl h (fun hc459 h => ?_) fun hc459 h => ?_
           next =>
            refine RP.sg0 10 rfl (fun w => Vl.fa 1 underlying27 rfl sizeOf23 rfl rfl) rfl rfl (RP.sg 0 11 rfl rfl hS (fun w hS => Vl.ld 1 hS isAgg23 rfl rfl rfl) rfl rfl (pp 1 rfl (RP.sg 0 13 rfl rfl hS (fun w hS => Vl.indexAddr underlying23 sizeOf136 rfl rfl ((hr7.2.world hS.sub).adr hq457 hq458) hq457 hq458 rfl) rfl rfl (RP.sg0 14 rfl (fun w => Vl.fieldAddr (a'' := (ad A5).add (x438.toNat * 4 + 1)) underlying136 rfl sizeOf3 rfl (add_add _ _ _)) rfl rfl (RP.sg 0 15 rfl rfl hS (fun w hS => Vl.load isAgg3 rfl ((hr7.2.world hS.sub).cell (j := 1) hq457 hq458 rfl)) rfl rfl (RP.v1 16 rfl (Vl.fa 1 underlying136 rfl sizeOf3 rfl rfl) rfl rfl (RP.v1 17 rfl (Vl.ld 0 hS isAgg3 rfl rfl rfl) rfl rfl (RP.v1 18 rfl (Vl.int rfl rfl rfl) rfl rfl (RP.v1 19 rfl (Vl.pickT rfl rfl) rfl rfl (RP.nil (RQ.then_n ?_)))))))))))
            refine RC.iteP 80 rfl h (fun hc460 h => ?_) fun hc460 h => ?_
            next =>
             refine RC.condT rfl (sr (pn 1 rfl (lr (RQ.inB_ret (RQ.ret ?_)))))
             have h := h.inrS
             refine RQ.ret (RQ.inB_ret (RQ.inB_ret (RQ.ret ?_)))
             have h := h.inrS
             refine RQ.ret (RQ.inB_ret (RQ.ret ?_))
             obtain rfl := h.some
             exact rt results38 rfl ⟨rfl, hS.d0.d0⟩
            next =>
             refine RC.condF rfl (RC.skip (RQ.inB_n (RQ.then_n (RC.region (pn 3 rfl (RL.nil ?_))))))
             exact fun a ha => ⟨(IntKind.i64.wrap (x438 + 1)), ⟨(IntKind.i64.wrap (x438 + 1)), rfl, ha.to ⟨rfl, rfl, rfl, rfl, rfl, rfl, rfl, rfl, rfl, rfl, rfl, rfl, rfl, rfl, rfl, rfl, rfl, rfl, rfl, rfl, rfl, rfl, trivial⟩, hS⟩, h.some⟩
           next =>
            refine pp 1 rfl (RP.nn 0 11 rfl rfl rfl (pp 1 rfl (RP.nn 0 13 rfl rfl rfl (pp 1 rfl (RP.nn 0 15 rfl rfl rfl (RP.n1 16 rfl rfl rfl (RP.n1 17 rfl rfl rfl (RP.n1 18 rfl rfl rfl (RP.v1 19 rfl (Vl.pickF rfl rfl) rfl rfl (RP.nil (RQ.then_n (RC.condF rfl (RC.skip (RQ.inB_n (RQ.then_n ?_)))))))))))))))
            refine RC.region (pn 3 rfl (RL.nil ?_))
            exact fun a ha => ⟨(IntKind.i64.wrap (x438 + 1)), ⟨(IntKind.i64.wrap (x438 + 1)), rfl, ha.to ⟨rfl, rfl, rfl, rfl, rfl, rfl, rfl, rfl, rfl, rfl, rfl, rfl, rfl, rfl, rfl, rfl, rfl, rfl, rfl, rfl, rfl, rfl, trivial⟩, hS⟩, h.some⟩
          next =>
           refine RC.condF rfl (RC.exit (RQ.exitT ?_))
           have h := h.inrS
           refine RQ.exitT (RQ.inB_hit (RQ.inB_n (RQ.then_n (RC.region (pn 3 rfl (RL.nil ?_))))))
           exact fun a ha => ⟨(IntKind.i64.wrap (x270 + 1)), ⟨(IntKind.i64.wrap (x270 + 1)), rfl, ha.to ⟨rfl, rfl, rfl, trivial⟩, hS.d0⟩, h.some⟩
   next =>
    refine RC.condF rfl (RC.exit (RQ.exitT ?_))
    have h := h.inrS
    refine RQ.exitT (RQ.inB_hit (tsr (pn 1 rfl (lr ?_))))
    obtain rfl := h.some
    exact rt results38 rfl ⟨rfl, hS.d0⟩

/-! ### isochron/isochronref13.Check: function 21 -/
noncomputable def isochronref13vCheck.l6b (a1 : api_Model) : Int → Option ((Int) ⊕ (Int))
  | (x346) => (if x346 < (a1.Starts.length : Int) then (if 0 ≤ x346 then (if (nth a1.Starts x346).To < 0 then some (.inr 132) else (if (a1.Progs.length : Int) ≤ (nth a1.Starts x346).To then some (.inr 132) else ((isochronref01vValid.f ((nth a1.Starts x346).Time)).bind fun t378 => (if t378 = true then some (.inl (IntKind.i64.wrap (x346 + 1))) else some (.inr 132))))) else none) else some (.inr 0))
noncomputable def isochronref13vCheck.l6 (a1 : api_Model) (s : Int) : Option (Int) := loopR (isochronref13vCheck.l6b a1) s
noncomputable def isochronref13vCheck.l5b (a1 : api_Model) : Int → Option ((Int) ⊕ (Int))
  | (x284) => (if x284 < (a1.Progs.length : Int) then (if 0 ≤ x284 then ((isochronref03vCheck.f (nth a1.Progs x284)).bind fun t320 => (if t320 = 0 then some (.inl (IntKind.i64.wrap (x284 + 1))) else some (.inr 130))) else none) else (Option.map Sum.inr ((isochronref13vlinks.f a1).bind fun t326 => (if t326 = true then (if 4096 < (a1.Starts.length : Int) then some 132 else isochronref13vCheck.l6 a1 (0)) else some 131))))
noncomputable def isochronref13vCheck.l5 (a1 : api_Model) (s : Int) : Option (Int) := loopR (isochronref13vCheck.l5b a1) s
noncomputable def isochronref13vCheck.f (a1 : api_Model) : Option (Int) := (if (a1.Progs.length : Int) = 0 then some 1 else (if 16 < (a1.Progs.length : Int) then some 1 else ((isochronref01vValid.f a1.End).bind fun t206 => (if t206 = true then (if a1.Budget < 0 then some 1 else (if 4096 < a1.Budget then some 1 else isochronref13vCheck.l5 a1 (0))) else some 1))))
theorem isochronref13vCheck.ok {a1 : api_Model} {A2 : Option Addr} {c3 : Nat} {A5 : Option Addr} {c6 : Nat} {A8 : Option Addr} {c9 : Nat} (hr4 : SlR (Rep.sl E_api_Instr.rep) hf A2 c3 a1.Progs) (hr7 : SlR E_api_Link.rep hf A5 c6 a1.Links) (hr10 : SlR E_api_Start.rep hf A8 c9 a1.Starts) {r : Int} (h : isochronref13vCheck.f a1 = some r) (hS : St B w (l) hf) :
    Calls prog 21 #[.agg #[.slice A2 a1.Progs.length c3, .slice A5 a1.Links.length c6, .slice A8 a1.Starts.length c9, .int .u64 a1.Seed, .int .i64 a1.End, .int .i64 a1.Budget]] w (Ret fun v w => v = .int .i64 r ∧ St B w (l) hf) := by
  have h := Holds.of h
  refine en func21 rfl ntmps21 rfl (sr (bx hS rfl rfl rfl rfl fun b196 w hS => pn 1 rfl (ln (RC.seq (sr (RL.s (Vl.fa 0 underlying27 rfl sizeOf22 rfl rfl) rfl (RL.s (Vl.ld 0 hS isAgg22 rfl rfl rfl) rfl (RL.s (Vl.lenSl underlying22 rfl) rfl (pn 2 rfl ?_)))))))))
  refine RL.iteP 10 rfl h (fun hc204 h => ?_) fun hc204 h => ?_
  next =>
   refine pn 21 rfl (ln (RC.condT rfl (sr (pn 1 rfl (lr (RQ.ret ?_))))))
   obtain rfl := h.some
   exact rt results21 rfl ⟨rfl, hS.d0⟩
  next =>
   refine RL.sg (Vl.fa 0 underlying27 rfl sizeOf22 rfl rfl) rfl rfl (RL.sg (Vl.ld 0 hS isAgg22 rfl rfl rfl) rfl rfl (RL.sg (Vl.lenSl underlying22 rfl) rfl rfl (pn 3 rfl ?_)))
   refine RL.iteP 16 rfl h (fun hc205 h => ?_) fun hc205 h => ?_
   next =>
    refine pn 15 rfl (ln (RC.condT rfl (sr (pn 1 rfl (lr (RQ.ret ?_))))))
    obtain rfl := h.some
    exact rt results21 rfl ⟨rfl, hS.d0⟩
   next =>
    refine RL.sg (Vl.fa 4 underlying27 rfl sizeOf2 rfl rfl) rfl rfl (RL.sg (Vl.ld 0 hS isAgg2 rfl rfl rfl) rfl rfl (cF (fun _ hg => isochronref01vValid.ok hg hS) call36 h rfl rfl rfl ?_))
    rintro t206 h _ w ⟨rfl, hS⟩
    refine pn 3 rfl ?_
    refine RL.iteM 22 rfl h (fun hc208 h => ?_) fun hc208 h => ?_
    next =>
     refine RL.sg (Vl.fa 5 underlying27 rfl sizeOf3 rfl rfl) rfl rfl (RL.sg (Vl.ld 0 hS isAgg3 rfl rfl rfl) rfl rfl (pn 3 rfl ?_))
     refine RL.iteP 27 rfl h (fun hc209 h => ?_) fun hc209 h => ?_
     next =>
      refine pn 4 rfl (ln (RC.condT rfl (sr (pn 1 rfl (lr (RQ.ret ?_))))))
      obtain rfl := h.some
      exact rt results21 rfl ⟨rfl, hS.d0⟩
     next =>
      refine RL.sg (Vl.fa 5 underlying27 rfl sizeOf3 rfl rfl) rfl rfl (RL.sg (Vl.ld 0 hS isAgg3 rfl rfl rfl) rfl rfl (pn 2 rfl (ln ?_)))
      refine RC.iteP 31 rfl h (fun hc210 h => ?_) fun hc210 h => ?_
      next =>
       refine RC.condT rfl (sr (pn 1 rfl (lr (RQ.ret ?_))))
       obtain rfl := h.some
       exact rt results21 rfl ⟨rfl, hS.d0⟩
      next =>
       refine RC.condF rfl (sk (RC.seq (sr (pn 1 rfl (ln (RC.block ?_))))))
       refine fun a ha => RC.loop (N := 82) (body := (isochronref13vCheck.l5b a1)) (φ := (· = r)) (fun (s : Int) a w => ∃ (x284 : Int), s = (x284) ∧ Has 82 [(1, .pointer (some ⟨b196, 0, none⟩)), (3, .int .i64 x284)] a ∧ St B w (Cl b196 [.slice A2 a1.Progs.length c3, .slice A5 a1.Links.length c6, .slice A8 a1.Starts.length c9, .int .u64 a1.Seed, .int .i64 a1.End, .int .i64 a1.Budget] 27 :: l) hf) ?_ (s0 := (0)) h ⟨0, rfl, ha.to ⟨rfl, rfl, trivial⟩, hS⟩
       rintro G304 x284 a w ⟨_, rfl, ha, hS⟩ h
       revert a
       show RC _ _ _ _ _ _
       refine RC.seq (sr (pn 1 rfl (RL.s (Vl.fa 0 underlying27 rfl sizeOf22 rfl rfl) rfl (RL.s (Vl.ld 0 hS isAgg22 rfl rfl rfl) rfl (RL.s (Vl.lenSl underlying22 rfl) rfl (pn 1 rfl (ln ?_)))))))
       refine RC.iteP 36 rfl h (fun hc306 h => ?_) fun hc306 h => ?_
       next =>
        refine RC.condT rfl (sk (RC.seq (RC.block (sr (RL.s (Vl.fa 0 underlying27 rfl sizeOf22 rfl rfl) rfl (RL.s (Vl.ld 0 hS isAgg22 rfl rfl rfl) rfl (pn 1 rfl ?_)))))))
        obtain ⟨hq315, h⟩ := h.req
        refine RL.s (Vl.indexAddr underlying22 sizeOf100 rfl rfl (hr4.2.adr hq315 hc306) hq315 hc306 rfl) rfl ?_
        obtain ⟨_, _, ⟨A316, c317, rfl, hr318⟩, hl319⟩ := hr4.2.elem hq315 hc306
        refine RL.s (Vl.load isAgg100 rfl (cellH_world hS.sub (hl319 0 _ rfl))) rfl (cF (fun _ hg => isochronref03vCheck.ok hr318 hg hS) call37 h rfl rfl rfl ?_)
        rintro t320 h _ w ⟨rfl, hS⟩
        refine pn 1 rfl (ln ?_)
        refine RC.iteN 45 rfl h (fun hc322 h => ?_) fun hc322 h => ?_
        next =>
         refine RC.condF rfl (RC.skip (RQ.inB_n (RQ.then_n (RC.region (pn 3 rfl (RL.nil ?_))))))
         exact fun a ha => ⟨(IntKind.i64.wrap (x284 + 1)), ⟨(IntKind.i64.wrap (x284 + 1)), rfl, ha.to ⟨rfl, rfl, trivial⟩, hS⟩, h.some⟩
        next =>
         refine RC.condT rfl (sr (pn 1 rfl (lr (RQ.inB_ret (RQ.ret ?_)))))
         have h := h.inrS
         refine RQ.ret (RQ.inB_ret (RQ.ret ?_))
         obtain rfl := h.some
         exact rt results21 rfl ⟨rfl, hS.d0⟩
       next =>
        refine RC.condF rfl (RC.exit (RQ.exitT ?_))
        have h := h.inr
        refine RQ.exitT (RQ.inB_hit (RQ.then_n (RC.seq (sr (RL.s (Vl.lw 0 hS isAgg27 sizeOf27 rfl rfl rfl) rfl (cF (fun _ hg => isochronref13vlinks.ok hr4 hr7 hr10 hg hS) call38 h rfl rfl rfl ?_))))))
        rintro t326 h _ w ⟨rfl, hS⟩
        refine pn 1 rfl (ln ?_)
        refine RC.iteM 48 rfl h (fun hc328 h => ?_) fun hc328 h => ?_
        next =>
         refine RC.condF rfl (sk (RC.seq (sr (RL.s (Vl.fa 2 underlying27 rfl sizeOf24 rfl rfl) rfl (RL.s (Vl.ld 0 hS isAgg24 rfl rfl rfl) rfl (RL.s (Vl.lenSl underlying24 rfl) rfl (pn 1 rfl (ln ?_))))))))
         refine RC.iteP 52 rfl h (fun hc330 h => ?_) fun hc330 h => ?_
         next =>
          refine RC.condT rfl (sr (pn 1 rfl (lr (RQ.ret ?_))))
          obtain rfl := h.some
          exact rt results21 rfl ⟨rfl, hS.d0⟩
         next =>
          refine RC.condF rfl (sk (RC.seq (sr (pn 1 rfl (ln (RC.block ?_))))))
          refine fun a ha => RC.loop (N := 82) (body := (isochronref13vCheck.l6b a1)) (φ := (· = r)) (fun (s : Int) a w => ∃ (x346 : Int), s = (x346) ∧ Has 82 [(1, .pointer (some ⟨b196, 0, none⟩)), (4, .int .i64 x346)] a ∧ St B w (Cl b196 [.slice A2 a1.Progs.length c3, .slice A5 a1.Links.length c6, .slice A8 a1.Starts.length c9, .int .u64 a1.Seed, .int .i64 a1.End, .int .i64 a1.Budget] 27 :: l) hf) ?_ (s0 := (0)) h ⟨0, rfl, ha.to ⟨rfl, rfl, trivial⟩, hS⟩
          rintro G364 x346 a w ⟨_, rfl, ha, hS⟩ h
          revert a
          show RC _ _ _ _ _ _
          refine RC.seq (sr (pn 1 rfl (RL.s (Vl.fa 2 underlying27 rfl sizeOf24 rfl rfl) rfl (RL.s (Vl.ld 0 hS isAgg24 rfl rfl rfl) rfl (RL.s (Vl.lenSl underlying24 rfl) rfl (pn 1 rfl (ln ?_)))))))
          refine RC.iteP 57 rfl h (fun hc366 h => ?_) fun hc366 h => ?_
          next =>
           refine RC.condT rfl (sk (RC.seq (RC.block (sr (RL.s (Vl.fa 2 underlying27 rfl sizeOf24 rfl rfl) rfl (RL.s (Vl.ld 0 hS isAgg24 rfl rfl rfl) rfl (pn 1 rfl ?_)))))))
           obtain ⟨hq374, h⟩ := h.req
           refine RL.s (Vl.indexAddr underlying24 sizeOf74 rfl rfl ((hr10.2.world hS.sub).adr hq374 hc366) hq374 hc366 rfl) rfl (RL.s (Vl.loadA isAgg74 sizeOf74 rfl rfl ((hr10.2.world hS.sub).cells hq374 hc366)) rfl (al hS zeroValue74 rfl rfl rfl fun b375 w hS => RL.e0 (OW.store (vs := [.int .i64 ((nth a1.Starts x346).To), .int .i64 ((nth a1.Starts x346).Time), .int .i64 ((nth a1.Starts x346).Value)]) 0 hS rfl rfl rfl rfl sizeOf74 rfl rfl rfl rfl) rfl ?_))
           rintro _ w ⟨rfl, hS⟩
           have hS : St B w (Cl _ [_, _, _] _ :: _ :: l) hf := hS
           refine lnsr (RL.s (Vl.fa 0 underlying74 rfl sizeOf3 rfl rfl) rfl (RL.s (Vl.ld 0 hS isAgg3 rfl rfl rfl) rfl (pn 2 rfl ?_)))
           refine RL.iteP 68 rfl h (fun hc376 h => ?_) fun hc376 h => ?_
           next =>
            refine pn 13 rfl (ln (RC.condT rfl (sr (pn 1 rfl (lr (RQ.inB_ret (RQ.ret ?_)))))))
            have h := h.inrS
            refine RQ.ret (RQ.inB_ret (RQ.ret ?_))
            obtain rfl := h.some
            exact rt results21 rfl ⟨rfl, hS.d0.d0⟩
           next =>
            refine RL.sg (Vl.fa 0 underlying74 rfl sizeOf3 rfl rfl) rfl rfl (RL.sg (Vl.ld 0 hS isAgg3 rfl rfl rfl) rfl rfl (RL.sg (Vl.fa 0 underlying27 rfl sizeOf22 rfl rfl) rfl rfl (RL.sg (Vl.ld 1 hS isAgg22 rfl rfl rfl) rfl rfl (RL.sg (Vl.lenSl underlying22 rfl) rfl rfl (pn 3 rfl ?_)))))
            refine RL.iteP 76 rfl h (fun hc377 h => ?_) fun hc377 h => ?_
            next =>
             refine pn 5 rfl (ln (RC.condT rfl (sr (pn 1 rfl (lr (RQ.inB_ret (RQ.ret ?_)))))))
             have h := h.inrS
             refine RQ.ret (RQ.inB_ret (RQ.ret ?_))
             obtain rfl := h.some
             exact rt results21 rfl ⟨rfl, hS.d0.d0⟩
            next =>
             refine RL.sg (Vl.fa 1 underlying74 rfl sizeOf2 rfl rfl) rfl rfl (RL.sg (Vl.ld 0 hS isAgg2 rfl rfl rfl) rfl rfl (cF (fun _ hg => isochronref01vValid.ok hg hS) call36 h rfl rfl rfl ?_))
             rintro t378 h _ w ⟨rfl, hS⟩
             refine pn 2 rfl (ln ?_)
             refine RC.iteM 81 rfl h (fun hc380 h => ?_) fun hc380 h => ?_
             next =>
              refine RC.condF rfl (RC.skip (RQ.inB_n (RQ.then_n (RC.region (pn 3 rfl (RL.nil ?_))))))
              exact fun a ha => ⟨(IntKind.i64.wrap (x346 + 1)), ⟨(IntKind.i64.wrap (x346 + 1)), rfl, ha.to ⟨rfl, rfl, trivial⟩, hS.d0⟩, h.some⟩
             next =>
              refine RC.condT rfl (sr (pn 1 rfl (lr (RQ.inB_ret (RQ.ret ?_)))))
              have h := h.inrS
              refine RQ.ret (RQ.inB_ret (RQ.ret ?_))
              obtain rfl := h.some
              exact rt results21 rfl ⟨rfl, hS.d0.d0⟩
          next =>
           refine RC.condF rfl (RC.exit (RQ.exitT ?_))
           have h := h.inrS
           refine RQ.exitT (RQ.inB_hit (tsr (pn 1 rfl (lr ?_))))
           obtain rfl := h.some
           exact rt results21 rfl ⟨rfl, hS.d0⟩
        next =>
         refine RC.condT rfl (sr (pn 1 rfl (lr (RQ.ret ?_))))
         obtain rfl := h.some
         exact rt results21 rfl ⟨rfl, hS.d0⟩
    next =>
     refine pn 9 rfl (ln (RC.condT rfl (sr (pn 1 rfl (lr (RQ.ret ?_))))))
     obtain rfl := h.some
     exact rt results21 rfl ⟨rfl, hS.d0⟩

/-! ### isochron/isochronref13.Ways: function 79 -/
noncomputable def isochronref13vWays.j8 (x106 : Int) (l140 : List Int) : Option ((List Int × Int) ⊕ (List Int)) := some (.inl (l140, IntKind.i64.wrap (x106 + 1)))
noncomputable def isochronref13vWays.l7b (a1 : api_Model) (a11 : Int) : List Int × Int → Option ((List Int × Int) ⊕ (List Int))
  | (l103, x106) => (if x106 < (a1.Links.length : Int) then (if 0 ≤ x106 then (if (nth a1.Links x106).From = a11 then (if (l103.length + 1) * 8 ≤ 140737488355328 then isochronref13vWays.j8 x106 (l103 ++ ([x106] : List Int)) else none) else isochronref13vWays.j8 x106 l103) else none) else some (.inr l103))
noncomputable def isochronref13vWays.l7 (a1 : api_Model) (a11 : Int) (s : List Int × Int) : Option (List Int) := loopR (isochronref13vWays.l7b a1 a11) s
noncomputable def isochronref13vWays.f (a1 : api_Model) (a11 : Int) : Option (List Int) := isochronref13vWays.l7 a1 a11 ([], 0)
theorem isochronref13vWays.ok {a1 : api_Model} {a11 : Int} {A2 : Option Addr} {c3 : Nat} {A5 : Option Addr} {c6 : Nat} {A8 : Option Addr} {c9 : Nat} (hr4 : SlR (Rep.sl E_api_Instr.rep) hf A2 c3 a1.Progs) (hr7 : SlR E_api_Link.rep hf A5 c6 a1.Links) (hr10 : SlR E_api_Start.rep hf A8 c9 a1.Starts) {r : List Int} (h : isochronref13vWays.f a1 a11 = some r) (hS : St B w (l) hf) :
    Calls prog 79 #[.agg #[.slice A2 a1.Progs.length c3, .slice A5 a1.Links.length c6, .slice A8 a1.Starts.length c9, .int .u64 a1.Seed, .int .i64 a1.End, .int .i64 a1.Budget], .int .i64 a11] w (Ret fun v w => ∃ (A_1 : Option Addr) (c_2 : Nat), v = .slice A_1 r.length c_2 ∧ St B w (OSf (FI .i64) 3 (.slice A_1 r.length c_2) r :: l) hf) := by
  have h := Holds.of h
  refine en func79 rfl ntmps79 rfl (sr (bx hS rfl rfl rfl rfl fun b81 w hS => pn 1 rfl (lnsr (pn 1 rfl (ln (RC.seq (sr (pn 1 rfl ?_))))))))
  refine ln (RC.block ?_)
  have hS := hS.nilSl (FI .i64) 3
  refine fun a ha => RC.loop (N := 27) (body := (isochronref13vWays.l7b a1 a11)) (φ := (· = r)) (fun (s : List Int × Int) a w => ∃ (l103 : List Int) (x106 : Int), s = (l103, x106) ∧ ∃ (A104 : Option Addr) (c105 : Nat), Has 27 [(1, .int .i64 a11), (2, .pointer (some ⟨b81, 0, none⟩)), (5, .slice A104 l103.length c105), (6, .int .i64 x106)] a ∧ St B w (OSf (FI .i64) 3 (.slice A104 l103.length c105) l103 :: Cl b81 [.slice A2 a1.Progs.length c3, .slice A5 a1.Links.length c6, .slice A8 a1.Starts.length c9, .int .u64 a1.Seed, .int .i64 a1.End, .int .i64 a1.Budget] 27 :: l) hf) ?_ (s0 := ([], 0)) h ⟨([]), 0, rfl, none, 0, ha.to ⟨rfl, rfl, rfl, rfl, trivial⟩, hS⟩
  rintro G130 _ a w ⟨l103, x106, rfl, A104, c105, ha, hS⟩ h
  revert a
  show RC _ _ _ _ _ _
  refine RC.seq (sr (pn 1 rfl (RL.s (Vl.fa 1 underlying27 rfl sizeOf23 rfl rfl) rfl (RL.s (Vl.ld 1 hS isAgg23 rfl rfl rfl) rfl (RL.s (Vl.lenSl underlying23 rfl) rfl (pn 1 rfl (ln ?_)))))))
  refine RC.iteP 11 rfl h (fun hc132 h => ?_) fun hc132 h => ?_
  next =>
   refine RC.condT rfl (sk ?_)
   refine RC.join (fun (s : List Int) a w => ∃ (l140 : List Int), s = (l140) ∧ ∃ (A141 : Option Addr) (c142 : Nat), Has 27 [(1, .int .i64 a11), (2, .pointer (some ⟨b81, 0, none⟩)), (5, .slice A141 l140.length c142), (6, .int .i64 x106)] a ∧ St B w (OSf (FI .i64) 3 (.slice A141 l140.length c142) l140 :: Cl b81 [.slice A2 a1.Progs.length c3, .slice A5 a1.Links.length c6, .slice A8 a1.Starts.length c9, .int .u64 a1.Seed, .int .i64 a1.End, .int .i64 a1.Budget] 27 :: l) hf ∧ Holds (Sum.elim G130 (· = r)) (isochronref13vWays.j8 x106 l140)) ?_ ?_
   · rintro l140 a w ⟨_, rfl, A141, c142, ha, hS, h⟩
     revert a
     show RC _ _ _ _ _ _
     refine RC.region (pn 3 rfl (RL.nil ?_))
     exact fun a ha => ⟨(l140, IntKind.i64.wrap (x106 + 1)), ⟨l140, (IntKind.i64.wrap (x106 + 1)), rfl, A141, c142, ha.to ⟨rfl, rfl, rfl, rfl, trivial⟩, hS⟩, h.some⟩
   · refine RC.block ?_
     refine sr (RL.s (Vl.fa 1 underlying27 rfl sizeOf23 rfl rfl) rfl (RL.s (Vl.ld 1 hS isAgg23 rfl rfl rfl) rfl (pn 1 rfl ?_)))
     obtain ⟨hq143, h⟩ := h.req
     refine RL.s (Vl.indexAddr underlying23 sizeOf136 rfl rfl ((hr7.2.world hS.sub).adr hq143 hc132) hq143 hc132 rfl) rfl (RL.s (Vl.fieldAddr (a'' := (ad A5).add (x106.toNat * 4 + 0)) underlying136 rfl sizeOf3 rfl (add_add _ _ _)) rfl (RL.s (Vl.load isAgg3 rfl ((hr7.2.world hS.sub).cell (j := 0) hq143 hc132 rfl)) rfl (pn 2 rfl (ln ?_))))
     refine RC.iteP 21 rfl h (fun hc144 h => ?_) fun hc144 h => ?_
     next =>
      refine RC.condT rfl (RC.region (pn 2 rfl (RL.e (OW.buildSlice (E := (FI .i64)) (xs := ([x106] : List Int)) (cs := [.int .i64 x106]) hS underlying120 zeroValue3 sizeOf3 (parts := [(0, .tmp 23)]) rfl rfl (by decide) (by decide) (by kernel_rfl) rfl) rfl rfl ?_)))
      rintro _ w ⟨b145, rfl, hS⟩
      obtain ⟨hq146, h⟩ := h.req
      refine RL.e (OW.append (E := (FI .i64)) (xs := l103) (ys := ([x106] : List Int)) 1 hS rfl underlying120 type3 rfl rfl rfl rfl (by decide) rfl rfl rfl (hS.slW 0 rfl).2.2.flat (by simp only [maxLen, List.length_cons, List.length_nil] at *; omega) hq146 rfl) rfl rfl ?_
      rintro v149 w hS
      obtain ⟨A147, c148, rfl, _⟩ := hS.osShape 0 rfl
      have hS : St B w (_ :: _ :: _ :: l) hf := hS
      refine pn 1 rfl (RL.nil (RQ.inB_n ?_))
      exact fun a ha => ⟨((l103 ++ ([x106] : List Int))), (l103 ++ ([x106] : List Int)), rfl, A147, c148, ha.to ⟨rfl, rfl, rfl, rfl, trivial⟩, hS.d1, h⟩
     next =>
      refine RC.condF rfl (RC.skip (RQ.inB_n ?_))
      exact fun a ha => ⟨(l103), l103, rfl, A104, c105, ha.to ⟨rfl, rfl, rfl, rfl, trivial⟩, hS, h⟩
  next =>
   refine RC.condF rfl (RC.exit (RQ.exitT ?_))
   have h := h.inrS
   refine RQ.exitT (RQ.inB_hit (tsr (pn 2 rfl (lr ?_))))
   obtain rfl := h.some
   exact rt results79 rfl ⟨A104, c105, rfl, hS.d1⟩

/-! ### isochron/isochronref13.World: function 61 -/
noncomputable def isochronref13vWorld.l4b (a1 : api_Model) (a11 : Int) (t180 : List Int) : List api_Link × Int → Option ((List api_Link × Int) ⊕ (api_World × Int))
  | (l269, x272) => (if x272 < (t180.length : Int) then (if 0 ≤ x272 then (if 0 ≤ nth t180 x272 ∧ nth t180 x272 < (a1.Links.length : Int) then (if (l269.length + 1) * 32 ≤ 140737488355328 then some (.inl ((l269 ++ ([(⟨(nth a1.Links (nth t180 x272)).From, (nth a1.Links (nth t180 x272)).To, (nth a1.Links (nth t180 x272)).Look, ((nth a1.Links (nth t180 x272)).Loose)⟩ : api_Link)])), IntKind.i64.wrap (x272 + 1))) else none) else none) else none) else some (.inr ((⟨nth a1.Progs a11, a11, l269, a1.Seed⟩ : api_World), 0)))
noncomputable def isochronref13vWorld.l4 (a1 : api_Model) (a11 : Int) (t180 : List Int) (s : List api_Link × Int) : Option (api_World × Int) := loopR (isochronref13vWorld.l4b a1 a11 t180) s
noncomputable def isochronref13vWorld.f (a1 : api_Model) (a11 : Int) : Option (api_World × Int) := ((isochronref13vCheck.f a1).bind fun t165 => (if t165 = 0 then (if a11 < 0 then some ((⟨([] : List api_Instr), 0, ([] : List api_Link), 0⟩ : api_World), 1) else (if (a1.Progs.length : Int) ≤ a11 then some ((⟨([] : List api_Instr), 0, ([] : List api_Link), 0⟩ : api_World), 1) else (if 0 ≤ a11 ∧ a11 < (a1.Progs.length : Int) then ((isochronref13vWays.f a1 a11).bind fun t180 => isochronref13vWorld.l4 a1 a11 t180 ([], 0)) else none))) else some ((⟨([] : List api_Instr), 0, ([] : List api_Link), 0⟩ : api_World), t165)))
theorem isochronref13vWorld.ok {a1 : api_Model} {a11 : Int} {A2 : Option Addr} {c3 : Nat} {A5 : Option Addr} {c6 : Nat} {A8 : Option Addr} {c9 : Nat} (hr4 : SlR (Rep.sl E_api_Instr.rep) hf A2 c3 a1.Progs) (hr7 : SlR E_api_Link.rep hf A5 c6 a1.Links) (hr10 : SlR E_api_Start.rep hf A8 c9 a1.Starts) {r : api_World × Int} (h : isochronref13vWorld.f a1 a11 = some r) (hS : St B w (l) hf) :
    Calls prog 61 #[.agg #[.slice A2 a1.Progs.length c3, .slice A5 a1.Links.length c6, .slice A8 a1.Starts.length c9, .int .u64 a1.Seed, .int .i64 a1.End, .int .i64 a1.Budget], .int .i64 a11] w (Ret fun v w => ∃ (A_1 : Option Addr) (c_2 : Nat) (A_4 : Option Addr) (c_5 : Nat), v = .tuple #[.agg #[.slice A_1 r.1.Prog.length c_2, .int .i64 r.1.Self, .slice A_4 r.1.Links.length c_5, .int .u64 r.1.Seed], .int .i64 r.2] ∧ St B w (OSf E_api_Link 136 (.slice A_4 r.1.Links.length c_5) r.1.Links :: l) hf ∧ SlR E_api_Instr.rep hf A_1 c_2 r.1.Prog) := by
  have h := Holds.of h
  refine en func61 rfl ntmps61 rfl (sr (bx hS rfl rfl rfl rfl fun b163 w hS => al hS zeroValue124 rfl rfl rfl fun b164 w hS => pn 1 rfl (lnsr (RL.s (Vl.lw 1 hS isAgg27 sizeOf27 rfl rfl rfl) rfl (cF (fun _ hg => isochronref13vCheck.ok hr4 hr7 hr10 hg hS) call21 h rfl rfl rfl ?_)))))
  rintro t165 h _ w ⟨rfl, hS⟩
  refine pn 1 rfl (ln (RC.seq (sr (pn 2 rfl (ln ?_)))))
  refine RC.iteN 13 rfl h (fun hc168 h => ?_) fun hc168 h => ?_
  next =>
   refine RC.condF rfl (sk (RC.seq (sr (pn 3 rfl ?_))))
   refine RL.iteP 18 rfl h (fun hc171 h => ?_) fun hc171 h => ?_
   next =>
    refine pn 6 rfl (ln (RC.condT rfl (sr (RL.s (Vl.build (v := .agg #[.slice none 0 0, .int .i64 0, .slice none 0 0, .int .u64 0]) (parts := []) rfl (by kernel_rfl)) rfl (RL.e0 (OW.store (vs := [.slice none 0 0, .int .i64 0, .slice none 0 0, .int .u64 0]) 0 hS rfl rfl rfl rfl sizeOf124 rfl rfl rfl rfl) rfl ?_)))))
    rintro _ w ⟨rfl, hS⟩
    have hS : St B w (Cl _ [_, _, _, _] _ :: _ :: l) hf := hS
    refine pn 1 rfl (lr (RQ.ret ?_))
    have hS := hS.nilSl E_api_Link 136
    obtain rfl := h.some
    refine RQ.ret0 (vs := [.agg #[.slice none 0 0, .int .i64 0, .slice none 0 0, .int .u64 0], .int .i64 1]) results61 ⟨⟨_, rfl, run_loadVarA (vs := [.slice none 0 0, .int .i64 0, .slice none 0 0, .int .u64 0]) isAgg124 sizeOf124 rfl (hS.cellsAt 1 rfl rfl)⟩, rfl, trivial⟩ ?_
    exact ⟨none, 0, none, 0, rfl, hS.d1.d1, SlR.nil⟩
   next =>
    refine pn 1 rfl (RL.sg (Vl.fa 0 underlying27 rfl sizeOf22 rfl rfl) rfl rfl (RL.sg (Vl.ld 1 hS isAgg22 rfl rfl rfl) rfl rfl (RL.sg (Vl.lenSl underlying22 rfl) rfl rfl (pn 2 rfl (ln ?_)))))
    refine RC.iteP 24 rfl h (fun hc172 h => ?_) fun hc172 h => ?_
    next =>
     refine RC.condT rfl (sr (RL.s (Vl.build (v := .agg #[.slice none 0 0, .int .i64 0, .slice none 0 0, .int .u64 0]) (parts := []) rfl (by kernel_rfl)) rfl (RL.e0 (OW.store (vs := [.slice none 0 0, .int .i64 0, .slice none 0 0, .int .u64 0]) 0 hS rfl rfl rfl rfl sizeOf124 rfl rfl rfl rfl) rfl ?_)))
     rintro _ w ⟨rfl, hS⟩
     have hS : St B w (Cl _ [_, _, _, _] _ :: _ :: l) hf := hS
     refine pn 1 rfl (lr (RQ.ret ?_))
     have hS := hS.nilSl E_api_Link 136
     obtain rfl := h.some
     refine RQ.ret0 (vs := [.agg #[.slice none 0 0, .int .i64 0, .slice none 0 0, .int .u64 0], .int .i64 1]) results61 ⟨⟨_, rfl, run_loadVarA (vs := [.slice none 0 0, .int .i64 0, .slice none 0 0, .int .u64 0]) isAgg124 sizeOf124 rfl (hS.cellsAt 1 rfl rfl)⟩, rfl, trivial⟩ ?_
     exact ⟨none, 0, none, 0, rfl, hS.d1.d1, SlR.nil⟩
    next =>
     refine RC.condF rfl (sk (RC.seq (RC.planS (plD [0, 4, 6, 10, 13, 15, 18, 22, 24, 29, 32]) [10] hS (fun w hS => hS) follows rfl (by kernel_rfl) (NoTmp.then NoTmp.body) fun w hS => RP.s0 0 rfl (fun w => Vl.fa 0 underlying27 rfl sizeOf22 rfl rfl) rfl (RP.s 0 1 rfl rfl hS (fun w hS => Vl.ld 1 hS isAgg22 rfl rfl rfl) rfl (pp 1 rfl ?_)))))
     obtain ⟨⟨hq173, hq174⟩, h⟩ := h.req
     refine RP.s 0 3 rfl rfl hS (fun w hS => Vl.indexAddr underlying22 sizeOf100 rfl rfl (hr4.2.adr hq173 hq174) hq173 hq174 rfl) rfl ?_
     obtain ⟨_, _, ⟨A175, c176, rfl, hr177⟩, hl178⟩ := hr4.2.elem hq173 hq174
     refine RP.s 0 4 rfl rfl hS (fun w hS => Vl.load isAgg100 rfl (cellH_world hS.sub (hl178 0 _ rfl))) rfl (pp 1 rfl (RP.s0 6 rfl (fun w => Vl.fa 3 underlying27 rfl sizeOf25 rfl rfl) rfl (RP.s 0 7 rfl rfl hS (fun w hS => Vl.ld 1 hS isAgg25 rfl rfl rfl) rfl (RP.s0 8 rfl (fun w => Vl.build (v := .agg #[.slice A175 (nth a1.Progs a11).length c176, .int .i64 a11, .slice none 0 0, .int .u64 a1.Seed]) (parts := [(0, .tmp 30), (1, .tmp 31), (3, .tmp 33)]) rfl (by kernel_rfl)) rfl (RP.e 9 rfl (OW.alloc (cs := [.slice none 0 0, .int .i64 0, .slice none 0 0, .int .u64 0]) hS zeroValue124 rfl) rfl rfl ?_)))))
     rintro _ w ⟨b179, rfl, hS⟩
     refine ⟨kp ⟨fun _ => hS.d0, trivial⟩, ?_⟩
     refine RP.e0 10 rfl (OW.store (vs := [.slice A175 (nth a1.Progs a11).length c176, .int .i64 a11, .slice none 0 0, .int .u64 a1.Seed]) 0 hS rfl rfl rfl rfl sizeOf124 rfl rfl rfl rfl) rfl ?_
     rintro _ w ⟨rfl, hS⟩
     have hS : St B w (Cl _ [_, _, _, _] _ :: _ :: _ :: l) hf := hS
     refine ⟨kp ⟨(by intro hx; cases hx), trivial⟩, ?_⟩
     refine RP.nil (tsr (RL.s (Vl.lw 2 hS isAgg27 sizeOf27 rfl rfl rfl) rfl (pn 1 rfl (cF (fun _ hg => isochronref13vWays.ok hr4 hr7 hr10 hg hS) call79 h rfl rfl rfl ?_))))
     rintro t180 h _ w ⟨A182, c183, rfl, hS⟩
     refine pn 1 rfl (ln (RC.seq (sr (pn 1 rfl (ln (RC.block ?_))))))
     have hS := hS.nilSl E_api_Link 136
     refine fun a ha => RC.loop (N := 58) (body := (isochronref13vWorld.l4b a1 a11 t180)) (φ := (· = r)) (fun (s : List api_Link × Int) a w => ∃ (l269 : List api_Link) (x272 : Int), s = (l269, x272) ∧ ∃ (A270 : Option Addr) (c271 : Nat), Has 58 [(2, .pointer (some ⟨b163, 0, none⟩)), (4, .pointer (some ⟨b164, 0, none⟩)), (7, .pointer (some ⟨b179, 0, none⟩)), (8, .slice A182 t180.length c183), (9, .int .i64 x272)] a ∧ St B w (OSf E_api_Link 136 (.slice A270 l269.length c271) l269 :: OSf (FI .i64) 3 (.slice A182 t180.length c183) t180 :: Cl b179 [.slice A175 (nth a1.Progs a11).length c176, .int .i64 a11, .slice A270 l269.length c271, .int .u64 a1.Seed] 124 :: Cl b164 [.slice none 0 0, .int .i64 0, .slice none 0 0, .int .u64 0] 124 :: Cl b163 [.slice A2 a1.Progs.length c3, .slice A5 a1.Links.length c6, .slice A8 a1.Starts.length c9, .int .u64 a1.Seed, .int .i64 a1.End, .int .i64 a1.Budget] 27 :: l) hf) ?_ (s0 := ([], 0)) h ⟨([]), 0, rfl, none, 0, ha.to ⟨rfl, rfl, rfl, rfl, rfl, trivial⟩, hS⟩
     rintro G295 _ a w ⟨l269, x272, rfl, A270, c271, ha, hS⟩ h
     revert a
     show RC _ _ _ _ _ _
     refine RC.seq (sr (pn 2 rfl (RL.s (Vl.lenSl underlying120 rfl) rfl (pn 1 rfl (ln ?_)))))
     refine RC.iteP 41 rfl h (fun hc297 h => ?_) fun hc297 h => ?_
     next =>
      refine RC.condT rfl (sk (RC.seq (RC.block (RC.planS (plD [0, 4, 6, 10, 12, 17, 20, 23, 26, 29, 32, 35, 38, 41]) [11, 12, 13] hS (fun w hS => hS) follows rfl (by kernel_rfl) (NoTmp.block (NoTmp.then (NoTmp.then (NoTmp.block (NoTmp.then NoTmp.body))))) fun w hS => RP.s0 0 rfl (fun w => Vl.fa 2 underlying124 rfl sizeOf23 rfl rfl) rfl (RP.s 0 1 rfl rfl hS (fun w hS => Vl.ld 2 hS isAgg23 rfl rfl rfl) rfl (RP.s0 2 rfl (fun w => Vl.fa 1 underlying27 rfl sizeOf23 rfl rfl) rfl (RP.s 0 3 rfl rfl hS (fun w hS => Vl.ld 4 hS isAgg23 rfl rfl rfl) rfl (pp 1 rfl (RP.v1 5 rfl (Vl.move rfl) rfl rfl ?_)))))))))
      obtain ⟨hq306, h⟩ := h.req
      refine RP.v1 6 rfl (Vl.indexOwn 1 hS rfl underlying120 sizeOf3 rfl rfl hq306 hc297) rfl rfl (RP.v1 7 rfl (Vl.load isAgg3 rfl ((hS.slW 1 rfl).2.2.cell (j := 0) hq306 hc297 rfl)) rfl rfl ?_)
      obtain ⟨⟨hq307, hq308⟩, h⟩ := h.req
      refine RP.v1 8 rfl (Vl.indexAddr underlying23 sizeOf136 rfl rfl ((hr7.2.world hS.sub).adr hq307 hq308) hq307 hq308 rfl) rfl rfl (RP.v1 9 rfl (Vl.loadA isAgg136 sizeOf136 rfl rfl ((hr7.2.world hS.sub).cells hq307 hq308)) rfl rfl (RP.e 10 rfl (OW.buildSlice (E := E_api_Link) (xs := [(⟨(nth a1.Links (nth t180 x272)).From, (nth a1.Links (nth t180 x272)).To, (nth a1.Links (nth t180 x272)).Look, ((nth a1.Links (nth t180 x272)).Loose)⟩ : api_Link)]) (cs := [.int .i64 ((nth a1.Links (nth t180 x272)).From), .int .i64 ((nth a1.Links (nth t180 x272)).To), .int .i64 ((nth a1.Links (nth t180 x272)).Look), .bool ((nth a1.Links (nth t180 x272)).Loose)]) hS underlying23 zeroValue136 sizeOf136 (parts := [(0, .tmp 53)]) rfl rfl (by decide) (by decide) (by kernel_rfl) rfl) rfl rfl ?_))
      rintro _ w ⟨b309, rfl, hS⟩
      refine ⟨kp ⟨fun _ => hS.d0, trivial⟩, ?_⟩
      obtain ⟨hq310, h⟩ := h.req
      refine RP.e 11 rfl (OW.append (E := E_api_Link) (xs := l269) (ys := [(⟨(nth a1.Links (nth t180 x272)).From, (nth a1.Links (nth t180 x272)).To, (nth a1.Links (nth t180 x272)).Look, ((nth a1.Links (nth t180 x272)).Loose)⟩ : api_Link)]) 1 hS rfl underlying23 type136 rfl rfl rfl rfl (by decide) rfl rfl rfl (hS.slW 0 rfl).2.2.flat (by simp only [maxLen, List.length_cons, List.length_nil] at *; omega) hq310 rfl) rfl rfl ?_
      rintro v313 w hS
      obtain ⟨A311, c312, rfl, _⟩ := hS.osShape 0 rfl
      have hS : St B w (_ :: _ :: _ :: _ :: _ :: _ :: l) hf := hS
      refine ⟨kp ⟨(by intro hx; cases hx), trivial⟩, ?_⟩
      refine RP.v1 12 rfl (Vl.fa 2 underlying124 rfl sizeOf23 rfl rfl) rfl rfl (RP.e0 13 rfl (OW.store (vs := [.slice A311 (l269 ++ ([(⟨(nth a1.Links (nth t180 x272)).From, (nth a1.Links (nth t180 x272)).To, (nth a1.Links (nth t180 x272)).Look, ((nth a1.Links (nth t180 x272)).Loose)⟩ : api_Link)])).length c312]) 3 hS rfl rfl rfl rfl sizeOf23 rfl rfl rfl rfl) rfl ?_)
      rintro _ w ⟨rfl, hS⟩
      have hS : St B w (_ :: _ :: _ :: Cl _ [_, _, _, _] _ :: _ :: _ :: l) hf := hS
      refine ⟨kp ⟨(by intro hx; cases hx), trivial⟩, ?_⟩
      refine RP.nil (RQ.inB_n (RQ.then_n (RC.region (pn 3 rfl (RL.nil ?_)))))
      exact fun a ha => ⟨((l269 ++ ([(⟨(nth a1.Links (nth t180 x272)).From, (nth a1.Links (nth t180 x272)).To, (nth a1.Links (nth t180 x272)).Look, ((nth a1.Links (nth t180 x272)).Loose)⟩ : api_Link)])), IntKind.i64.wrap (x272 + 1)), ⟨(l269 ++ ([(⟨(nth a1.Links (nth t180 x272)).From, (nth a1.Links (nth t180 x272)).To, (nth a1.Links (nth t180 x272)).Look, ((nth a1.Links (nth t180 x272)).Loose)⟩ : api_Link)])), (IntKind.i64.wrap (x272 + 1)), rfl, A311, c312, ha.to ⟨rfl, rfl, rfl, rfl, rfl, trivial⟩, hS.d1⟩, h.some⟩
     next =>
      refine RC.condF rfl (RC.exit (RQ.exitT ?_))
      have h := h.inrS
      refine RQ.exitT (RQ.inB_hit (tsr (RL.s (Vl.lw 2 hS isAgg124 sizeOf124 rfl rfl rfl) rfl (RL.e0 (OW.store (vs := [.slice A175 (nth a1.Progs a11).length c176, .int .i64 a11, .slice A270 l269.length c271, .int .u64 a1.Seed]) 3 hS rfl rfl rfl rfl sizeOf124 rfl rfl rfl rfl) rfl ?_))))
      rintro _ w ⟨rfl, hS⟩
      have hS : St B w (_ :: _ :: _ :: Cl _ [_, _, _, _] _ :: _ :: l) hf := hS
      refine pn 1 rfl (lr ?_)
      obtain rfl := h.some
      refine RQ.ret0 (vs := [.agg #[.slice A175 (nth a1.Progs a11).length c176, .int .i64 a11, .slice A270 l269.length c271, .int .u64 a1.Seed], .int .i64 0]) results61 ⟨⟨_, rfl, run_loadVarA (vs := [.slice A175 (nth a1.Progs a11).length c176, .int .i64 a11, .slice A270 l269.length c271, .int .u64 a1.Seed]) isAgg124 sizeOf124 rfl (hS.cellsAt 3 rfl rfl)⟩, rfl, trivial⟩ ?_
      exact ⟨A175, c176, A270, c271, rfl, hS.d1.d1.d1.d1, hr177⟩
  next =>
   refine RC.condT rfl (sr (RL.s (Vl.build (v := .agg #[.slice none 0 0, .int .i64 0, .slice none 0 0, .int .u64 0]) (parts := []) rfl (by kernel_rfl)) rfl (pn 1 rfl (RL.e0 (OW.store (vs := [.slice none 0 0, .int .i64 0, .slice none 0 0, .int .u64 0]) 0 hS rfl rfl rfl rfl sizeOf124 rfl rfl rfl rfl) rfl ?_))))
   rintro _ w ⟨rfl, hS⟩
   have hS : St B w (Cl _ [_, _, _, _] _ :: _ :: l) hf := hS
   refine pn 1 rfl (lr (RQ.ret ?_))
   have hS := hS.nilSl E_api_Link 136
   obtain rfl := h.some
   refine RQ.ret0 (vs := [.agg #[.slice none 0 0, .int .i64 0, .slice none 0 0, .int .u64 0], .int .i64 t165]) results61 ⟨⟨_, rfl, run_loadVarA (vs := [.slice none 0 0, .int .i64 0, .slice none 0 0, .int .u64 0]) isAgg124 sizeOf124 rfl (hS.cellsAt 1 rfl rfl)⟩, rfl, trivial⟩ ?_
   exact ⟨none, 0, none, 0, rfl, hS.d1.d1, SlR.nil⟩

end Go.Proofs.Gx
