/-
  The walks of functions, each with what it computes: printed by wip/gx.py.
-/
import Derived.Test.YtofgeidjbfmmdaaGreatDoorW0
import Derived.Test.YtofgeidjbfmmdaaGreatDoorW14
import Derived.Test.YtofgeidjbfmmdaaGreatDoorW3
import Derived.Test.YtofgeidjbfmmdaaGreatDoorW9
set_option linter.unusedVariables false
set_option maxRecDepth 100000
set_option maxHeartbeats 4000000
namespace Go.Proofs.Gx
open Go.Sl Tryz
variable {B : Base} {w : World} {l : List HProp} {hf : Hp}
/-! ### isochron/isochronlaw14.SeqRises: function 4 -/
noncomputable def isochronlaw14vSeqRises.l4b (a1 : api_Model) (y189 : List api_Done) (y190 : List api_State) (y191 : Int) : Int → Option ((Int) ⊕ (Bool))
  | (x289) => (if x289 < (y189.length : Int) then (if 0 ≤ x289 then (if a1.End < ((nth y189 x289).Key).Time then some (.inr false) else (if 0 < x289 then (if 0 ≤ IntKind.i64.wrap (x289 - 1) ∧ IntKind.i64.wrap (x289 - 1) < (y189.length : Int) then ((event_Compare.f ((nth y189 (IntKind.i64.wrap (x289 - 1))).Key) ((nth y189 x289).Key)).bind fun t343 => (if t343 = (-1) then (if (nth y189 x289).To < 0 then some (.inr false) else (if (a1.Progs.length : Int) ≤ (nth y189 x289).To then some (.inr false) else some (.inl (IntKind.i64.wrap (x289 + 1))))) else some (.inr false))) else none) else (if (nth y189 x289).To < 0 then some (.inr false) else (if (a1.Progs.length : Int) ≤ (nth y189 x289).To then some (.inr false) else some (.inl (IntKind.i64.wrap (x289 + 1))))))) else none) else (Option.map Sum.inr (if (y189.length : Int) ≤ a1.Budget then (if y191 = 4 then (if (y189.length : Int) = a1.Budget then (if y191 = 0 then some false else some (decide ((y190.length : Int) = (a1.Progs.length : Int)))) else some false) else (if y191 = 0 then some false else some (decide ((y190.length : Int) = (a1.Progs.length : Int))))) else some false)))
noncomputable def isochronlaw14vSeqRises.l4 (a1 : api_Model) (y189 : List api_Done) (y190 : List api_State) (y191 : Int) (s : Int) : Option (Bool) := loopR (isochronlaw14vSeqRises.l4b a1 y189 y190 y191) s
noncomputable def isochronlaw14vSeqRises.f (a1 : api_Model) : Option (Bool) := ((seq_Run.f a1).bind fun (y189, y190, y191, y192) => (if y192 = 0 then isochronlaw14vSeqRises.l4 a1 y189 y190 y191 (0) else ((model_Check.f a1).bind fun t355 => (if y192 = t355 then (if (y189.length : Int) = 0 then ((isochronlaw14vawake.f).bind fun t359 => some t359) else some false) else some false))))
theorem isochronlaw14vSeqRises.ok {a1 : api_Model} {A2 : Option Addr} {c3 : Nat} {A5 : Option Addr} {c6 : Nat} {A8 : Option Addr} {c9 : Nat} (hr4 : SlR (Rep.sl E_api_Instr.rep) hf A2 c3 a1.Progs) (hr7 : SlR E_api_Link.rep hf A5 c6 a1.Links) (hr10 : SlR E_api_Start.rep hf A8 c9 a1.Starts) (hG0 : GlobAt hf 0 (.iface 148 (.agg #[.pointer (some ⟨1, 83, none⟩)]))) {r : Bool} (h : isochronlaw14vSeqRises.f a1 = some r) (hS : St B w (l) hf) :
    Calls prog 4 #[.agg #[.slice A2 a1.Progs.length c3, .slice A5 a1.Links.length c6, .slice A8 a1.Starts.length c9, .int .u64 a1.Seed, .int .i64 a1.End, .int .i64 a1.Budget]] w (Ret fun v w => v = .bool r ∧ St B w (l) hf) := by
  have h := Holds.of h
  refine en func4 rfl ntmps4 rfl (sr (bx hS rfl rfl rfl rfl fun b186 w hS => pn 1 rfl (lnsr (RL.s (Vl.lw 0 hS isAgg27 sizeOf27 rfl rfl rfl) rfl (cF (fun _ hg => seq_Run.ok hr4 hr7 hr10 hG0 hg hS) call9 h rfl rfl rfl ?_)))))
  rintro ⟨y189, y190, y191, y192⟩ h _ w ⟨A193, c194, A195, c196, rfl, hS⟩
  refine pn 3 rfl (al hS zeroValue31 rfl rfl rfl fun b197 w hS => RL.e0 (OW.store (vs := [.slice A193 y189.length c194, .slice A195 y190.length c196, .int .i64 y191]) 0 hS rfl rfl rfl rfl sizeOf31 rfl rfl rfl rfl) rfl ?_)
  rintro _ w ⟨rfl, hS⟩
  have hS : St B w (Cl _ [_, _, _] _ :: _ :: _ :: _ :: l) hf := hS
  refine pn 1 rfl (ln (RC.seq (sr (pn 2 rfl (ln ?_)))))
  refine RC.iteN 13 rfl h (fun hc205 h => ?_) fun hc205 h => ?_
  next =>
   refine RC.condF rfl (sk (RC.seq (sr (pn 1 rfl (ln (RC.block ?_))))))
   refine fun a ha => RC.loop (N := 108) (body := (isochronlaw14vSeqRises.l4b a1 y189 y190 y191)) (φ := (· = r)) (fun (s : Int) a w => ∃ (x289 : Int), s = (x289) ∧ Has 108 [(1, .pointer (some ⟨b186, 0, none⟩)), (3, .pointer (some ⟨b197, 0, none⟩)), (5, .int .i64 x289)] a ∧ St B w (OSf E_api_Done 44 (.slice A193 y189.length c194) y189 :: OSf E_api_State 105 (.slice A195 y190.length c196) y190 :: Cl b197 [.slice A193 y189.length c194, .slice A195 y190.length c196, .int .i64 y191] 31 :: Cl b186 [.slice A2 a1.Progs.length c3, .slice A5 a1.Links.length c6, .slice A8 a1.Starts.length c9, .int .u64 a1.Seed, .int .i64 a1.End, .int .i64 a1.Budget] 27 :: l) hf) ?_ (s0 := (0)) h ⟨0, rfl, ha.to ⟨rfl, rfl, rfl, trivial⟩, hS.p2.p2⟩
   rintro G320 x289 a w ⟨_, rfl, ha, hS⟩ h
   revert a
   show RC _ _ _ _ _ _
   refine RC.seq (sr (pn 1 rfl (RL.s (Vl.fa 0 underlying31 rfl sizeOf28 rfl rfl) rfl (RL.s (Vl.ld 2 hS isAgg28 rfl rfl rfl) rfl (RL.s (Vl.lenSl underlying28 rfl) rfl (pn 1 rfl (ln ?_)))))))
   refine RC.iteP 31 rfl h (fun hc322 h => ?_) fun hc322 h => ?_
   next =>
    refine RC.condT rfl (sk (RC.seq (RC.block (sr (RL.s (Vl.fa 0 underlying31 rfl sizeOf28 rfl rfl) rfl (RL.s (Vl.ld 2 hS isAgg28 rfl rfl rfl) rfl (pn 1 rfl ?_)))))))
    obtain ⟨hq337, h⟩ := h.req
    refine RL.s (Vl.indexOwn 0 hS rfl underlying28 sizeOf44 rfl rfl hq337 hc322) rfl (RL.s (Vl.loadA isAgg44 sizeOf44 rfl rfl ((hS.slW 0 rfl).2.2.cells hq337 hc322)) rfl (al hS zeroValue44 rfl rfl rfl fun b338 w hS => RL.e0 (OW.store (vs := [.int .i64 (((nth y189 x289).Key).Time), .int .i64 (((nth y189 x289).Key).From), .int .i64 (((nth y189 x289).Key).Seq), .int .i64 ((nth y189 x289).To), .int .i64 ((nth y189 x289).Value)]) 0 hS rfl rfl rfl rfl sizeOf44 rfl rfl rfl rfl) rfl ?_))
    rintro _ w ⟨rfl, hS⟩
    have hS : St B w (Cl _ [_, _, _, _, _] _ :: _ :: _ :: _ :: _ :: l) hf := hS
    refine ln (RC.seq (RC.planS (plD [0, 3, 7, 9, 13, 15, 18, 21, 24, 27, 30, 34, 36, 39, 43, 45, 49, 51, 55, 59, 60, 63, 66, 69, 72, 76, 78, 81, 84, 87, 91, 95, 98, 101, 104, 107]) [34, 35] hS (fun w hS => hS) follows rfl (by kernel_rfl) (NoTmp.then (NoTmp.block (NoTmp.then (NoTmp.then (NoTmp.block (NoTmp.then NoTmp.body)))))) fun w hS => RP.s0 0 rfl (fun w => Vl.fa 0 underlying44 rfl sizeOf42 rfl rfl) rfl (RP.s0 1 rfl (fun w => Vl.fa 0 underlying42 rfl sizeOf2 rfl rfl) rfl (RP.s 2 rfl rfl hS (fun w hS => Vl.ld 0 hS isAgg2 rfl rfl rfl) rfl (RP.s0 3 rfl (fun w => Vl.fa 4 underlying27 rfl sizeOf2 rfl rfl) rfl (RP.s 4 rfl rfl hS (fun w hS => Vl.ld 4 hS isAgg2 rfl rfl rfl) rfl (pp 2 rfl ?_)))))))
    refine RP.iteP 45 rfl h (fun hc339 h => ?_) fun hc339 h => ?_
    next =>
     refine pp 4 rfl (RP.nn 11 rfl rfl rfl (pp 2 rfl (RP.nn 14 rfl rfl rfl (pp 1 rfl (RP.nn 16 rfl rfl rfl (pp 1 rfl (RP.nn 18 rfl rfl rfl (RP.n1 19 rfl rfl rfl (pp 5 rfl (RP.nn 25 rfl rfl rfl (pp 4 rfl (RP.nn 30 rfl rfl rfl (RP.n1 31 rfl rfl rfl (RP.n1 32 rfl rfl rfl (RP.n1 33 rfl rfl rfl ?_)))))))))))))))
     refine RP.n1 34 rfl rfl rfl (RP.v1 35 rfl (Vl.pickT rfl rfl) rfl rfl (RP.nil (RQ.then_n (RC.condT rfl (sr (pn 1 rfl (lr (RQ.inB_ret (RQ.ret ?_)))))))))
     have h := h.inrS
     refine RQ.ret (RQ.inB_ret (RQ.ret ?_))
     obtain rfl := h.some
     exact rt results4 rfl ⟨rfl, hS.d0.d0.d0.d0.d0⟩
    next =>
     refine pp 3 rfl ?_
     refine RP.iteP 48 rfl h (fun hc340 h => ?_) fun hc340 h => ?_
     next =>
      refine RP.sg0 10 rfl (fun w => Vl.fa 0 underlying31 rfl sizeOf28 rfl rfl) rfl rfl (RP.sg 11 rfl rfl hS (fun w hS => Vl.ld 3 hS isAgg28 rfl rfl rfl) rfl rfl (pp 2 rfl ?_))
      obtain ⟨⟨hq341, hq342⟩, h⟩ := h.req
      refine RP.sg 14 rfl rfl hS (fun w hS => Vl.indexOwn 1 hS rfl underlying28 sizeOf44 rfl rfl hq341 hq342) rfl rfl (RP.sg0 15 rfl (fun w => Vl.fieldAddr (a'' := (ad A193).add ((IntKind.i64.wrap (x289 - 1)).toNat * 5 + 0)) underlying44 rfl sizeOf42 rfl (add_add _ _ _)) rfl rfl (RP.sg 16 rfl rfl hS (fun w hS => Vl.loadA (vs := [.int .i64 (((nth y189 (IntKind.i64.wrap (x289 - 1))).Key).Time), .int .i64 (((nth y189 (IntKind.i64.wrap (x289 - 1))).Key).From), .int .i64 (((nth y189 (IntKind.i64.wrap (x289 - 1))).Key).Seq)]) isAgg42 sizeOf42 rfl rfl ((hS.slW 1 rfl).2.2.part (off := 0) hq341 hq342 rfl)) rfl rfl (RP.sg0 17 rfl (fun w => Vl.fa 0 underlying44 rfl sizeOf42 rfl rfl) rfl rfl (RP.sg 18 rfl rfl hS (fun w hS => Vl.loadA (vs := [.int .i64 (((nth y189 x289).Key).Time), .int .i64 (((nth y189 x289).Key).From), .int .i64 (((nth y189 x289).Key).Seq)]) isAgg42 sizeOf42 rfl rfl (hS.cellsAt 0 rfl rfl)) rfl rfl ?_))))
      obtain ⟨t343, hg344, h⟩ := h.bind
      have hc := event_Compare.ok hg344 hS
      refine RP.e 19 rfl (OW.callF (ls := [.tmp 55, .tmp 57]) rfl call14 hc) rfl rfl ?_
      rintro _ w ⟨rfl, hS⟩
      refine ⟨fun _ => hS, ?_⟩
      refine pp 4 rfl ?_
      refine RP.iteN 62 rfl h (fun hc345 h => ?_) fun hc345 h => ?_
      next =>
       refine RP.sg0 24 rfl (fun w => Vl.fa 3 underlying44 rfl sizeOf3 rfl rfl) rfl rfl (RP.sg 25 rfl rfl hS (fun w hS => Vl.ld 0 hS isAgg3 rfl rfl rfl) rfl rfl (pp 3 rfl ?_))
       refine RP.iteP 67 rfl h (fun hc346 h => ?_) fun hc346 h => ?_
       next =>
        refine pp 1 rfl (RP.nn 30 rfl rfl rfl (RP.n1 31 rfl rfl rfl (RP.n1 32 rfl rfl rfl (RP.n1 33 rfl rfl rfl (RP.n1 34 rfl rfl rfl (RP.v1 35 rfl (Vl.pickT rfl rfl) rfl rfl (RP.nil (RQ.then_n (RC.condT rfl (sr (pn 1 rfl (lr ?_))))))))))))
        refine RQ.inB_ret (RQ.ret ?_)
        have h := h.inrS
        refine RQ.ret (RQ.inB_ret (RQ.ret ?_))
        obtain rfl := h.some
        exact rt results4 rfl ⟨rfl, hS.d0.d0.d0.d0.d0⟩
       next =>
        refine RP.sg0 29 rfl (fun w => Vl.fa 3 underlying44 rfl sizeOf3 rfl rfl) rfl rfl (RP.sg 30 rfl rfl hS (fun w hS => Vl.ld 0 hS isAgg3 rfl rfl rfl) rfl rfl (RP.v1 31 rfl (Vl.fa 0 underlying27 rfl sizeOf22 rfl rfl) rfl rfl (RP.v1 32 rfl (Vl.ld 4 hS isAgg22 rfl rfl rfl) rfl rfl (RP.v1 33 rfl (Vl.lenSl underlying22 rfl) rfl rfl (RP.v1 34 rfl (Vl.int rfl rfl rfl) rfl rfl (RP.v1 35 rfl (Vl.pickF rfl rfl) rfl rfl (RP.nil (RQ.then_n ?_))))))))
        refine RC.iteP 74 rfl h (fun hc347 h => ?_) fun hc347 h => ?_
        next =>
         refine RC.condT rfl (sr (pn 1 rfl (lr (RQ.inB_ret (RQ.ret ?_)))))
         have h := h.inrS
         refine RQ.ret (RQ.inB_ret (RQ.ret ?_))
         obtain rfl := h.some
         exact rt results4 rfl ⟨rfl, hS.d0.d0.d0.d0.d0⟩
        next =>
         refine RC.condF rfl (RC.skip (RQ.inB_n (RQ.then_n (RC.region (pn 3 rfl (RL.nil ?_))))))
         exact fun a ha => ⟨(IntKind.i64.wrap (x289 + 1)), ⟨(IntKind.i64.wrap (x289 + 1)), rfl, ha.to ⟨rfl, rfl, rfl, trivial⟩, hS.d0⟩, h.some⟩
      next =>
       refine pp 1 rfl (RP.nn 25 rfl rfl rfl (pp 4 rfl (RP.nn 30 rfl rfl rfl (RP.n1 31 rfl rfl rfl (RP.n1 32 rfl rfl rfl (RP.n1 33 rfl rfl rfl (RP.n1 34 rfl rfl rfl (RP.v1 35 rfl (Vl.pickT rfl rfl) rfl rfl (RP.nil (RQ.then_n (RC.condT rfl (sr (pn 1 rfl (RL.nil ?_))))))))))))))
       refine tr (RQ.inB_ret (RQ.ret ?_))
       have h := h.inrS
       refine RQ.ret (RQ.inB_ret (RQ.ret ?_))
       obtain rfl := h.some
       exact rt results4 rfl ⟨rfl, hS.d0.d0.d0.d0.d0⟩
     next =>
      refine pp 1 rfl (RP.nn 11 rfl rfl rfl (pp 2 rfl (RP.nn 14 rfl rfl rfl (pp 1 rfl (RP.nn 16 rfl rfl rfl (pp 1 rfl (RP.nn 18 rfl rfl rfl (RP.n1 19 rfl rfl rfl (pp 4 rfl (RP.sg0 24 rfl (fun w => Vl.fa 3 underlying44 rfl sizeOf3 rfl rfl) rfl rfl (RP.sg 25 rfl rfl hS (fun w hS => Vl.ld 0 hS isAgg3 rfl rfl rfl) rfl rfl (pp 3 rfl ?_))))))))))))
      refine RP.iteP 67 rfl h (fun hc348 h => ?_) fun hc348 h => ?_
      next =>
       refine pp 1 rfl (RP.nn 30 rfl rfl rfl (RP.n1 31 rfl rfl rfl (RP.n1 32 rfl rfl rfl (RP.n1 33 rfl rfl rfl (RP.n1 34 rfl rfl rfl (RP.v1 35 rfl (Vl.pickT rfl rfl) rfl rfl (RP.nil (RQ.then_n (RC.condT rfl (sr (pn 1 rfl (lr ?_))))))))))))
       refine RQ.inB_ret (RQ.ret ?_)
       have h := h.inrS
       refine RQ.ret (RQ.inB_ret (RQ.ret ?_))
       obtain rfl := h.some
       exact rt results4 rfl ⟨rfl, hS.d0.d0.d0.d0.d0⟩
      next =>
       refine RP.sg0 29 rfl (fun w => Vl.fa 3 underlying44 rfl sizeOf3 rfl rfl) rfl rfl (RP.sg 30 rfl rfl hS (fun w hS => Vl.ld 0 hS isAgg3 rfl rfl rfl) rfl rfl (RP.v1 31 rfl (Vl.fa 0 underlying27 rfl sizeOf22 rfl rfl) rfl rfl (RP.v1 32 rfl (Vl.ld 4 hS isAgg22 rfl rfl rfl) rfl rfl (RP.v1 33 rfl (Vl.lenSl underlying22 rfl) rfl rfl (RP.v1 34 rfl (Vl.int rfl rfl rfl) rfl rfl (RP.v1 35 rfl (Vl.pickF rfl rfl) rfl rfl (RP.nil (RQ.then_n ?_))))))))
       refine RC.iteP 74 rfl h (fun hc349 h => ?_) fun hc349 h => ?_
       next =>
        refine RC.condT rfl (sr (pn 1 rfl (lr (RQ.inB_ret (RQ.ret ?_)))))
        have h := h.inrS
        refine RQ.ret (RQ.inB_ret (RQ.ret ?_))
        obtain rfl := h.some
        exact rt results4 rfl ⟨rfl, hS.d0.d0.d0.d0.d0⟩
       next =>
        refine RC.condF rfl (RC.skip (RQ.inB_n (RQ.then_n (RC.region (pn 3 rfl (RL.nil ?_))))))
        exact fun a ha => ⟨(IntKind.i64.wrap (x289 + 1)), ⟨(IntKind.i64.wrap (x289 + 1)), rfl, ha.to ⟨rfl, rfl, rfl, trivial⟩, hS.d0⟩, h.some⟩
   next =>
    refine RC.condF rfl (RC.exit (RQ.exitT ?_))
    have h := h.inr
    refine RQ.exitT (RQ.inB_hit (tsr (RL.s (Vl.fa 0 underlying31 rfl sizeOf28 rfl rfl) rfl (RL.s (Vl.ld 2 hS isAgg28 rfl rfl rfl) rfl (RL.s (Vl.lenSl underlying28 rfl) rfl (RL.s (Vl.fa 5 underlying27 rfl sizeOf3 rfl rfl) rfl (RL.s (Vl.ld 3 hS isAgg3 rfl rfl rfl) rfl (pn 2 rfl ?_))))))))
    refine RL.iteP 81 rfl h (fun hc350 h => ?_) fun hc350 h => ?_
    next =>
     refine RL.sg (Vl.fa 2 underlying31 rfl sizeOf3 rfl rfl) rfl rfl (RL.sg (Vl.ld 2 hS isAgg3 rfl rfl rfl) rfl rfl (pn 2 rfl ?_))
     refine RL.iteN 85 rfl h (fun hc351 h => ?_) fun hc351 h => ?_
     next =>
      refine RL.sg (Vl.fa 0 underlying31 rfl sizeOf28 rfl rfl) rfl rfl (RL.sg (Vl.ld 2 hS isAgg28 rfl rfl rfl) rfl rfl (RL.sg (Vl.lenSl underlying28 rfl) rfl rfl (RL.sg (Vl.fa 5 underlying27 rfl sizeOf3 rfl rfl) rfl rfl (RL.sg (Vl.ld 3 hS isAgg3 rfl rfl rfl) rfl rfl (pn 4 rfl ?_)))))
      refine RL.iteP 94 rfl h (fun hc352 h => ?_) fun hc352 h => ?_
      next =>
       refine RL.sg (Vl.fa 2 underlying31 rfl sizeOf3 rfl rfl) rfl rfl (RL.sg (Vl.ld 2 hS isAgg3 rfl rfl rfl) rfl rfl (pn 3 rfl ?_))
       refine RL.iteN 99 rfl h (fun hc353 h => ?_) fun hc353 h => ?_
       next =>
        refine pn 9 rfl (lr ?_)
        obtain rfl := h.some
        exact rt results4 rfl ⟨rfl, hS.d0.d0.d0.d0⟩
       next =>
        refine RL.sg (Vl.fa 1 underlying31 rfl sizeOf29 rfl rfl) rfl rfl (RL.sg (Vl.ld 2 hS isAgg29 rfl rfl rfl) rfl rfl (RL.sg (Vl.lenSl underlying29 rfl) rfl rfl (RL.sg (Vl.fa 0 underlying27 rfl sizeOf22 rfl rfl) rfl rfl (RL.sg (Vl.ld 3 hS isAgg22 rfl rfl rfl) rfl rfl (RL.sg (Vl.lenSl underlying22 rfl) rfl rfl (pn 3 rfl (lr ?_)))))))
        obtain rfl := h.some
        exact rt results4 rfl ⟨rfl, hS.d0.d0.d0.d0⟩
      next =>
       refine pn 14 rfl (lr ?_)
       obtain rfl := h.some
       exact rt results4 rfl ⟨rfl, hS.d0.d0.d0.d0⟩
     next =>
      refine pn 9 rfl (RL.sg (Vl.fa 2 underlying31 rfl sizeOf3 rfl rfl) rfl rfl (RL.sg (Vl.ld 2 hS isAgg3 rfl rfl rfl) rfl rfl (pn 3 rfl ?_)))
      refine RL.iteN 99 rfl h (fun hc354 h => ?_) fun hc354 h => ?_
      next =>
       refine pn 9 rfl (lr ?_)
       obtain rfl := h.some
       exact rt results4 rfl ⟨rfl, hS.d0.d0.d0.d0⟩
      next =>
       refine RL.sg (Vl.fa 1 underlying31 rfl sizeOf29 rfl rfl) rfl rfl (RL.sg (Vl.ld 2 hS isAgg29 rfl rfl rfl) rfl rfl (RL.sg (Vl.lenSl underlying29 rfl) rfl rfl (RL.sg (Vl.fa 0 underlying27 rfl sizeOf22 rfl rfl) rfl rfl (RL.sg (Vl.ld 3 hS isAgg22 rfl rfl rfl) rfl rfl (RL.sg (Vl.lenSl underlying22 rfl) rfl rfl (pn 3 rfl (lr ?_)))))))
       obtain rfl := h.some
       exact rt results4 rfl ⟨rfl, hS.d0.d0.d0.d0⟩
    next =>
     refine pn 27 rfl (lr ?_)
     obtain rfl := h.some
     exact rt results4 rfl ⟨rfl, hS.d0.d0.d0.d0⟩
  next =>
   refine RC.condT rfl (sr (pn 1 rfl (RL.s (Vl.lw 3 hS isAgg27 sizeOf27 rfl rfl rfl) rfl (cF (fun _ hg => model_Check.ok hr4 hr7 hr10 hG0 hg hS) call13 h rfl rfl rfl ?_))))
   rintro t355 h _ w ⟨rfl, hS⟩
   refine pn 2 rfl ?_
   refine RL.iteP 18 rfl h (fun hc357 h => ?_) fun hc357 h => ?_
   next =>
    refine RL.sg (Vl.fa 0 underlying31 rfl sizeOf28 rfl rfl) rfl rfl (RL.sg (Vl.ld 0 hS isAgg28 rfl rfl rfl) rfl rfl (RL.sg (Vl.lenSl underlying28 rfl) rfl rfl (pn 3 rfl ?_)))
    refine RL.iteP 24 rfl h (fun hc358 h => ?_) fun hc358 h => ?_
    next =>
     refine cF (fun _ hg => isochronlaw14vawake.ok hG0 hg hS) call12 h rfl rfl rfl ?_
     rintro t359 h _ w ⟨rfl, hS⟩
     refine pn 2 rfl (lr (RQ.ret ?_))
     obtain rfl := h.some
     exact rt results4 rfl ⟨rfl, hS.d0.d0.d0.d0⟩
    next =>
     refine pn 3 rfl (lr (RQ.ret ?_))
     obtain rfl := h.some
     exact rt results4 rfl ⟨rfl, hS.d0.d0.d0.d0⟩
   next =>
    refine pn 9 rfl (lr (RQ.ret ?_))
    obtain rfl := h.some
    exact rt results4 rfl ⟨rfl, hS.d0.d0.d0.d0⟩

end Go.Proofs.Gx
