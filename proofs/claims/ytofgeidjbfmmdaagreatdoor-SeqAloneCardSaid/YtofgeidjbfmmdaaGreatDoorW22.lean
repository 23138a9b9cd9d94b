/-
  The walks of functions, each with what it computes: printed by wip/gx.py.
-/
import Derived.Test.YtofgeidjbfmmdaaGreatDoorW0
import Derived.Test.YtofgeidjbfmmdaaGreatDoorW12
import Derived.Test.YtofgeidjbfmmdaaGreatDoorW21
import Derived.Test.YtofgeidjbfmmdaaGreatDoorW3
import Derived.Test.YtofgeidjbfmmdaaGreatDoorW9
set_option linter.unusedVariables false
set_option maxRecDepth 100000
set_option maxHeartbeats 4000000
namespace Go.Proofs.Gx
open Go.Sl Tryz
variable {B : Base} {w : World} {l : List HProp} {hf : Hp}
/-! ### isochron/isochronlaw14.SeqAlone: function 8 -/
noncomputable def isochronlaw14vSeqAlone.j5 (a1 : api_Model) (y148 : api_Result) (x221 : Int) : Option (Bool) := (if a1.Budget < x221 then (if (y148.History.length : Int) = a1.Budget then some (decide (y148.Stop = 4)) else some false) else (if (y148.History.length : Int) = x221 then some (decide (y148.Stop = 1)) else some false))
noncomputable def isochronlaw14vSeqAlone.l6b (a1 : api_Model) (y148 : api_Result) (t170 : List api_Message) : Int × Int → Option ((Int × Int) ⊕ (Bool))
  | (x241, x242) => (if x242 < (t170.length : Int) then (if 0 ≤ x242 then (if ((nth t170 x242).Key).Time ≤ a1.End then (if x242 < (y148.History.length : Int) then (if (nth y148.History x242).Key = (nth t170 x242).Key then (if (nth y148.History x242).To = (nth t170 x242).To then (if (nth y148.History x242).Value = (nth t170 x242).Value then some (.inl (IntKind.i64.wrap (x241 + 1), IntKind.i64.wrap (x242 + 1))) else some (.inr false)) else some (.inr false)) else some (.inr false)) else some (.inl (IntKind.i64.wrap (x241 + 1), IntKind.i64.wrap (x242 + 1)))) else (Option.map Sum.inr (isochronlaw14vSeqAlone.j5 a1 y148 x241))) else none) else (Option.map Sum.inr (isochronlaw14vSeqAlone.j5 a1 y148 x241)))
noncomputable def isochronlaw14vSeqAlone.l6 (a1 : api_Model) (y148 : api_Result) (t170 : List api_Message) (s : Int × Int) : Option (Bool) := loopR (isochronlaw14vSeqAlone.l6b a1 y148 t170) s
noncomputable def isochronlaw14vSeqAlone.f (a1 : api_Model) : Option (Bool) := ((seq_Run.f (⟨a1.Progs, [], a1.Starts, a1.Seed, a1.End, a1.Budget⟩ : api_Model)).bind fun (y148, y149) => (if y149 = 0 then ((model_Starts.f (⟨a1.Progs, [], a1.Starts, a1.Seed, a1.End, a1.Budget⟩ : api_Model)).bind fun t162 => ((event_Sorted.f t162).bind fun t170 => isochronlaw14vSeqAlone.l6 a1 y148 t170 (0, 0))) else ((model_Check.f (⟨a1.Progs, [], a1.Starts, a1.Seed, a1.End, a1.Budget⟩ : api_Model)).bind fun t274 => (if y149 = t274 then ((isochronlaw14vawake.f).bind fun t277 => some t277) else some false))))
theorem isochronlaw14vSeqAlone.ok {a1 : api_Model} {A2 : Option Addr} {c3 : Nat} {A5 : Option Addr} {c6 : Nat} {A8 : Option Addr} {c9 : Nat} (hr4 : SlR (Rep.sl E_api_Instr.rep) hf A2 c3 a1.Progs) (hr7 : SlR E_api_Link.rep hf A5 c6 a1.Links) (hr10 : SlR E_api_Start.rep hf A8 c9 a1.Starts) (hG0 : GlobAt hf 0 (.iface 148 (.agg #[.pointer (some ⟨1, 83, none⟩)]))) {r : Bool} (h : isochronlaw14vSeqAlone.f a1 = some r) (hS : St B w (l) hf) :
    Calls prog 8 #[.agg #[.slice A2 a1.Progs.length c3, .slice A5 a1.Links.length c6, .slice A8 a1.Starts.length c9, .int .u64 a1.Seed, .int .i64 a1.End, .int .i64 a1.Budget]] w (Ret fun v w => v = .bool r ∧ St B w (l) hf) := by
  have h := Holds.of h
  refine en func8 rfl ntmps8 rfl (sr (bx hS rfl rfl rfl rfl fun b145 w hS => pn 1 rfl (lnsr (RL.s (Vl.fa 1 underlying27 rfl sizeOf23 rfl rfl) rfl (RL.e0 (OW.store (vs := [.slice none 0 0]) 0 hS rfl rfl rfl rfl sizeOf23 rfl rfl rfl rfl) rfl ?_)))))
  rintro _ w ⟨rfl, hS⟩
  have hS : St B w (Cl _ [_, _, _, _, _, _] _ :: l) hf := hS
  refine lnsr (RL.s (Vl.lw 0 hS isAgg27 sizeOf27 rfl rfl rfl) rfl (cF (fun _ hg => seq_Run.ok (a1 := (⟨a1.Progs, [], a1.Starts, a1.Seed, a1.End, a1.Budget⟩ : api_Model)) hr4 (SlR.nil (A := none) (c := 0)) hr10 hG0 hg hS) call9 h rfl rfl rfl ?_))
  rintro ⟨y148, y149⟩ h _ w ⟨A150, c151, A152, c153, rfl, hS⟩
  refine pn 3 rfl (al hS zeroValue31 rfl rfl rfl fun b154 w hS => RL.e0 (OW.store (vs := [.slice A150 y148.History.length c151, .slice A152 y148.States.length c153, .int .i64 y148.Stop]) 0 hS rfl rfl rfl rfl sizeOf31 rfl rfl rfl rfl) rfl ?_)
  rintro _ w ⟨rfl, hS⟩
  have hS : St B w (Cl _ [_, _, _] _ :: _ :: _ :: _ :: l) hf := hS
  refine pn 1 rfl (ln (RC.seq (sr (pn 2 rfl (ln ?_)))))
  refine RC.iteN 15 rfl h (fun hc161 h => ?_) fun hc161 h => ?_
  next =>
   refine RC.condF rfl (sk (sr (RL.s (Vl.lw 3 hS isAgg27 sizeOf27 rfl rfl rfl) rfl (cF (fun _ hg => model_Starts.ok (a1 := (⟨a1.Progs, [], a1.Starts, a1.Seed, a1.End, a1.Budget⟩ : api_Model)) hr4 (SlR.nil (A := none) (c := 0)) hr10 hg hS) call19 h rfl rfl rfl ?_))))
   rintro t162 h _ w ⟨A164, c165, rfl, hS⟩
   obtain ⟨hf169, hs167, hS, hr166, hb168⟩ := St.lendSl hS
   obtain ⟨t170, hg171, h⟩ := h.bind
   have hc := event_Sorted.ok hr166 hg171 hS
   refine RL.e (OW.callF (ls := [.tmp 24]) rfl call18 hc) rfl rfl ?_
   rintro _ w ⟨A172, c173, rfl, hS⟩
   have hS := hb168 _ _ hS
   have hS : St B w (_ :: _ :: _ :: _ :: _ :: _ :: l) hf := hS
   refine pn 1 rfl (lnsr (pn 1 rfl (ln ?_)))
   refine RC.join (fun (s : Int) a w => ∃ (x221 : Int), s = (x221) ∧ Has 117 [(1, .pointer (some ⟨b145, 0, none⟩)), (3, .pointer (some ⟨b154, 0, none⟩)), (6, .int .i64 x221)] a ∧ St B w (OSf E_api_Done 44 (.slice A150 y148.History.length c151) y148.History :: OSf E_api_State 105 (.slice A152 y148.States.length c153) y148.States :: Cl b154 [.slice A150 y148.History.length c151, .slice A152 y148.States.length c153, .int .i64 y148.Stop] 31 :: Cl b145 [.slice A2 a1.Progs.length c3, .slice none 0 0, .slice A8 a1.Starts.length c9, .int .u64 a1.Seed, .int .i64 a1.End, .int .i64 a1.Budget] 27 :: l) hf ∧ Holds (· = r) (isochronlaw14vSeqAlone.j5 a1 y148 x221)) ?_ ?_
   · rintro x221 a w ⟨_, rfl, ha, hS, h⟩
     revert a
     show RC _ _ _ _ _ _
     refine RC.seq (sr (pn 1 rfl (RL.s (Vl.fa 5 underlying27 rfl sizeOf3 rfl rfl) rfl (RL.s (Vl.ld 3 hS isAgg3 rfl rfl rfl) rfl (pn 1 rfl (ln ?_))))))
     refine RC.iteP 95 rfl h (fun hc224 h => ?_) fun hc224 h => ?_
     next =>
      refine RC.condT rfl (sr (RL.s (Vl.fa 0 underlying31 rfl sizeOf28 rfl rfl) rfl (RL.s (Vl.ld 2 hS isAgg28 rfl rfl rfl) rfl (RL.s (Vl.lenSl underlying28 rfl) rfl (RL.s (Vl.fa 5 underlying27 rfl sizeOf3 rfl rfl) rfl (RL.s (Vl.ld 3 hS isAgg3 rfl rfl rfl) rfl (pn 2 rfl ?_)))))))
      refine RL.iteP 102 rfl h (fun hc225 h => ?_) fun hc225 h => ?_
      next =>
       refine RL.sg (Vl.fa 2 underlying31 rfl sizeOf3 rfl rfl) rfl rfl (RL.sg (Vl.ld 2 hS isAgg3 rfl rfl rfl) rfl rfl (pn 3 rfl (lr (RQ.ret ?_))))
       obtain rfl := h.some
       exact rt results8 rfl ⟨rfl, hS.d0.d0.d0.d0⟩
      next =>
       refine pn 5 rfl (lr (RQ.ret ?_))
       obtain rfl := h.some
       exact rt results8 rfl ⟨rfl, hS.d0.d0.d0.d0⟩
     next =>
      refine RC.condF rfl (sk (sr (RL.s (Vl.fa 0 underlying31 rfl sizeOf28 rfl rfl) rfl (RL.s (Vl.ld 2 hS isAgg28 rfl rfl rfl) rfl (RL.s (Vl.lenSl underlying28 rfl) rfl (pn 3 rfl ?_))))))
      refine RL.iteP 112 rfl h (fun hc226 h => ?_) fun hc226 h => ?_
      next =>
       refine RL.sg (Vl.fa 2 underlying31 rfl sizeOf3 rfl rfl) rfl rfl (RL.sg (Vl.ld 2 hS isAgg3 rfl rfl rfl) rfl rfl (pn 3 rfl (lr ?_)))
       obtain rfl := h.some
       exact rt results8 rfl ⟨rfl, hS.d0.d0.d0.d0⟩
      next =>
       refine pn 5 rfl (lr ?_)
       obtain rfl := h.some
       exact rt results8 rfl ⟨rfl, hS.d0.d0.d0.d0⟩
   · refine RC.seq ?_
     refine RC.region (pn 1 rfl (ln (RC.block ?_)))
     refine fun a ha => RC.loop (N := 117) (body := (isochronlaw14vSeqAlone.l6b a1 y148 t170)) (φ := (· = r)) (fun (s : Int × Int) a w => ∃ (x241 : Int) (x242 : Int), s = (x241, x242) ∧ Has 117 [(1, .pointer (some ⟨b145, 0, none⟩)), (3, .pointer (some ⟨b154, 0, none⟩)), (5, .slice A172 t170.length c173), (6, .int .i64 x241), (7, .int .i64 x242)] a ∧ St B w (OSf E_api_Done 44 (.slice A150 y148.History.length c151) y148.History :: OSf E_api_State 105 (.slice A152 y148.States.length c153) y148.States :: OSf E_api_Message 53 (.slice A172 t170.length c173) t170 :: Cl b154 [.slice A150 y148.History.length c151, .slice A152 y148.States.length c153, .int .i64 y148.Stop] 31 :: Cl b145 [.slice A2 a1.Progs.length c3, .slice none 0 0, .slice A8 a1.Starts.length c9, .int .u64 a1.Seed, .int .i64 a1.End, .int .i64 a1.Budget] 27 :: l) hf) ?_ (s0 := (0, 0)) h ⟨0, 0, rfl, ha.to ⟨rfl, rfl, rfl, rfl, rfl, trivial⟩, hS.d0.p3.p3⟩
     rintro G259 _ a w ⟨x241, x242, rfl, ha, hS⟩ h
     revert a
     show RC _ _ _ _ _ _
     refine RC.seq (RC.seq (RC.planS (plD [0, 3, 6, 9, 12, 15, 18, 22, 24, 27, 31, 35, 38, 41, 44]) [13, 14] hS (fun w hS => hS) follows rfl (by kernel_rfl) (NoTmp.then (NoTmp.then (NoTmp.then (NoTmp.block (NoTmp.then NoTmp.body))))) fun w hS => pp 2 rfl (RP.s0 2 rfl (fun w => Vl.lenSl underlying49 rfl) rfl (pp 2 rfl ?_))))
     refine RP.iteP 30 rfl h (fun hc263 h => ?_) fun hc263 h => ?_
     next =>
      refine pp 2 rfl ?_
      obtain ⟨hq264, h⟩ := h.req
      refine RP.sg 0 7 rfl rfl hS (fun w hS => Vl.indexOwn 2 hS rfl underlying49 sizeOf53 rfl rfl hq264 hc263) rfl rfl (RP.sg0 8 rfl (fun w => Vl.fieldAddr (a'' := (ad A172).add (x242.toNat * 7 + 0)) underlying53 rfl sizeOf42 rfl (add_add _ _ _)) rfl rfl (RP.sg0 9 rfl (fun w => Vl.fieldAddr (a'' := (ad A172).add (x242.toNat * 7 + 0)) underlying42 rfl sizeOf2 rfl (add_add _ _ _)) rfl rfl (RP.sg 0 10 rfl rfl hS (fun w hS => Vl.load isAgg2 rfl ((hS.slW 2 rfl).2.2.cell (j := 0) hq264 hc263 rfl)) rfl rfl (RP.v1 11 rfl (Vl.fa 4 underlying27 rfl sizeOf2 rfl rfl) rfl rfl (RP.v1 12 rfl (Vl.ld 4 hS isAgg2 rfl rfl rfl) rfl rfl (RP.v1 13 rfl (Vl.int rfl rfl rfl) rfl rfl (RP.v1 14 rfl (Vl.pickT rfl rfl) rfl rfl (RP.nil (RQ.then_n ?_)))))))))
      refine RC.iteP 40 rfl h (fun hc265 h => ?_) fun hc265 h => ?_
      next =>
       refine RC.condT rfl (sk (RC.seq (RC.block (sr (pn 3 rfl (ln (RC.seq (RC.planS (plD [0, 3, 7, 9, 12, 15, 18, 22, 24, 28, 30, 34, 36, 39, 43, 45, 49, 51, 54, 57, 61, 63, 67, 69, 73, 75, 78, 82, 84, 88, 90, 93, 96, 99, 103, 105, 109, 111, 115, 117, 122, 125, 128, 131, 134, 137, 140]) [44, 45, 46] hS (fun w hS => hS) follows rfl (by kernel_rfl) (NoTmp.then (NoTmp.block (NoTmp.then (NoTmp.then (NoTmp.block (NoTmp.then NoTmp.body)))))) fun w hS => pp 1 rfl (RP.s0 1 rfl (fun w => Vl.fa 0 underlying31 rfl sizeOf28 rfl rfl) rfl (RP.s 0 2 rfl rfl hS (fun w hS => Vl.ld 3 hS isAgg28 rfl rfl rfl) rfl (RP.s0 3 rfl (fun w => Vl.lenSl underlying28 rfl) rfl ?_)))))))))))
       refine pp 2 rfl ?_
       refine RP.iteP 50 rfl h (fun hc270 h => ?_) fun hc270 h => ?_
       next =>
        refine RP.sg0 6 rfl (fun w => Vl.fa 0 underlying31 rfl sizeOf28 rfl rfl) rfl rfl (RP.sg 0 7 rfl rfl hS (fun w hS => Vl.ld 3 hS isAgg28 rfl rfl rfl) rfl rfl (pp 1 rfl (RP.sg 0 9 rfl rfl hS (fun w hS => Vl.indexOwn 0 hS rfl underlying28 sizeOf44 rfl rfl hq264 hc270) rfl rfl (RP.sg0 10 rfl (fun w => Vl.fieldAddr (a'' := (ad A150).add (x242.toNat * 5 + 0)) underlying44 rfl sizeOf42 rfl (add_add _ _ _)) rfl rfl (RP.sg 0 11 rfl rfl hS (fun w hS => Vl.loadA (vs := [.int .i64 (((nth y148.History x242).Key).Time), .int .i64 (((nth y148.History x242).Key).From), .int .i64 (((nth y148.History x242).Key).Seq)]) isAgg42 sizeOf42 rfl rfl ((hS.slW 0 rfl).2.2.part (off := 0) hq264 hc270 rfl)) rfl rfl (pp 2 rfl (RP.sg 0 14 rfl rfl hS (fun w hS => Vl.indexOwn 2 hS rfl underlying49 sizeOf53 rfl rfl hq264 hc263) rfl rfl (RP.sg0 15 rfl (fun w => Vl.fieldAddr (a'' := (ad A172).add (x242.toNat * 7 + 0)) underlying53 rfl sizeOf42 rfl (add_add _ _ _)) rfl rfl (RP.sg 0 16 rfl rfl hS (fun w hS => Vl.loadA (vs := [.int .i64 (((nth t170 x242).Key).Time), .int .i64 (((nth t170 x242).Key).From), .int .i64 (((nth t170 x242).Key).Seq)]) isAgg42 sizeOf42 rfl rfl ((hS.slW 2 rfl).2.2.part (off := 0) hq264 hc263 rfl)) rfl rfl (RP.sg0 17 rfl (fun w => Vl.neqS (run_neq_api_Key _ _ ((nth y148.History x242).Key) ((nth t170 x242).Key)) rfl rfl) rfl rfl (pp 1 rfl ?_)))))))))))
        refine RP.iteN 63 rfl h (fun hc271 h => ?_) fun hc271 h => ?_
        next =>
         refine RP.sg0 19 rfl (fun w => Vl.fa 0 underlying31 rfl sizeOf28 rfl rfl) rfl rfl (RP.sg 0 20 rfl rfl hS (fun w hS => Vl.ld 3 hS isAgg28 rfl rfl rfl) rfl rfl (pp 1 rfl (RP.sg 0 22 rfl rfl hS (fun w hS => Vl.indexOwn 0 hS rfl underlying28 sizeOf44 rfl rfl hq264 hc270) rfl rfl (RP.sg0 23 rfl (fun w => Vl.fieldAddr (a'' := (ad A150).add (x242.toNat * 5 + 3)) underlying44 rfl sizeOf3 rfl (add_add _ _ _)) rfl rfl (RP.sg 0 24 rfl rfl hS (fun w hS => Vl.load isAgg3 rfl ((hS.slW 0 rfl).2.2.cell (j := 3) hq264 hc270 rfl)) rfl rfl (pp 2 rfl (RP.sg 0 27 rfl rfl hS (fun w hS => Vl.indexOwn 2 hS rfl underlying49 sizeOf53 rfl rfl hq264 hc263) rfl rfl (RP.sg0 28 rfl (fun w => Vl.fieldAddr (a'' := (ad A172).add (x242.toNat * 7 + 3)) underlying53 rfl sizeOf3 rfl (add_add _ _ _)) rfl rfl (RP.sg 0 29 rfl rfl hS (fun w hS => Vl.load isAgg3 rfl ((hS.slW 2 rfl).2.2.cell (j := 3) hq264 hc263 rfl)) rfl rfl (pp 3 rfl ?_))))))))))
         refine RP.iteN 77 rfl h (fun hc272 h => ?_) fun hc272 h => ?_
         next =>
          refine RP.sg0 33 rfl (fun w => Vl.fa 0 underlying31 rfl sizeOf28 rfl rfl) rfl rfl (RP.sg 0 34 rfl rfl hS (fun w hS => Vl.ld 3 hS isAgg28 rfl rfl rfl) rfl rfl (pp 1 rfl (RP.sg 0 36 rfl rfl hS (fun w hS => Vl.indexOwn 0 hS rfl underlying28 sizeOf44 rfl rfl hq264 hc270) rfl rfl (RP.sg0 37 rfl (fun w => Vl.fieldAddr (a'' := (ad A150).add (x242.toNat * 5 + 4)) underlying44 rfl sizeOf2 rfl (add_add _ _ _)) rfl rfl (RP.sg 0 38 rfl rfl hS (fun w hS => Vl.load isAgg2 rfl ((hS.slW 0 rfl).2.2.cell (j := 4) hq264 hc270 rfl)) rfl rfl (pp 1 rfl (RP.v1 40 rfl (Vl.move rfl) rfl rfl (RP.v1 41 rfl (Vl.indexOwn 2 hS rfl underlying49 sizeOf53 rfl rfl hq264 hc263) rfl rfl (RP.v1 42 rfl (Vl.fieldAddr (a'' := (ad A172).add (x242.toNat * 7 + 4)) underlying53 rfl sizeOf2 rfl (add_add _ _ _)) rfl rfl (RP.v1 43 rfl (Vl.load isAgg2 rfl ((hS.slW 2 rfl).2.2.cell (j := 4) hq264 hc263 rfl)) rfl rfl (RP.v1 44 rfl (Vl.int rfl rfl rfl) rfl rfl (RP.v1 45 rfl (Vl.pickF rfl rfl) rfl rfl (RP.v1 46 rfl (Vl.pickT rfl rfl) rfl rfl (RP.nil (RQ.then_n ?_)))))))))))))))
          refine RC.iteN 91 rfl h (fun hc273 h => ?_) fun hc273 h => ?_
          next =>
           refine RC.condF rfl (RC.skip (RQ.inB_n (RQ.then_n (RC.region (pn 3 rfl (RL.nil ?_))))))
           exact fun a ha => ⟨(IntKind.i64.wrap (x241 + 1), IntKind.i64.wrap (x242 + 1)), ⟨(IntKind.i64.wrap (x241 + 1)), (IntKind.i64.wrap (x242 + 1)), rfl, ha.to ⟨rfl, rfl, rfl, rfl, rfl, trivial⟩, hS⟩, h.some⟩
          next =>
           refine RC.condT rfl (sr (pn 1 rfl (lr (RQ.inB_ret (RQ.ret ?_)))))
           have h := h.inrS
           refine RQ.ret (RQ.inB_ret (RQ.ret ?_))
           obtain rfl := h.some
           exact rt results8 rfl ⟨rfl, hS.d0.d0.d0.d0.d0⟩
         next =>
          refine pp 1 rfl (RP.nn 0 34 rfl rfl rfl (pp 1 rfl (RP.nn 0 36 rfl rfl rfl (pp 1 rfl (RP.nn 0 38 rfl rfl rfl (pp 1 rfl (RP.n1 40 rfl rfl rfl (RP.n1 41 rfl rfl rfl (RP.n1 42 rfl rfl rfl (RP.n1 43 rfl rfl rfl (RP.n1 44 rfl rfl rfl (RP.v1 45 rfl (Vl.pickT rfl rfl) rfl rfl (RP.v1 46 rfl (Vl.pickT rfl rfl) rfl rfl (RP.nil (RQ.then_n ?_)))))))))))))))
          refine RC.condT rfl (sr (pn 1 rfl (lr (RQ.inB_ret (RQ.ret ?_)))))
          have h := h.inrS
          refine RQ.ret (RQ.inB_ret (RQ.ret ?_))
          obtain rfl := h.some
          exact rt results8 rfl ⟨rfl, hS.d0.d0.d0.d0.d0⟩
        next =>
         refine pp 1 rfl (RP.nn 0 20 rfl rfl rfl (pp 1 rfl (RP.nn 0 22 rfl rfl rfl (pp 1 rfl (RP.nn 0 24 rfl rfl rfl (pp 2 rfl (RP.nn 0 27 rfl rfl rfl (pp 1 rfl (RP.nn 0 29 rfl rfl rfl (pp 4 rfl (RP.nn 0 34 rfl rfl rfl (pp 1 rfl (RP.nn 0 36 rfl rfl rfl (pp 1 rfl (RP.nn 0 38 rfl rfl rfl ?_)))))))))))))))
         refine pp 1 rfl (RP.n1 40 rfl rfl rfl (RP.n1 41 rfl rfl rfl (RP.n1 42 rfl rfl rfl (RP.n1 43 rfl rfl rfl (RP.n1 44 rfl rfl rfl (RP.v1 45 rfl (Vl.pickT rfl rfl) rfl rfl (RP.v1 46 rfl (Vl.pickT rfl rfl) rfl rfl (RP.nil (RQ.then_n (RC.condT rfl (sr (pn 1 rfl (ln ?_)))))))))))))
         refine RC.ret (RQ.inB_ret (RQ.ret ?_))
         have h := h.inrS
         refine RQ.ret (RQ.inB_ret (RQ.ret ?_))
         obtain rfl := h.some
         exact rt results8 rfl ⟨rfl, hS.d0.d0.d0.d0.d0⟩
       next =>
        refine pp 1 rfl (RP.nn 0 7 rfl rfl rfl (pp 1 rfl (RP.nn 0 9 rfl rfl rfl (pp 1 rfl (RP.nn 0 11 rfl rfl rfl (pp 2 rfl (RP.nn 0 14 rfl rfl rfl (pp 1 rfl (RP.nn 0 16 rfl rfl rfl (pp 3 rfl (RP.nn 0 20 rfl rfl rfl (pp 1 rfl (RP.nn 0 22 rfl rfl rfl (pp 1 rfl (RP.nn 0 24 rfl rfl rfl ?_)))))))))))))))
        refine pp 2 rfl (RP.nn 0 27 rfl rfl rfl (pp 1 rfl (RP.nn 0 29 rfl rfl rfl (pp 4 rfl (RP.nn 0 34 rfl rfl rfl (pp 1 rfl (RP.nn 0 36 rfl rfl rfl (pp 1 rfl (RP.nn 0 38 rfl rfl rfl (pp 1 rfl (RP.n1 40 rfl rfl rfl (RP.n1 41 rfl rfl rfl (RP.n1 42 rfl rfl rfl (RP.n1 43 rfl rfl rfl (RP.n1 44 rfl rfl rfl ?_)))))))))))))))
        refine RP.n1 45 rfl rfl rfl (RP.v1 46 rfl (Vl.pickF rfl rfl) rfl rfl (RP.nil (RQ.then_n (RC.condF rfl (RC.skip (RQ.inB_n (RQ.then_n (RC.region (pn 3 rfl (RL.nil ?_))))))))))
        exact fun a ha => ⟨(IntKind.i64.wrap (x241 + 1), IntKind.i64.wrap (x242 + 1)), ⟨(IntKind.i64.wrap (x241 + 1)), (IntKind.i64.wrap (x242 + 1)), rfl, ha.to ⟨rfl, rfl, rfl, rfl, rfl, trivial⟩, hS⟩, h.some⟩
      next =>
       refine RC.condF rfl (RC.exit (RQ.exitT ?_))
       have h := h.inr
       refine RQ.exitT (RQ.inB_hit ?_)
       exact fun a ha => ⟨(x241), x241, rfl, ha.to ⟨rfl, rfl, rfl, trivial⟩, hS.d2, h⟩
     next =>
      refine pp 2 rfl (RP.nn 0 7 rfl rfl rfl (pp 2 rfl (RP.nn 0 10 rfl rfl rfl (RP.n1 11 rfl rfl rfl (RP.n1 12 rfl rfl rfl (RP.n1 13 rfl rfl rfl (RP.v1 14 rfl (Vl.pickF rfl rfl) rfl rfl (RP.nil (RQ.then_n (RC.condF rfl (RC.exit (RQ.exitT ?_))))))))))))
      have h := h.inr
      refine RQ.exitT (RQ.inB_hit ?_)
      exact fun a ha => ⟨(x241), x241, rfl, ha.to ⟨rfl, rfl, rfl, trivial⟩, hS.d2, h⟩
  next =>
   refine RC.condT rfl (sr (pn 1 rfl (RL.s (Vl.lw 3 hS isAgg27 sizeOf27 rfl rfl rfl) rfl (cF (fun _ hg => model_Check.ok (a1 := (⟨a1.Progs, [], a1.Starts, a1.Seed, a1.End, a1.Budget⟩ : api_Model)) hr4 (SlR.nil (A := none) (c := 0)) hr10 hG0 hg hS) call13 h rfl rfl rfl ?_))))
   rintro t274 h _ w ⟨rfl, hS⟩
   refine pn 2 rfl ?_
   refine RL.iteP 20 rfl h (fun hc276 h => ?_) fun hc276 h => ?_
   next =>
    refine cF (fun _ hg => isochronlaw14vawake.ok hG0 hg hS) call12 h rfl rfl rfl ?_
    rintro t277 h _ w ⟨rfl, hS⟩
    refine pn 2 rfl (lr (RQ.ret ?_))
    obtain rfl := h.some
    exact rt results8 rfl ⟨rfl, hS.d0.d0.d0.d0⟩
   next =>
    refine pn 3 rfl (lr (RQ.ret ?_))
    obtain rfl := h.some
    exact rt results8 rfl ⟨rfl, hS.d0.d0.d0.d0⟩

end Go.Proofs.Gx
