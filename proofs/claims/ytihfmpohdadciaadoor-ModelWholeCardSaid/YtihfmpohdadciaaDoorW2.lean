/-
  The walks of functions, each with what it computes: printed by wip/gx.py.
-/
import Derived.Test.YtihfmpohdadciaaDoorW0
import Derived.Test.YtihfmpohdadciaaDoorW1
set_option linter.unusedVariables false
namespace Go.Proofs.Gx
open Go.Sl
/-! ### isochron/model.links: function 36 -/
noncomputable def model_links.l2b (a1022 : api_Model) : (Nat → Bool) × Int → Option (((Nat → Bool) × Int) ⊕ ((Int) ⊕ (model_flaw) ⊕ (Unit)))
  | (fn1306, x1307) => (if x1307 < (a1022.Links.length : Int) then (if 0 ≤ x1307 then ((model_lane.f a1022 ((nth a1022.Links x1307).From)).bind fun t1418 => (if t1418 = true then ((model_lane.f a1022 ((nth a1022.Links x1307).To)).bind fun t1421 => (if t1421 = true then (if (nth a1022.Links x1307).Look < 1 then some (.inr (.inr (.inl (⟨x1307, 131⟩ : model_flaw)))) else (if 4611686018427387903 < (nth a1022.Links x1307).Look then some (.inr (.inr (.inl (⟨x1307, 131⟩ : model_flaw)))) else (if 0 ≤ (nth a1022.Links x1307).From ∧ (nth a1022.Links x1307).From < 16 then (if 0 ≤ (nth a1022.Links x1307).To ∧ (nth a1022.Links x1307).To < 16 then (if fn1306 (((nth a1022.Links x1307).From).toNat * 16 + ((nth a1022.Links x1307).To).toNat * 1) = true then some (.inr (.inr (.inl (⟨x1307, 131⟩ : model_flaw)))) else some (.inl (upd fn1306 (((nth a1022.Links x1307).From).toNat * 16 + ((nth a1022.Links x1307).To).toNat * 1) true, IntKind.i64.wrap (x1307 + 1)))) else none) else none))) else some (.inr (.inr (.inl (⟨x1307, 131⟩ : model_flaw)))))) else some (.inr (.inr (.inl (⟨x1307, 131⟩ : model_flaw)))))) else none) else some (.inr (.inr (.inr (())))))
noncomputable def model_links.l2 (a1022 : api_Model) (s : (Nat → Bool) × Int) : Option ((Int) ⊕ (model_flaw) ⊕ (Unit)) := loopR (model_links.l2b a1022) s
noncomputable def model_links.f (a1022 : api_Model) : Option ((Int) ⊕ (model_flaw) ⊕ (Unit)) := (if 1024 < (a1022.Links.length : Int) then some (.inl 131) else model_links.l2 a1022 (fun _ => false, 0))
set_option maxRecDepth 100000 in
set_option maxHeartbeats 4000000 in
theorem model_links.ok {B : Base} {w : World} {l : List HProp} {hf : Hp} (a1022 : api_Model) (A1023 : Option Addr) (c1024 : Nat) (A1026 : Option Addr) (c1027 : Nat) (A1029 : Option Addr) (c1030 : Nat) (hr1025 : SlR (Rep.sl E_api_Instr.rep) hf A1023 c1024 a1022.Progs) (hr1028 : SlR E_api_Link.rep hf A1026 c1027 a1022.Links) (hr1031 : SlR E_api_Start.rep hf A1029 c1030 a1022.Starts) (r : (Int) ⊕ (model_flaw) ⊕ (Unit)) (h : model_links.f a1022 = some r) (hS : St B w (l) hf) :
    Calls Tryd.prog 36 #[.agg #[.slice A1023 a1022.Progs.length c1024, .slice A1026 a1022.Links.length c1027, .slice A1029 a1022.Starts.length c1030, .int .u64 a1022.Seed, .int .i64 a1022.End, .int .i64 a1022.Budget]] w (Ret fun v w => match r with | .inl r_ => v = .iface 28 (.int .i64 r_) ∧ St B w (l) hf | .inr (.inl r_) => v = .iface 64 (.agg #[.int .i64 r_.at_, .int .i64 r_.why]) ∧ St B w (l) hf | .inr (.inr (r_)) => v = .nilIface ∧ St B w (l) hf) := by
  have h := Holds.of h
  refine enter (args := [.agg #[.slice A1023 a1022.Progs.length c1024, .slice A1026 a1022.Links.length c1027, .slice A1029 a1022.Starts.length c1030, .int .u64 a1022.Seed, .int .i64 a1022.End, .int .i64 a1022.Budget]]) Tryd.func36 rfl Tryd.ntmps36 (Nat.le_of_ble_eq_true rfl) ?_
  refine RC.seq ?_
  refine RC.region ?_
  refine RL.e (OW.box (cs := [.slice A1023 a1022.Progs.length c1024, .slice A1026 a1022.Links.length c1027, .slice A1029 a1022.Starts.length c1030, .int .u64 a1022.Seed, .int .i64 a1022.End, .int .i64 a1022.Budget]) hS rfl rfl) rfl rfl ?_
  rintro _ w ⟨b1241, rfl, hS⟩
  have hS : St B w (Cl b1241 [.slice A1023 a1022.Progs.length c1024, .slice A1026 a1022.Links.length c1027, .slice A1029 a1022.Starts.length c1030, .int .u64 a1022.Seed, .int .i64 a1022.End, .int .i64 a1022.Budget] 27 :: l) hf := hS
  refine RL.s (Vl.assign rfl) rfl ?_
  refine RL.nil ?_
  refine RQ.then_n ?_
  refine RC.seq ?_
  refine RC.seq ?_
  refine RC.region ?_
  refine RL.s (Vl.fieldAddr (a'' := ⟨b1241, 1, none⟩) Tryd.underlying27 rfl Tryd.sizeOf23 rfl rfl) rfl ?_
  refine RL.s (Vl.load Tryd.isAgg23 rfl (hS.cell 0 rfl rfl)) rfl ?_
  refine RL.s (Vl.lenSl Tryd.underlying23 rfl) rfl ?_
  refine RL.s (Vl.int rfl rfl rfl) rfl ?_
  refine RL.nil ?_
  refine RQ.then_n ?_
  by_cases hc1243 : 1024 < (a1022.Links.length : Int)
  case pos =>
    have h := h.pos hc1243
    refine RC.re 9 rfl (congrArg Value.bool (decide_eq_true hc1243)) ?_
    refine RC.condT rfl ?_
    refine RC.seq ?_
    refine RC.region ?_
    refine RL.s (Vl.makeIface Tryd.underlying28 rfl rfl) rfl ?_
    refine RL.s (Vl.assign rfl) rfl ?_
    refine RL.nil ?_
    refine RQ.then_n ?_
    refine RC.ret ?_
    refine RQ.ret ?_
    have e := h.some
    subst e
    refine RQ.ret0 (vs := [.iface 28 (.int .i64 131)]) Tryd.results36 ⟨rfl, trivial⟩ ?_
    exact ⟨rfl, (hS.dropAt 0 rfl)⟩
  case neg =>
    have h := h.neg hc1243
    refine RC.re 9 rfl (congrArg Value.bool (decide_eq_false hc1243)) ?_
    refine RC.condF rfl ?_
    refine RC.skip ?_
    refine RQ.then_n ?_
    refine RC.seq ?_
    refine RC.region ?_
    refine RL.s (Vl.build (v := .agg (fc Value.bool 256 (fun _ => false)).toArray) (parts := []) rfl (by kernel_rfl)) rfl ?_
    refine RL.e (OW.alloc (cs := fc Value.bool 256 (fun _ => false)) hS Tryd.zeroValue94 (by kernel_rfl)) rfl rfl ?_
    rintro _ w ⟨b1245, rfl, hS⟩
    have hS : St B w (Cl b1245 (fc Value.bool 256 (fun _ => false)) 94 :: Cl b1241 [.slice A1023 a1022.Progs.length c1024, .slice A1026 a1022.Links.length c1027, .slice A1029 a1022.Starts.length c1030, .int .u64 a1022.Seed, .int .i64 a1022.End, .int .i64 a1022.Budget] 27 :: l) hf := hS
    refine RL.e0 (OW.storeAll (f := fun _ => false) (g' := fun _ => false) (l' := Cl b1245 (fc Value.bool 256 (fun _ => false)) 94 :: Cl b1241 [.slice A1023 a1022.Progs.length c1024, .slice A1026 a1022.Links.length c1027, .slice A1029 a1022.Starts.length c1030, .int .u64 a1022.Seed, .int .i64 a1022.End, .int .i64 a1022.Budget] 27 :: l) 0 hS rfl rfl rfl Tryd.sizeOf94 (fun _ => rfl) rfl) rfl ?_
    rintro _ w ⟨rfl, hS⟩
    have hS : St B w (Cl b1245 (fc Value.bool 256 (fun _ => false)) 94 :: Cl b1241 [.slice A1023 a1022.Progs.length c1024, .slice A1026 a1022.Links.length c1027, .slice A1029 a1022.Starts.length c1030, .int .u64 a1022.Seed, .int .i64 a1022.End, .int .i64 a1022.Budget] 27 :: l) hf := hS
    refine RL.nil ?_
    refine RQ.then_n ?_
    refine RC.seq ?_
    refine RC.seq ?_
    refine RC.region ?_
    refine RL.s (Vl.fieldAddr (a'' := ⟨b1241, 1, none⟩) Tryd.underlying27 rfl Tryd.sizeOf23 rfl rfl) rfl ?_
    refine RL.s (Vl.load Tryd.isAgg23 rfl (hS.cell 1 rfl rfl)) rfl ?_
    refine RL.s (Vl.lenSl Tryd.underlying23 rfl) rfl ?_
    refine RL.s (Vl.move rfl) rfl ?_
    refine RL.nil ?_
    refine RQ.then_n ?_
    refine RC.block ?_
    refine fun a ha => RC.loop (N := 61) (body := (model_links.l2b a1022)) (φ := (· = r)) (fun (s : (Nat → Bool) × Int) a w => ∃ (fn1306 : (Nat → Bool)) (x1307 : Int), s = (fn1306, x1307) ∧ Has 61 [(1, .pointer (some ⟨b1241, 0, none⟩)), (3, .pointer (some ⟨b1245, 0, none⟩)), (13, .slice A1026 a1022.Links.length c1027), (14, .int .i64 (a1022.Links.length : Int)), (15, .int .i64 x1307)] a ∧ St B w (Cl b1245 (fc Value.bool 256 fn1306) 94 :: Cl b1241 [.slice A1023 a1022.Progs.length c1024, .slice A1026 a1022.Links.length c1027, .slice A1029 a1022.Starts.length c1030, .int .u64 a1022.Seed, .int .i64 a1022.End, .int .i64 a1022.Budget] 27 :: l) hf) ?_ (s0 := (fun _ => false, 0)) h ⟨(fun _ => false), 0, rfl, ha.to ⟨rfl, rfl, rfl, rfl, rfl, trivial⟩, hS⟩
    rintro G1370 _ a w ⟨fn1306, x1307, rfl, ha, hS⟩ h
    revert a
    show RC _ _ _ _ _ _
    refine RC.seq ?_
    refine RC.region ?_
    refine RL.s (Vl.int rfl rfl rfl) rfl ?_
    refine RL.nil ?_
    refine RQ.then_n ?_
    refine RC.seq ?_
    by_cases hc1372 : x1307 < (a1022.Links.length : Int)
    case pos =>
      have h := h.pos hc1372
      refine RC.re 16 rfl (congrArg Value.bool (decide_eq_true hc1372)) ?_
      refine RC.condT rfl ?_
      refine RC.skip ?_
      refine RQ.then_n ?_
      refine RC.seq ?_
      refine RC.block ?_
      refine RC.seq ?_
      refine RC.region ?_
      refine RL.s (Vl.move rfl) rfl ?_
      obtain ⟨hq1402, h⟩ := h.req
      refine RL.s (Vl.indexAddr Tryd.underlying23 Tryd.sizeOf37 rfl rfl ((hr1028.2.world hS.sub).adr hq1402 hc1372) hq1402 hc1372 rfl) rfl ?_
      refine RL.s (Vl.loadA Tryd.isAgg37 Tryd.sizeOf37 rfl rfl ((hr1028.2.world hS.sub).cells hq1402 hc1372)) rfl ?_
      refine RL.e (OW.alloc (cs := [.int .i64 0, .int .i64 0, .int .i64 0, .bool false]) hS Tryd.zeroValue37 rfl) rfl rfl ?_
      rintro _ w ⟨b1404, rfl, hS⟩
      have hS : St B w (Cl b1404 [.int .i64 0, .int .i64 0, .int .i64 0, .bool false] 37 :: Cl b1245 (fc Value.bool 256 fn1306) 94 :: Cl b1241 [.slice A1023 a1022.Progs.length c1024, .slice A1026 a1022.Links.length c1027, .slice A1029 a1022.Starts.length c1030, .int .u64 a1022.Seed, .int .i64 a1022.End, .int .i64 a1022.Budget] 27 :: l) hf := hS
      refine RL.s (Vl.assign rfl) rfl ?_
      refine RL.e0 (OW.store (cs := [.int .i64 0, .int .i64 0, .int .i64 0, .bool false]) (vs := [.int .i64 ((nth a1022.Links x1307).From), .int .i64 ((nth a1022.Links x1307).To), .int .i64 ((nth a1022.Links x1307).Look), .bool ((nth a1022.Links x1307).Loose)]) (l' := Cl b1404 [.int .i64 ((nth a1022.Links x1307).From), .int .i64 ((nth a1022.Links x1307).To), .int .i64 ((nth a1022.Links x1307).Look), .bool ((nth a1022.Links x1307).Loose)] 37 :: Cl b1245 (fc Value.bool 256 fn1306) 94 :: Cl b1241 [.slice A1023 a1022.Progs.length c1024, .slice A1026 a1022.Links.length c1027, .slice A1029 a1022.Starts.length c1030, .int .u64 a1022.Seed, .int .i64 a1022.End, .int .i64 a1022.Budget] 27 :: l) 0 hS rfl rfl rfl rfl Tryd.sizeOf37 rfl rfl rfl rfl) rfl ?_
      rintro _ w ⟨rfl, hS⟩
      have hS : St B w (Cl b1404 [.int .i64 ((nth a1022.Links x1307).From), .int .i64 ((nth a1022.Links x1307).To), .int .i64 ((nth a1022.Links x1307).Look), .bool ((nth a1022.Links x1307).Loose)] 37 :: Cl b1245 (fc Value.bool 256 fn1306) 94 :: Cl b1241 [.slice A1023 a1022.Progs.length c1024, .slice A1026 a1022.Links.length c1027, .slice A1029 a1022.Starts.length c1030, .int .u64 a1022.Seed, .int .i64 a1022.End, .int .i64 a1022.Budget] 27 :: l) hf := hS
      refine RL.nil ?_
      refine RQ.then_n ?_
      refine RC.seq ?_
      refine RC.seq ?_
      refine RC.plan (.cons 0 true (.cons 1 true (.cons 2 true (.cons 3 false (.cons 4 true (.cons 5 true (.cons 6 true (.cons 7 true (.cons 8 true (.cons 9 false (.cons 10 true (.cons 11 true (.cons 12 true (.cons 13 true (.cons 14 true (.cons 15 true (.cons 16 true (.cons 17 true (.cons 18 true (.cons 19 true (.cons 20 true (.cons 21 true (.cons 22 true (.cons 23 true (.cons 24 true (.cons 25 true (.cons 26 true (.cons 27 false (.cons 28 false (.cons 29 false (.cons 30 false .nil))))))))))))))))))))))))))))))) [] (fun w => St B w (Cl b1404 [.int .i64 ((nth a1022.Links x1307).From), .int .i64 ((nth a1022.Links x1307).To), .int .i64 ((nth a1022.Links x1307).Look), .bool ((nth a1022.Links x1307).Loose)] 37 :: Cl b1245 (fc Value.bool 256 fn1306) 94 :: Cl b1241 [.slice A1023 a1022.Progs.length c1024, .slice A1026 a1022.Links.length c1027, .slice A1029 a1022.Starts.length c1030, .int .u64 a1022.Seed, .int .i64 a1022.End, .int .i64 a1022.Budget] 27 :: l) hf) follows rfl (by kernel_rfl) (NoTmp.then (NoTmp.then (NoTmp.block (NoTmp.then (NoTmp.then (NoTmp.block (NoTmp.then NoTmp.body))))))) ?_
      have hS := hS.same (w' := { w with drawn := w.drawn + 1 }) rfl rfl
      revert hS
      generalize { w with drawn := w.drawn + 1 } = w
      intro hS
      refine RP.s 0 rfl rfl hS (fun w hS => Vl.loadA (vs := [.slice A1023 a1022.Progs.length c1024, .slice A1026 a1022.Links.length c1027, .slice A1029 a1022.Starts.length c1030, .int .u64 a1022.Seed, .int .i64 a1022.End, .int .i64 a1022.Budget]) Tryd.isAgg27 Tryd.sizeOf27 rfl rfl (hS.cellsAt 2 rfl rfl)) rfl ?_
      refine RP.s 1 rfl rfl hS (fun w hS => Vl.fieldAddr (a'' := ⟨b1404, 0, none⟩) Tryd.underlying37 rfl Tryd.sizeOf3 rfl rfl) rfl ?_
      refine RP.s 2 rfl rfl hS (fun w hS => Vl.load Tryd.isAgg3 rfl (hS.cell 0 rfl rfl)) rfl ?_
      obtain ⟨t1418, hg1419, h⟩ := h.bind
      refine RP.e 3 rfl (OW.callF (ls := [.tmp 20, .tmp 22]) rfl Tryd.call29 (model_lane.ok a1022 ((nth a1022.Links x1307).From) A1023 c1024 A1026 c1027 A1029 c1030 hr1025 hr1028 hr1031 _ hg1419 hS)) rfl rfl ?_
      rintro _ w ⟨rfl, hS⟩
      have hS : St B w (Cl b1404 [.int .i64 ((nth a1022.Links x1307).From), .int .i64 ((nth a1022.Links x1307).To), .int .i64 ((nth a1022.Links x1307).Look), .bool ((nth a1022.Links x1307).Loose)] 37 :: Cl b1245 (fc Value.bool 256 fn1306) 94 :: Cl b1241 [.slice A1023 a1022.Progs.length c1024, .slice A1026 a1022.Links.length c1027, .slice A1029 a1022.Starts.length c1030, .int .u64 a1022.Seed, .int .i64 a1022.End, .int .i64 a1022.Budget] 27 :: l) hf := hS
      refine ⟨fun _ => hS, ?_⟩
      refine RP.s 4 rfl rfl hS (fun w hS => Vl.not rfl) rfl ?_
      refine RP.s 5 rfl rfl hS (fun w hS => Vl.move rfl) rfl ?_
      by_cases hc1420 : t1418 = true
      case pos =>
        have h := h.pos hc1420
        refine RP.re 25 rfl (congrArg Value.bool (notb_pos hc1420)) ?_
        refine RP.sg 6 rfl rfl hS (fun w hS => Vl.loadA (vs := [.slice A1023 a1022.Progs.length c1024, .slice A1026 a1022.Links.length c1027, .slice A1029 a1022.Starts.length c1030, .int .u64 a1022.Seed, .int .i64 a1022.End, .int .i64 a1022.Budget]) Tryd.isAgg27 Tryd.sizeOf27 rfl rfl (hS.cellsAt 2 rfl rfl)) rfl rfl ?_
        refine RP.sg 7 rfl rfl hS (fun w hS => Vl.fieldAddr (a'' := ⟨b1404, 1, none⟩) Tryd.underlying37 rfl Tryd.sizeOf3 rfl rfl) rfl rfl ?_
        refine RP.sg 8 rfl rfl hS (fun w hS => Vl.load Tryd.isAgg3 rfl (hS.cell 0 rfl rfl)) rfl rfl ?_
        obtain ⟨t1421, hg1422, h⟩ := h.bind
        refine RP.e 9 rfl (OW.callF (ls := [.tmp 26, .tmp 28]) rfl Tryd.call29 (model_lane.ok a1022 ((nth a1022.Links x1307).To) A1023 c1024 A1026 c1027 A1029 c1030 hr1025 hr1028 hr1031 _ hg1422 hS)) rfl rfl ?_
        rintro _ w ⟨rfl, hS⟩
        have hS : St B w (Cl b1404 [.int .i64 ((nth a1022.Links x1307).From), .int .i64 ((nth a1022.Links x1307).To), .int .i64 ((nth a1022.Links x1307).Look), .bool ((nth a1022.Links x1307).Loose)] 37 :: Cl b1245 (fc Value.bool 256 fn1306) 94 :: Cl b1241 [.slice A1023 a1022.Progs.length c1024, .slice A1026 a1022.Links.length c1027, .slice A1029 a1022.Starts.length c1030, .int .u64 a1022.Seed, .int .i64 a1022.End, .int .i64 a1022.Budget] 27 :: l) hf := hS
        refine ⟨fun _ => hS, ?_⟩
        refine RP.sg 10 rfl rfl hS (fun w hS => Vl.not rfl) rfl rfl ?_
        refine RP.s 11 rfl rfl hS (fun w hS => Vl.pickF rfl rfl) rfl ?_
        refine RP.s 12 rfl rfl hS (fun w hS => Vl.move rfl) rfl ?_
        by_cases hc1423 : t1421 = true
        case pos =>
          have h := h.pos hc1423
          refine RP.re 32 rfl (congrArg Value.bool (notb_pos hc1423)) ?_
          refine RP.sg 13 rfl rfl hS (fun w hS => Vl.fieldAddr (a'' := ⟨b1404, 2, none⟩) Tryd.underlying37 rfl Tryd.sizeOf2 rfl rfl) rfl rfl ?_
          refine RP.sg 14 rfl rfl hS (fun w hS => Vl.load Tryd.isAgg2 rfl (hS.cell 0 rfl rfl)) rfl rfl ?_
          refine RP.sg 15 rfl rfl hS (fun w hS => Vl.int rfl rfl rfl) rfl rfl ?_
          refine RP.s 16 rfl rfl hS (fun w hS => Vl.pickF rfl rfl) rfl ?_
          refine RP.s 17 rfl rfl hS (fun w hS => Vl.move rfl) rfl ?_
          by_cases hc1424 : (nth a1022.Links x1307).Look < 1
          case pos =>
            have h := h.pos hc1424
            refine RP.re 37 rfl (congrArg Value.bool (decide_eq_true hc1424)) ?_
            refine RP.nn 18 rfl rfl hS rfl rfl ?_
            refine RP.nn 19 rfl rfl hS rfl rfl ?_
            refine RP.nn 20 rfl rfl hS rfl rfl ?_
            refine RP.s 21 rfl rfl hS (fun w hS => Vl.pickT rfl rfl) rfl ?_
            refine RP.s 22 rfl rfl hS (fun w hS => Vl.move rfl) rfl ?_
            refine RP.nn 23 rfl rfl hS rfl rfl ?_
            refine RP.nn 24 rfl rfl hS rfl rfl ?_
            refine RP.nn 25 rfl rfl hS rfl rfl ?_
            refine RP.nn 26 rfl rfl hS rfl rfl ?_
            refine RP.n1 27 rfl (fun _ => hS) rfl rfl ?_
            refine RP.n1 28 rfl (fun _ => hS) rfl rfl ?_
            refine RP.n1 29 rfl (fun _ => hS) rfl rfl ?_
            refine RP.v1 30 rfl (fun _ => hS) (Vl.pickT rfl rfl) rfl rfl ?_
            refine RP.nil ?_
            refine RQ.then_n ?_
            refine RC.condT rfl ?_
            refine RC.seq ?_
            refine RC.region ?_
            refine RL.s (Vl.move rfl) rfl ?_
            refine RL.s (Vl.build (v := .agg #[.int .i64 x1307, .int .i64 131]) (parts := [(0, .tmp 51), (1, .const (.int .i64 131))]) rfl (by kernel_rfl)) rfl ?_
            refine RL.s (Vl.makeIface Tryd.underlying64 rfl rfl) rfl ?_
            refine RL.s (Vl.assign rfl) rfl ?_
            refine RL.nil ?_
            refine RQ.then_n ?_
            refine RC.ret ?_
            refine RQ.ret ?_
            refine RQ.inB_ret ?_
            refine RQ.ret ?_
            have h := h.inrS
            refine RQ.ret ?_
            refine RQ.inB_ret ?_
            refine RQ.ret ?_
            have e := h.some
            subst e
            refine RQ.ret0 (vs := [.iface 64 (.agg #[.int .i64 x1307, .int .i64 131])]) Tryd.results36 ⟨rfl, trivial⟩ ?_
            exact ⟨rfl, (((hS.dropAt 0 rfl).dropAt 0 rfl).dropAt 0 rfl)⟩
          case neg =>
            have h := h.neg hc1424
            refine RP.re 37 rfl (congrArg Value.bool (decide_eq_false hc1424)) ?_
            refine RP.sg 18 rfl rfl hS (fun w hS => Vl.fieldAddr (a'' := ⟨b1404, 2, none⟩) Tryd.underlying37 rfl Tryd.sizeOf2 rfl rfl) rfl rfl ?_
            refine RP.sg 19 rfl rfl hS (fun w hS => Vl.load Tryd.isAgg2 rfl (hS.cell 0 rfl rfl)) rfl rfl ?_
            refine RP.sg 20 rfl rfl hS (fun w hS => Vl.int rfl rfl rfl) rfl rfl ?_
            refine RP.s 21 rfl rfl hS (fun w hS => Vl.pickF rfl rfl) rfl ?_
            refine RP.s 22 rfl rfl hS (fun w hS => Vl.move rfl) rfl ?_
            by_cases hc1425 : 4611686018427387903 < (nth a1022.Links x1307).Look
            case pos =>
              have h := h.pos hc1425
              refine RP.re 42 rfl (congrArg Value.bool (decide_eq_true hc1425)) ?_
              refine RP.nn 23 rfl rfl hS rfl rfl ?_
              refine RP.nn 24 rfl rfl hS rfl rfl ?_
              refine RP.nn 25 rfl rfl hS rfl rfl ?_
              refine RP.nn 26 rfl rfl hS rfl rfl ?_
              refine RP.n1 27 rfl (fun _ => hS) rfl rfl ?_
              refine RP.n1 28 rfl (fun _ => hS) rfl rfl ?_
              refine RP.n1 29 rfl (fun _ => hS) rfl rfl ?_
              refine RP.v1 30 rfl (fun _ => hS) (Vl.pickT rfl rfl) rfl rfl ?_
              refine RP.nil ?_
              refine RQ.then_n ?_
              refine RC.condT rfl ?_
              refine RC.seq ?_
              refine RC.region ?_
              refine RL.s (Vl.move rfl) rfl ?_
              refine RL.s (Vl.build (v := .agg #[.int .i64 x1307, .int .i64 131]) (parts := [(0, .tmp 51), (1, .const (.int .i64 131))]) rfl (by kernel_rfl)) rfl ?_
              refine RL.s (Vl.makeIface Tryd.underlying64 rfl rfl) rfl ?_
              refine RL.s (Vl.assign rfl) rfl ?_
              refine RL.nil ?_
              refine RQ.then_n ?_
              refine RC.ret ?_
              refine RQ.ret ?_
              refine RQ.inB_ret ?_
              refine RQ.ret ?_
              have h := h.inrS
              refine RQ.ret ?_
              refine RQ.inB_ret ?_
              refine RQ.ret ?_
              have e := h.some
              subst e
              refine RQ.ret0 (vs := [.iface 64 (.agg #[.int .i64 x1307, .int .i64 131])]) Tryd.results36 ⟨rfl, trivial⟩ ?_
              exact ⟨rfl, (((hS.dropAt 0 rfl).dropAt 0 rfl).dropAt 0 rfl)⟩
            case neg =>
              have h := h.neg hc1425
              refine RP.re 42 rfl (congrArg Value.bool (decide_eq_false hc1425)) ?_
              refine RP.sg 23 rfl rfl hS (fun w hS => Vl.fieldAddr (a'' := ⟨b1404, 0, none⟩) Tryd.underlying37 rfl Tryd.sizeOf3 rfl rfl) rfl rfl ?_
              refine RP.sg 24 rfl rfl hS (fun w hS => Vl.load Tryd.isAgg3 rfl (hS.cell 0 rfl rfl)) rfl rfl ?_
              refine RP.sg 25 rfl rfl hS (fun w hS => Vl.fieldAddr (a'' := ⟨b1404, 1, none⟩) Tryd.underlying37 rfl Tryd.sizeOf3 rfl rfl) rfl rfl ?_
              refine RP.sg 26 rfl rfl hS (fun w hS => Vl.load Tryd.isAgg3 rfl (hS.cell 0 rfl rfl)) rfl rfl ?_
              obtain ⟨⟨hq1426, hq1427⟩, h⟩ := h.req
              refine RP.v1 27 rfl (fun _ => hS) (Vl.indexAddrA (a'' := ⟨b1245, ((nth a1022.Links x1307).From).toNat * 16, none⟩) Tryd.underlying94 Tryd.sizeOf93 rfl rfl hq1426 hq1427 (add_zero_mk _ _)) rfl rfl ?_
              obtain ⟨⟨hq1428, hq1429⟩, h⟩ := h.req
              refine RP.v1 28 rfl (fun _ => hS) (Vl.indexAddrA (a'' := ⟨b1245, ((nth a1022.Links x1307).From).toNat * 16 + ((nth a1022.Links x1307).To).toNat * 1, none⟩) Tryd.underlying93 Tryd.sizeOf4 rfl rfl hq1428 hq1429 (add_mk _ _ _)) rfl rfl ?_
              refine RP.v1 29 rfl (fun _ => hS) (Vl.load Tryd.isAgg4 rfl (hS.cell 1 rfl (fc_get (by omega)))) rfl rfl ?_
              refine RP.v1 30 rfl (fun _ => hS) (Vl.pickF rfl rfl) rfl rfl ?_
              refine RP.nil ?_
              refine RQ.then_n ?_
              by_cases hc1430 : fn1306 (((nth a1022.Links x1307).From).toNat * 16 + ((nth a1022.Links x1307).To).toNat * 1) = true
              case pos =>
                have h := h.pos hc1430
                refine RC.re 50 rfl (congrArg Value.bool (id hc1430)) ?_
                refine RC.condT rfl ?_
                refine RC.seq ?_
                refine RC.region ?_
                refine RL.s (Vl.move rfl) rfl ?_
                refine RL.s (Vl.build (v := .agg #[.int .i64 x1307, .int .i64 131]) (parts := [(0, .tmp 51), (1, .const (.int .i64 131))]) rfl (by kernel_rfl)) rfl ?_
                refine RL.s (Vl.makeIface Tryd.underlying64 rfl rfl) rfl ?_
                refine RL.s (Vl.assign rfl) rfl ?_
                refine RL.nil ?_
                refine RQ.then_n ?_
                refine RC.ret ?_
                refine RQ.ret ?_
                refine RQ.inB_ret ?_
                refine RQ.ret ?_
                have h := h.inrS
                refine RQ.ret ?_
                refine RQ.inB_ret ?_
                refine RQ.ret ?_
                have e := h.some
                subst e
                refine RQ.ret0 (vs := [.iface 64 (.agg #[.int .i64 x1307, .int .i64 131])]) Tryd.results36 ⟨rfl, trivial⟩ ?_
                exact ⟨rfl, (((hS.dropAt 0 rfl).dropAt 0 rfl).dropAt 0 rfl)⟩
              case neg =>
                have h := h.neg hc1430
                refine RC.re 50 rfl (congrArg Value.bool (eq_false_of hc1430)) ?_
                refine RC.condF rfl ?_
                refine RC.skip ?_
                refine RQ.then_n ?_
                refine RC.plan (.cons 0 true (.cons 1 true (.cons 2 true (.cons 3 true (.cons 4 false (.cons 5 false (.cons 6 false .nil))))))) [] (fun w => St B w (Cl b1404 [.int .i64 ((nth a1022.Links x1307).From), .int .i64 ((nth a1022.Links x1307).To), .int .i64 ((nth a1022.Links x1307).Look), .bool ((nth a1022.Links x1307).Loose)] 37 :: Cl b1241 [.slice A1023 a1022.Progs.length c1024, .slice A1026 a1022.Links.length c1027, .slice A1029 a1022.Starts.length c1030, .int .u64 a1022.Seed, .int .i64 a1022.End, .int .i64 a1022.Budget] 27 :: l) hf) follows rfl (by kernel_rfl) (NoTmp.block (NoTmp.then (NoTmp.then (NoTmp.block (NoTmp.then NoTmp.body))))) ?_
                have hS := hS.same (w' := { w with drawn := w.drawn + 1 }) rfl rfl
                revert hS
                generalize { w with drawn := w.drawn + 1 } = w
                intro hS
                refine RP.s 0 rfl rfl (hS.dropAt 1 rfl) (fun w hS => Vl.fieldAddr (a'' := ⟨b1404, 0, none⟩) Tryd.underlying37 rfl Tryd.sizeOf3 rfl rfl) rfl ?_
                refine RP.s 1 rfl rfl (hS.dropAt 1 rfl) (fun w hS => Vl.load Tryd.isAgg3 rfl (hS.cell 0 rfl rfl)) rfl ?_
                refine RP.s 2 rfl rfl (hS.dropAt 1 rfl) (fun w hS => Vl.fieldAddr (a'' := ⟨b1404, 1, none⟩) Tryd.underlying37 rfl Tryd.sizeOf3 rfl rfl) rfl ?_
                refine RP.s 3 rfl rfl (hS.dropAt 1 rfl) (fun w hS => Vl.load Tryd.isAgg3 rfl (hS.cell 0 rfl rfl)) rfl ?_
                refine RP.v1 4 rfl (fun _ => (hS.dropAt 1 rfl)) (Vl.indexAddrA (a'' := ⟨b1245, ((nth a1022.Links x1307).From).toNat * 16, none⟩) Tryd.underlying94 Tryd.sizeOf93 rfl rfl hq1426 hq1427 (add_zero_mk _ _)) rfl rfl ?_
                refine RP.v1 5 rfl (fun _ => (hS.dropAt 1 rfl)) (Vl.indexAddrA (a'' := ⟨b1245, ((nth a1022.Links x1307).From).toNat * 16 + ((nth a1022.Links x1307).To).toNat * 1, none⟩) Tryd.underlying93 Tryd.sizeOf4 rfl rfl hq1428 hq1429 (add_mk _ _ _)) rfl rfl ?_
                refine RP.e0 6 rfl (OW.storeF (mk := Value.bool) (l' := Cl b1404 [.int .i64 ((nth a1022.Links x1307).From), .int .i64 ((nth a1022.Links x1307).To), .int .i64 ((nth a1022.Links x1307).Look), .bool ((nth a1022.Links x1307).Loose)] 37 :: Cl b1245 (fc Value.bool 256 (upd fn1306 (((nth a1022.Links x1307).From).toNat * 16 + ((nth a1022.Links x1307).To).toNat * 1) true)) 94 :: Cl b1241 [.slice A1023 a1022.Progs.length c1024, .slice A1026 a1022.Links.length c1027, .slice A1029 a1022.Starts.length c1030, .int .u64 a1022.Seed, .int .i64 a1022.End, .int .i64 a1022.Budget] 27 :: l) 1 hS rfl rfl rfl Tryd.sizeOf4 (by omega) (fun _ => rfl) (fun _ => rfl) rfl) rfl ?_
                rintro _ w ⟨rfl, hS⟩
                have hS : St B w (Cl b1404 [.int .i64 ((nth a1022.Links x1307).From), .int .i64 ((nth a1022.Links x1307).To), .int .i64 ((nth a1022.Links x1307).Look), .bool ((nth a1022.Links x1307).Loose)] 37 :: Cl b1245 (fc Value.bool 256 (upd fn1306 (((nth a1022.Links x1307).From).toNat * 16 + ((nth a1022.Links x1307).To).toNat * 1) true)) 94 :: Cl b1241 [.slice A1023 a1022.Progs.length c1024, .slice A1026 a1022.Links.length c1027, .slice A1029 a1022.Starts.length c1030, .int .u64 a1022.Seed, .int .i64 a1022.End, .int .i64 a1022.Budget] 27 :: l) hf := hS
                refine ⟨fun _ => (hS.dropAt 1 rfl), ?_⟩
                refine RP.nil ?_
                refine RQ.inB_n ?_
                refine RQ.then_n ?_
                refine RC.region ?_
                refine RL.s (Vl.int rfl rfl rfl) rfl ?_
                refine RL.s (Vl.move rfl) rfl ?_
                refine RL.nil ?_
                exact fun a ha => ⟨(upd fn1306 (((nth a1022.Links x1307).From).toNat * 16 + ((nth a1022.Links x1307).To).toNat * 1) true, IntKind.i64.wrap (x1307 + 1)), ⟨(upd fn1306 (((nth a1022.Links x1307).From).toNat * 16 + ((nth a1022.Links x1307).To).toNat * 1) true), (IntKind.i64.wrap (x1307 + 1)), rfl, ha.to ⟨rfl, rfl, rfl, rfl, rfl, trivial⟩, (hS.dropAt 0 rfl)⟩, h.some⟩
        case neg =>
          have h := h.neg hc1423
          refine RP.re 32 rfl (congrArg Value.bool (notb_neg hc1423)) ?_
          refine RP.nn 13 rfl rfl hS rfl rfl ?_
          refine RP.nn 14 rfl rfl hS rfl rfl ?_
          refine RP.nn 15 rfl rfl hS rfl rfl ?_
          refine RP.s 16 rfl rfl hS (fun w hS => Vl.pickT rfl rfl) rfl ?_
          refine RP.s 17 rfl rfl hS (fun w hS => Vl.move rfl) rfl ?_
          refine RP.nn 18 rfl rfl hS rfl rfl ?_
          refine RP.nn 19 rfl rfl hS rfl rfl ?_
          refine RP.nn 20 rfl rfl hS rfl rfl ?_
          refine RP.s 21 rfl rfl hS (fun w hS => Vl.pickT rfl rfl) rfl ?_
          refine RP.s 22 rfl rfl hS (fun w hS => Vl.move rfl) rfl ?_
          refine RP.nn 23 rfl rfl hS rfl rfl ?_
          refine RP.nn 24 rfl rfl hS rfl rfl ?_
          refine RP.nn 25 rfl rfl hS rfl rfl ?_
          refine RP.nn 26 rfl rfl hS rfl rfl ?_
          refine RP.n1 27 rfl (fun _ => hS) rfl rfl ?_
          refine RP.n1 28 rfl (fun _ => hS) rfl rfl ?_
          refine RP.n1 29 rfl (fun _ => hS) rfl rfl ?_
          refine RP.v1 30 rfl (fun _ => hS) (Vl.pickT rfl rfl) rfl rfl ?_
          refine RP.nil ?_
          refine RQ.then_n ?_
          refine RC.condT rfl ?_
          refine RC.seq ?_
          refine RC.region ?_
          refine RL.s (Vl.move rfl) rfl ?_
          refine RL.s (Vl.build (v := .agg #[.int .i64 x1307, .int .i64 131]) (parts := [(0, .tmp 51), (1, .const (.int .i64 131))]) rfl (by kernel_rfl)) rfl ?_
          refine RL.s (Vl.makeIface Tryd.underlying64 rfl rfl) rfl ?_
          refine RL.s (Vl.assign rfl) rfl ?_
          refine RL.nil ?_
          refine RQ.then_n ?_
          refine RC.ret ?_
          refine RQ.ret ?_
          refine RQ.inB_ret ?_
          refine RQ.ret ?_
          have h := h.inrS
          refine RQ.ret ?_
          refine RQ.inB_ret ?_
          refine RQ.ret ?_
          have e := h.some
          subst e
          refine RQ.ret0 (vs := [.iface 64 (.agg #[.int .i64 x1307, .int .i64 131])]) Tryd.results36 ⟨rfl, trivial⟩ ?_
          exact ⟨rfl, (((hS.dropAt 0 rfl).dropAt 0 rfl).dropAt 0 rfl)⟩
      case neg =>
        have h := h.neg hc1420
        refine RP.re 25 rfl (congrArg Value.bool (notb_neg hc1420)) ?_
        refine RP.nn 6 rfl rfl hS rfl rfl ?_
        refine RP.nn 7 rfl rfl hS rfl rfl ?_
        refine RP.nn 8 rfl rfl hS rfl rfl ?_
        refine RP.n1 9 rfl (fun _ => hS) rfl rfl ?_
        refine RP.nn 10 rfl rfl hS rfl rfl ?_
        refine RP.s 11 rfl rfl hS (fun w hS => Vl.pickT rfl rfl) rfl ?_
        refine RP.s 12 rfl rfl hS (fun w hS => Vl.move rfl) rfl ?_
        refine RP.nn 13 rfl rfl hS rfl rfl ?_
        refine RP.nn 14 rfl rfl hS rfl rfl ?_
        refine RP.nn 15 rfl rfl hS rfl rfl ?_
        refine RP.s 16 rfl rfl hS (fun w hS => Vl.pickT rfl rfl) rfl ?_
        refine RP.s 17 rfl rfl hS (fun w hS => Vl.move rfl) rfl ?_
        refine RP.nn 18 rfl rfl hS rfl rfl ?_
        refine RP.nn 19 rfl rfl hS rfl rfl ?_
        refine RP.nn 20 rfl rfl hS rfl rfl ?_
        refine RP.s 21 rfl rfl hS (fun w hS => Vl.pickT rfl rfl) rfl ?_
        refine RP.s 22 rfl rfl hS (fun w hS => Vl.move rfl) rfl ?_
        refine RP.nn 23 rfl rfl hS rfl rfl ?_
        refine RP.nn 24 rfl rfl hS rfl rfl ?_
        refine RP.nn 25 rfl rfl hS rfl rfl ?_
        refine RP.nn 26 rfl rfl hS rfl rfl ?_
        refine RP.n1 27 rfl (fun _ => hS) rfl rfl ?_
        refine RP.n1 28 rfl (fun _ => hS) rfl rfl ?_
        refine RP.n1 29 rfl (fun _ => hS) rfl rfl ?_
        refine RP.v1 30 rfl (fun _ => hS) (Vl.pickT rfl rfl) rfl rfl ?_
        refine RP.nil ?_
        refine RQ.then_n ?_
        refine RC.condT rfl ?_
        refine RC.seq ?_
        refine RC.region ?_
        refine RL.s (Vl.move rfl) rfl ?_
        refine RL.s (Vl.build (v := .agg #[.int .i64 x1307, .int .i64 131]) (parts := [(0, .tmp 51), (1, .const (.int .i64 131))]) rfl (by kernel_rfl)) rfl ?_
        refine RL.s (Vl.makeIface Tryd.underlying64 rfl rfl) rfl ?_
        refine RL.s (Vl.assign rfl) rfl ?_
        refine RL.nil ?_
        refine RQ.then_n ?_
        refine RC.ret ?_
        refine RQ.ret ?_
        refine RQ.inB_ret ?_
        refine RQ.ret ?_
        have h := h.inrS
        refine RQ.ret ?_
        refine RQ.inB_ret ?_
        refine RQ.ret ?_
        have e := h.some
        subst e
        refine RQ.ret0 (vs := [.iface 64 (.agg #[.int .i64 x1307, .int .i64 131])]) Tryd.results36 ⟨rfl, trivial⟩ ?_
        exact ⟨rfl, (((hS.dropAt 0 rfl).dropAt 0 rfl).dropAt 0 rfl)⟩
    case neg =>
      have h := h.neg hc1372
      refine RC.re 16 rfl (congrArg Value.bool (decide_eq_false hc1372)) ?_
      refine RC.condF rfl ?_
      refine RC.exit ?_
      refine RQ.exitT ?_
      have h := h.inrS
      refine RQ.exitT ?_
      refine RQ.inB_hit ?_
      refine RQ.then_n ?_
      refine RC.seq ?_
      refine RC.region ?_
      refine RL.s (Vl.assign rfl) rfl ?_
      refine RL.nil ?_
      refine RQ.then_n ?_
      refine RC.ret ?_
      have e := h.some
      subst e
      refine RQ.ret0 (vs := [.nilIface]) Tryd.results36 ⟨rfl, trivial⟩ ?_
      exact ⟨rfl, ((hS.dropAt 0 rfl).dropAt 0 rfl)⟩

/-! ### errors.As: function 21 -/
noncomputable def errors_As_3.f (a1444 : model_flaw) (a1447 : model_flaw) : Option (Bool × model_flaw) := ((errors_as_3.f a1444 a1447).bind fun (y1462, y1463) => some (y1462, y1463))
set_option maxRecDepth 100000 in
set_option maxHeartbeats 4000000 in
theorem errors_As_3.ok {B : Base} {w : World} {l : List HProp} {hf : Hp} (a1444 : model_flaw) (a1447 : model_flaw) (b1446 : Nat) (hG0 : GlobAt hf 0 (.iface 96 (.agg #[.pointer (some ⟨1, 66, none⟩)]))) (r : Bool × model_flaw) (h : errors_As_3.f a1444 a1447 = some r) (hS : St B w (Cl b1446 [.int .i64 a1447.at_, .int .i64 a1447.why] 64 :: l) hf) :
    Calls Tryd.prog 21 #[.iface 64 (.agg #[.int .i64 a1444.at_, .int .i64 a1444.why]), .iface 68 (.pointer (some ⟨b1446, 0, none⟩))] w (Ret fun v w => v = .bool r.1 ∧ St B w (Cl b1446 [.int .i64 r.2.at_, .int .i64 r.2.why] 64 :: l) hf) := by
  have h := Holds.of h
  refine enter (args := [.iface 64 (.agg #[.int .i64 a1444.at_, .int .i64 a1444.why]), .iface 68 (.pointer (some ⟨b1446, 0, none⟩))]) Tryd.func21 rfl Tryd.ntmps21 (Nat.le_of_ble_eq_true rfl) ?_
  refine RC.seq ?_
  refine RC.region ?_
  refine RL.s (Vl.assign rfl) rfl ?_
  refine RL.nil ?_
  refine RQ.then_n ?_
  refine RC.seq ?_
  refine RC.seq ?_
  refine RC.region ?_
  refine RL.s (Vl.move rfl) rfl ?_
  refine RL.s (Vl.bin (v := .bool false) rfl rfl (by kernel_rfl)) rfl ?_
  refine RL.nil ?_
  refine RQ.then_n ?_
  refine RC.condF rfl ?_
  refine RC.skip ?_
  refine RQ.then_n ?_
  refine RC.seq ?_
  refine RC.seq ?_
  refine RC.region ?_
  refine RL.s (Vl.move rfl) rfl ?_
  refine RL.s (Vl.bin (v := .bool false) rfl rfl (by kernel_rfl)) rfl ?_
  refine RL.nil ?_
  refine RQ.then_n ?_
  refine RC.condF rfl ?_
  refine RC.skip ?_
  refine RQ.then_n ?_
  refine RC.seq ?_
  refine RC.region ?_
  refine RL.s (Vl.move rfl) rfl ?_
  refine RL.e (OW.externNew (ls := [.tmp 13]) (cs := [.pointer (some ⟨b1446, 0, none⟩)]) (T := 68) (v := fun b => .agg #[.pointer (some ⟨1, 68, none⟩), .pointer (some ⟨b, 0, none⟩), .int .u64 150]) hS rfl Tryd.func38 (by kernel_rfl) (by kernel_rfl) (by kernel_rfl) (e := fun args => Extern.ReflectliteValue.unpack (args.getD 0 (.tuple #[]))) (by kernel_rfl) (fun w => by kernel_rfl)) rfl rfl ?_
  rintro _ w ⟨b1457, rfl, hS⟩
  have hS : St B w (Cl b1457 [.pointer (some ⟨b1446, 0, none⟩)] 68 :: Cl b1446 [.int .i64 a1447.at_, .int .i64 a1447.why] 64 :: l) hf := hS
  refine RL.e (OW.alloc (cs := [.pointer none, .pointer none, .int .u64 0]) hS Tryd.zeroValue79 rfl) rfl rfl ?_
  rintro _ w ⟨b1459, rfl, hS⟩
  have hS : St B w (Cl b1459 [.pointer none, .pointer none, .int .u64 0] 79 :: Cl b1457 [.pointer (some ⟨b1446, 0, none⟩)] 68 :: Cl b1446 [.int .i64 a1447.at_, .int .i64 a1447.why] 64 :: l) hf := hS
  refine RL.e0 (OW.store (cs := [.pointer none, .pointer none, .int .u64 0]) (vs := [.pointer (some ⟨1, 68, none⟩), .pointer (some ⟨b1457, 0, none⟩), .int .u64 150]) (l' := Cl b1459 [.pointer (some ⟨1, 68, none⟩), .pointer (some ⟨b1457, 0, none⟩), .int .u64 150] 79 :: Cl b1457 [.pointer (some ⟨b1446, 0, none⟩)] 68 :: Cl b1446 [.int .i64 a1447.at_, .int .i64 a1447.why] 64 :: l) 0 hS rfl rfl rfl rfl Tryd.sizeOf79 rfl rfl rfl rfl) rfl ?_
  rintro _ w ⟨rfl, hS⟩
  have hS : St B w (Cl b1459 [.pointer (some ⟨1, 68, none⟩), .pointer (some ⟨b1457, 0, none⟩), .int .u64 150] 79 :: Cl b1457 [.pointer (some ⟨b1446, 0, none⟩)] 68 :: Cl b1446 [.int .i64 a1447.at_, .int .i64 a1447.why] 64 :: l) hf := hS
  refine RL.nil ?_
  refine RQ.then_n ?_
  refine RC.seq ?_
  refine RC.region ?_
  refine RL.s (Vl.loadA (vs := [.pointer (some ⟨1, 68, none⟩), .pointer (some ⟨b1457, 0, none⟩), .int .u64 150]) Tryd.isAgg79 Tryd.sizeOf79 rfl rfl (hS.cellsAt 0 rfl rfl)) rfl ?_
  refine RL.s (Vl.extern (ls := [.tmp 15]) (v := .iface 96 (.agg #[.pointer (some ⟨1, 68, none⟩)])) rfl Tryd.func39 (by kernel_rfl) (by kernel_rfl) (by kernel_rfl) (e := Extern.ReflectliteValue.methodAny (Extern.ReflectliteValue.valueError "reflectlite.Value.Type" 0) fun t _ _ _ => Extern.ReflectliteType.toType t) (by kernel_rfl) (fun w => by kernel_rfl)) rfl ?_
  refine RL.s (Vl.assign rfl) rfl ?_
  refine RL.nil ?_
  refine RQ.then_n ?_
  refine RC.seq ?_
  refine RC.seq ?_
  refine RC.region ?_
  refine RL.s (Vl.move rfl) rfl ?_
  refine RL.s (Vl.invokeX (F := 67) (ls := []) (v := .int .u8 22) (u' := .pointer (some ⟨1, 68, none⟩)) rfl rfl (fun w => by kernel_rfl) Tryd.func67 (by kernel_rfl) (by kernel_rfl) (by kernel_rfl) (e := (Extern.ReflectliteType.abiMethod fun t => do pure (.int .u8 (← Extern.Rtype.kind t)))) (by kernel_rfl) (fun w => by kernel_rfl)) rfl ?_
  refine RL.s (Vl.int rfl rfl rfl) rfl ?_
  refine RL.s (Vl.move rfl) rfl ?_
  refine RL.sg (Vl.loadA (vs := [.pointer (some ⟨1, 68, none⟩), .pointer (some ⟨b1457, 0, none⟩), .int .u64 150]) Tryd.isAgg79 Tryd.sizeOf79 rfl rfl (hS.cellsAt 0 rfl rfl)) rfl rfl ?_
  refine RL.sg (Vl.externAt (ls := [.tmp 21]) (v := .bool false) rfl Tryd.func40 (by kernel_rfl) (by kernel_rfl) (by kernel_rfl) (e := Extern.ReflectliteValue.method (Extern.ReflectliteValue.valueError "reflectlite.Value.IsNil" 0) Extern.ReflectliteValue.isNil) (by kernel_rfl) (run_isNil (n := 150) (a := ⟨b1457, 0, none⟩) (fun w => by kernel_rfl) Tryd.underlying68 rfl (hS.cell 1 rfl rfl))) rfl rfl ?_
  refine RL.s (Vl.pickF rfl rfl) rfl ?_
  refine RL.nil ?_
  refine RQ.then_n ?_
  refine RC.condF rfl ?_
  refine RC.skip ?_
  refine RQ.then_n ?_
  refine RC.seq ?_
  refine RC.region ?_
  refine RL.s (Vl.move rfl) rfl ?_
  refine RL.s (Vl.invokeX (F := 79) (ls := []) (v := .iface 96 (.agg #[.pointer (some ⟨1, 64, none⟩)])) (u' := .agg #[.pointer (some ⟨1, 68, none⟩)]) rfl rfl (fun w => by kernel_rfl) Tryd.func79 (by kernel_rfl) (by kernel_rfl) (by kernel_rfl) (e := (Extern.ReflectliteType.method Extern.ReflectliteType.elem)) (by kernel_rfl) (fun w => by kernel_rfl)) rfl ?_
  refine RL.s (Vl.assign rfl) rfl ?_
  refine RL.nil ?_
  refine RQ.then_n ?_
  refine RC.seq ?_
  refine RC.seq ?_
  refine RC.region ?_
  refine RL.s (Vl.move rfl) rfl ?_
  refine RL.s (Vl.invokeX (F := 67) (ls := []) (v := .int .u8 25) (u' := .pointer (some ⟨1, 64, none⟩)) rfl rfl (fun w => by kernel_rfl) Tryd.func67 (by kernel_rfl) (by kernel_rfl) (by kernel_rfl) (e := (Extern.ReflectliteType.abiMethod fun t => do pure (.int .u8 (← Extern.Rtype.kind t)))) (by kernel_rfl) (fun w => by kernel_rfl)) rfl ?_
  refine RL.s (Vl.int rfl rfl rfl) rfl ?_
  refine RL.s (Vl.move rfl) rfl ?_
  refine RL.sg (Vl.move rfl) rfl rfl ?_
  refine RL.sg (Vl.load Tryd.isAgg82 rfl (cellH_world hS.sub hG0)) rfl rfl ?_
  refine RL.sg (Vl.invokeX (F := 80) (ls := [.tmp 32]) (v := .bool true) (u' := .agg #[.pointer (some ⟨1, 64, none⟩)]) rfl rfl (fun w => by kernel_rfl) Tryd.func80 (by kernel_rfl) (by kernel_rfl) (by kernel_rfl) (e := (Extern.ReflectliteType.relation "Implements" Extern.ReflectliteType.implements_)) (by kernel_rfl) (fun w => by kernel_rfl)) rfl rfl ?_
  refine RL.sg (Vl.not rfl) rfl rfl ?_
  refine RL.s (Vl.pickT rfl rfl) rfl ?_
  refine RL.nil ?_
  refine RQ.then_n ?_
  refine RC.condF rfl ?_
  refine RC.skip ?_
  refine RQ.then_n ?_
  refine RC.seq ?_
  refine RC.region ?_
  refine RL.s (Vl.move rfl) rfl ?_
  refine RL.s (Vl.move rfl) rfl ?_
  refine RL.s (Vl.loadA (vs := [.pointer (some ⟨1, 68, none⟩), .pointer (some ⟨b1457, 0, none⟩), .int .u64 150]) Tryd.isAgg79 Tryd.sizeOf79 rfl rfl (hS.cellsAt 0 rfl rfl)) rfl ?_
  refine RL.s (Vl.move rfl) rfl ?_
  obtain ⟨t1460, hg1461, h⟩ := h.bind
  obtain ⟨y1462, y1463⟩ := t1460
  refine RL.e (OW.callF (ls := [.tmp 37, .tmp 38, .tmp 39, .tmp 40]) rfl Tryd.call41 (errors_as_3.ok a1444 a1447 b1446 b1457 _ hg1461 (((hS.pull 0 rfl rfl).pull 1 rfl rfl).pull 2 rfl rfl))) rfl rfl ?_
  rintro _ w ⟨rfl, hS⟩
  have hS : St B w (Cl b1446 [.int .i64 y1463.at_, .int .i64 y1463.why] 64 :: Cl b1457 [.pointer (some ⟨b1446, 0, none⟩)] 68 :: Cl b1459 [.pointer (some ⟨1, 68, none⟩), .pointer (some ⟨b1457, 0, none⟩), .int .u64 150] 79 :: l) hf := hS
  refine RL.s (Vl.assign rfl) rfl ?_
  refine RL.nil ?_
  refine RQ.then_n ?_
  refine RC.ret ?_
  have e := h.some
  subst e
  refine RQ.ret0 (vs := [.bool y1462]) Tryd.results21 ⟨rfl, trivial⟩ ?_
  exact ⟨rfl, ((hS.dropAt 1 rfl).dropAt 1 rfl)⟩

/-! ### errors.Is: function 22 -/
noncomputable def errors_Is_5.f (a1469 : model_flaw) (a1470 : Int) : Option (Bool) := ((errors_is_4.f a1469 a1470 true).bind fun t1473 => some t1473)
set_option maxRecDepth 100000 in
set_option maxHeartbeats 4000000 in
theorem errors_Is_5.ok {B : Base} {w : World} {l : List HProp} {hf : Hp} (a1469 : model_flaw) (a1470 : Int) (r : Bool) (h : errors_Is_5.f a1469 a1470 = some r) (hS : St B w (l) hf) :
    Calls Tryd.prog 22 #[.iface 64 (.agg #[.int .i64 a1469.at_, .int .i64 a1469.why]), .iface 28 (.int .i64 a1470)] w (Ret fun v w => v = .bool r ∧ St B w (l) hf) := by
  have h := Holds.of h
  refine enter (args := [.iface 64 (.agg #[.int .i64 a1469.at_, .int .i64 a1469.why]), .iface 28 (.int .i64 a1470)]) Tryd.func22 rfl Tryd.ntmps22 (Nat.le_of_ble_eq_true rfl) ?_
  refine RC.seq ?_
  refine RC.region ?_
  refine RL.s (Vl.assign rfl) rfl ?_
  refine RL.nil ?_
  refine RQ.then_n ?_
  refine RC.seq ?_
  refine RC.seq ?_
  refine RC.region ?_
  refine RL.s (Vl.move rfl) rfl ?_
  refine RL.s (Vl.bin (v := .bool false) rfl rfl (by kernel_rfl)) rfl ?_
  refine RL.s (Vl.move rfl) rfl ?_
  refine RL.sg (Vl.move rfl) rfl rfl ?_
  refine RL.sg (Vl.bin (v := .bool false) rfl rfl (by kernel_rfl)) rfl rfl ?_
  refine RL.s (Vl.pickF rfl rfl) rfl ?_
  refine RL.nil ?_
  refine RQ.then_n ?_
  refine RC.condF rfl ?_
  refine RC.skip ?_
  refine RQ.then_n ?_
  refine RC.seq ?_
  refine RC.region ?_
  refine RL.s (Vl.move rfl) rfl ?_
  refine RL.s (Vl.extern (ls := [.tmp 15]) (v := .iface 96 (.agg #[.pointer (some ⟨1, 28, none⟩)])) rfl Tryd.func42 (by kernel_rfl) (by kernel_rfl) (by kernel_rfl) (e := Extern.ReflectliteType.typeOf) (by kernel_rfl) (fun w => by kernel_rfl)) rfl ?_
  refine RL.s (Vl.invokeX (F := 78) (ls := []) (v := .bool true) (u' := .agg #[.pointer (some ⟨1, 28, none⟩)]) rfl rfl (fun w => by kernel_rfl) Tryd.func78 (by kernel_rfl) (by kernel_rfl) (by kernel_rfl) (e := (Extern.ReflectliteType.method fun t => do Extern.Rtype.noPackHeld "Comparable" t; pure (.bool (← typeInfo t).comparable))) (by kernel_rfl) (fun w => by kernel_rfl)) rfl ?_
  refine RL.s (Vl.assign rfl) rfl ?_
  refine RL.nil ?_
  refine RQ.then_n ?_
  refine RC.seq ?_
  refine RC.region ?_
  refine RL.s (Vl.move rfl) rfl ?_
  refine RL.s (Vl.move rfl) rfl ?_
  refine RL.s (Vl.move rfl) rfl ?_
  obtain ⟨t1473, hg1474, h⟩ := h.bind
  refine RL.e (OW.callF (ls := [.tmp 18, .tmp 19, .tmp 20]) rfl Tryd.call43 (errors_is_4.ok a1469 a1470 true _ hg1474 hS)) rfl rfl ?_
  rintro _ w ⟨rfl, hS⟩
  have hS : St B w (l) hf := hS
  refine RL.s (Vl.assign rfl) rfl ?_
  refine RL.nil ?_
  refine RQ.then_n ?_
  refine RC.ret ?_
  have e := h.some
  subst e
  refine RQ.ret0 (vs := [.bool t1473]) Tryd.results22 ⟨rfl, trivial⟩ ?_
  exact ⟨rfl, hS⟩

/-! ### isochron/model.starts: function 37 -/
noncomputable def model_starts.l2b (a1513 : api_Model) : Int → Option ((Int) ⊕ ((Int) ⊕ (model_flaw) ⊕ (Unit)))
  | (x1612) => (if x1612 < (a1513.Starts.length : Int) then (if 0 ≤ x1612 then ((model_lane.f a1513 ((nth a1513.Starts x1612).To)).bind fun t1649 => (if t1649 = true then ((vtime_Valid.f ((nth a1513.Starts x1612).Time)).bind fun t1652 => (if t1652 = true then some (.inl (IntKind.i64.wrap (x1612 + 1))) else some (.inr (.inr (.inl (⟨x1612, 132⟩ : model_flaw)))))) else some (.inr (.inr (.inl (⟨x1612, 132⟩ : model_flaw)))))) else none) else some (.inr (.inr (.inr (())))))
noncomputable def model_starts.l2 (a1513 : api_Model) (s : Int) : Option ((Int) ⊕ (model_flaw) ⊕ (Unit)) := loopR (model_starts.l2b a1513) s
noncomputable def model_starts.f (a1513 : api_Model) : Option ((Int) ⊕ (model_flaw) ⊕ (Unit)) := (if 4096 < (a1513.Starts.length : Int) then some (.inl 132) else model_starts.l2 a1513 (0))
set_option maxRecDepth 100000 in
set_option maxHeartbeats 4000000 in
theorem model_starts.ok {B : Base} {w : World} {l : List HProp} {hf : Hp} (a1513 : api_Model) (A1514 : Option Addr) (c1515 : Nat) (A1517 : Option Addr) (c1518 : Nat) (A1520 : Option Addr) (c1521 : Nat) (hr1516 : SlR (Rep.sl E_api_Instr.rep) hf A1514 c1515 a1513.Progs) (hr1519 : SlR E_api_Link.rep hf A1517 c1518 a1513.Links) (hr1522 : SlR E_api_Start.rep hf A1520 c1521 a1513.Starts) (r : (Int) ⊕ (model_flaw) ⊕ (Unit)) (h : model_starts.f a1513 = some r) (hS : St B w (l) hf) :
    Calls Tryd.prog 37 #[.agg #[.slice A1514 a1513.Progs.length c1515, .slice A1517 a1513.Links.length c1518, .slice A1520 a1513.Starts.length c1521, .int .u64 a1513.Seed, .int .i64 a1513.End, .int .i64 a1513.Budget]] w (Ret fun v w => match r with | .inl r_ => v = .iface 28 (.int .i64 r_) ∧ St B w (l) hf | .inr (.inl r_) => v = .iface 64 (.agg #[.int .i64 r_.at_, .int .i64 r_.why]) ∧ St B w (l) hf | .inr (.inr (r_)) => v = .nilIface ∧ St B w (l) hf) := by
  have h := Holds.of h
  refine enter (args := [.agg #[.slice A1514 a1513.Progs.length c1515, .slice A1517 a1513.Links.length c1518, .slice A1520 a1513.Starts.length c1521, .int .u64 a1513.Seed, .int .i64 a1513.End, .int .i64 a1513.Budget]]) Tryd.func37 rfl Tryd.ntmps37 (Nat.le_of_ble_eq_true rfl) ?_
  refine RC.seq ?_
  refine RC.region ?_
  refine RL.e (OW.box (cs := [.slice A1514 a1513.Progs.length c1515, .slice A1517 a1513.Links.length c1518, .slice A1520 a1513.Starts.length c1521, .int .u64 a1513.Seed, .int .i64 a1513.End, .int .i64 a1513.Budget]) hS rfl rfl) rfl rfl ?_
  rintro _ w ⟨b1590, rfl, hS⟩
  have hS : St B w (Cl b1590 [.slice A1514 a1513.Progs.length c1515, .slice A1517 a1513.Links.length c1518, .slice A1520 a1513.Starts.length c1521, .int .u64 a1513.Seed, .int .i64 a1513.End, .int .i64 a1513.Budget] 27 :: l) hf := hS
  refine RL.s (Vl.assign rfl) rfl ?_
  refine RL.nil ?_
  refine RQ.then_n ?_
  refine RC.seq ?_
  refine RC.seq ?_
  refine RC.region ?_
  refine RL.s (Vl.fieldAddr (a'' := ⟨b1590, 2, none⟩) Tryd.underlying27 rfl Tryd.sizeOf24 rfl rfl) rfl ?_
  refine RL.s (Vl.load Tryd.isAgg24 rfl (hS.cell 0 rfl rfl)) rfl ?_
  refine RL.s (Vl.lenSl Tryd.underlying24 rfl) rfl ?_
  refine RL.s (Vl.int rfl rfl rfl) rfl ?_
  refine RL.nil ?_
  refine RQ.then_n ?_
  by_cases hc1592 : 4096 < (a1513.Starts.length : Int)
  case pos =>
    have h := h.pos hc1592
    refine RC.re 8 rfl (congrArg Value.bool (decide_eq_true hc1592)) ?_
    refine RC.condT rfl ?_
    refine RC.seq ?_
    refine RC.region ?_
    refine RL.s (Vl.makeIface Tryd.underlying28 rfl rfl) rfl ?_
    refine RL.s (Vl.assign rfl) rfl ?_
    refine RL.nil ?_
    refine RQ.then_n ?_
    refine RC.ret ?_
    refine RQ.ret ?_
    have e := h.some
    subst e
    refine RQ.ret0 (vs := [.iface 28 (.int .i64 132)]) Tryd.results37 ⟨rfl, trivial⟩ ?_
    exact ⟨rfl, (hS.dropAt 0 rfl)⟩
  case neg =>
    have h := h.neg hc1592
    refine RC.re 8 rfl (congrArg Value.bool (decide_eq_false hc1592)) ?_
    refine RC.condF rfl ?_
    refine RC.skip ?_
    refine RQ.then_n ?_
    refine RC.seq ?_
    refine RC.seq ?_
    refine RC.region ?_
    refine RL.s (Vl.fieldAddr (a'' := ⟨b1590, 2, none⟩) Tryd.underlying27 rfl Tryd.sizeOf24 rfl rfl) rfl ?_
    refine RL.s (Vl.load Tryd.isAgg24 rfl (hS.cell 0 rfl rfl)) rfl ?_
    refine RL.s (Vl.lenSl Tryd.underlying24 rfl) rfl ?_
    refine RL.s (Vl.move rfl) rfl ?_
    refine RL.nil ?_
    refine RQ.then_n ?_
    refine RC.block ?_
    refine fun a ha => RC.loop (N := 33) (body := (model_starts.l2b a1513)) (φ := (· = r)) (fun (s : Int) a w => ∃ (x1612 : Int), s = (x1612) ∧ Has 33 [(1, .pointer (some ⟨b1590, 0, none⟩)), (11, .slice A1520 a1513.Starts.length c1521), (12, .int .i64 (a1513.Starts.length : Int)), (13, .int .i64 x1612)] a ∧ St B w (Cl b1590 [.slice A1514 a1513.Progs.length c1515, .slice A1517 a1513.Links.length c1518, .slice A1520 a1513.Starts.length c1521, .int .u64 a1513.Seed, .int .i64 a1513.End, .int .i64 a1513.Budget] 27 :: l) hf) ?_ (s0 := (0)) h ⟨0, rfl, ha.to ⟨rfl, rfl, rfl, rfl, trivial⟩, hS⟩
    rintro G1634 x1612 a w ⟨_, rfl, ha, hS⟩ h
    revert a
    show RC _ _ _ _ _ _
    refine RC.seq ?_
    refine RC.region ?_
    refine RL.s (Vl.int rfl rfl rfl) rfl ?_
    refine RL.nil ?_
    refine RQ.then_n ?_
    refine RC.seq ?_
    by_cases hc1636 : x1612 < (a1513.Starts.length : Int)
    case pos =>
      have h := h.pos hc1636
      refine RC.re 14 rfl (congrArg Value.bool (decide_eq_true hc1636)) ?_
      refine RC.condT rfl ?_
      refine RC.skip ?_
      refine RQ.then_n ?_
      refine RC.seq ?_
      refine RC.block ?_
      refine RC.seq ?_
      refine RC.region ?_
      refine RL.s (Vl.move rfl) rfl ?_
      obtain ⟨hq1646, h⟩ := h.req
      refine RL.s (Vl.indexAddr Tryd.underlying24 Tryd.sizeOf39 rfl rfl ((hr1522.2.world hS.sub).adr hq1646 hc1636) hq1646 hc1636 rfl) rfl ?_
      refine RL.s (Vl.loadA Tryd.isAgg39 Tryd.sizeOf39 rfl rfl ((hr1522.2.world hS.sub).cells hq1646 hc1636)) rfl ?_
      refine RL.e (OW.alloc (cs := [.int .i64 0, .int .i64 0, .int .i64 0]) hS Tryd.zeroValue39 rfl) rfl rfl ?_
      rintro _ w ⟨b1648, rfl, hS⟩
      have hS : St B w (Cl b1648 [.int .i64 0, .int .i64 0, .int .i64 0] 39 :: Cl b1590 [.slice A1514 a1513.Progs.length c1515, .slice A1517 a1513.Links.length c1518, .slice A1520 a1513.Starts.length c1521, .int .u64 a1513.Seed, .int .i64 a1513.End, .int .i64 a1513.Budget] 27 :: l) hf := hS
      refine RL.s (Vl.assign rfl) rfl ?_
      refine RL.e0 (OW.store (cs := [.int .i64 0, .int .i64 0, .int .i64 0]) (vs := [.int .i64 ((nth a1513.Starts x1612).To), .int .i64 ((nth a1513.Starts x1612).Time), .int .i64 ((nth a1513.Starts x1612).Value)]) (l' := Cl b1648 [.int .i64 ((nth a1513.Starts x1612).To), .int .i64 ((nth a1513.Starts x1612).Time), .int .i64 ((nth a1513.Starts x1612).Value)] 39 :: Cl b1590 [.slice A1514 a1513.Progs.length c1515, .slice A1517 a1513.Links.length c1518, .slice A1520 a1513.Starts.length c1521, .int .u64 a1513.Seed, .int .i64 a1513.End, .int .i64 a1513.Budget] 27 :: l) 0 hS rfl rfl rfl rfl Tryd.sizeOf39 rfl rfl rfl rfl) rfl ?_
      rintro _ w ⟨rfl, hS⟩
      have hS : St B w (Cl b1648 [.int .i64 ((nth a1513.Starts x1612).To), .int .i64 ((nth a1513.Starts x1612).Time), .int .i64 ((nth a1513.Starts x1612).Value)] 39 :: Cl b1590 [.slice A1514 a1513.Progs.length c1515, .slice A1517 a1513.Links.length c1518, .slice A1520 a1513.Starts.length c1521, .int .u64 a1513.Seed, .int .i64 a1513.End, .int .i64 a1513.Budget] 27 :: l) hf := hS
      refine RL.nil ?_
      refine RQ.then_n ?_
      refine RC.seq ?_
      refine RC.region ?_
      refine RL.s (Vl.loadA (vs := [.slice A1514 a1513.Progs.length c1515, .slice A1517 a1513.Links.length c1518, .slice A1520 a1513.Starts.length c1521, .int .u64 a1513.Seed, .int .i64 a1513.End, .int .i64 a1513.Budget]) Tryd.isAgg27 Tryd.sizeOf27 rfl rfl (hS.cellsAt 1 rfl rfl)) rfl ?_
      refine RL.s (Vl.fieldAddr (a'' := ⟨b1648, 0, none⟩) Tryd.underlying39 rfl Tryd.sizeOf3 rfl rfl) rfl ?_
      refine RL.s (Vl.load Tryd.isAgg3 rfl (hS.cell 0 rfl rfl)) rfl ?_
      obtain ⟨t1649, hg1650, h⟩ := h.bind
      refine RL.e (OW.callF (ls := [.tmp 18, .tmp 20]) rfl Tryd.call29 (model_lane.ok a1513 ((nth a1513.Starts x1612).To) A1514 c1515 A1517 c1518 A1520 c1521 hr1516 hr1519 hr1522 _ hg1650 hS)) rfl rfl ?_
      rintro _ w ⟨rfl, hS⟩
      have hS : St B w (Cl b1648 [.int .i64 ((nth a1513.Starts x1612).To), .int .i64 ((nth a1513.Starts x1612).Time), .int .i64 ((nth a1513.Starts x1612).Value)] 39 :: Cl b1590 [.slice A1514 a1513.Progs.length c1515, .slice A1517 a1513.Links.length c1518, .slice A1520 a1513.Starts.length c1521, .int .u64 a1513.Seed, .int .i64 a1513.End, .int .i64 a1513.Budget] 27 :: l) hf := hS
      refine RL.s (Vl.not rfl) rfl ?_
      refine RL.s (Vl.move rfl) rfl ?_
      by_cases hc1651 : t1649 = true
      case pos =>
        have h := h.pos hc1651
        refine RL.re 23 rfl (congrArg Value.bool (notb_pos hc1651)) ?_
        refine RL.sg (Vl.fieldAddr (a'' := ⟨b1648, 1, none⟩) Tryd.underlying39 rfl Tryd.sizeOf2 rfl rfl) rfl rfl ?_
        refine RL.sg (Vl.load Tryd.isAgg2 rfl (hS.cell 0 rfl rfl)) rfl rfl ?_
        obtain ⟨t1652, hg1653, h⟩ := h.bind
        refine RL.e (OW.callF (ls := [.tmp 25]) rfl Tryd.call33 (vtime_Valid.ok ((nth a1513.Starts x1612).Time) _ hg1653 hS)) rfl rfl ?_
        rintro _ w ⟨rfl, hS⟩
        have hS : St B w (Cl b1648 [.int .i64 ((nth a1513.Starts x1612).To), .int .i64 ((nth a1513.Starts x1612).Time), .int .i64 ((nth a1513.Starts x1612).Value)] 39 :: Cl b1590 [.slice A1514 a1513.Progs.length c1515, .slice A1517 a1513.Links.length c1518, .slice A1520 a1513.Starts.length c1521, .int .u64 a1513.Seed, .int .i64 a1513.End, .int .i64 a1513.Budget] 27 :: l) hf := hS
        refine RL.sg (Vl.not rfl) rfl rfl ?_
        refine RL.s (Vl.pickF rfl rfl) rfl ?_
        refine RL.nil ?_
        refine RQ.then_n ?_
        by_cases hc1654 : t1652 = true
        case pos =>
          have h := h.pos hc1654
          refine RC.re 28 rfl (congrArg Value.bool (notb_pos hc1654)) ?_
          refine RC.condF rfl ?_
          refine RC.skip ?_
          refine RQ.inB_n ?_
          refine RQ.then_n ?_
          refine RC.region ?_
          refine RL.s (Vl.int rfl rfl rfl) rfl ?_
          refine RL.s (Vl.move rfl) rfl ?_
          refine RL.nil ?_
          exact fun a ha => ⟨(IntKind.i64.wrap (x1612 + 1)), ⟨(IntKind.i64.wrap (x1612 + 1)), rfl, ha.to ⟨rfl, rfl, rfl, rfl, trivial⟩, (hS.dropAt 0 rfl)⟩, h.some⟩
        case neg =>
          have h := h.neg hc1654
          refine RC.re 28 rfl (congrArg Value.bool (notb_neg hc1654)) ?_
          refine RC.condT rfl ?_
          refine RC.seq ?_
          refine RC.region ?_
          refine RL.s (Vl.move rfl) rfl ?_
          refine RL.s (Vl.build (v := .agg #[.int .i64 x1612, .int .i64 132]) (parts := [(0, .tmp 29), (1, .const (.int .i64 132))]) rfl (by kernel_rfl)) rfl ?_
          refine RL.s (Vl.makeIface Tryd.underlying64 rfl rfl) rfl ?_
          refine RL.s (Vl.assign rfl) rfl ?_
          refine RL.nil ?_
          refine RQ.then_n ?_
          refine RC.ret ?_
          refine RQ.inB_ret ?_
          refine RQ.ret ?_
          have h := h.inrS
          refine RQ.ret ?_
          refine RQ.inB_ret ?_
          refine RQ.ret ?_
          have e := h.some
          subst e
          refine RQ.ret0 (vs := [.iface 64 (.agg #[.int .i64 x1612, .int .i64 132])]) Tryd.results37 ⟨rfl, trivial⟩ ?_
          exact ⟨rfl, ((hS.dropAt 0 rfl).dropAt 0 rfl)⟩
      case neg =>
        have h := h.neg hc1651
        refine RL.re 23 rfl (congrArg Value.bool (notb_neg hc1651)) ?_
        refine RL.nn rfl rfl ?_
        refine RL.nn rfl rfl ?_
        refine RL.nn rfl rfl ?_
        refine RL.nn rfl rfl ?_
        refine RL.s (Vl.pickT rfl rfl) rfl ?_
        refine RL.nil ?_
        refine RQ.then_n ?_
        refine RC.condT rfl ?_
        refine RC.seq ?_
        refine RC.region ?_
        refine RL.s (Vl.move rfl) rfl ?_
        refine RL.s (Vl.build (v := .agg #[.int .i64 x1612, .int .i64 132]) (parts := [(0, .tmp 29), (1, .const (.int .i64 132))]) rfl (by kernel_rfl)) rfl ?_
        refine RL.s (Vl.makeIface Tryd.underlying64 rfl rfl) rfl ?_
        refine RL.s (Vl.assign rfl) rfl ?_
        refine RL.nil ?_
        refine RQ.then_n ?_
        refine RC.ret ?_
        refine RQ.inB_ret ?_
        refine RQ.ret ?_
        have h := h.inrS
        refine RQ.ret ?_
        refine RQ.inB_ret ?_
        refine RQ.ret ?_
        have e := h.some
        subst e
        refine RQ.ret0 (vs := [.iface 64 (.agg #[.int .i64 x1612, .int .i64 132])]) Tryd.results37 ⟨rfl, trivial⟩ ?_
        exact ⟨rfl, ((hS.dropAt 0 rfl).dropAt 0 rfl)⟩
    case neg =>
      have h := h.neg hc1636
      refine RC.re 14 rfl (congrArg Value.bool (decide_eq_false hc1636)) ?_
      refine RC.condF rfl ?_
      refine RC.exit ?_
      refine RQ.exitT ?_
      have h := h.inrS
      refine RQ.exitT ?_
      refine RQ.inB_hit ?_
      refine RQ.then_n ?_
      refine RC.seq ?_
      refine RC.region ?_
      refine RL.s (Vl.assign rfl) rfl ?_
      refine RL.nil ?_
      refine RQ.then_n ?_
      refine RC.ret ?_
      have e := h.some
      subst e
      refine RQ.ret0 (vs := [.nilIface]) Tryd.results37 ⟨rfl, trivial⟩ ?_
      exact ⟨rfl, (hS.dropAt 0 rfl)⟩

/-! ### isochron/model.Check: function 9 -/
noncomputable def model_Check.f (a13 : api_Model) : Option (Int) := ((model_rules.f).bind fun _ => ((model_sizes.f a13).bind fun t1731 => match t1731 with | .inl y1733 => ((errors_As.f y1733 (⟨0, 0⟩ : model_flaw)).bind fun t1734 => (if t1734 = true then some 0 else ((errors_Is.f y1733 131).bind fun t1737 => (if t1737 = true then some 131 else ((errors_Is.f y1733 132).bind fun t1740 => (if t1740 = true then some 132 else some 1)))))) | .inr (_) => ((model_programs.f a13).bind fun t1771 => match t1771 with | .inl (y1773, y1774) => ((errors_As_2.f y1773 y1774 (⟨0, 0⟩ : model_flaw)).bind fun (y1782, y1783) => (if y1782 = true then some y1783.why else ((errors_Is_4.f y1773 y1774 131).bind fun t1785 => (if t1785 = true then some 131 else ((errors_Is_4.f y1773 y1774 132).bind fun t1788 => (if t1788 = true then some 132 else some 1)))))) | .inr (_) => ((model_links.f a13).bind fun t1823 => match t1823 with | .inl y1825 => ((errors_As.f y1825 (⟨0, 0⟩ : model_flaw)).bind fun t1826 => (if t1826 = true then some 0 else ((errors_Is.f y1825 131).bind fun t1829 => (if t1829 = true then some 131 else ((errors_Is.f y1825 132).bind fun t1832 => (if t1832 = true then some 132 else some 1)))))) | .inr (.inl y1835) => ((errors_As_3.f y1835 (⟨0, 0⟩ : model_flaw)).bind fun (y1838, y1839) => (if y1838 = true then some y1839.why else ((errors_Is_5.f y1835 131).bind fun t1841 => (if t1841 = true then some 131 else ((errors_Is_5.f y1835 132).bind fun t1844 => (if t1844 = true then some 132 else some 1)))))) | .inr (.inr (_)) => ((model_starts.f a13).bind fun t1879 => match t1879 with | .inl y1881 => ((errors_As.f y1881 (⟨0, 0⟩ : model_flaw)).bind fun t1882 => (if t1882 = true then some 0 else ((errors_Is.f y1881 131).bind fun t1885 => (if t1885 = true then some 131 else ((errors_Is.f y1881 132).bind fun t1888 => (if t1888 = true then some 132 else some 1)))))) | .inr (.inl y1891) => ((errors_As_3.f y1891 (⟨0, 0⟩ : model_flaw)).bind fun (y1894, y1895) => (if y1894 = true then some y1895.why else ((errors_Is_5.f y1891 131).bind fun t1897 => (if t1897 = true then some 131 else ((errors_Is_5.f y1891 132).bind fun t1900 => (if t1900 = true then some 132 else some 1)))))) | .inr (.inr (_)) => some 0)))))
set_option maxRecDepth 100000 in
set_option maxHeartbeats 4000000 in
theorem model_Check.ok {B : Base} {w : World} {l : List HProp} {hf : Hp} (a13 : api_Model) (A14 : Option Addr) (c15 : Nat) (A17 : Option Addr) (c18 : Nat) (A20 : Option Addr) (c21 : Nat) (hr16 : SlR (Rep.sl E_api_Instr.rep) hf A14 c15 a13.Progs) (hr19 : SlR E_api_Link.rep hf A17 c18 a13.Links) (hr22 : SlR E_api_Start.rep hf A20 c21 a13.Starts) (hG0 : GlobAt hf 0 (.iface 96 (.agg #[.pointer (some ⟨1, 66, none⟩)]))) (r : Int) (h : model_Check.f a13 = some r) (hS : St B w (l) hf) :
    Calls Tryd.prog 9 #[.agg #[.slice A14 a13.Progs.length c15, .slice A17 a13.Links.length c18, .slice A20 a13.Starts.length c21, .int .u64 a13.Seed, .int .i64 a13.End, .int .i64 a13.Budget]] w (Ret fun v w => v = .int .i64 r ∧ St B w (l) hf) := by
  have h := Holds.of h
  refine enter (args := [.agg #[.slice A14 a13.Progs.length c15, .slice A17 a13.Links.length c18, .slice A20 a13.Starts.length c21, .int .u64 a13.Seed, .int .i64 a13.End, .int .i64 a13.Budget]]) Tryd.func9 rfl Tryd.ntmps9 (Nat.le_of_ble_eq_true rfl) ?_
  refine RC.seq ?_
  refine RC.region ?_
  refine RL.e (OW.box (cs := [.slice A14 a13.Progs.length c15, .slice A17 a13.Links.length c18, .slice A20 a13.Starts.length c21, .int .u64 a13.Seed, .int .i64 a13.End, .int .i64 a13.Budget]) hS rfl rfl) rfl rfl ?_
  rintro _ w ⟨b1708, rfl, hS⟩
  have hS : St B w (Cl b1708 [.slice A14 a13.Progs.length c15, .slice A17 a13.Links.length c18, .slice A20 a13.Starts.length c21, .int .u64 a13.Seed, .int .i64 a13.End, .int .i64 a13.Budget] 27 :: l) hf := hS
  refine RL.s (Vl.assign rfl) rfl ?_
  refine RL.nil ?_
  refine RQ.then_n ?_
  refine RC.seq ?_
  refine RC.seq ?_
  refine RC.region ?_
  obtain ⟨t1709, hg1710, h⟩ := h.bind
  refine RL.e (OW.callF (ls := []) rfl Tryd.call20 (model_rules.ok _ hg1710 hS)) rfl rfl ?_
  rintro _ w ⟨rfl, hS⟩
  have hS : St B w (Cl b1708 [.slice A14 a13.Progs.length c15, .slice A17 a13.Links.length c18, .slice A20 a13.Starts.length c21, .int .u64 a13.Seed, .int .i64 a13.End, .int .i64 a13.Budget] 27 :: l) hf := hS
  refine RL.s (Vl.move rfl) rfl ?_
  refine RL.nil ?_
  refine RQ.then_n ?_
  refine RC.block ?_
  refine RC.unroll ?_
  refine RQ.round ?_
  refine RC.seq ?_
  refine RC.region ?_
  refine RL.s (Vl.int rfl rfl rfl) rfl ?_
  refine RL.nil ?_
  refine RQ.then_n ?_
  refine RC.seq ?_
  refine RC.condT rfl ?_
  refine RC.skip ?_
  refine RQ.then_n ?_
  refine RC.seq ?_
  refine RC.block ?_
  refine RC.seq ?_
  refine RC.region ?_
  refine RL.s (Vl.indexA (v := .agg #[.func (.func 34) #[] #[]]) Tryd.underlying61 Tryd.sizeOf60 rfl rfl (by decide) (by decide) (run_partA Tryd.isAgg60 Tryd.sizeOf60)) rfl ?_
  refine RL.e (OW.alloc (cs := [.nilFunc]) hS Tryd.zeroValue60 rfl) rfl rfl ?_
  rintro _ w ⟨b1728, rfl, hS⟩
  have hS : St B w (Cl b1728 [.nilFunc] 60 :: Cl b1708 [.slice A14 a13.Progs.length c15, .slice A17 a13.Links.length c18, .slice A20 a13.Starts.length c21, .int .u64 a13.Seed, .int .i64 a13.End, .int .i64 a13.Budget] 27 :: l) hf := hS
  refine RL.e0 (OW.store (cs := [.nilFunc]) (vs := [.func (.func 34) #[] #[]]) (l' := Cl b1728 [.func (.func 34) #[] #[]] 60 :: Cl b1708 [.slice A14 a13.Progs.length c15, .slice A17 a13.Links.length c18, .slice A20 a13.Starts.length c21, .int .u64 a13.Seed, .int .i64 a13.End, .int .i64 a13.Budget] 27 :: l) 0 hS rfl rfl rfl rfl Tryd.sizeOf60 rfl rfl rfl rfl) rfl ?_
  rintro _ w ⟨rfl, hS⟩
  have hS : St B w (Cl b1728 [.func (.func 34) #[] #[]] 60 :: Cl b1708 [.slice A14 a13.Progs.length c15, .slice A17 a13.Links.length c18, .slice A20 a13.Starts.length c21, .int .u64 a13.Seed, .int .i64 a13.End, .int .i64 a13.Budget] 27 :: l) hf := hS
  refine RL.nil ?_
  refine RQ.then_n ?_
  refine RC.seq ?_
  refine RC.region ?_
  refine RL.e (OW.alloc (cs := [.int .i64 0, .int .i64 0]) hS Tryd.zeroValue64 rfl) rfl rfl ?_
  rintro _ w ⟨b1730, rfl, hS⟩
  have hS : St B w (Cl b1730 [.int .i64 0, .int .i64 0] 64 :: Cl b1728 [.func (.func 34) #[] #[]] 60 :: Cl b1708 [.slice A14 a13.Progs.length c15, .slice A17 a13.Links.length c18, .slice A20 a13.Starts.length c21, .int .u64 a13.Seed, .int .i64 a13.End, .int .i64 a13.Budget] 27 :: l) hf := hS
  refine RL.nil ?_
  refine RQ.then_n ?_
  refine RC.seq ?_
  refine RC.seq ?_
  refine RC.region ?_
  refine RL.s (Vl.fieldAddr (a'' := ⟨b1728, 0, none⟩) Tryd.underlying60 rfl Tryd.sizeOf58 rfl rfl) rfl ?_
  refine RL.s (Vl.load Tryd.isAgg58 rfl (hS.cell 1 rfl rfl)) rfl ?_
  refine RL.s (Vl.loadA (vs := [.slice A14 a13.Progs.length c15, .slice A17 a13.Links.length c18, .slice A20 a13.Starts.length c21, .int .u64 a13.Seed, .int .i64 a13.End, .int .i64 a13.Budget]) Tryd.isAgg27 Tryd.sizeOf27 rfl rfl (hS.cellsAt 2 rfl rfl)) rfl ?_
  obtain ⟨t1731, hg1732, h⟩ := h.bind
  rcases t1731 with y1733 | _
  · refine RL.e (OW.call (ls := [.tmp 13]) rfl rfl Tryd.call34 rfl (model_sizes.ok a13 A14 c15 A17 c18 A20 c21 hr16 hr19 hr22 _ hg1732 hS)) rfl rfl ?_
    rintro _ w ⟨rfl, hS⟩
    have hS : St B w (Cl b1730 [.int .i64 0, .int .i64 0] 64 :: Cl b1728 [.func (.func 34) #[] #[]] 60 :: Cl b1708 [.slice A14 a13.Progs.length c15, .slice A17 a13.Links.length c18, .slice A20 a13.Starts.length c21, .int .u64 a13.Seed, .int .i64 a13.End, .int .i64 a13.Budget] 27 :: l) hf := hS
    refine RL.s (Vl.assign rfl) rfl ?_
    refine RL.nil ?_
    refine RQ.then_n ?_
    refine RC.block ?_
    refine RC.seq ?_
    refine RC.region ?_
    refine RL.s (Vl.move rfl) rfl ?_
    refine RL.s (Vl.bin (v := .bool false) rfl rfl (by kernel_rfl)) rfl ?_
    refine RL.s (Vl.assign rfl) rfl ?_
    refine RL.nil ?_
    refine RQ.then_n ?_
    refine RC.condF rfl ?_
    refine RC.seq ?_
    refine RC.region ?_
    refine RL.s (Vl.move rfl) rfl ?_
    refine RL.s (Vl.makeIface Tryd.underlying68 rfl rfl) rfl ?_
    obtain ⟨t1734, hg1735, h⟩ := h.bind
    refine RL.e (OW.callF (ls := [.tmp 19, .tmp 20]) rfl Tryd.call21 (errors_As.ok y1733 (⟨0, 0⟩ : model_flaw) b1730 hG0 _ hg1735 hS)) rfl rfl ?_
    rintro _ w ⟨rfl, hS⟩
    have hS : St B w (Cl b1730 [.int .i64 0, .int .i64 0] 64 :: Cl b1728 [.func (.func 34) #[] #[]] 60 :: Cl b1708 [.slice A14 a13.Progs.length c15, .slice A17 a13.Links.length c18, .slice A20 a13.Starts.length c21, .int .u64 a13.Seed, .int .i64 a13.End, .int .i64 a13.Budget] 27 :: l) hf := hS
    refine RL.s (Vl.assign rfl) rfl ?_
    refine RL.nil ?_
    refine RQ.then_n ?_
    by_cases hc1736 : t1734 = true
    case pos =>
      have h := h.pos hc1736
      refine RC.re 18 rfl (congrArg Value.bool (id hc1736)) ?_
      refine RC.condT rfl ?_
      refine RC.seq ?_
      refine RC.region ?_
      refine RL.s (Vl.fieldAddr (a'' := ⟨b1730, 1, none⟩) Tryd.underlying64 rfl Tryd.sizeOf28 rfl rfl) rfl ?_
      refine RL.s (Vl.load Tryd.isAgg28 rfl (hS.cell 0 rfl rfl)) rfl ?_
      refine RL.s (Vl.assign rfl) rfl ?_
      refine RL.nil ?_
      refine RQ.then_n ?_
      refine RC.ret ?_
      refine RQ.inB_ret ?_
      refine RQ.ret ?_
      refine RQ.inB_ret ?_
      refine RQ.ret ?_
      refine RQ.ret ?_
      refine RQ.inB_ret ?_
      refine RQ.ret ?_
      have e := h.some
      subst e
      refine RQ.ret0 (vs := [.int .i64 0]) Tryd.results9 ⟨rfl, trivial⟩ ?_
      exact ⟨rfl, (((hS.dropAt 0 rfl).dropAt 0 rfl).dropAt 0 rfl)⟩
    case neg =>
      have h := h.neg hc1736
      refine RC.re 18 rfl (congrArg Value.bool (eq_false_of hc1736)) ?_
      refine RC.condF rfl ?_
      refine RC.seq ?_
      refine RC.region ?_
      refine RL.s (Vl.move rfl) rfl ?_
      refine RL.s (Vl.makeIface Tryd.underlying28 rfl rfl) rfl ?_
      obtain ⟨t1737, hg1738, h⟩ := h.bind
      refine RL.e (OW.callF (ls := [.tmp 25, .tmp 26]) rfl Tryd.call22 (errors_Is.ok y1733 131 _ hg1738 hS)) rfl rfl ?_
      rintro _ w ⟨rfl, hS⟩
      have hS : St B w (Cl b1730 [.int .i64 0, .int .i64 0] 64 :: Cl b1728 [.func (.func 34) #[] #[]] 60 :: Cl b1708 [.slice A14 a13.Progs.length c15, .slice A17 a13.Links.length c18, .slice A20 a13.Starts.length c21, .int .u64 a13.Seed, .int .i64 a13.End, .int .i64 a13.Budget] 27 :: l) hf := hS
      refine RL.s (Vl.assign rfl) rfl ?_
      refine RL.nil ?_
      refine RQ.then_n ?_
      by_cases hc1739 : t1737 = true
      case pos =>
        have h := h.pos hc1739
        refine RC.re 24 rfl (congrArg Value.bool (id hc1739)) ?_
        refine RC.condT rfl ?_
        refine RC.seq ?_
        refine RC.region ?_
        refine RL.s (Vl.assign rfl) rfl ?_
        refine RL.nil ?_
        refine RQ.then_n ?_
        refine RC.ret ?_
        refine RQ.inB_ret ?_
        refine RQ.ret ?_
        refine RQ.inB_ret ?_
        refine RQ.ret ?_
        refine RQ.ret ?_
        refine RQ.inB_ret ?_
        refine RQ.ret ?_
        have e := h.some
        subst e
        refine RQ.ret0 (vs := [.int .i64 131]) Tryd.results9 ⟨rfl, trivial⟩ ?_
        exact ⟨rfl, (((hS.dropAt 0 rfl).dropAt 0 rfl).dropAt 0 rfl)⟩
      case neg =>
        have h := h.neg hc1739
        refine RC.re 24 rfl (congrArg Value.bool (eq_false_of hc1739)) ?_
        refine RC.condF rfl ?_
        refine RC.seq ?_
        refine RC.region ?_
        refine RL.s (Vl.move rfl) rfl ?_
        refine RL.s (Vl.makeIface Tryd.underlying28 rfl rfl) rfl ?_
        obtain ⟨t1740, hg1741, h⟩ := h.bind
        refine RL.e (OW.callF (ls := [.tmp 29, .tmp 30]) rfl Tryd.call22 (errors_Is.ok y1733 132 _ hg1741 hS)) rfl rfl ?_
        rintro _ w ⟨rfl, hS⟩
        have hS : St B w (Cl b1730 [.int .i64 0, .int .i64 0] 64 :: Cl b1728 [.func (.func 34) #[] #[]] 60 :: Cl b1708 [.slice A14 a13.Progs.length c15, .slice A17 a13.Links.length c18, .slice A20 a13.Starts.length c21, .int .u64 a13.Seed, .int .i64 a13.End, .int .i64 a13.Budget] 27 :: l) hf := hS
        refine RL.s (Vl.assign rfl) rfl ?_
        refine RL.nil ?_
        refine RQ.then_n ?_
        by_cases hc1742 : t1740 = true
        case pos =>
          have h := h.pos hc1742
          refine RC.re 28 rfl (congrArg Value.bool (id hc1742)) ?_
          refine RC.condT rfl ?_
          refine RC.seq ?_
          refine RC.region ?_
          refine RL.s (Vl.assign rfl) rfl ?_
          refine RL.nil ?_
          refine RQ.then_n ?_
          refine RC.ret ?_
          refine RQ.inB_ret ?_
          refine RQ.ret ?_
          refine RQ.inB_ret ?_
          refine RQ.ret ?_
          refine RQ.ret ?_
          refine RQ.inB_ret ?_
          refine RQ.ret ?_
          have e := h.some
          subst e
          refine RQ.ret0 (vs := [.int .i64 132]) Tryd.results9 ⟨rfl, trivial⟩ ?_
          exact ⟨rfl, (((hS.dropAt 0 rfl).dropAt 0 rfl).dropAt 0 rfl)⟩
        case neg =>
          have h := h.neg hc1742
          refine RC.re 28 rfl (congrArg Value.bool (eq_false_of hc1742)) ?_
          refine RC.condF rfl ?_
          refine RC.skip ?_
          refine RQ.inB_n ?_
          refine RQ.then_n ?_
          refine RC.seq ?_
          refine RC.region ?_
          refine RL.s (Vl.assign rfl) rfl ?_
          refine RL.nil ?_
          refine RQ.then_n ?_
          refine RC.ret ?_
          refine RQ.inB_ret ?_
          refine RQ.ret ?_
          refine RQ.ret ?_
          refine RQ.inB_ret ?_
          refine RQ.ret ?_
          have e := h.some
          subst e
          refine RQ.ret0 (vs := [.int .i64 1]) Tryd.results9 ⟨rfl, trivial⟩ ?_
          exact ⟨rfl, (((hS.dropAt 0 rfl).dropAt 0 rfl).dropAt 0 rfl)⟩
  · refine RL.e (OW.call (ls := [.tmp 13]) rfl rfl Tryd.call34 rfl (model_sizes.ok a13 A14 c15 A17 c18 A20 c21 hr16 hr19 hr22 _ hg1732 hS)) rfl rfl ?_
    rintro _ w ⟨rfl, hS⟩
    have hS : St B w (Cl b1730 [.int .i64 0, .int .i64 0] 64 :: Cl b1728 [.func (.func 34) #[] #[]] 60 :: Cl b1708 [.slice A14 a13.Progs.length c15, .slice A17 a13.Links.length c18, .slice A20 a13.Starts.length c21, .int .u64 a13.Seed, .int .i64 a13.End, .int .i64 a13.Budget] 27 :: l) hf := hS
    refine RL.s (Vl.assign rfl) rfl ?_
    refine RL.nil ?_
    refine RQ.then_n ?_
    refine RC.block ?_
    refine RC.seq ?_
    refine RC.region ?_
    refine RL.s (Vl.move rfl) rfl ?_
    refine RL.s (Vl.bin (v := .bool true) rfl rfl (by kernel_rfl)) rfl ?_
    refine RL.s (Vl.assign rfl) rfl ?_
    refine RL.nil ?_
    refine RQ.then_n ?_
    refine RC.condT rfl ?_
    refine RC.exit ?_
    refine RQ.inB_miss rfl ?_
    refine RQ.exitT ?_
    refine RQ.inB_hit ?_
    refine RQ.then_n ?_
    refine RC.region ?_
    refine RL.s (Vl.int rfl rfl rfl) rfl ?_
    refine RL.s (Vl.move rfl) rfl ?_
    refine RL.nil ?_
    refine RQ.then_n ?_
    refine RQ.round ?_
    refine RC.seq ?_
    refine RC.region ?_
    refine RL.s (Vl.int rfl rfl rfl) rfl ?_
    refine RL.nil ?_
    refine RQ.then_n ?_
    refine RC.seq ?_
    refine RC.condT rfl ?_
    refine RC.skip ?_
    refine RQ.then_n ?_
    refine RC.seq ?_
    refine RC.block ?_
    refine RC.seq ?_
    refine RC.region ?_
    refine RL.s (Vl.indexA (v := .agg #[.func (.func 35) #[] #[]]) Tryd.underlying61 Tryd.sizeOf60 rfl rfl (by decide) (by decide) (run_partA Tryd.isAgg60 Tryd.sizeOf60)) rfl ?_
    refine RL.e (OW.alloc (cs := [.nilFunc]) hS Tryd.zeroValue60 rfl) rfl rfl ?_
    rintro _ w ⟨b1768, rfl, hS⟩
    have hS : St B w (Cl b1768 [.nilFunc] 60 :: Cl b1730 [.int .i64 0, .int .i64 0] 64 :: Cl b1728 [.func (.func 34) #[] #[]] 60 :: Cl b1708 [.slice A14 a13.Progs.length c15, .slice A17 a13.Links.length c18, .slice A20 a13.Starts.length c21, .int .u64 a13.Seed, .int .i64 a13.End, .int .i64 a13.Budget] 27 :: l) hf := hS
    refine RL.e0 (OW.store (cs := [.nilFunc]) (vs := [.func (.func 35) #[] #[]]) (l' := Cl b1768 [.func (.func 35) #[] #[]] 60 :: Cl b1730 [.int .i64 0, .int .i64 0] 64 :: Cl b1728 [.func (.func 34) #[] #[]] 60 :: Cl b1708 [.slice A14 a13.Progs.length c15, .slice A17 a13.Links.length c18, .slice A20 a13.Starts.length c21, .int .u64 a13.Seed, .int .i64 a13.End, .int .i64 a13.Budget] 27 :: l) 0 hS rfl rfl rfl rfl Tryd.sizeOf60 rfl rfl rfl rfl) rfl ?_
    rintro _ w ⟨rfl, hS⟩
    have hS : St B w (Cl b1768 [.func (.func 35) #[] #[]] 60 :: Cl b1730 [.int .i64 0, .int .i64 0] 64 :: Cl b1728 [.func (.func 34) #[] #[]] 60 :: Cl b1708 [.slice A14 a13.Progs.length c15, .slice A17 a13.Links.length c18, .slice A20 a13.Starts.length c21, .int .u64 a13.Seed, .int .i64 a13.End, .int .i64 a13.Budget] 27 :: l) hf := hS
    refine RL.nil ?_
    refine RQ.then_n ?_
    refine RC.seq ?_
    refine RC.region ?_
    refine RL.e (OW.alloc (cs := [.int .i64 0, .int .i64 0]) hS Tryd.zeroValue64 rfl) rfl rfl ?_
    rintro _ w ⟨b1770, rfl, hS⟩
    have hS : St B w (Cl b1770 [.int .i64 0, .int .i64 0] 64 :: Cl b1768 [.func (.func 35) #[] #[]] 60 :: Cl b1730 [.int .i64 0, .int .i64 0] 64 :: Cl b1728 [.func (.func 34) #[] #[]] 60 :: Cl b1708 [.slice A14 a13.Progs.length c15, .slice A17 a13.Links.length c18, .slice A20 a13.Starts.length c21, .int .u64 a13.Seed, .int .i64 a13.End, .int .i64 a13.Budget] 27 :: l) hf := hS
    refine RL.nil ?_
    refine RQ.then_n ?_
    refine RC.seq ?_
    refine RC.seq ?_
    refine RC.region ?_
    refine RL.s (Vl.fieldAddr (a'' := ⟨b1768, 0, none⟩) Tryd.underlying60 rfl Tryd.sizeOf58 rfl rfl) rfl ?_
    refine RL.s (Vl.load Tryd.isAgg58 rfl (hS.cell 1 rfl rfl)) rfl ?_
    refine RL.s (Vl.loadA (vs := [.slice A14 a13.Progs.length c15, .slice A17 a13.Links.length c18, .slice A20 a13.Starts.length c21, .int .u64 a13.Seed, .int .i64 a13.End, .int .i64 a13.Budget]) Tryd.isAgg27 Tryd.sizeOf27 rfl rfl (hS.cellsAt 4 rfl rfl)) rfl ?_
    obtain ⟨t1771, hg1772, h⟩ := h.bind
    rcases t1771 with ⟨y1773, y1774⟩ | _
    · refine RL.e (OW.call (ls := [.tmp 13]) rfl rfl Tryd.call35 rfl (model_programs.ok a13 A14 c15 A17 c18 A20 c21 hr16 hr19 hr22 _ hg1772 hS)) rfl rfl ?_
      rintro _ w ⟨b1775, A1777, c1778, rfl, hS⟩
      have hS : St B w (Cl b1775 [.slice A1777 2 c1778] 116 :: OSl 66 1 (.slice A1777 2 c1778) 2 [.iface 64 (.agg #[.int .i64 y1773.at_, .int .i64 y1773.why]), .iface 28 (.int .i64 y1774)] :: Cl b1770 [.int .i64 0, .int .i64 0] 64 :: Cl b1768 [.func (.func 35) #[] #[]] 60 :: Cl b1730 [.int .i64 0, .int .i64 0] 64 :: Cl b1728 [.func (.func 34) #[] #[]] 60 :: Cl b1708 [.slice A14 a13.Progs.length c15, .slice A17 a13.Links.length c18, .slice A20 a13.Starts.length c21, .int .u64 a13.Seed, .int .i64 a13.End, .int .i64 a13.Budget] 27 :: l) hf := hS
      refine RL.s (Vl.assign rfl) rfl ?_
      refine RL.nil ?_
      refine RQ.then_n ?_
      refine RC.block ?_
      refine RC.seq ?_
      refine RC.region ?_
      refine RL.s (Vl.move rfl) rfl ?_
      refine RL.s (Vl.bin (v := .bool false) rfl rfl (by kernel_rfl)) rfl ?_
      refine RL.s (Vl.assign rfl) rfl ?_
      refine RL.nil ?_
      refine RQ.then_n ?_
      refine RC.condF rfl ?_
      refine RC.seq ?_
      refine RC.region ?_
      refine RL.s (Vl.move rfl) rfl ?_
      refine RL.s (Vl.makeIface Tryd.underlying68 rfl rfl) rfl ?_
      obtain ⟨t1780, hg1781, h⟩ := h.bind
      obtain ⟨y1782, y1783⟩ := t1780
      refine RL.e (OW.callF (ls := [.tmp 19, .tmp 20]) rfl Tryd.call21 (errors_As_2.ok y1773 y1774 (⟨0, 0⟩ : model_flaw) b1775 A1777 c1778 b1770 hG0 _ hg1781 (((((((hS.pull 6 rfl rfl).pull 6 rfl rfl).pull 6 rfl rfl).pull 6 rfl rfl).pull 6 rfl rfl).pull 5 rfl rfl).pull 6 rfl rfl))) rfl rfl ?_
      rintro _ w ⟨rfl, hS⟩
      have hS : St B w (OSl 66 1 (.slice A1777 2 c1778) 2 [.iface 64 (.agg #[.int .i64 y1773.at_, .int .i64 y1773.why]), .iface 28 (.int .i64 y1774)] :: Cl b1775 [.slice A1777 2 c1778] 116 :: Cl b1770 [.int .i64 y1783.at_, .int .i64 y1783.why] 64 :: Cl b1768 [.func (.func 35) #[] #[]] 60 :: Cl b1730 [.int .i64 0, .int .i64 0] 64 :: Cl b1728 [.func (.func 34) #[] #[]] 60 :: Cl b1708 [.slice A14 a13.Progs.length c15, .slice A17 a13.Links.length c18, .slice A20 a13.Starts.length c21, .int .u64 a13.Seed, .int .i64 a13.End, .int .i64 a13.Budget] 27 :: l) hf := hS
      refine RL.s (Vl.assign rfl) rfl ?_
      refine RL.nil ?_
      refine RQ.then_n ?_
      by_cases hc1784 : y1782 = true
      case pos =>
        have h := h.pos hc1784
        refine RC.re 18 rfl (congrArg Value.bool (id hc1784)) ?_
        refine RC.condT rfl ?_
        refine RC.seq ?_
        refine RC.region ?_
        refine RL.s (Vl.fieldAddr (a'' := ⟨b1770, 1, none⟩) Tryd.underlying64 rfl Tryd.sizeOf28 rfl rfl) rfl ?_
        refine RL.s (Vl.load Tryd.isAgg28 rfl (hS.cell 2 rfl rfl)) rfl ?_
        refine RL.s (Vl.assign rfl) rfl ?_
        refine RL.nil ?_
        refine RQ.then_n ?_
        refine RC.ret ?_
        refine RQ.inB_ret ?_
        refine RQ.ret ?_
        refine RQ.inB_ret ?_
        refine RQ.ret ?_
        refine RQ.ret ?_
        refine RQ.inB_ret ?_
        refine RQ.ret ?_
        have e := h.some
        subst e
        refine RQ.ret0 (vs := [.int .i64 y1783.why]) Tryd.results9 ⟨rfl, trivial⟩ ?_
        exact ⟨rfl, (((((((hS.dropAt 0 rfl).dropAt 0 rfl).dropAt 0 rfl).dropAt 0 rfl).dropAt 0 rfl).dropAt 0 rfl).dropAt 0 rfl)⟩
      case neg =>
        have h := h.neg hc1784
        refine RC.re 18 rfl (congrArg Value.bool (eq_false_of hc1784)) ?_
        refine RC.condF rfl ?_
        refine RC.seq ?_
        refine RC.region ?_
        refine RL.s (Vl.move rfl) rfl ?_
        refine RL.s (Vl.makeIface Tryd.underlying28 rfl rfl) rfl ?_
        obtain ⟨t1785, hg1786, h⟩ := h.bind
        refine RL.e (OW.callF (ls := [.tmp 25, .tmp 26]) rfl Tryd.call22 (errors_Is_4.ok y1773 y1774 131 b1775 A1777 c1778 _ hg1786 hS)) rfl rfl ?_
        rintro _ w ⟨rfl, hS⟩
        have hS : St B w (OSl 66 1 (.slice A1777 2 c1778) 2 [.iface 64 (.agg #[.int .i64 y1773.at_, .int .i64 y1773.why]), .iface 28 (.int .i64 y1774)] :: Cl b1775 [.slice A1777 2 c1778] 116 :: Cl b1770 [.int .i64 y1783.at_, .int .i64 y1783.why] 64 :: Cl b1768 [.func (.func 35) #[] #[]] 60 :: Cl b1730 [.int .i64 0, .int .i64 0] 64 :: Cl b1728 [.func (.func 34) #[] #[]] 60 :: Cl b1708 [.slice A14 a13.Progs.length c15, .slice A17 a13.Links.length c18, .slice A20 a13.Starts.length c21, .int .u64 a13.Seed, .int .i64 a13.End, .int .i64 a13.Budget] 27 :: l) hf := hS
        refine RL.s (Vl.assign rfl) rfl ?_
        refine RL.nil ?_
        refine RQ.then_n ?_
        by_cases hc1787 : t1785 = true
        case pos =>
          have h := h.pos hc1787
          refine RC.re 24 rfl (congrArg Value.bool (id hc1787)) ?_
          refine RC.condT rfl ?_
          refine RC.seq ?_
          refine RC.region ?_
          refine RL.s (Vl.assign rfl) rfl ?_
          refine RL.nil ?_
          refine RQ.then_n ?_
          refine RC.ret ?_
          refine RQ.inB_ret ?_
          refine RQ.ret ?_
          refine RQ.inB_ret ?_
          refine RQ.ret ?_
          refine RQ.ret ?_
          refine RQ.inB_ret ?_
          refine RQ.ret ?_
          have e := h.some
          subst e
          refine RQ.ret0 (vs := [.int .i64 131]) Tryd.results9 ⟨rfl, trivial⟩ ?_
          exact ⟨rfl, (((((((hS.dropAt 0 rfl).dropAt 0 rfl).dropAt 0 rfl).dropAt 0 rfl).dropAt 0 rfl).dropAt 0 rfl).dropAt 0 rfl)⟩
        case neg =>
          have h := h.neg hc1787
          refine RC.re 24 rfl (congrArg Value.bool (eq_false_of hc1787)) ?_
          refine RC.condF rfl ?_
          refine RC.seq ?_
          refine RC.region ?_
          refine RL.s (Vl.move rfl) rfl ?_
          refine RL.s (Vl.makeIface Tryd.underlying28 rfl rfl) rfl ?_
          obtain ⟨t1788, hg1789, h⟩ := h.bind
          refine RL.e (OW.callF (ls := [.tmp 29, .tmp 30]) rfl Tryd.call22 (errors_Is_4.ok y1773 y1774 132 b1775 A1777 c1778 _ hg1789 hS)) rfl rfl ?_
          rintro _ w ⟨rfl, hS⟩
          have hS : St B w (OSl 66 1 (.slice A1777 2 c1778) 2 [.iface 64 (.agg #[.int .i64 y1773.at_, .int .i64 y1773.why]), .iface 28 (.int .i64 y1774)] :: Cl b1775 [.slice A1777 2 c1778] 116 :: Cl b1770 [.int .i64 y1783.at_, .int .i64 y1783.why] 64 :: Cl b1768 [.func (.func 35) #[] #[]] 60 :: Cl b1730 [.int .i64 0, .int .i64 0] 64 :: Cl b1728 [.func (.func 34) #[] #[]] 60 :: Cl b1708 [.slice A14 a13.Progs.length c15, .slice A17 a13.Links.length c18, .slice A20 a13.Starts.length c21, .int .u64 a13.Seed, .int .i64 a13.End, .int .i64 a13.Budget] 27 :: l) hf := hS
          refine RL.s (Vl.assign rfl) rfl ?_
          refine RL.nil ?_
          refine RQ.then_n ?_
          by_cases hc1790 : t1788 = true
          case pos =>
            have h := h.pos hc1790
            refine RC.re 28 rfl (congrArg Value.bool (id hc1790)) ?_
            refine RC.condT rfl ?_
            refine RC.seq ?_
            refine RC.region ?_
            refine RL.s (Vl.assign rfl) rfl ?_
            refine RL.nil ?_
            refine RQ.then_n ?_
            refine RC.ret ?_
            refine RQ.inB_ret ?_
            refine RQ.ret ?_
            refine RQ.inB_ret ?_
            refine RQ.ret ?_
            refine RQ.ret ?_
            refine RQ.inB_ret ?_
            refine RQ.ret ?_
            have e := h.some
            subst e
            refine RQ.ret0 (vs := [.int .i64 132]) Tryd.results9 ⟨rfl, trivial⟩ ?_
            exact ⟨rfl, (((((((hS.dropAt 0 rfl).dropAt 0 rfl).dropAt 0 rfl).dropAt 0 rfl).dropAt 0 rfl).dropAt 0 rfl).dropAt 0 rfl)⟩
          case neg =>
            have h := h.neg hc1790
            refine RC.re 28 rfl (congrArg Value.bool (eq_false_of hc1790)) ?_
            refine RC.condF rfl ?_
            refine RC.skip ?_
            refine RQ.inB_n ?_
            refine RQ.then_n ?_
            refine RC.seq ?_
            refine RC.region ?_
            refine RL.s (Vl.assign rfl) rfl ?_
            refine RL.nil ?_
            refine RQ.then_n ?_
            refine RC.ret ?_
            refine RQ.inB_ret ?_
            refine RQ.ret ?_
            refine RQ.ret ?_
            refine RQ.inB_ret ?_
            refine RQ.ret ?_
            have e := h.some
            subst e
            refine RQ.ret0 (vs := [.int .i64 1]) Tryd.results9 ⟨rfl, trivial⟩ ?_
            exact ⟨rfl, (((((((hS.dropAt 0 rfl).dropAt 0 rfl).dropAt 0 rfl).dropAt 0 rfl).dropAt 0 rfl).dropAt 0 rfl).dropAt 0 rfl)⟩
    · refine RL.e (OW.call (ls := [.tmp 13]) rfl rfl Tryd.call35 rfl (model_programs.ok a13 A14 c15 A17 c18 A20 c21 hr16 hr19 hr22 _ hg1772 hS)) rfl rfl ?_
      rintro _ w ⟨rfl, hS⟩
      have hS : St B w (Cl b1770 [.int .i64 0, .int .i64 0] 64 :: Cl b1768 [.func (.func 35) #[] #[]] 60 :: Cl b1730 [.int .i64 0, .int .i64 0] 64 :: Cl b1728 [.func (.func 34) #[] #[]] 60 :: Cl b1708 [.slice A14 a13.Progs.length c15, .slice A17 a13.Links.length c18, .slice A20 a13.Starts.length c21, .int .u64 a13.Seed, .int .i64 a13.End, .int .i64 a13.Budget] 27 :: l) hf := hS
      refine RL.s (Vl.assign rfl) rfl ?_
      refine RL.nil ?_
      refine RQ.then_n ?_
      refine RC.block ?_
      refine RC.seq ?_
      refine RC.region ?_
      refine RL.s (Vl.move rfl) rfl ?_
      refine RL.s (Vl.bin (v := .bool true) rfl rfl (by kernel_rfl)) rfl ?_
      refine RL.s (Vl.assign rfl) rfl ?_
      refine RL.nil ?_
      refine RQ.then_n ?_
      refine RC.condT rfl ?_
      refine RC.exit ?_
      refine RQ.inB_miss rfl ?_
      refine RQ.exitT ?_
      refine RQ.inB_hit ?_
      refine RQ.then_n ?_
      refine RC.region ?_
      refine RL.s (Vl.int rfl rfl rfl) rfl ?_
      refine RL.s (Vl.move rfl) rfl ?_
      refine RL.nil ?_
      refine RQ.then_n ?_
      refine RQ.round ?_
      refine RC.seq ?_
      refine RC.region ?_
      refine RL.s (Vl.int rfl rfl rfl) rfl ?_
      refine RL.nil ?_
      refine RQ.then_n ?_
      refine RC.seq ?_
      refine RC.condT rfl ?_
      refine RC.skip ?_
      refine RQ.then_n ?_
      refine RC.seq ?_
      refine RC.block ?_
      refine RC.seq ?_
      refine RC.region ?_
      refine RL.s (Vl.indexA (v := .agg #[.func (.func 36) #[] #[]]) Tryd.underlying61 Tryd.sizeOf60 rfl rfl (by decide) (by decide) (run_partA Tryd.isAgg60 Tryd.sizeOf60)) rfl ?_
      refine RL.e (OW.alloc (cs := [.nilFunc]) hS Tryd.zeroValue60 rfl) rfl rfl ?_
      rintro _ w ⟨b1820, rfl, hS⟩
      have hS : St B w (Cl b1820 [.nilFunc] 60 :: Cl b1770 [.int .i64 0, .int .i64 0] 64 :: Cl b1768 [.func (.func 35) #[] #[]] 60 :: Cl b1730 [.int .i64 0, .int .i64 0] 64 :: Cl b1728 [.func (.func 34) #[] #[]] 60 :: Cl b1708 [.slice A14 a13.Progs.length c15, .slice A17 a13.Links.length c18, .slice A20 a13.Starts.length c21, .int .u64 a13.Seed, .int .i64 a13.End, .int .i64 a13.Budget] 27 :: l) hf := hS
      refine RL.e0 (OW.store (cs := [.nilFunc]) (vs := [.func (.func 36) #[] #[]]) (l' := Cl b1820 [.func (.func 36) #[] #[]] 60 :: Cl b1770 [.int .i64 0, .int .i64 0] 64 :: Cl b1768 [.func (.func 35) #[] #[]] 60 :: Cl b1730 [.int .i64 0, .int .i64 0] 64 :: Cl b1728 [.func (.func 34) #[] #[]] 60 :: Cl b1708 [.slice A14 a13.Progs.length c15, .slice A17 a13.Links.length c18, .slice A20 a13.Starts.length c21, .int .u64 a13.Seed, .int .i64 a13.End, .int .i64 a13.Budget] 27 :: l) 0 hS rfl rfl rfl rfl Tryd.sizeOf60 rfl rfl rfl rfl) rfl ?_
      rintro _ w ⟨rfl, hS⟩
      have hS : St B w (Cl b1820 [.func (.func 36) #[] #[]] 60 :: Cl b1770 [.int .i64 0, .int .i64 0] 64 :: Cl b1768 [.func (.func 35) #[] #[]] 60 :: Cl b1730 [.int .i64 0, .int .i64 0] 64 :: Cl b1728 [.func (.func 34) #[] #[]] 60 :: Cl b1708 [.slice A14 a13.Progs.length c15, .slice A17 a13.Links.length c18, .slice A20 a13.Starts.length c21, .int .u64 a13.Seed, .int .i64 a13.End, .int .i64 a13.Budget] 27 :: l) hf := hS
      refine RL.nil ?_
      refine RQ.then_n ?_
      refine RC.seq ?_
      refine RC.region ?_
      refine RL.e (OW.alloc (cs := [.int .i64 0, .int .i64 0]) hS Tryd.zeroValue64 rfl) rfl rfl ?_
      rintro _ w ⟨b1822, rfl, hS⟩
      have hS : St B w (Cl b1822 [.int .i64 0, .int .i64 0] 64 :: Cl b1820 [.func (.func 36) #[] #[]] 60 :: Cl b1770 [.int .i64 0, .int .i64 0] 64 :: Cl b1768 [.func (.func 35) #[] #[]] 60 :: Cl b1730 [.int .i64 0, .int .i64 0] 64 :: Cl b1728 [.func (.func 34) #[] #[]] 60 :: Cl b1708 [.slice A14 a13.Progs.length c15, .slice A17 a13.Links.length c18, .slice A20 a13.Starts.length c21, .int .u64 a13.Seed, .int .i64 a13.End, .int .i64 a13.Budget] 27 :: l) hf := hS
      refine RL.nil ?_
      refine RQ.then_n ?_
      refine RC.seq ?_
      refine RC.seq ?_
      refine RC.region ?_
      refine RL.s (Vl.fieldAddr (a'' := ⟨b1820, 0, none⟩) Tryd.underlying60 rfl Tryd.sizeOf58 rfl rfl) rfl ?_
      refine RL.s (Vl.load Tryd.isAgg58 rfl (hS.cell 1 rfl rfl)) rfl ?_
      refine RL.s (Vl.loadA (vs := [.slice A14 a13.Progs.length c15, .slice A17 a13.Links.length c18, .slice A20 a13.Starts.length c21, .int .u64 a13.Seed, .int .i64 a13.End, .int .i64 a13.Budget]) Tryd.isAgg27 Tryd.sizeOf27 rfl rfl (hS.cellsAt 6 rfl rfl)) rfl ?_
      obtain ⟨t1823, hg1824, h⟩ := h.bind
      rcases t1823 with y1825 | y1835 | _
      · refine RL.e (OW.call (ls := [.tmp 13]) rfl rfl Tryd.call36 rfl (model_links.ok a13 A14 c15 A17 c18 A20 c21 hr16 hr19 hr22 _ hg1824 hS)) rfl rfl ?_
        rintro _ w ⟨rfl, hS⟩
        have hS : St B w (Cl b1822 [.int .i64 0, .int .i64 0] 64 :: Cl b1820 [.func (.func 36) #[] #[]] 60 :: Cl b1770 [.int .i64 0, .int .i64 0] 64 :: Cl b1768 [.func (.func 35) #[] #[]] 60 :: Cl b1730 [.int .i64 0, .int .i64 0] 64 :: Cl b1728 [.func (.func 34) #[] #[]] 60 :: Cl b1708 [.slice A14 a13.Progs.length c15, .slice A17 a13.Links.length c18, .slice A20 a13.Starts.length c21, .int .u64 a13.Seed, .int .i64 a13.End, .int .i64 a13.Budget] 27 :: l) hf := hS
        refine RL.s (Vl.assign rfl) rfl ?_
        refine RL.nil ?_
        refine RQ.then_n ?_
        refine RC.block ?_
        refine RC.seq ?_
        refine RC.region ?_
        refine RL.s (Vl.move rfl) rfl ?_
        refine RL.s (Vl.bin (v := .bool false) rfl rfl (by kernel_rfl)) rfl ?_
        refine RL.s (Vl.assign rfl) rfl ?_
        refine RL.nil ?_
        refine RQ.then_n ?_
        refine RC.condF rfl ?_
        refine RC.seq ?_
        refine RC.region ?_
        refine RL.s (Vl.move rfl) rfl ?_
        refine RL.s (Vl.makeIface Tryd.underlying68 rfl rfl) rfl ?_
        obtain ⟨t1826, hg1827, h⟩ := h.bind
        refine RL.e (OW.callF (ls := [.tmp 19, .tmp 20]) rfl Tryd.call21 (errors_As.ok y1825 (⟨0, 0⟩ : model_flaw) b1822 hG0 _ hg1827 hS)) rfl rfl ?_
        rintro _ w ⟨rfl, hS⟩
        have hS : St B w (Cl b1822 [.int .i64 0, .int .i64 0] 64 :: Cl b1820 [.func (.func 36) #[] #[]] 60 :: Cl b1770 [.int .i64 0, .int .i64 0] 64 :: Cl b1768 [.func (.func 35) #[] #[]] 60 :: Cl b1730 [.int .i64 0, .int .i64 0] 64 :: Cl b1728 [.func (.func 34) #[] #[]] 60 :: Cl b1708 [.slice A14 a13.Progs.length c15, .slice A17 a13.Links.length c18, .slice A20 a13.Starts.length c21, .int .u64 a13.Seed, .int .i64 a13.End, .int .i64 a13.Budget] 27 :: l) hf := hS
        refine RL.s (Vl.assign rfl) rfl ?_
        refine RL.nil ?_
        refine RQ.then_n ?_
        by_cases hc1828 : t1826 = true
        case pos =>
          have h := h.pos hc1828
          refine RC.re 18 rfl (congrArg Value.bool (id hc1828)) ?_
          refine RC.condT rfl ?_
          refine RC.seq ?_
          refine RC.region ?_
          refine RL.s (Vl.fieldAddr (a'' := ⟨b1822, 1, none⟩) Tryd.underlying64 rfl Tryd.sizeOf28 rfl rfl) rfl ?_
          refine RL.s (Vl.load Tryd.isAgg28 rfl (hS.cell 0 rfl rfl)) rfl ?_
          refine RL.s (Vl.assign rfl) rfl ?_
          refine RL.nil ?_
          refine RQ.then_n ?_
          refine RC.ret ?_
          refine RQ.inB_ret ?_
          refine RQ.ret ?_
          refine RQ.inB_ret ?_
          refine RQ.ret ?_
          refine RQ.ret ?_
          refine RQ.inB_ret ?_
          refine RQ.ret ?_
          have e := h.some
          subst e
          refine RQ.ret0 (vs := [.int .i64 0]) Tryd.results9 ⟨rfl, trivial⟩ ?_
          exact ⟨rfl, (((((((hS.dropAt 0 rfl).dropAt 0 rfl).dropAt 0 rfl).dropAt 0 rfl).dropAt 0 rfl).dropAt 0 rfl).dropAt 0 rfl)⟩
        case neg =>
          have h := h.neg hc1828
          refine RC.re 18 rfl (congrArg Value.bool (eq_false_of hc1828)) ?_
          refine RC.condF rfl ?_
          refine RC.seq ?_
          refine RC.region ?_
          refine RL.s (Vl.move rfl) rfl ?_
          refine RL.s (Vl.makeIface Tryd.underlying28 rfl rfl) rfl ?_
          obtain ⟨t1829, hg1830, h⟩ := h.bind
          refine RL.e (OW.callF (ls := [.tmp 25, .tmp 26]) rfl Tryd.call22 (errors_Is.ok y1825 131 _ hg1830 hS)) rfl rfl ?_
          rintro _ w ⟨rfl, hS⟩
          have hS : St B w (Cl b1822 [.int .i64 0, .int .i64 0] 64 :: Cl b1820 [.func (.func 36) #[] #[]] 60 :: Cl b1770 [.int .i64 0, .int .i64 0] 64 :: Cl b1768 [.func (.func 35) #[] #[]] 60 :: Cl b1730 [.int .i64 0, .int .i64 0] 64 :: Cl b1728 [.func (.func 34) #[] #[]] 60 :: Cl b1708 [.slice A14 a13.Progs.length c15, .slice A17 a13.Links.length c18, .slice A20 a13.Starts.length c21, .int .u64 a13.Seed, .int .i64 a13.End, .int .i64 a13.Budget] 27 :: l) hf := hS
          refine RL.s (Vl.assign rfl) rfl ?_
          refine RL.nil ?_
          refine RQ.then_n ?_
          by_cases hc1831 : t1829 = true
          case pos =>
            have h := h.pos hc1831
            refine RC.re 24 rfl (congrArg Value.bool (id hc1831)) ?_
            refine RC.condT rfl ?_
            refine RC.seq ?_
            refine RC.region ?_
            refine RL.s (Vl.assign rfl) rfl ?_
            refine RL.nil ?_
            refine RQ.then_n ?_
            refine RC.ret ?_
            refine RQ.inB_ret ?_
            refine RQ.ret ?_
            refine RQ.inB_ret ?_
            refine RQ.ret ?_
            refine RQ.ret ?_
            refine RQ.inB_ret ?_
            refine RQ.ret ?_
            have e := h.some
            subst e
            refine RQ.ret0 (vs := [.int .i64 131]) Tryd.results9 ⟨rfl, trivial⟩ ?_
            exact ⟨rfl, (((((((hS.dropAt 0 rfl).dropAt 0 rfl).dropAt 0 rfl).dropAt 0 rfl).dropAt 0 rfl).dropAt 0 rfl).dropAt 0 rfl)⟩
          case neg =>
            have h := h.neg hc1831
            refine RC.re 24 rfl (congrArg Value.bool (eq_false_of hc1831)) ?_
            refine RC.condF rfl ?_
            refine RC.seq ?_
            refine RC.region ?_
            refine RL.s (Vl.move rfl) rfl ?_
            refine RL.s (Vl.makeIface Tryd.underlying28 rfl rfl) rfl ?_
            obtain ⟨t1832, hg1833, h⟩ := h.bind
            refine RL.e (OW.callF (ls := [.tmp 29, .tmp 30]) rfl Tryd.call22 (errors_Is.ok y1825 132 _ hg1833 hS)) rfl rfl ?_
            rintro _ w ⟨rfl, hS⟩
            have hS : St B w (Cl b1822 [.int .i64 0, .int .i64 0] 64 :: Cl b1820 [.func (.func 36) #[] #[]] 60 :: Cl b1770 [.int .i64 0, .int .i64 0] 64 :: Cl b1768 [.func (.func 35) #[] #[]] 60 :: Cl b1730 [.int .i64 0, .int .i64 0] 64 :: Cl b1728 [.func (.func 34) #[] #[]] 60 :: Cl b1708 [.slice A14 a13.Progs.length c15, .slice A17 a13.Links.length c18, .slice A20 a13.Starts.length c21, .int .u64 a13.Seed, .int .i64 a13.End, .int .i64 a13.Budget] 27 :: l) hf := hS
            refine RL.s (Vl.assign rfl) rfl ?_
            refine RL.nil ?_
            refine RQ.then_n ?_
            by_cases hc1834 : t1832 = true
            case pos =>
              have h := h.pos hc1834
              refine RC.re 28 rfl (congrArg Value.bool (id hc1834)) ?_
              refine RC.condT rfl ?_
              refine RC.seq ?_
              refine RC.region ?_
              refine RL.s (Vl.assign rfl) rfl ?_
              refine RL.nil ?_
              refine RQ.then_n ?_
              refine RC.ret ?_
              refine RQ.inB_ret ?_
              refine RQ.ret ?_
              refine RQ.inB_ret ?_
              refine RQ.ret ?_
              refine RQ.ret ?_
              refine RQ.inB_ret ?_
              refine RQ.ret ?_
              have e := h.some
              subst e
              refine RQ.ret0 (vs := [.int .i64 132]) Tryd.results9 ⟨rfl, trivial⟩ ?_
              exact ⟨rfl, (((((((hS.dropAt 0 rfl).dropAt 0 rfl).dropAt 0 rfl).dropAt 0 rfl).dropAt 0 rfl).dropAt 0 rfl).dropAt 0 rfl)⟩
            case neg =>
              have h := h.neg hc1834
              refine RC.re 28 rfl (congrArg Value.bool (eq_false_of hc1834)) ?_
              refine RC.condF rfl ?_
              refine RC.skip ?_
              refine RQ.inB_n ?_
              refine RQ.then_n ?_
              refine RC.seq ?_
              refine RC.region ?_
              refine RL.s (Vl.assign rfl) rfl ?_
              refine RL.nil ?_
              refine RQ.then_n ?_
              refine RC.ret ?_
              refine RQ.inB_ret ?_
              refine RQ.ret ?_
              refine RQ.ret ?_
              refine RQ.inB_ret ?_
              refine RQ.ret ?_
              have e := h.some
              subst e
              refine RQ.ret0 (vs := [.int .i64 1]) Tryd.results9 ⟨rfl, trivial⟩ ?_
              exact ⟨rfl, (((((((hS.dropAt 0 rfl).dropAt 0 rfl).dropAt 0 rfl).dropAt 0 rfl).dropAt 0 rfl).dropAt 0 rfl).dropAt 0 rfl)⟩
      · refine RL.e (OW.call (ls := [.tmp 13]) rfl rfl Tryd.call36 rfl (model_links.ok a13 A14 c15 A17 c18 A20 c21 hr16 hr19 hr22 _ hg1824 hS)) rfl rfl ?_
        rintro _ w ⟨rfl, hS⟩
        have hS : St B w (Cl b1822 [.int .i64 0, .int .i64 0] 64 :: Cl b1820 [.func (.func 36) #[] #[]] 60 :: Cl b1770 [.int .i64 0, .int .i64 0] 64 :: Cl b1768 [.func (.func 35) #[] #[]] 60 :: Cl b1730 [.int .i64 0, .int .i64 0] 64 :: Cl b1728 [.func (.func 34) #[] #[]] 60 :: Cl b1708 [.slice A14 a13.Progs.length c15, .slice A17 a13.Links.length c18, .slice A20 a13.Starts.length c21, .int .u64 a13.Seed, .int .i64 a13.End, .int .i64 a13.Budget] 27 :: l) hf := hS
        refine RL.s (Vl.assign rfl) rfl ?_
        refine RL.nil ?_
        refine RQ.then_n ?_
        refine RC.block ?_
        refine RC.seq ?_
        refine RC.region ?_
        refine RL.s (Vl.move rfl) rfl ?_
        refine RL.s (Vl.bin (v := .bool false) rfl rfl (by kernel_rfl)) rfl ?_
        refine RL.s (Vl.assign rfl) rfl ?_
        refine RL.nil ?_
        refine RQ.then_n ?_
        refine RC.condF rfl ?_
        refine RC.seq ?_
        refine RC.region ?_
        refine RL.s (Vl.move rfl) rfl ?_
        refine RL.s (Vl.makeIface Tryd.underlying68 rfl rfl) rfl ?_
        obtain ⟨t1836, hg1837, h⟩ := h.bind
        obtain ⟨y1838, y1839⟩ := t1836
        refine RL.e (OW.callF (ls := [.tmp 19, .tmp 20]) rfl Tryd.call21 (errors_As_3.ok y1835 (⟨0, 0⟩ : model_flaw) b1822 hG0 _ hg1837 hS)) rfl rfl ?_
        rintro _ w ⟨rfl, hS⟩
        have hS : St B w (Cl b1822 [.int .i64 y1839.at_, .int .i64 y1839.why] 64 :: Cl b1820 [.func (.func 36) #[] #[]] 60 :: Cl b1770 [.int .i64 0, .int .i64 0] 64 :: Cl b1768 [.func (.func 35) #[] #[]] 60 :: Cl b1730 [.int .i64 0, .int .i64 0] 64 :: Cl b1728 [.func (.func 34) #[] #[]] 60 :: Cl b1708 [.slice A14 a13.Progs.length c15, .slice A17 a13.Links.length c18, .slice A20 a13.Starts.length c21, .int .u64 a13.Seed, .int .i64 a13.End, .int .i64 a13.Budget] 27 :: l) hf := hS
        refine RL.s (Vl.assign rfl) rfl ?_
        refine RL.nil ?_
        refine RQ.then_n ?_
        by_cases hc1840 : y1838 = true
        case pos =>
          have h := h.pos hc1840
          refine RC.re 18 rfl (congrArg Value.bool (id hc1840)) ?_
          refine RC.condT rfl ?_
          refine RC.seq ?_
          refine RC.region ?_
          refine RL.s (Vl.fieldAddr (a'' := ⟨b1822, 1, none⟩) Tryd.underlying64 rfl Tryd.sizeOf28 rfl rfl) rfl ?_
          refine RL.s (Vl.load Tryd.isAgg28 rfl (hS.cell 0 rfl rfl)) rfl ?_
          refine RL.s (Vl.assign rfl) rfl ?_
          refine RL.nil ?_
          refine RQ.then_n ?_
          refine RC.ret ?_
          refine RQ.inB_ret ?_
          refine RQ.ret ?_
          refine RQ.inB_ret ?_
          refine RQ.ret ?_
          refine RQ.ret ?_
          refine RQ.inB_ret ?_
          refine RQ.ret ?_
          have e := h.some
          subst e
          refine RQ.ret0 (vs := [.int .i64 y1839.why]) Tryd.results9 ⟨rfl, trivial⟩ ?_
          exact ⟨rfl, (((((((hS.dropAt 0 rfl).dropAt 0 rfl).dropAt 0 rfl).dropAt 0 rfl).dropAt 0 rfl).dropAt 0 rfl).dropAt 0 rfl)⟩
        case neg =>
          have h := h.neg hc1840
          refine RC.re 18 rfl (congrArg Value.bool (eq_false_of hc1840)) ?_
          refine RC.condF rfl ?_
          refine RC.seq ?_
          refine RC.region ?_
          refine RL.s (Vl.move rfl) rfl ?_
          refine RL.s (Vl.makeIface Tryd.underlying28 rfl rfl) rfl ?_
          obtain ⟨t1841, hg1842, h⟩ := h.bind
          refine RL.e (OW.callF (ls := [.tmp 25, .tmp 26]) rfl Tryd.call22 (errors_Is_5.ok y1835 131 _ hg1842 hS)) rfl rfl ?_
          rintro _ w ⟨rfl, hS⟩
          have hS : St B w (Cl b1822 [.int .i64 y1839.at_, .int .i64 y1839.why] 64 :: Cl b1820 [.func (.func 36) #[] #[]] 60 :: Cl b1770 [.int .i64 0, .int .i64 0] 64 :: Cl b1768 [.func (.func 35) #[] #[]] 60 :: Cl b1730 [.int .i64 0, .int .i64 0] 64 :: Cl b1728 [.func (.func 34) #[] #[]] 60 :: Cl b1708 [.slice A14 a13.Progs.length c15, .slice A17 a13.Links.length c18, .slice A20 a13.Starts.length c21, .int .u64 a13.Seed, .int .i64 a13.End, .int .i64 a13.Budget] 27 :: l) hf := hS
          refine RL.s (Vl.assign rfl) rfl ?_
          refine RL.nil ?_
          refine RQ.then_n ?_
          by_cases hc1843 : t1841 = true
          case pos =>
            have h := h.pos hc1843
            refine RC.re 24 rfl (congrArg Value.bool (id hc1843)) ?_
            refine RC.condT rfl ?_
            refine RC.seq ?_
            refine RC.region ?_
            refine RL.s (Vl.assign rfl) rfl ?_
            refine RL.nil ?_
            refine RQ.then_n ?_
            refine RC.ret ?_
            refine RQ.inB_ret ?_
            refine RQ.ret ?_
            refine RQ.inB_ret ?_
            refine RQ.ret ?_
            refine RQ.ret ?_
            refine RQ.inB_ret ?_
            refine RQ.ret ?_
            have e := h.some
            subst e
            refine RQ.ret0 (vs := [.int .i64 131]) Tryd.results9 ⟨rfl, trivial⟩ ?_
            exact ⟨rfl, (((((((hS.dropAt 0 rfl).dropAt 0 rfl).dropAt 0 rfl).dropAt 0 rfl).dropAt 0 rfl).dropAt 0 rfl).dropAt 0 rfl)⟩
          case neg =>
            have h := h.neg hc1843
            refine RC.re 24 rfl (congrArg Value.bool (eq_false_of hc1843)) ?_
            refine RC.condF rfl ?_
            refine RC.seq ?_
            refine RC.region ?_
            refine RL.s (Vl.move rfl) rfl ?_
            refine RL.s (Vl.makeIface Tryd.underlying28 rfl rfl) rfl ?_
            obtain ⟨t1844, hg1845, h⟩ := h.bind
            refine RL.e (OW.callF (ls := [.tmp 29, .tmp 30]) rfl Tryd.call22 (errors_Is_5.ok y1835 132 _ hg1845 hS)) rfl rfl ?_
            rintro _ w ⟨rfl, hS⟩
            have hS : St B w (Cl b1822 [.int .i64 y1839.at_, .int .i64 y1839.why] 64 :: Cl b1820 [.func (.func 36) #[] #[]] 60 :: Cl b1770 [.int .i64 0, .int .i64 0] 64 :: Cl b1768 [.func (.func 35) #[] #[]] 60 :: Cl b1730 [.int .i64 0, .int .i64 0] 64 :: Cl b1728 [.func (.func 34) #[] #[]] 60 :: Cl b1708 [.slice A14 a13.Progs.length c15, .slice A17 a13.Links.length c18, .slice A20 a13.Starts.length c21, .int .u64 a13.Seed, .int .i64 a13.End, .int .i64 a13.Budget] 27 :: l) hf := hS
            refine RL.s (Vl.assign rfl) rfl ?_
            refine RL.nil ?_
            refine RQ.then_n ?_
            by_cases hc1846 : t1844 = true
            case pos =>
              have h := h.pos hc1846
              refine RC.re 28 rfl (congrArg Value.bool (id hc1846)) ?_
              refine RC.condT rfl ?_
              refine RC.seq ?_
              refine RC.region ?_
              refine RL.s (Vl.assign rfl) rfl ?_
              refine RL.nil ?_
              refine RQ.then_n ?_
              refine RC.ret ?_
              refine RQ.inB_ret ?_
              refine RQ.ret ?_
              refine RQ.inB_ret ?_
              refine RQ.ret ?_
              refine RQ.ret ?_
              refine RQ.inB_ret ?_
              refine RQ.ret ?_
              have e := h.some
              subst e
              refine RQ.ret0 (vs := [.int .i64 132]) Tryd.results9 ⟨rfl, trivial⟩ ?_
              exact ⟨rfl, (((((((hS.dropAt 0 rfl).dropAt 0 rfl).dropAt 0 rfl).dropAt 0 rfl).dropAt 0 rfl).dropAt 0 rfl).dropAt 0 rfl)⟩
            case neg =>
              have h := h.neg hc1846
              refine RC.re 28 rfl (congrArg Value.bool (eq_false_of hc1846)) ?_
              refine RC.condF rfl ?_
              refine RC.skip ?_
              refine RQ.inB_n ?_
              refine RQ.then_n ?_
              refine RC.seq ?_
              refine RC.region ?_
              refine RL.s (Vl.assign rfl) rfl ?_
              refine RL.nil ?_
              refine RQ.then_n ?_
              refine RC.ret ?_
              refine RQ.inB_ret ?_
              refine RQ.ret ?_
              refine RQ.ret ?_
              refine RQ.inB_ret ?_
              refine RQ.ret ?_
              have e := h.some
              subst e
              refine RQ.ret0 (vs := [.int .i64 1]) Tryd.results9 ⟨rfl, trivial⟩ ?_
              exact ⟨rfl, (((((((hS.dropAt 0 rfl).dropAt 0 rfl).dropAt 0 rfl).dropAt 0 rfl).dropAt 0 rfl).dropAt 0 rfl).dropAt 0 rfl)⟩
      · refine RL.e (OW.call (ls := [.tmp 13]) rfl rfl Tryd.call36 rfl (model_links.ok a13 A14 c15 A17 c18 A20 c21 hr16 hr19 hr22 _ hg1824 hS)) rfl rfl ?_
        rintro _ w ⟨rfl, hS⟩
        have hS : St B w (Cl b1822 [.int .i64 0, .int .i64 0] 64 :: Cl b1820 [.func (.func 36) #[] #[]] 60 :: Cl b1770 [.int .i64 0, .int .i64 0] 64 :: Cl b1768 [.func (.func 35) #[] #[]] 60 :: Cl b1730 [.int .i64 0, .int .i64 0] 64 :: Cl b1728 [.func (.func 34) #[] #[]] 60 :: Cl b1708 [.slice A14 a13.Progs.length c15, .slice A17 a13.Links.length c18, .slice A20 a13.Starts.length c21, .int .u64 a13.Seed, .int .i64 a13.End, .int .i64 a13.Budget] 27 :: l) hf := hS
        refine RL.s (Vl.assign rfl) rfl ?_
        refine RL.nil ?_
        refine RQ.then_n ?_
        refine RC.block ?_
        refine RC.seq ?_
        refine RC.region ?_
        refine RL.s (Vl.move rfl) rfl ?_
        refine RL.s (Vl.bin (v := .bool true) rfl rfl (by kernel_rfl)) rfl ?_
        refine RL.s (Vl.assign rfl) rfl ?_
        refine RL.nil ?_
        refine RQ.then_n ?_
        refine RC.condT rfl ?_
        refine RC.exit ?_
        refine RQ.inB_miss rfl ?_
        refine RQ.exitT ?_
        refine RQ.inB_hit ?_
        refine RQ.then_n ?_
        refine RC.region ?_
        refine RL.s (Vl.int rfl rfl rfl) rfl ?_
        refine RL.s (Vl.move rfl) rfl ?_
        refine RL.nil ?_
        refine RQ.then_n ?_
        refine RQ.round ?_
        refine RC.seq ?_
        refine RC.region ?_
        refine RL.s (Vl.int rfl rfl rfl) rfl ?_
        refine RL.nil ?_
        refine RQ.then_n ?_
        refine RC.seq ?_
        refine RC.condT rfl ?_
        refine RC.skip ?_
        refine RQ.then_n ?_
        refine RC.seq ?_
        refine RC.block ?_
        refine RC.seq ?_
        refine RC.region ?_
        refine RL.s (Vl.indexA (v := .agg #[.func (.func 37) #[] #[]]) Tryd.underlying61 Tryd.sizeOf60 rfl rfl (by decide) (by decide) (run_partA Tryd.isAgg60 Tryd.sizeOf60)) rfl ?_
        refine RL.e (OW.alloc (cs := [.nilFunc]) hS Tryd.zeroValue60 rfl) rfl rfl ?_
        rintro _ w ⟨b1876, rfl, hS⟩
        have hS : St B w (Cl b1876 [.nilFunc] 60 :: Cl b1822 [.int .i64 0, .int .i64 0] 64 :: Cl b1820 [.func (.func 36) #[] #[]] 60 :: Cl b1770 [.int .i64 0, .int .i64 0] 64 :: Cl b1768 [.func (.func 35) #[] #[]] 60 :: Cl b1730 [.int .i64 0, .int .i64 0] 64 :: Cl b1728 [.func (.func 34) #[] #[]] 60 :: Cl b1708 [.slice A14 a13.Progs.length c15, .slice A17 a13.Links.length c18, .slice A20 a13.Starts.length c21, .int .u64 a13.Seed, .int .i64 a13.End, .int .i64 a13.Budget] 27 :: l) hf := hS
        refine RL.e0 (OW.store (cs := [.nilFunc]) (vs := [.func (.func 37) #[] #[]]) (l' := Cl b1876 [.func (.func 37) #[] #[]] 60 :: Cl b1822 [.int .i64 0, .int .i64 0] 64 :: Cl b1820 [.func (.func 36) #[] #[]] 60 :: Cl b1770 [.int .i64 0, .int .i64 0] 64 :: Cl b1768 [.func (.func 35) #[] #[]] 60 :: Cl b1730 [.int .i64 0, .int .i64 0] 64 :: Cl b1728 [.func (.func 34) #[] #[]] 60 :: Cl b1708 [.slice A14 a13.Progs.length c15, .slice A17 a13.Links.length c18, .slice A20 a13.Starts.length c21, .int .u64 a13.Seed, .int .i64 a13.End, .int .i64 a13.Budget] 27 :: l) 0 hS rfl rfl rfl rfl Tryd.sizeOf60 rfl rfl rfl rfl) rfl ?_
        rintro _ w ⟨rfl, hS⟩
        have hS : St B w (Cl b1876 [.func (.func 37) #[] #[]] 60 :: Cl b1822 [.int .i64 0, .int .i64 0] 64 :: Cl b1820 [.func (.func 36) #[] #[]] 60 :: Cl b1770 [.int .i64 0, .int .i64 0] 64 :: Cl b1768 [.func (.func 35) #[] #[]] 60 :: Cl b1730 [.int .i64 0, .int .i64 0] 64 :: Cl b1728 [.func (.func 34) #[] #[]] 60 :: Cl b1708 [.slice A14 a13.Progs.length c15, .slice A17 a13.Links.length c18, .slice A20 a13.Starts.length c21, .int .u64 a13.Seed, .int .i64 a13.End, .int .i64 a13.Budget] 27 :: l) hf := hS
        refine RL.nil ?_
        refine RQ.then_n ?_
        refine RC.seq ?_
        refine RC.region ?_
        refine RL.e (OW.alloc (cs := [.int .i64 0, .int .i64 0]) hS Tryd.zeroValue64 rfl) rfl rfl ?_
        rintro _ w ⟨b1878, rfl, hS⟩
        have hS : St B w (Cl b1878 [.int .i64 0, .int .i64 0] 64 :: Cl b1876 [.func (.func 37) #[] #[]] 60 :: Cl b1822 [.int .i64 0, .int .i64 0] 64 :: Cl b1820 [.func (.func 36) #[] #[]] 60 :: Cl b1770 [.int .i64 0, .int .i64 0] 64 :: Cl b1768 [.func (.func 35) #[] #[]] 60 :: Cl b1730 [.int .i64 0, .int .i64 0] 64 :: Cl b1728 [.func (.func 34) #[] #[]] 60 :: Cl b1708 [.slice A14 a13.Progs.length c15, .slice A17 a13.Links.length c18, .slice A20 a13.Starts.length c21, .int .u64 a13.Seed, .int .i64 a13.End, .int .i64 a13.Budget] 27 :: l) hf := hS
        refine RL.nil ?_
        refine RQ.then_n ?_
        refine RC.seq ?_
        refine RC.seq ?_
        refine RC.region ?_
        refine RL.s (Vl.fieldAddr (a'' := ⟨b1876, 0, none⟩) Tryd.underlying60 rfl Tryd.sizeOf58 rfl rfl) rfl ?_
        refine RL.s (Vl.load Tryd.isAgg58 rfl (hS.cell 1 rfl rfl)) rfl ?_
        refine RL.s (Vl.loadA (vs := [.slice A14 a13.Progs.length c15, .slice A17 a13.Links.length c18, .slice A20 a13.Starts.length c21, .int .u64 a13.Seed, .int .i64 a13.End, .int .i64 a13.Budget]) Tryd.isAgg27 Tryd.sizeOf27 rfl rfl (hS.cellsAt 8 rfl rfl)) rfl ?_
        obtain ⟨t1879, hg1880, h⟩ := h.bind
        rcases t1879 with y1881 | y1891 | _
        · refine RL.e (OW.call (ls := [.tmp 13]) rfl rfl Tryd.call37 rfl (model_starts.ok a13 A14 c15 A17 c18 A20 c21 hr16 hr19 hr22 _ hg1880 hS)) rfl rfl ?_
          rintro _ w ⟨rfl, hS⟩
          have hS : St B w (Cl b1878 [.int .i64 0, .int .i64 0] 64 :: Cl b1876 [.func (.func 37) #[] #[]] 60 :: Cl b1822 [.int .i64 0, .int .i64 0] 64 :: Cl b1820 [.func (.func 36) #[] #[]] 60 :: Cl b1770 [.int .i64 0, .int .i64 0] 64 :: Cl b1768 [.func (.func 35) #[] #[]] 60 :: Cl b1730 [.int .i64 0, .int .i64 0] 64 :: Cl b1728 [.func (.func 34) #[] #[]] 60 :: Cl b1708 [.slice A14 a13.Progs.length c15, .slice A17 a13.Links.length c18, .slice A20 a13.Starts.length c21, .int .u64 a13.Seed, .int .i64 a13.End, .int .i64 a13.Budget] 27 :: l) hf := hS
          refine RL.s (Vl.assign rfl) rfl ?_
          refine RL.nil ?_
          refine RQ.then_n ?_
          refine RC.block ?_
          refine RC.seq ?_
          refine RC.region ?_
          refine RL.s (Vl.move rfl) rfl ?_
          refine RL.s (Vl.bin (v := .bool false) rfl rfl (by kernel_rfl)) rfl ?_
          refine RL.s (Vl.assign rfl) rfl ?_
          refine RL.nil ?_
          refine RQ.then_n ?_
          refine RC.condF rfl ?_
          refine RC.seq ?_
          refine RC.region ?_
          refine RL.s (Vl.move rfl) rfl ?_
          refine RL.s (Vl.makeIface Tryd.underlying68 rfl rfl) rfl ?_
          obtain ⟨t1882, hg1883, h⟩ := h.bind
          refine RL.e (OW.callF (ls := [.tmp 19, .tmp 20]) rfl Tryd.call21 (errors_As.ok y1881 (⟨0, 0⟩ : model_flaw) b1878 hG0 _ hg1883 hS)) rfl rfl ?_
          rintro _ w ⟨rfl, hS⟩
          have hS : St B w (Cl b1878 [.int .i64 0, .int .i64 0] 64 :: Cl b1876 [.func (.func 37) #[] #[]] 60 :: Cl b1822 [.int .i64 0, .int .i64 0] 64 :: Cl b1820 [.func (.func 36) #[] #[]] 60 :: Cl b1770 [.int .i64 0, .int .i64 0] 64 :: Cl b1768 [.func (.func 35) #[] #[]] 60 :: Cl b1730 [.int .i64 0, .int .i64 0] 64 :: Cl b1728 [.func (.func 34) #[] #[]] 60 :: Cl b1708 [.slice A14 a13.Progs.length c15, .slice A17 a13.Links.length c18, .slice A20 a13.Starts.length c21, .int .u64 a13.Seed, .int .i64 a13.End, .int .i64 a13.Budget] 27 :: l) hf := hS
          refine RL.s (Vl.assign rfl) rfl ?_
          refine RL.nil ?_
          refine RQ.then_n ?_
          by_cases hc1884 : t1882 = true
          case pos =>
            have h := h.pos hc1884
            refine RC.re 18 rfl (congrArg Value.bool (id hc1884)) ?_
            refine RC.condT rfl ?_
            refine RC.seq ?_
            refine RC.region ?_
            refine RL.s (Vl.fieldAddr (a'' := ⟨b1878, 1, none⟩) Tryd.underlying64 rfl Tryd.sizeOf28 rfl rfl) rfl ?_
            refine RL.s (Vl.load Tryd.isAgg28 rfl (hS.cell 0 rfl rfl)) rfl ?_
            refine RL.s (Vl.assign rfl) rfl ?_
            refine RL.nil ?_
            refine RQ.then_n ?_
            refine RC.ret ?_
            refine RQ.inB_ret ?_
            refine RQ.ret ?_
            refine RQ.inB_ret ?_
            refine RQ.ret ?_
            refine RQ.ret ?_
            refine RQ.inB_ret ?_
            refine RQ.ret ?_
            have e := h.some
            subst e
            refine RQ.ret0 (vs := [.int .i64 0]) Tryd.results9 ⟨rfl, trivial⟩ ?_
            exact ⟨rfl, (((((((((hS.dropAt 0 rfl).dropAt 0 rfl).dropAt 0 rfl).dropAt 0 rfl).dropAt 0 rfl).dropAt 0 rfl).dropAt 0 rfl).dropAt 0 rfl).dropAt 0 rfl)⟩
          case neg =>
            have h := h.neg hc1884
            refine RC.re 18 rfl (congrArg Value.bool (eq_false_of hc1884)) ?_
            refine RC.condF rfl ?_
            refine RC.seq ?_
            refine RC.region ?_
            refine RL.s (Vl.move rfl) rfl ?_
            refine RL.s (Vl.makeIface Tryd.underlying28 rfl rfl) rfl ?_
            obtain ⟨t1885, hg1886, h⟩ := h.bind
            refine RL.e (OW.callF (ls := [.tmp 25, .tmp 26]) rfl Tryd.call22 (errors_Is.ok y1881 131 _ hg1886 hS)) rfl rfl ?_
            rintro _ w ⟨rfl, hS⟩
            have hS : St B w (Cl b1878 [.int .i64 0, .int .i64 0] 64 :: Cl b1876 [.func (.func 37) #[] #[]] 60 :: Cl b1822 [.int .i64 0, .int .i64 0] 64 :: Cl b1820 [.func (.func 36) #[] #[]] 60 :: Cl b1770 [.int .i64 0, .int .i64 0] 64 :: Cl b1768 [.func (.func 35) #[] #[]] 60 :: Cl b1730 [.int .i64 0, .int .i64 0] 64 :: Cl b1728 [.func (.func 34) #[] #[]] 60 :: Cl b1708 [.slice A14 a13.Progs.length c15, .slice A17 a13.Links.length c18, .slice A20 a13.Starts.length c21, .int .u64 a13.Seed, .int .i64 a13.End, .int .i64 a13.Budget] 27 :: l) hf := hS
            refine RL.s (Vl.assign rfl) rfl ?_
            refine RL.nil ?_
            refine RQ.then_n ?_
            by_cases hc1887 : t1885 = true
            case pos =>
              have h := h.pos hc1887
              refine RC.re 24 rfl (congrArg Value.bool (id hc1887)) ?_
              refine RC.condT rfl ?_
              refine RC.seq ?_
              refine RC.region ?_
              refine RL.s (Vl.assign rfl) rfl ?_
              refine RL.nil ?_
              refine RQ.then_n ?_
              refine RC.ret ?_
              refine RQ.inB_ret ?_
              refine RQ.ret ?_
              refine RQ.inB_ret ?_
              refine RQ.ret ?_
              refine RQ.ret ?_
              refine RQ.inB_ret ?_
              refine RQ.ret ?_
              have e := h.some
              subst e
              refine RQ.ret0 (vs := [.int .i64 131]) Tryd.results9 ⟨rfl, trivial⟩ ?_
              exact ⟨rfl, (((((((((hS.dropAt 0 rfl).dropAt 0 rfl).dropAt 0 rfl).dropAt 0 rfl).dropAt 0 rfl).dropAt 0 rfl).dropAt 0 rfl).dropAt 0 rfl).dropAt 0 rfl)⟩
            case neg =>
              have h := h.neg hc1887
              refine RC.re 24 rfl (congrArg Value.bool (eq_false_of hc1887)) ?_
              refine RC.condF rfl ?_
              refine RC.seq ?_
              refine RC.region ?_
              refine RL.s (Vl.move rfl) rfl ?_
              refine RL.s (Vl.makeIface Tryd.underlying28 rfl rfl) rfl ?_
              obtain ⟨t1888, hg1889, h⟩ := h.bind
              refine RL.e (OW.callF (ls := [.tmp 29, .tmp 30]) rfl Tryd.call22 (errors_Is.ok y1881 132 _ hg1889 hS)) rfl rfl ?_
              rintro _ w ⟨rfl, hS⟩
              have hS : St B w (Cl b1878 [.int .i64 0, .int .i64 0] 64 :: Cl b1876 [.func (.func 37) #[] #[]] 60 :: Cl b1822 [.int .i64 0, .int .i64 0] 64 :: Cl b1820 [.func (.func 36) #[] #[]] 60 :: Cl b1770 [.int .i64 0, .int .i64 0] 64 :: Cl b1768 [.func (.func 35) #[] #[]] 60 :: Cl b1730 [.int .i64 0, .int .i64 0] 64 :: Cl b1728 [.func (.func 34) #[] #[]] 60 :: Cl b1708 [.slice A14 a13.Progs.length c15, .slice A17 a13.Links.length c18, .slice A20 a13.Starts.length c21, .int .u64 a13.Seed, .int .i64 a13.End, .int .i64 a13.Budget] 27 :: l) hf := hS
              refine RL.s (Vl.assign rfl) rfl ?_
              refine RL.nil ?_
              refine RQ.then_n ?_
              by_cases hc1890 : t1888 = true
              case pos =>
                have h := h.pos hc1890
                refine RC.re 28 rfl (congrArg Value.bool (id hc1890)) ?_
                refine RC.condT rfl ?_
                refine RC.seq ?_
                refine RC.region ?_
                refine RL.s (Vl.assign rfl) rfl ?_
                refine RL.nil ?_
                refine RQ.then_n ?_
                refine RC.ret ?_
                refine RQ.inB_ret ?_
                refine RQ.ret ?_
                refine RQ.inB_ret ?_
                refine RQ.ret ?_
                refine RQ.ret ?_
                refine RQ.inB_ret ?_
                refine RQ.ret ?_
                have e := h.some
                subst e
                refine RQ.ret0 (vs := [.int .i64 132]) Tryd.results9 ⟨rfl, trivial⟩ ?_
                exact ⟨rfl, (((((((((hS.dropAt 0 rfl).dropAt 0 rfl).dropAt 0 rfl).dropAt 0 rfl).dropAt 0 rfl).dropAt 0 rfl).dropAt 0 rfl).dropAt 0 rfl).dropAt 0 rfl)⟩
              case neg =>
                have h := h.neg hc1890
                refine RC.re 28 rfl (congrArg Value.bool (eq_false_of hc1890)) ?_
                refine RC.condF rfl ?_
                refine RC.skip ?_
                refine RQ.inB_n ?_
                refine RQ.then_n ?_
                refine RC.seq ?_
                refine RC.region ?_
                refine RL.s (Vl.assign rfl) rfl ?_
                refine RL.nil ?_
                refine RQ.then_n ?_
                refine RC.ret ?_
                refine RQ.inB_ret ?_
                refine RQ.ret ?_
                refine RQ.ret ?_
                refine RQ.inB_ret ?_
                refine RQ.ret ?_
                have e := h.some
                subst e
                refine RQ.ret0 (vs := [.int .i64 1]) Tryd.results9 ⟨rfl, trivial⟩ ?_
                exact ⟨rfl, (((((((((hS.dropAt 0 rfl).dropAt 0 rfl).dropAt 0 rfl).dropAt 0 rfl).dropAt 0 rfl).dropAt 0 rfl).dropAt 0 rfl).dropAt 0 rfl).dropAt 0 rfl)⟩
        · refine RL.e (OW.call (ls := [.tmp 13]) rfl rfl Tryd.call37 rfl (model_starts.ok a13 A14 c15 A17 c18 A20 c21 hr16 hr19 hr22 _ hg1880 hS)) rfl rfl ?_
          rintro _ w ⟨rfl, hS⟩
          have hS : St B w (Cl b1878 [.int .i64 0, .int .i64 0] 64 :: Cl b1876 [.func (.func 37) #[] #[]] 60 :: Cl b1822 [.int .i64 0, .int .i64 0] 64 :: Cl b1820 [.func (.func 36) #[] #[]] 60 :: Cl b1770 [.int .i64 0, .int .i64 0] 64 :: Cl b1768 [.func (.func 35) #[] #[]] 60 :: Cl b1730 [.int .i64 0, .int .i64 0] 64 :: Cl b1728 [.func (.func 34) #[] #[]] 60 :: Cl b1708 [.slice A14 a13.Progs.length c15, .slice A17 a13.Links.length c18, .slice A20 a13.Starts.length c21, .int .u64 a13.Seed, .int .i64 a13.End, .int .i64 a13.Budget] 27 :: l) hf := hS
          refine RL.s (Vl.assign rfl) rfl ?_
          refine RL.nil ?_
          refine RQ.then_n ?_
          refine RC.block ?_
          refine RC.seq ?_
          refine RC.region ?_
          refine RL.s (Vl.move rfl) rfl ?_
          refine RL.s (Vl.bin (v := .bool false) rfl rfl (by kernel_rfl)) rfl ?_
          refine RL.s (Vl.assign rfl) rfl ?_
          refine RL.nil ?_
          refine RQ.then_n ?_
          refine RC.condF rfl ?_
          refine RC.seq ?_
          refine RC.region ?_
          refine RL.s (Vl.move rfl) rfl ?_
          refine RL.s (Vl.makeIface Tryd.underlying68 rfl rfl) rfl ?_
          obtain ⟨t1892, hg1893, h⟩ := h.bind
          obtain ⟨y1894, y1895⟩ := t1892
          refine RL.e (OW.callF (ls := [.tmp 19, .tmp 20]) rfl Tryd.call21 (errors_As_3.ok y1891 (⟨0, 0⟩ : model_flaw) b1878 hG0 _ hg1893 hS)) rfl rfl ?_
          rintro _ w ⟨rfl, hS⟩
          have hS : St B w (Cl b1878 [.int .i64 y1895.at_, .int .i64 y1895.why] 64 :: Cl b1876 [.func (.func 37) #[] #[]] 60 :: Cl b1822 [.int .i64 0, .int .i64 0] 64 :: Cl b1820 [.func (.func 36) #[] #[]] 60 :: Cl b1770 [.int .i64 0, .int .i64 0] 64 :: Cl b1768 [.func (.func 35) #[] #[]] 60 :: Cl b1730 [.int .i64 0, .int .i64 0] 64 :: Cl b1728 [.func (.func 34) #[] #[]] 60 :: Cl b1708 [.slice A14 a13.Progs.length c15, .slice A17 a13.Links.length c18, .slice A20 a13.Starts.length c21, .int .u64 a13.Seed, .int .i64 a13.End, .int .i64 a13.Budget] 27 :: l) hf := hS
          refine RL.s (Vl.assign rfl) rfl ?_
          refine RL.nil ?_
          refine RQ.then_n ?_
          by_cases hc1896 : y1894 = true
          case pos =>
            have h := h.pos hc1896
            refine RC.re 18 rfl (congrArg Value.bool (id hc1896)) ?_
            refine RC.condT rfl ?_
            refine RC.seq ?_
            refine RC.region ?_
            refine RL.s (Vl.fieldAddr (a'' := ⟨b1878, 1, none⟩) Tryd.underlying64 rfl Tryd.sizeOf28 rfl rfl) rfl ?_
            refine RL.s (Vl.load Tryd.isAgg28 rfl (hS.cell 0 rfl rfl)) rfl ?_
            refine RL.s (Vl.assign rfl) rfl ?_
            refine RL.nil ?_
            refine RQ.then_n ?_
            refine RC.ret ?_
            refine RQ.inB_ret ?_
            refine RQ.ret ?_
            refine RQ.inB_ret ?_
            refine RQ.ret ?_
            refine RQ.ret ?_
            refine RQ.inB_ret ?_
            refine RQ.ret ?_
            have e := h.some
            subst e
            refine RQ.ret0 (vs := [.int .i64 y1895.why]) Tryd.results9 ⟨rfl, trivial⟩ ?_
            exact ⟨rfl, (((((((((hS.dropAt 0 rfl).dropAt 0 rfl).dropAt 0 rfl).dropAt 0 rfl).dropAt 0 rfl).dropAt 0 rfl).dropAt 0 rfl).dropAt 0 rfl).dropAt 0 rfl)⟩
          case neg =>
            have h := h.neg hc1896
            refine RC.re 18 rfl (congrArg Value.bool (eq_false_of hc1896)) ?_
            refine RC.condF rfl ?_
            refine RC.seq ?_
            refine RC.region ?_
            refine RL.s (Vl.move rfl) rfl ?_
            refine RL.s (Vl.makeIface Tryd.underlying28 rfl rfl) rfl ?_
            obtain ⟨t1897, hg1898, h⟩ := h.bind
            refine RL.e (OW.callF (ls := [.tmp 25, .tmp 26]) rfl Tryd.call22 (errors_Is_5.ok y1891 131 _ hg1898 hS)) rfl rfl ?_
            rintro _ w ⟨rfl, hS⟩
            have hS : St B w (Cl b1878 [.int .i64 y1895.at_, .int .i64 y1895.why] 64 :: Cl b1876 [.func (.func 37) #[] #[]] 60 :: Cl b1822 [.int .i64 0, .int .i64 0] 64 :: Cl b1820 [.func (.func 36) #[] #[]] 60 :: Cl b1770 [.int .i64 0, .int .i64 0] 64 :: Cl b1768 [.func (.func 35) #[] #[]] 60 :: Cl b1730 [.int .i64 0, .int .i64 0] 64 :: Cl b1728 [.func (.func 34) #[] #[]] 60 :: Cl b1708 [.slice A14 a13.Progs.length c15, .slice A17 a13.Links.length c18, .slice A20 a13.Starts.length c21, .int .u64 a13.Seed, .int .i64 a13.End, .int .i64 a13.Budget] 27 :: l) hf := hS
            refine RL.s (Vl.assign rfl) rfl ?_
            refine RL.nil ?_
            refine RQ.then_n ?_
            by_cases hc1899 : t1897 = true
            case pos =>
              have h := h.pos hc1899
              refine RC.re 24 rfl (congrArg Value.bool (id hc1899)) ?_
              refine RC.condT rfl ?_
              refine RC.seq ?_
              refine RC.region ?_
              refine RL.s (Vl.assign rfl) rfl ?_
              refine RL.nil ?_
              refine RQ.then_n ?_
              refine RC.ret ?_
              refine RQ.inB_ret ?_
              refine RQ.ret ?_
              refine RQ.inB_ret ?_
              refine RQ.ret ?_
              refine RQ.ret ?_
              refine RQ.inB_ret ?_
              refine RQ.ret ?_
              have e := h.some
              subst e
              refine RQ.ret0 (vs := [.int .i64 131]) Tryd.results9 ⟨rfl, trivial⟩ ?_
              exact ⟨rfl, (((((((((hS.dropAt 0 rfl).dropAt 0 rfl).dropAt 0 rfl).dropAt 0 rfl).dropAt 0 rfl).dropAt 0 rfl).dropAt 0 rfl).dropAt 0 rfl).dropAt 0 rfl)⟩
            case neg =>
              have h := h.neg hc1899
              refine RC.re 24 rfl (congrArg Value.bool (eq_false_of hc1899)) ?_
              refine RC.condF rfl ?_
              refine RC.seq ?_
              refine RC.region ?_
              refine RL.s (Vl.move rfl) rfl ?_
              refine RL.s (Vl.makeIface Tryd.underlying28 rfl rfl) rfl ?_
              obtain ⟨t1900, hg1901, h⟩ := h.bind
              refine RL.e (OW.callF (ls := [.tmp 29, .tmp 30]) rfl Tryd.call22 (errors_Is_5.ok y1891 132 _ hg1901 hS)) rfl rfl ?_
              rintro _ w ⟨rfl, hS⟩
              have hS : St B w (Cl b1878 [.int .i64 y1895.at_, .int .i64 y1895.why] 64 :: Cl b1876 [.func (.func 37) #[] #[]] 60 :: Cl b1822 [.int .i64 0, .int .i64 0] 64 :: Cl b1820 [.func (.func 36) #[] #[]] 60 :: Cl b1770 [.int .i64 0, .int .i64 0] 64 :: Cl b1768 [.func (.func 35) #[] #[]] 60 :: Cl b1730 [.int .i64 0, .int .i64 0] 64 :: Cl b1728 [.func (.func 34) #[] #[]] 60 :: Cl b1708 [.slice A14 a13.Progs.length c15, .slice A17 a13.Links.length c18, .slice A20 a13.Starts.length c21, .int .u64 a13.Seed, .int .i64 a13.End, .int .i64 a13.Budget] 27 :: l) hf := hS
              refine RL.s (Vl.assign rfl) rfl ?_
              refine RL.nil ?_
              refine RQ.then_n ?_
              by_cases hc1902 : t1900 = true
              case pos =>
                have h := h.pos hc1902
                refine RC.re 28 rfl (congrArg Value.bool (id hc1902)) ?_
                refine RC.condT rfl ?_
                refine RC.seq ?_
                refine RC.region ?_
                refine RL.s (Vl.assign rfl) rfl ?_
                refine RL.nil ?_
                refine RQ.then_n ?_
                refine RC.ret ?_
                refine RQ.inB_ret ?_
                refine RQ.ret ?_
                refine RQ.inB_ret ?_
                refine RQ.ret ?_
                refine RQ.ret ?_
                refine RQ.inB_ret ?_
                refine RQ.ret ?_
                have e := h.some
                subst e
                refine RQ.ret0 (vs := [.int .i64 132]) Tryd.results9 ⟨rfl, trivial⟩ ?_
                exact ⟨rfl, (((((((((hS.dropAt 0 rfl).dropAt 0 rfl).dropAt 0 rfl).dropAt 0 rfl).dropAt 0 rfl).dropAt 0 rfl).dropAt 0 rfl).dropAt 0 rfl).dropAt 0 rfl)⟩
              case neg =>
                have h := h.neg hc1902
                refine RC.re 28 rfl (congrArg Value.bool (eq_false_of hc1902)) ?_
                refine RC.condF rfl ?_
                refine RC.skip ?_
                refine RQ.inB_n ?_
                refine RQ.then_n ?_
                refine RC.seq ?_
                refine RC.region ?_
                refine RL.s (Vl.assign rfl) rfl ?_
                refine RL.nil ?_
                refine RQ.then_n ?_
                refine RC.ret ?_
                refine RQ.inB_ret ?_
                refine RQ.ret ?_
                refine RQ.ret ?_
                refine RQ.inB_ret ?_
                refine RQ.ret ?_
                have e := h.some
                subst e
                refine RQ.ret0 (vs := [.int .i64 1]) Tryd.results9 ⟨rfl, trivial⟩ ?_
                exact ⟨rfl, (((((((((hS.dropAt 0 rfl).dropAt 0 rfl).dropAt 0 rfl).dropAt 0 rfl).dropAt 0 rfl).dropAt 0 rfl).dropAt 0 rfl).dropAt 0 rfl).dropAt 0 rfl)⟩
        · refine RL.e (OW.call (ls := [.tmp 13]) rfl rfl Tryd.call37 rfl (model_starts.ok a13 A14 c15 A17 c18 A20 c21 hr16 hr19 hr22 _ hg1880 hS)) rfl rfl ?_
          rintro _ w ⟨rfl, hS⟩
          have hS : St B w (Cl b1878 [.int .i64 0, .int .i64 0] 64 :: Cl b1876 [.func (.func 37) #[] #[]] 60 :: Cl b1822 [.int .i64 0, .int .i64 0] 64 :: Cl b1820 [.func (.func 36) #[] #[]] 60 :: Cl b1770 [.int .i64 0, .int .i64 0] 64 :: Cl b1768 [.func (.func 35) #[] #[]] 60 :: Cl b1730 [.int .i64 0, .int .i64 0] 64 :: Cl b1728 [.func (.func 34) #[] #[]] 60 :: Cl b1708 [.slice A14 a13.Progs.length c15, .slice A17 a13.Links.length c18, .slice A20 a13.Starts.length c21, .int .u64 a13.Seed, .int .i64 a13.End, .int .i64 a13.Budget] 27 :: l) hf := hS
          refine RL.s (Vl.assign rfl) rfl ?_
          refine RL.nil ?_
          refine RQ.then_n ?_
          refine RC.block ?_
          refine RC.seq ?_
          refine RC.region ?_
          refine RL.s (Vl.move rfl) rfl ?_
          refine RL.s (Vl.bin (v := .bool true) rfl rfl (by kernel_rfl)) rfl ?_
          refine RL.s (Vl.assign rfl) rfl ?_
          refine RL.nil ?_
          refine RQ.then_n ?_
          refine RC.condT rfl ?_
          refine RC.exit ?_
          refine RQ.inB_miss rfl ?_
          refine RQ.exitT ?_
          refine RQ.inB_hit ?_
          refine RQ.then_n ?_
          refine RC.region ?_
          refine RL.s (Vl.int rfl rfl rfl) rfl ?_
          refine RL.s (Vl.move rfl) rfl ?_
          refine RL.nil ?_
          refine RQ.then_n ?_
          refine RQ.round ?_
          refine RC.seq ?_
          refine RC.region ?_
          refine RL.s (Vl.int rfl rfl rfl) rfl ?_
          refine RL.nil ?_
          refine RQ.then_n ?_
          refine RC.seq ?_
          refine RC.condF rfl ?_
          refine RC.exit ?_
          refine RQ.exitT ?_
          refine RQ.exitT ?_
          refine RQ.inB_hit ?_
          refine RQ.then_n ?_
          refine RC.seq ?_
          refine RC.region ?_
          refine RL.s (Vl.assign rfl) rfl ?_
          refine RL.nil ?_
          refine RQ.then_n ?_
          refine RC.ret ?_
          have e := h.some
          subst e
          refine RQ.ret0 (vs := [.int .i64 0]) Tryd.results9 ⟨rfl, trivial⟩ ?_
          exact ⟨rfl, (((((((((hS.dropAt 0 rfl).dropAt 0 rfl).dropAt 0 rfl).dropAt 0 rfl).dropAt 0 rfl).dropAt 0 rfl).dropAt 0 rfl).dropAt 0 rfl).dropAt 0 rfl)⟩

/-! ### isochron/isochronref01.Valid: function 23 -/
noncomputable def isochronref01vValid.f (a1919 : Int) : Option (Bool) := (if 0 ≤ a1919 then some (decide (a1919 ≤ 4611686018427387903)) else some false)
set_option maxRecDepth 100000 in
set_option maxHeartbeats 4000000 in
theorem isochronref01vValid.ok {B : Base} {w : World} {l : List HProp} {hf : Hp} (a1919 : Int) (r : Bool) (h : isochronref01vValid.f a1919 = some r) (hS : St B w (l) hf) :
    Calls Tryd.prog 23 #[.int .i64 a1919] w (Ret fun v w => v = .bool r ∧ St B w (l) hf) := by
  have h := Holds.of h
  refine enter (args := [.int .i64 a1919]) Tryd.func23 rfl Tryd.ntmps23 (Nat.le_of_ble_eq_true rfl) ?_
  refine RC.seq ?_
  refine RC.region ?_
  refine RL.s (Vl.assign rfl) rfl ?_
  refine RL.nil ?_
  refine RQ.then_n ?_
  refine RC.seq ?_
  refine RC.region ?_
  refine RL.s (Vl.move rfl) rfl ?_
  refine RL.s (Vl.int rfl rfl rfl) rfl ?_
  refine RL.s (Vl.move rfl) rfl ?_
  by_cases hc1921 : 0 ≤ a1919
  case pos =>
    have h := h.pos hc1921
    refine RL.re 5 rfl (congrArg Value.bool (decide_eq_true hc1921)) ?_
    refine RL.sg (Vl.move rfl) rfl rfl ?_
    refine RL.sg (Vl.int rfl rfl rfl) rfl rfl ?_
    refine RL.s (Vl.pickT rfl rfl) rfl ?_
    refine RL.s (Vl.assign rfl) rfl ?_
    refine RL.nil ?_
    refine RQ.then_n ?_
    refine RC.ret ?_
    have e := h.some
    subst e
    refine RQ.ret0 (vs := [.bool (decide (a1919 ≤ 4611686018427387903))]) Tryd.results23 ⟨rfl, trivial⟩ ?_
    exact ⟨rfl, hS⟩
  case neg =>
    have h := h.neg hc1921
    refine RL.re 5 rfl (congrArg Value.bool (decide_eq_false hc1921)) ?_
    refine RL.nn rfl rfl ?_
    refine RL.nn rfl rfl ?_
    refine RL.s (Vl.pickF rfl rfl) rfl ?_
    refine RL.s (Vl.assign rfl) rfl ?_
    refine RL.nil ?_
    refine RQ.then_n ?_
    refine RC.ret ?_
    have e := h.some
    subst e
    refine RQ.ret0 (vs := [.bool false]) Tryd.results23 ⟨rfl, trivial⟩ ?_
    exact ⟨rfl, hS⟩

/-! ### isochron/isochronref03.reg: function 49 -/
noncomputable def isochronref03vreg.f (a1956 : Int) : Option (Bool) := (if 0 ≤ a1956 then some (decide (a1956 ≤ 15)) else some false)
set_option maxRecDepth 100000 in
set_option maxHeartbeats 4000000 in
theorem isochronref03vreg.ok {B : Base} {w : World} {l : List HProp} {hf : Hp} (a1956 : Int) (r : Bool) (h : isochronref03vreg.f a1956 = some r) (hS : St B w (l) hf) :
    Calls Tryd.prog 49 #[.int .i64 a1956] w (Ret fun v w => v = .bool r ∧ St B w (l) hf) := by
  have h := Holds.of h
  refine enter (args := [.int .i64 a1956]) Tryd.func49 rfl Tryd.ntmps49 (Nat.le_of_ble_eq_true rfl) ?_
  refine RC.seq ?_
  refine RC.region ?_
  refine RL.s (Vl.assign rfl) rfl ?_
  refine RL.nil ?_
  refine RQ.then_n ?_
  refine RC.seq ?_
  refine RC.region ?_
  refine RL.s (Vl.move rfl) rfl ?_
  refine RL.s (Vl.int rfl rfl rfl) rfl ?_
  refine RL.s (Vl.move rfl) rfl ?_
  by_cases hc1958 : 0 ≤ a1956
  case pos =>
    have h := h.pos hc1958
    refine RL.re 5 rfl (congrArg Value.bool (decide_eq_true hc1958)) ?_
    refine RL.sg (Vl.move rfl) rfl rfl ?_
    refine RL.sg (Vl.int rfl rfl rfl) rfl rfl ?_
    refine RL.s (Vl.pickT rfl rfl) rfl ?_
    refine RL.s (Vl.assign rfl) rfl ?_
    refine RL.nil ?_
    refine RQ.then_n ?_
    refine RC.ret ?_
    have e := h.some
    subst e
    refine RQ.ret0 (vs := [.bool (decide (a1956 ≤ 15))]) Tryd.results49 ⟨rfl, trivial⟩ ?_
    exact ⟨rfl, hS⟩
  case neg =>
    have h := h.neg hc1958
    refine RL.re 5 rfl (congrArg Value.bool (decide_eq_false hc1958)) ?_
    refine RL.nn rfl rfl ?_
    refine RL.nn rfl rfl ?_
    refine RL.s (Vl.pickF rfl rfl) rfl ?_
    refine RL.s (Vl.assign rfl) rfl ?_
    refine RL.nil ?_
    refine RQ.then_n ?_
    refine RC.ret ?_
    have e := h.some
    subst e
    refine RQ.ret0 (vs := [.bool false]) Tryd.results49 ⟨rfl, trivial⟩ ?_
    exact ⟨rfl, hS⟩

/-! ### isochron/isochronref03.may: function 44 -/
noncomputable def isochronref03vmay.j6 (a1948 : api_Instr) (q2067 : Bool) : Option (Bool) := (if q2067 = true then ((isochronref03vreg.f a1948.A).bind fun t2069 => (if t2069 = true then (if a1948.B = 0 then some (decide (a1948.C = 0)) else some false) else some false)) else some false)
noncomputable def isochronref03vmay.j5 (a1948 : api_Instr) (a1949 : Int) (q2045 : Bool) : Option (Bool) := (if q2045 = true then ((isochronref03vreg.f a1948.A).bind fun t2047 => (if t2047 = true then ((isochronref03vreg.f a1948.B).bind fun t2050 => (if t2050 = true then ((isochronref03vreg.f a1948.C).bind fun t2053 => some t2053) else some false)) else some false)) else (if a1948.Op = 10 then (if 0 ≤ a1948.A then (if a1948.A ≤ a1949 then (if a1948.B = 0 then some (decide (a1948.C = 0)) else some false) else some false) else some false) else (if a1948.Op = 11 then ((isochronref03vreg.f a1948.A).bind fun t2060 => (if t2060 = true then (if 0 ≤ a1948.B then (if a1948.B ≤ a1949 then some (decide (a1948.C = 0)) else some false) else some false) else some false)) else (if a1948.Op = 14 then isochronref03vmay.j6 a1948 true else (if a1948.Op = 15 then isochronref03vmay.j6 a1948 true else isochronref03vmay.j6 a1948 (decide (a1948.Op = 16)))))))
noncomputable def isochronref03vmay.j4 (a1948 : api_Instr) (a1949 : Int) (q2030 : Bool) : Option (Bool) := (if q2030 = true then ((isochronref03vreg.f a1948.A).bind fun t2032 => (if t2032 = true then ((isochronref03vreg.f a1948.B).bind fun t2035 => (if t2035 = true then some (decide (a1948.C = 0)) else some false)) else some false)) else (if a1948.Op = 3 then isochronref03vmay.j5 a1948 a1949 true else (if a1948.Op = 4 then isochronref03vmay.j5 a1948 a1949 true else (if a1948.Op = 5 then isochronref03vmay.j5 a1948 a1949 true else (if a1948.Op = 6 then isochronref03vmay.j5 a1948 a1949 true else (if a1948.Op = 7 then isochronref03vmay.j5 a1948 a1949 true else (if a1948.Op = 8 then isochronref03vmay.j5 a1948 a1949 true else (if a1948.Op = 9 then isochronref03vmay.j5 a1948 a1949 true else isochronref03vmay.j5 a1948 a1949 (decide (a1948.Op = 12))))))))))
noncomputable def isochronref03vmay.f (a1948 : api_Instr) (a1949 : Int) : Option (Bool) := (if a1948.Op = 0 then (if a1948.A = 0 then (if a1948.B = 0 then some (decide (a1948.C = 0)) else some false) else some false) else (if a1948.Op = 1 then ((isochronref03vreg.f a1948.A).bind fun t2024 => (if t2024 = true then (if (-2147483648) ≤ a1948.B then (if a1948.B ≤ 2147483647 then some (decide (a1948.C = 0)) else some false) else some false) else some false)) else (if a1948.Op = 2 then isochronref03vmay.j4 a1948 a1949 true else isochronref03vmay.j4 a1948 a1949 (decide (a1948.Op = 13)))))
set_option maxRecDepth 100000 in
set_option maxHeartbeats 4000000 in
theorem isochronref03vmay.ok {B : Base} {w : World} {l : List HProp} {hf : Hp} (a1948 : api_Instr) (a1949 : Int) (r : Bool) (h : isochronref03vmay.f a1948 a1949 = some r) (hS : St B w (l) hf) :
    Calls Tryd.prog 44 #[.agg #[.int .i64 a1948.Op, .int .i64 a1948.A, .int .i64 a1948.B, .int .i64 a1948.C], .int .i64 a1949] w (Ret fun v w => v = .bool r ∧ St B w (l) hf) := by
  have h := Holds.of h
  refine enter (args := [.agg #[.int .i64 a1948.Op, .int .i64 a1948.A, .int .i64 a1948.B, .int .i64 a1948.C], .int .i64 a1949]) Tryd.func44 rfl Tryd.ntmps44 (Nat.le_of_ble_eq_true rfl) ?_
  refine RC.seq ?_
  refine RC.region ?_
  refine RL.e (OW.box (cs := [.int .i64 a1948.Op, .int .i64 a1948.A, .int .i64 a1948.B, .int .i64 a1948.C]) hS rfl rfl) rfl rfl ?_
  rintro _ w ⟨b2019, rfl, hS⟩
  have hS : St B w (Cl b2019 [.int .i64 a1948.Op, .int .i64 a1948.A, .int .i64 a1948.B, .int .i64 a1948.C] 34 :: l) hf := hS
  refine RL.s (Vl.assign rfl) rfl ?_
  refine RL.nil ?_
  refine RQ.then_n ?_
  refine RC.seq ?_
  refine RC.seq ?_
  refine RC.region ?_
  refine RL.s (Vl.fieldAddr (a'' := ⟨b2019, 0, none⟩) Tryd.underlying34 rfl Tryd.sizeOf3 rfl rfl) rfl ?_
  refine RL.s (Vl.load Tryd.isAgg3 rfl (hS.cell 0 rfl rfl)) rfl ?_
  refine RL.nil ?_
  refine RQ.then_n ?_
  refine RC.block ?_
  refine RC.seq ?_
  refine RC.region ?_
  refine RL.s (Vl.int rfl rfl rfl) rfl ?_
  refine RL.s (Vl.assign rfl) rfl ?_
  refine RL.nil ?_
  refine RQ.then_n ?_
  by_cases hc2020 : a1948.Op = 0
  case pos =>
    have h := h.pos hc2020
    refine RC.re 7 rfl (congrArg Value.bool (decide_eq_true hc2020)) ?_
    refine RC.condT rfl ?_
    refine RC.seq ?_
    refine RC.region ?_
    refine RL.s (Vl.fieldAddr (a'' := ⟨b2019, 1, none⟩) Tryd.underlying34 rfl Tryd.sizeOf3 rfl rfl) rfl ?_
    refine RL.s (Vl.load Tryd.isAgg3 rfl (hS.cell 0 rfl rfl)) rfl ?_
    refine RL.s (Vl.int rfl rfl rfl) rfl ?_
    refine RL.s (Vl.move rfl) rfl ?_
    by_cases hc2021 : a1948.A = 0
    case pos =>
      have h := h.pos hc2021
      refine RL.re 12 rfl (congrArg Value.bool (decide_eq_true hc2021)) ?_
      refine RL.sg (Vl.fieldAddr (a'' := ⟨b2019, 2, none⟩) Tryd.underlying34 rfl Tryd.sizeOf3 rfl rfl) rfl rfl ?_
      refine RL.sg (Vl.load Tryd.isAgg3 rfl (hS.cell 0 rfl rfl)) rfl rfl ?_
      refine RL.sg (Vl.int rfl rfl rfl) rfl rfl ?_
      refine RL.s (Vl.pickT rfl rfl) rfl ?_
      refine RL.s (Vl.move rfl) rfl ?_
      by_cases hc2022 : a1948.B = 0
      case pos =>
        have h := h.pos hc2022
        refine RL.re 17 rfl (congrArg Value.bool (decide_eq_true hc2022)) ?_
        refine RL.sg (Vl.fieldAddr (a'' := ⟨b2019, 3, none⟩) Tryd.underlying34 rfl Tryd.sizeOf3 rfl rfl) rfl rfl ?_
        refine RL.sg (Vl.load Tryd.isAgg3 rfl (hS.cell 0 rfl rfl)) rfl rfl ?_
        refine RL.sg (Vl.int rfl rfl rfl) rfl rfl ?_
        refine RL.s (Vl.pickT rfl rfl) rfl ?_
        refine RL.s (Vl.assign rfl) rfl ?_
        refine RL.nil ?_
        refine RQ.then_n ?_
        refine RC.ret ?_
        refine RQ.inB_ret ?_
        refine RQ.ret ?_
        have e := h.some
        subst e
        refine RQ.ret0 (vs := [.bool (decide (a1948.C = 0))]) Tryd.results44 ⟨rfl, trivial⟩ ?_
        exact ⟨rfl, (hS.dropAt 0 rfl)⟩
      case neg =>
        have h := h.neg hc2022
        refine RL.re 17 rfl (congrArg Value.bool (decide_eq_false hc2022)) ?_
        refine RL.nn rfl rfl ?_
        refine RL.nn rfl rfl ?_
        refine RL.nn rfl rfl ?_
        refine RL.s (Vl.pickF rfl rfl) rfl ?_
        refine RL.s (Vl.assign rfl) rfl ?_
        refine RL.nil ?_
        refine RQ.then_n ?_
        refine RC.ret ?_
        refine RQ.inB_ret ?_
        refine RQ.ret ?_
        have e := h.some
        subst e
        refine RQ.ret0 (vs := [.bool false]) Tryd.results44 ⟨rfl, trivial⟩ ?_
        exact ⟨rfl, (hS.dropAt 0 rfl)⟩
    case neg =>
      have h := h.neg hc2021
      refine RL.re 12 rfl (congrArg Value.bool (decide_eq_false hc2021)) ?_
      refine RL.nn rfl rfl ?_
      refine RL.nn rfl rfl ?_
      refine RL.nn rfl rfl ?_
      refine RL.s (Vl.pickF rfl rfl) rfl ?_
      refine RL.s (Vl.move rfl) rfl ?_
      refine RL.nn rfl rfl ?_
      refine RL.nn rfl rfl ?_
      refine RL.nn rfl rfl ?_
      refine RL.s (Vl.pickF rfl rfl) rfl ?_
      refine RL.s (Vl.assign rfl) rfl ?_
      refine RL.nil ?_
      refine RQ.then_n ?_
      refine RC.ret ?_
      refine RQ.inB_ret ?_
      refine RQ.ret ?_
      have e := h.some
      subst e
      refine RQ.ret0 (vs := [.bool false]) Tryd.results44 ⟨rfl, trivial⟩ ?_
      exact ⟨rfl, (hS.dropAt 0 rfl)⟩
  case neg =>
    have h := h.neg hc2020
    refine RC.re 7 rfl (congrArg Value.bool (decide_eq_false hc2020)) ?_
    refine RC.condF rfl ?_
    refine RC.seq ?_
    refine RC.region ?_
    refine RL.s (Vl.int rfl rfl rfl) rfl ?_
    refine RL.s (Vl.assign rfl) rfl ?_
    refine RL.nil ?_
    refine RQ.then_n ?_
    by_cases hc2023 : a1948.Op = 1
    case pos =>
      have h := h.pos hc2023
      refine RC.re 22 rfl (congrArg Value.bool (decide_eq_true hc2023)) ?_
      refine RC.condT rfl ?_
      refine RC.seq ?_
      refine RC.region ?_
      refine RL.s (Vl.fieldAddr (a'' := ⟨b2019, 1, none⟩) Tryd.underlying34 rfl Tryd.sizeOf3 rfl rfl) rfl ?_
      refine RL.s (Vl.load Tryd.isAgg3 rfl (hS.cell 0 rfl rfl)) rfl ?_
      obtain ⟨t2024, hg2025, h⟩ := h.bind
      refine RL.e (OW.callF (ls := [.tmp 25]) rfl Tryd.call49 (isochronref03vreg.ok a1948.A _ hg2025 hS)) rfl rfl ?_
      rintro _ w ⟨rfl, hS⟩
      have hS : St B w (Cl b2019 [.int .i64 a1948.Op, .int .i64 a1948.A, .int .i64 a1948.B, .int .i64 a1948.C] 34 :: l) hf := hS
      refine RL.s (Vl.move rfl) rfl ?_
      by_cases hc2026 : t2024 = true
      case pos =>
        have h := h.pos hc2026
        refine RL.re 27 rfl (congrArg Value.bool (id hc2026)) ?_
        refine RL.sg (Vl.fieldAddr (a'' := ⟨b2019, 2, none⟩) Tryd.underlying34 rfl Tryd.sizeOf3 rfl rfl) rfl rfl ?_
        refine RL.sg (Vl.load Tryd.isAgg3 rfl (hS.cell 0 rfl rfl)) rfl rfl ?_
        refine RL.sg (Vl.int rfl rfl rfl) rfl rfl ?_
        refine RL.s (Vl.pickT rfl rfl) rfl ?_
        refine RL.s (Vl.move rfl) rfl ?_
        by_cases hc2027 : (-2147483648) ≤ a1948.B
        case pos =>
          have h := h.pos hc2027
          refine RL.re 32 rfl (congrArg Value.bool (decide_eq_true hc2027)) ?_
          refine RL.sg (Vl.fieldAddr (a'' := ⟨b2019, 2, none⟩) Tryd.underlying34 rfl Tryd.sizeOf3 rfl rfl) rfl rfl ?_
          refine RL.sg (Vl.load Tryd.isAgg3 rfl (hS.cell 0 rfl rfl)) rfl rfl ?_
          refine RL.sg (Vl.int rfl rfl rfl) rfl rfl ?_
          refine RL.s (Vl.pickT rfl rfl) rfl ?_
          refine RL.s (Vl.move rfl) rfl ?_
          by_cases hc2028 : a1948.B ≤ 2147483647
          case pos =>
            have h := h.pos hc2028
            refine RL.re 37 rfl (congrArg Value.bool (decide_eq_true hc2028)) ?_
            refine RL.sg (Vl.fieldAddr (a'' := ⟨b2019, 3, none⟩) Tryd.underlying34 rfl Tryd.sizeOf3 rfl rfl) rfl rfl ?_
            refine RL.sg (Vl.load Tryd.isAgg3 rfl (hS.cell 0 rfl rfl)) rfl rfl ?_
            refine RL.sg (Vl.int rfl rfl rfl) rfl rfl ?_
            refine RL.s (Vl.pickT rfl rfl) rfl ?_
            refine RL.s (Vl.assign rfl) rfl ?_
            refine RL.nil ?_
            refine RQ.then_n ?_
            refine RC.ret ?_
            refine RQ.inB_ret ?_
            refine RQ.ret ?_
            have e := h.some
            subst e
            refine RQ.ret0 (vs := [.bool (decide (a1948.C = 0))]) Tryd.results44 ⟨rfl, trivial⟩ ?_
            exact ⟨rfl, (hS.dropAt 0 rfl)⟩
          case neg =>
            have h := h.neg hc2028
            refine RL.re 37 rfl (congrArg Value.bool (decide_eq_false hc2028)) ?_
            refine RL.nn rfl rfl ?_
            refine RL.nn rfl rfl ?_
            refine RL.nn rfl rfl ?_
            refine RL.s (Vl.pickF rfl rfl) rfl ?_
            refine RL.s (Vl.assign rfl) rfl ?_
            refine RL.nil ?_
            refine RQ.then_n ?_
            refine RC.ret ?_
            refine RQ.inB_ret ?_
            refine RQ.ret ?_
            have e := h.some
            subst e
            refine RQ.ret0 (vs := [.bool false]) Tryd.results44 ⟨rfl, trivial⟩ ?_
            exact ⟨rfl, (hS.dropAt 0 rfl)⟩
        case neg =>
          have h := h.neg hc2027
          refine RL.re 32 rfl (congrArg Value.bool (decide_eq_false hc2027)) ?_
          refine RL.nn rfl rfl ?_
          refine RL.nn rfl rfl ?_
          refine RL.nn rfl rfl ?_
          refine RL.s (Vl.pickF rfl rfl) rfl ?_
          refine RL.s (Vl.move rfl) rfl ?_
          refine RL.nn rfl rfl ?_
          refine RL.nn rfl rfl ?_
          refine RL.nn rfl rfl ?_
          refine RL.s (Vl.pickF rfl rfl) rfl ?_
          refine RL.s (Vl.assign rfl) rfl ?_
          refine RL.nil ?_
          refine RQ.then_n ?_
          refine RC.ret ?_
          refine RQ.inB_ret ?_
          refine RQ.ret ?_
          have e := h.some
          subst e
          refine RQ.ret0 (vs := [.bool false]) Tryd.results44 ⟨rfl, trivial⟩ ?_
          exact ⟨rfl, (hS.dropAt 0 rfl)⟩
      case neg =>
        have h := h.neg hc2026
        refine RL.re 27 rfl (congrArg Value.bool (eq_false_of hc2026)) ?_
        refine RL.nn rfl rfl ?_
        refine RL.nn rfl rfl ?_
        refine RL.nn rfl rfl ?_
        refine RL.s (Vl.pickF rfl rfl) rfl ?_
        refine RL.s (Vl.move rfl) rfl ?_
        refine RL.nn rfl rfl ?_
        refine RL.nn rfl rfl ?_
        refine RL.nn rfl rfl ?_
        refine RL.s (Vl.pickF rfl rfl) rfl ?_
        refine RL.s (Vl.move rfl) rfl ?_
        refine RL.nn rfl rfl ?_
        refine RL.nn rfl rfl ?_
        refine RL.nn rfl rfl ?_
        refine RL.s (Vl.pickF rfl rfl) rfl ?_
        refine RL.s (Vl.assign rfl) rfl ?_
        refine RL.nil ?_
        refine RQ.then_n ?_
        refine RC.ret ?_
        refine RQ.inB_ret ?_
        refine RQ.ret ?_
        have e := h.some
        subst e
        refine RQ.ret0 (vs := [.bool false]) Tryd.results44 ⟨rfl, trivial⟩ ?_
        exact ⟨rfl, (hS.dropAt 0 rfl)⟩
    case neg =>
      have h := h.neg hc2023
      refine RC.re 22 rfl (congrArg Value.bool (decide_eq_false hc2023)) ?_
      refine RC.condF rfl ?_
      refine RC.join (fun (s : Bool) a w => ∃ (q2030 : Bool), s = (q2030) ∧ Has 139 [(1, .int .i64 a1949), (2, .pointer (some ⟨b2019, 0, none⟩)), (6, .int .i64 a1948.Op), (42, .bool q2030)] a ∧ St B w (Cl b2019 [.int .i64 a1948.Op, .int .i64 a1948.A, .int .i64 a1948.B, .int .i64 a1948.C] 34 :: l) hf ∧ Holds (· = r) (isochronref03vmay.j4 a1948 a1949 q2030)) ?_ ?_
      · rintro q2030 a w ⟨_, rfl, ha, hS, h⟩
        revert a
        show RC _ _ _ _ _ _
        by_cases hc2031 : q2030 = true
        case pos =>
          have h := h.pos hc2031
          refine RC.re 42 rfl (congrArg Value.bool (id hc2031)) ?_
          refine RC.condT rfl ?_
          refine RC.seq ?_
          refine RC.region ?_
          refine RL.s (Vl.fieldAddr (a'' := ⟨b2019, 1, none⟩) Tryd.underlying34 rfl Tryd.sizeOf3 rfl rfl) rfl ?_
          refine RL.s (Vl.load Tryd.isAgg3 rfl (hS.cell 0 rfl rfl)) rfl ?_
          obtain ⟨t2032, hg2033, h⟩ := h.bind
          refine RL.e (OW.callF (ls := [.tmp 46]) rfl Tryd.call49 (isochronref03vreg.ok a1948.A _ hg2033 hS)) rfl rfl ?_
          rintro _ w ⟨rfl, hS⟩
          have hS : St B w (Cl b2019 [.int .i64 a1948.Op, .int .i64 a1948.A, .int .i64 a1948.B, .int .i64 a1948.C] 34 :: l) hf := hS
          refine RL.s (Vl.move rfl) rfl ?_
          by_cases hc2034 : t2032 = true
          case pos =>
            have h := h.pos hc2034
            refine RL.re 48 rfl (congrArg Value.bool (id hc2034)) ?_
            refine RL.sg (Vl.fieldAddr (a'' := ⟨b2019, 2, none⟩) Tryd.underlying34 rfl Tryd.sizeOf3 rfl rfl) rfl rfl ?_
            refine RL.sg (Vl.load Tryd.isAgg3 rfl (hS.cell 0 rfl rfl)) rfl rfl ?_
            obtain ⟨t2035, hg2036, h⟩ := h.bind
            refine RL.e (OW.callF (ls := [.tmp 50]) rfl Tryd.call49 (isochronref03vreg.ok a1948.B _ hg2036 hS)) rfl rfl ?_
            rintro _ w ⟨rfl, hS⟩
            have hS : St B w (Cl b2019 [.int .i64 a1948.Op, .int .i64 a1948.A, .int .i64 a1948.B, .int .i64 a1948.C] 34 :: l) hf := hS
            refine RL.s (Vl.pickT rfl rfl) rfl ?_
            refine RL.s (Vl.move rfl) rfl ?_
            by_cases hc2037 : t2035 = true
            case pos =>
              have h := h.pos hc2037
              refine RL.re 53 rfl (congrArg Value.bool (id hc2037)) ?_
              refine RL.sg (Vl.fieldAddr (a'' := ⟨b2019, 3, none⟩) Tryd.underlying34 rfl Tryd.sizeOf3 rfl rfl) rfl rfl ?_
              refine RL.sg (Vl.load Tryd.isAgg3 rfl (hS.cell 0 rfl rfl)) rfl rfl ?_
              refine RL.sg (Vl.int rfl rfl rfl) rfl rfl ?_
              refine RL.s (Vl.pickT rfl rfl) rfl ?_
              refine RL.s (Vl.assign rfl) rfl ?_
              refine RL.nil ?_
              refine RQ.then_n ?_
              refine RC.ret ?_
              refine RQ.inB_ret ?_
              refine RQ.ret ?_
              have e := h.some
              subst e
              refine RQ.ret0 (vs := [.bool (decide (a1948.C = 0))]) Tryd.results44 ⟨rfl, trivial⟩ ?_
              exact ⟨rfl, (hS.dropAt 0 rfl)⟩
            case neg =>
              have h := h.neg hc2037
              refine RL.re 53 rfl (congrArg Value.bool (eq_false_of hc2037)) ?_
              refine RL.nn rfl rfl ?_
              refine RL.nn rfl rfl ?_
              refine RL.nn rfl rfl ?_
              refine RL.s (Vl.pickF rfl rfl) rfl ?_
              refine RL.s (Vl.assign rfl) rfl ?_
              refine RL.nil ?_
              refine RQ.then_n ?_
              refine RC.ret ?_
              refine RQ.inB_ret ?_
              refine RQ.ret ?_
              have e := h.some
              subst e
              refine RQ.ret0 (vs := [.bool false]) Tryd.results44 ⟨rfl, trivial⟩ ?_
              exact ⟨rfl, (hS.dropAt 0 rfl)⟩
          case neg =>
            have h := h.neg hc2034
            refine RL.re 48 rfl (congrArg Value.bool (eq_false_of hc2034)) ?_
            refine RL.nn rfl rfl ?_
            refine RL.nn rfl rfl ?_
            refine RL.nn rfl rfl ?_
            refine RL.s (Vl.pickF rfl rfl) rfl ?_
            refine RL.s (Vl.move rfl) rfl ?_
            refine RL.nn rfl rfl ?_
            refine RL.nn rfl rfl ?_
            refine RL.nn rfl rfl ?_
            refine RL.s (Vl.pickF rfl rfl) rfl ?_
            refine RL.s (Vl.assign rfl) rfl ?_
            refine RL.nil ?_
            refine RQ.then_n ?_
            refine RC.ret ?_
            refine RQ.inB_ret ?_
            refine RQ.ret ?_
            have e := h.some
            subst e
            refine RQ.ret0 (vs := [.bool false]) Tryd.results44 ⟨rfl, trivial⟩ ?_
            exact ⟨rfl, (hS.dropAt 0 rfl)⟩
        case neg =>
          have h := h.neg hc2031
          refine RC.re 42 rfl (congrArg Value.bool (eq_false_of hc2031)) ?_
          refine RC.condF rfl ?_
          refine RC.join (fun (s : Bool) a w => ∃ (q2045 : Bool), s = (q2045) ∧ Has 139 [(1, .int .i64 a1949), (2, .pointer (some ⟨b2019, 0, none⟩)), (6, .int .i64 a1948.Op), (58, .bool q2045)] a ∧ St B w (Cl b2019 [.int .i64 a1948.Op, .int .i64 a1948.A, .int .i64 a1948.B, .int .i64 a1948.C] 34 :: l) hf ∧ Holds (· = r) (isochronref03vmay.j5 a1948 a1949 q2045)) ?_ ?_
          · rintro q2045 a w ⟨_, rfl, ha, hS, h⟩
            revert a
            show RC _ _ _ _ _ _
            by_cases hc2046 : q2045 = true
            case pos =>
              have h := h.pos hc2046
              refine RC.re 58 rfl (congrArg Value.bool (id hc2046)) ?_
              refine RC.condT rfl ?_
              refine RC.seq ?_
              refine RC.region ?_
              refine RL.s (Vl.fieldAddr (a'' := ⟨b2019, 1, none⟩) Tryd.underlying34 rfl Tryd.sizeOf3 rfl rfl) rfl ?_
              refine RL.s (Vl.load Tryd.isAgg3 rfl (hS.cell 0 rfl rfl)) rfl ?_
              obtain ⟨t2047, hg2048, h⟩ := h.bind
              refine RL.e (OW.callF (ls := [.tmp 68]) rfl Tryd.call49 (isochronref03vreg.ok a1948.A _ hg2048 hS)) rfl rfl ?_
              rintro _ w ⟨rfl, hS⟩
              have hS : St B w (Cl b2019 [.int .i64 a1948.Op, .int .i64 a1948.A, .int .i64 a1948.B, .int .i64 a1948.C] 34 :: l) hf := hS
              refine RL.s (Vl.move rfl) rfl ?_
              by_cases hc2049 : t2047 = true
              case pos =>
                have h := h.pos hc2049
                refine RL.re 70 rfl (congrArg Value.bool (id hc2049)) ?_
                refine RL.sg (Vl.fieldAddr (a'' := ⟨b2019, 2, none⟩) Tryd.underlying34 rfl Tryd.sizeOf3 rfl rfl) rfl rfl ?_
                refine RL.sg (Vl.load Tryd.isAgg3 rfl (hS.cell 0 rfl rfl)) rfl rfl ?_
                obtain ⟨t2050, hg2051, h⟩ := h.bind
                refine RL.e (OW.callF (ls := [.tmp 72]) rfl Tryd.call49 (isochronref03vreg.ok a1948.B _ hg2051 hS)) rfl rfl ?_
                rintro _ w ⟨rfl, hS⟩
                have hS : St B w (Cl b2019 [.int .i64 a1948.Op, .int .i64 a1948.A, .int .i64 a1948.B, .int .i64 a1948.C] 34 :: l) hf := hS
                refine RL.s (Vl.pickT rfl rfl) rfl ?_
                refine RL.s (Vl.move rfl) rfl ?_
                by_cases hc2052 : t2050 = true
                case pos =>
                  have h := h.pos hc2052
                  refine RL.re 75 rfl (congrArg Value.bool (id hc2052)) ?_
                  refine RL.sg (Vl.fieldAddr (a'' := ⟨b2019, 3, none⟩) Tryd.underlying34 rfl Tryd.sizeOf3 rfl rfl) rfl rfl ?_
                  refine RL.sg (Vl.load Tryd.isAgg3 rfl (hS.cell 0 rfl rfl)) rfl rfl ?_
                  obtain ⟨t2053, hg2054, h⟩ := h.bind
                  refine RL.e (OW.callF (ls := [.tmp 77]) rfl Tryd.call49 (isochronref03vreg.ok a1948.C _ hg2054 hS)) rfl rfl ?_
                  rintro _ w ⟨rfl, hS⟩
                  have hS : St B w (Cl b2019 [.int .i64 a1948.Op, .int .i64 a1948.A, .int .i64 a1948.B, .int .i64 a1948.C] 34 :: l) hf := hS
                  refine RL.s (Vl.pickT rfl rfl) rfl ?_
                  refine RL.s (Vl.assign rfl) rfl ?_
                  refine RL.nil ?_
                  refine RQ.then_n ?_
                  refine RC.ret ?_
                  refine RQ.inB_ret ?_
                  refine RQ.ret ?_
                  have e := h.some
                  subst e
                  refine RQ.ret0 (vs := [.bool t2053]) Tryd.results44 ⟨rfl, trivial⟩ ?_
                  exact ⟨rfl, (hS.dropAt 0 rfl)⟩
                case neg =>
                  have h := h.neg hc2052
                  refine RL.re 75 rfl (congrArg Value.bool (eq_false_of hc2052)) ?_
                  refine RL.nn rfl rfl ?_
                  refine RL.nn rfl rfl ?_
                  refine RL.nn rfl rfl ?_
                  refine RL.s (Vl.pickF rfl rfl) rfl ?_
                  refine RL.s (Vl.assign rfl) rfl ?_
                  refine RL.nil ?_
                  refine RQ.then_n ?_
                  refine RC.ret ?_
                  refine RQ.inB_ret ?_
                  refine RQ.ret ?_
                  have e := h.some
                  subst e
                  refine RQ.ret0 (vs := [.bool false]) Tryd.results44 ⟨rfl, trivial⟩ ?_
                  exact ⟨rfl, (hS.dropAt 0 rfl)⟩
              case neg =>
                have h := h.neg hc2049
                refine RL.re 70 rfl (congrArg Value.bool (eq_false_of hc2049)) ?_
                refine RL.nn rfl rfl ?_
                refine RL.nn rfl rfl ?_
                refine RL.nn rfl rfl ?_
                refine RL.s (Vl.pickF rfl rfl) rfl ?_
                refine RL.s (Vl.move rfl) rfl ?_
                refine RL.nn rfl rfl ?_
                refine RL.nn rfl rfl ?_
                refine RL.nn rfl rfl ?_
                refine RL.s (Vl.pickF rfl rfl) rfl ?_
                refine RL.s (Vl.assign rfl) rfl ?_
                refine RL.nil ?_
                refine RQ.then_n ?_
                refine RC.ret ?_
                refine RQ.inB_ret ?_
                refine RQ.ret ?_
                have e := h.some
                subst e
                refine RQ.ret0 (vs := [.bool false]) Tryd.results44 ⟨rfl, trivial⟩ ?_
                exact ⟨rfl, (hS.dropAt 0 rfl)⟩
            case neg =>
              have h := h.neg hc2046
              refine RC.re 58 rfl (congrArg Value.bool (eq_false_of hc2046)) ?_
              refine RC.condF rfl ?_
              refine RC.seq ?_
              refine RC.region ?_
              refine RL.s (Vl.int rfl rfl rfl) rfl ?_
              refine RL.s (Vl.assign rfl) rfl ?_
              refine RL.nil ?_
              refine RQ.then_n ?_
              by_cases hc2055 : a1948.Op = 10
              case pos =>
                have h := h.pos hc2055
                refine RC.re 80 rfl (congrArg Value.bool (decide_eq_true hc2055)) ?_
                refine RC.condT rfl ?_
                refine RC.seq ?_
                refine RC.region ?_
                refine RL.s (Vl.fieldAddr (a'' := ⟨b2019, 1, none⟩) Tryd.underlying34 rfl Tryd.sizeOf3 rfl rfl) rfl ?_
                refine RL.s (Vl.load Tryd.isAgg3 rfl (hS.cell 0 rfl rfl)) rfl ?_
                refine RL.s (Vl.int rfl rfl rfl) rfl ?_
                refine RL.s (Vl.move rfl) rfl ?_
                by_cases hc2056 : 0 ≤ a1948.A
                case pos =>
                  have h := h.pos hc2056
                  refine RL.re 85 rfl (congrArg Value.bool (decide_eq_true hc2056)) ?_
                  refine RL.sg (Vl.fieldAddr (a'' := ⟨b2019, 1, none⟩) Tryd.underlying34 rfl Tryd.sizeOf3 rfl rfl) rfl rfl ?_
                  refine RL.sg (Vl.load Tryd.isAgg3 rfl (hS.cell 0 rfl rfl)) rfl rfl ?_
                  refine RL.sg (Vl.move rfl) rfl rfl ?_
                  refine RL.sg (Vl.int rfl rfl rfl) rfl rfl ?_
                  refine RL.s (Vl.pickT rfl rfl) rfl ?_
                  refine RL.s (Vl.move rfl) rfl ?_
                  by_cases hc2057 : a1948.A ≤ a1949
                  case pos =>
                    have h := h.pos hc2057
                    refine RL.re 91 rfl (congrArg Value.bool (decide_eq_true hc2057)) ?_
                    refine RL.sg (Vl.fieldAddr (a'' := ⟨b2019, 2, none⟩) Tryd.underlying34 rfl Tryd.sizeOf3 rfl rfl) rfl rfl ?_
                    refine RL.sg (Vl.load Tryd.isAgg3 rfl (hS.cell 0 rfl rfl)) rfl rfl ?_
                    refine RL.sg (Vl.int rfl rfl rfl) rfl rfl ?_
                    refine RL.s (Vl.pickT rfl rfl) rfl ?_
                    refine RL.s (Vl.move rfl) rfl ?_
                    by_cases hc2058 : a1948.B = 0
                    case pos =>
                      have h := h.pos hc2058
                      refine RL.re 96 rfl (congrArg Value.bool (decide_eq_true hc2058)) ?_
                      refine RL.sg (Vl.fieldAddr (a'' := ⟨b2019, 3, none⟩) Tryd.underlying34 rfl Tryd.sizeOf3 rfl rfl) rfl rfl ?_
                      refine RL.sg (Vl.load Tryd.isAgg3 rfl (hS.cell 0 rfl rfl)) rfl rfl ?_
                      refine RL.sg (Vl.int rfl rfl rfl) rfl rfl ?_
                      refine RL.s (Vl.pickT rfl rfl) rfl ?_
                      refine RL.s (Vl.assign rfl) rfl ?_
                      refine RL.nil ?_
                      refine RQ.then_n ?_
                      refine RC.ret ?_
                      refine RQ.inB_ret ?_
                      refine RQ.ret ?_
                      have e := h.some
                      subst e
                      refine RQ.ret0 (vs := [.bool (decide (a1948.C = 0))]) Tryd.results44 ⟨rfl, trivial⟩ ?_
                      exact ⟨rfl, (hS.dropAt 0 rfl)⟩
                    case neg =>
                      have h := h.neg hc2058
                      refine RL.re 96 rfl (congrArg Value.bool (decide_eq_false hc2058)) ?_
                      refine RL.nn rfl rfl ?_
                      refine RL.nn rfl rfl ?_
                      refine RL.nn rfl rfl ?_
                      refine RL.s (Vl.pickF rfl rfl) rfl ?_
                      refine RL.s (Vl.assign rfl) rfl ?_
                      refine RL.nil ?_
                      refine RQ.then_n ?_
                      refine RC.ret ?_
                      refine RQ.inB_ret ?_
                      refine RQ.ret ?_
                      have e := h.some
                      subst e
                      refine RQ.ret0 (vs := [.bool false]) Tryd.results44 ⟨rfl, trivial⟩ ?_
                      exact ⟨rfl, (hS.dropAt 0 rfl)⟩
                  case neg =>
                    have h := h.neg hc2057
                    refine RL.re 91 rfl (congrArg Value.bool (decide_eq_false hc2057)) ?_
                    refine RL.nn rfl rfl ?_
                    refine RL.nn rfl rfl ?_
                    refine RL.nn rfl rfl ?_
                    refine RL.s (Vl.pickF rfl rfl) rfl ?_
                    refine RL.s (Vl.move rfl) rfl ?_
                    refine RL.nn rfl rfl ?_
                    refine RL.nn rfl rfl ?_
                    refine RL.nn rfl rfl ?_
                    refine RL.s (Vl.pickF rfl rfl) rfl ?_
                    refine RL.s (Vl.assign rfl) rfl ?_
                    refine RL.nil ?_
                    refine RQ.then_n ?_
                    refine RC.ret ?_
                    refine RQ.inB_ret ?_
                    refine RQ.ret ?_
                    have e := h.some
                    subst e
                    refine RQ.ret0 (vs := [.bool false]) Tryd.results44 ⟨rfl, trivial⟩ ?_
                    exact ⟨rfl, (hS.dropAt 0 rfl)⟩
                case neg =>
                  have h := h.neg hc2056
                  refine RL.re 85 rfl (congrArg Value.bool (decide_eq_false hc2056)) ?_
                  refine RL.nn rfl rfl ?_
                  refine RL.nn rfl rfl ?_
                  refine RL.nn rfl rfl ?_
                  refine RL.nn rfl rfl ?_
                  refine RL.s (Vl.pickF rfl rfl) rfl ?_
                  refine RL.s (Vl.move rfl) rfl ?_
                  refine RL.nn rfl rfl ?_
                  refine RL.nn rfl rfl ?_
                  refine RL.nn rfl rfl ?_
                  refine RL.s (Vl.pickF rfl rfl) rfl ?_
                  refine RL.s (Vl.move rfl) rfl ?_
                  refine RL.nn rfl rfl ?_
                  refine RL.nn rfl rfl ?_
                  refine RL.nn rfl rfl ?_
                  refine RL.s (Vl.pickF rfl rfl) rfl ?_
                  refine RL.s (Vl.assign rfl) rfl ?_
                  refine RL.nil ?_
                  refine RQ.then_n ?_
                  refine RC.ret ?_
                  refine RQ.inB_ret ?_
                  refine RQ.ret ?_
                  have e := h.some
                  subst e
                  refine RQ.ret0 (vs := [.bool false]) Tryd.results44 ⟨rfl, trivial⟩ ?_
                  exact ⟨rfl, (hS.dropAt 0 rfl)⟩
              case neg =>
                have h := h.neg hc2055
                refine RC.re 80 rfl (congrArg Value.bool (decide_eq_false hc2055)) ?_
                refine RC.condF rfl ?_
                refine RC.seq ?_
                refine RC.region ?_
                refine RL.s (Vl.int rfl rfl rfl) rfl ?_
                refine RL.s (Vl.assign rfl) rfl ?_
                refine RL.nil ?_
                refine RQ.then_n ?_
                by_cases hc2059 : a1948.Op = 11
                case pos =>
                  have h := h.pos hc2059
                  refine RC.re 101 rfl (congrArg Value.bool (decide_eq_true hc2059)) ?_
                  refine RC.condT rfl ?_
                  refine RC.seq ?_
                  refine RC.region ?_
                  refine RL.s (Vl.fieldAddr (a'' := ⟨b2019, 1, none⟩) Tryd.underlying34 rfl Tryd.sizeOf3 rfl rfl) rfl ?_
                  refine RL.s (Vl.load Tryd.isAgg3 rfl (hS.cell 0 rfl rfl)) rfl ?_
                  obtain ⟨t2060, hg2061, h⟩ := h.bind
                  refine RL.e (OW.callF (ls := [.tmp 104]) rfl Tryd.call49 (isochronref03vreg.ok a1948.A _ hg2061 hS)) rfl rfl ?_
                  rintro _ w ⟨rfl, hS⟩
                  have hS : St B w (Cl b2019 [.int .i64 a1948.Op, .int .i64 a1948.A, .int .i64 a1948.B, .int .i64 a1948.C] 34 :: l) hf := hS
                  refine RL.s (Vl.move rfl) rfl ?_
                  by_cases hc2062 : t2060 = true
                  case pos =>
                    have h := h.pos hc2062
                    refine RL.re 106 rfl (congrArg Value.bool (id hc2062)) ?_
                    refine RL.sg (Vl.fieldAddr (a'' := ⟨b2019, 2, none⟩) Tryd.underlying34 rfl Tryd.sizeOf3 rfl rfl) rfl rfl ?_
                    refine RL.sg (Vl.load Tryd.isAgg3 rfl (hS.cell 0 rfl rfl)) rfl rfl ?_
                    refine RL.sg (Vl.int rfl rfl rfl) rfl rfl ?_
                    refine RL.s (Vl.pickT rfl rfl) rfl ?_
                    refine RL.s (Vl.move rfl) rfl ?_
                    by_cases hc2063 : 0 ≤ a1948.B
                    case pos =>
                      have h := h.pos hc2063
                      refine RL.re 111 rfl (congrArg Value.bool (decide_eq_true hc2063)) ?_
                      refine RL.sg (Vl.fieldAddr (a'' := ⟨b2019, 2, none⟩) Tryd.underlying34 rfl Tryd.sizeOf3 rfl rfl) rfl rfl ?_
                      refine RL.sg (Vl.load Tryd.isAgg3 rfl (hS.cell 0 rfl rfl)) rfl rfl ?_
                      refine RL.sg (Vl.move rfl) rfl rfl ?_
                      refine RL.sg (Vl.int rfl rfl rfl) rfl rfl ?_
                      refine RL.s (Vl.pickT rfl rfl) rfl ?_
                      refine RL.s (Vl.move rfl) rfl ?_
                      by_cases hc2064 : a1948.B ≤ a1949
                      case pos =>
                        have h := h.pos hc2064
                        refine RL.re 117 rfl (congrArg Value.bool (decide_eq_true hc2064)) ?_
                        refine RL.sg (Vl.fieldAddr (a'' := ⟨b2019, 3, none⟩) Tryd.underlying34 rfl Tryd.sizeOf3 rfl rfl) rfl rfl ?_
                        refine RL.sg (Vl.load Tryd.isAgg3 rfl (hS.cell 0 rfl rfl)) rfl rfl ?_
                        refine RL.sg (Vl.int rfl rfl rfl) rfl rfl ?_
                        refine RL.s (Vl.pickT rfl rfl) rfl ?_
                        refine RL.s (Vl.assign rfl) rfl ?_
                        refine RL.nil ?_
                        refine RQ.then_n ?_
                        refine RC.ret ?_
                        refine RQ.inB_ret ?_
                        refine RQ.ret ?_
                        have e := h.some
                        subst e
                        refine RQ.ret0 (vs := [.bool (decide (a1948.C = 0))]) Tryd.results44 ⟨rfl, trivial⟩ ?_
                        exact ⟨rfl, (hS.dropAt 0 rfl)⟩
                      case neg =>
                        have h := h.neg hc2064
                        refine RL.re 117 rfl (congrArg Value.bool (decide_eq_false hc2064)) ?_
                        refine RL.nn rfl rfl ?_
                        refine RL.nn rfl rfl ?_
                        refine RL.nn rfl rfl ?_
                        refine RL.s (Vl.pickF rfl rfl) rfl ?_
                        refine RL.s (Vl.assign rfl) rfl ?_
                        refine RL.nil ?_
                        refine RQ.then_n ?_
                        refine RC.ret ?_
                        refine RQ.inB_ret ?_
                        refine RQ.ret ?_
                        have e := h.some
                        subst e
                        refine RQ.ret0 (vs := [.bool false]) Tryd.results44 ⟨rfl, trivial⟩ ?_
                        exact ⟨rfl, (hS.dropAt 0 rfl)⟩
                    case neg =>
                      have h := h.neg hc2063
                      refine RL.re 111 rfl (congrArg Value.bool (decide_eq_false hc2063)) ?_
                      refine RL.nn rfl rfl ?_
                      refine RL.nn rfl rfl ?_
                      refine RL.nn rfl rfl ?_
                      refine RL.nn rfl rfl ?_
                      refine RL.s (Vl.pickF rfl rfl) rfl ?_
                      refine RL.s (Vl.move rfl) rfl ?_
                      refine RL.nn rfl rfl ?_
                      refine RL.nn rfl rfl ?_
                      refine RL.nn rfl rfl ?_
                      refine RL.s (Vl.pickF rfl rfl) rfl ?_
                      refine RL.s (Vl.assign rfl) rfl ?_
                      refine RL.nil ?_
                      refine RQ.then_n ?_
                      refine RC.ret ?_
                      refine RQ.inB_ret ?_
                      refine RQ.ret ?_
                      have e := h.some
                      subst e
                      refine RQ.ret0 (vs := [.bool false]) Tryd.results44 ⟨rfl, trivial⟩ ?_
                      exact ⟨rfl, (hS.dropAt 0 rfl)⟩
                  case neg =>
                    have h := h.neg hc2062
                    refine RL.re 106 rfl (congrArg Value.bool (eq_false_of hc2062)) ?_
                    refine RL.nn rfl rfl ?_
                    refine RL.nn rfl rfl ?_
                    refine RL.nn rfl rfl ?_
                    refine RL.s (Vl.pickF rfl rfl) rfl ?_
                    refine RL.s (Vl.move rfl) rfl ?_
                    refine RL.nn rfl rfl ?_
                    refine RL.nn rfl rfl ?_
                    refine RL.nn rfl rfl ?_
                    refine RL.nn rfl rfl ?_
                    refine RL.s (Vl.pickF rfl rfl) rfl ?_
                    refine RL.s (Vl.move rfl) rfl ?_
                    refine RL.nn rfl rfl ?_
                    refine RL.nn rfl rfl ?_
                    refine RL.nn rfl rfl ?_
                    refine RL.s (Vl.pickF rfl rfl) rfl ?_
                    refine RL.s (Vl.assign rfl) rfl ?_
                    refine RL.nil ?_
                    refine RQ.then_n ?_
                    refine RC.ret ?_
                    refine RQ.inB_ret ?_
                    refine RQ.ret ?_
                    have e := h.some
                    subst e
                    refine RQ.ret0 (vs := [.bool false]) Tryd.results44 ⟨rfl, trivial⟩ ?_
                    exact ⟨rfl, (hS.dropAt 0 rfl)⟩
                case neg =>
                  have h := h.neg hc2059
                  refine RC.re 101 rfl (congrArg Value.bool (decide_eq_false hc2059)) ?_
                  refine RC.condF rfl ?_
                  refine RC.join (fun (s : Bool) a w => ∃ (q2067 : Bool), s = (q2067) ∧ Has 139 [(2, .pointer (some ⟨b2019, 0, none⟩)), (122, .bool q2067)] a ∧ St B w (Cl b2019 [.int .i64 a1948.Op, .int .i64 a1948.A, .int .i64 a1948.B, .int .i64 a1948.C] 34 :: l) hf ∧ Holds (· = r) (isochronref03vmay.j6 a1948 q2067)) ?_ ?_
                  · rintro q2067 a w ⟨_, rfl, ha, hS, h⟩
                    revert a
                    show RC _ _ _ _ _ _
                    by_cases hc2068 : q2067 = true
                    case pos =>
                      have h := h.pos hc2068
                      refine RC.re 122 rfl (congrArg Value.bool (id hc2068)) ?_
                      refine RC.condT rfl ?_
                      refine RC.seq ?_
                      refine RC.region ?_
                      refine RL.s (Vl.fieldAddr (a'' := ⟨b2019, 1, none⟩) Tryd.underlying34 rfl Tryd.sizeOf3 rfl rfl) rfl ?_
                      refine RL.s (Vl.load Tryd.isAgg3 rfl (hS.cell 0 rfl rfl)) rfl ?_
                      obtain ⟨t2069, hg2070, h⟩ := h.bind
                      refine RL.e (OW.callF (ls := [.tmp 127]) rfl Tryd.call49 (isochronref03vreg.ok a1948.A _ hg2070 hS)) rfl rfl ?_
                      rintro _ w ⟨rfl, hS⟩
                      have hS : St B w (Cl b2019 [.int .i64 a1948.Op, .int .i64 a1948.A, .int .i64 a1948.B, .int .i64 a1948.C] 34 :: l) hf := hS
                      refine RL.s (Vl.move rfl) rfl ?_
                      by_cases hc2071 : t2069 = true
                      case pos =>
                        have h := h.pos hc2071
                        refine RL.re 129 rfl (congrArg Value.bool (id hc2071)) ?_
                        refine RL.sg (Vl.fieldAddr (a'' := ⟨b2019, 2, none⟩) Tryd.underlying34 rfl Tryd.sizeOf3 rfl rfl) rfl rfl ?_
                        refine RL.sg (Vl.load Tryd.isAgg3 rfl (hS.cell 0 rfl rfl)) rfl rfl ?_
                        refine RL.sg (Vl.int rfl rfl rfl) rfl rfl ?_
                        refine RL.s (Vl.pickT rfl rfl) rfl ?_
                        refine RL.s (Vl.move rfl) rfl ?_
                        by_cases hc2072 : a1948.B = 0
                        case pos =>
                          have h := h.pos hc2072
                          refine RL.re 134 rfl (congrArg Value.bool (decide_eq_true hc2072)) ?_
                          refine RL.sg (Vl.fieldAddr (a'' := ⟨b2019, 3, none⟩) Tryd.underlying34 rfl Tryd.sizeOf3 rfl rfl) rfl rfl ?_
                          refine RL.sg (Vl.load Tryd.isAgg3 rfl (hS.cell 0 rfl rfl)) rfl rfl ?_
                          refine RL.sg (Vl.int rfl rfl rfl) rfl rfl ?_
                          refine RL.s (Vl.pickT rfl rfl) rfl ?_
                          refine RL.s (Vl.assign rfl) rfl ?_
                          refine RL.nil ?_
                          refine RQ.then_n ?_
                          refine RC.ret ?_
                          refine RQ.inB_ret ?_
                          refine RQ.ret ?_
                          have e := h.some
                          subst e
                          refine RQ.ret0 (vs := [.bool (decide (a1948.C = 0))]) Tryd.results44 ⟨rfl, trivial⟩ ?_
                          exact ⟨rfl, (hS.dropAt 0 rfl)⟩
                        case neg =>
                          have h := h.neg hc2072
                          refine RL.re 134 rfl (congrArg Value.bool (decide_eq_false hc2072)) ?_
                          refine RL.nn rfl rfl ?_
                          refine RL.nn rfl rfl ?_
                          refine RL.nn rfl rfl ?_
                          refine RL.s (Vl.pickF rfl rfl) rfl ?_
                          refine RL.s (Vl.assign rfl) rfl ?_
                          refine RL.nil ?_
                          refine RQ.then_n ?_
                          refine RC.ret ?_
                          refine RQ.inB_ret ?_
                          refine RQ.ret ?_
                          have e := h.some
                          subst e
                          refine RQ.ret0 (vs := [.bool false]) Tryd.results44 ⟨rfl, trivial⟩ ?_
                          exact ⟨rfl, (hS.dropAt 0 rfl)⟩
                      case neg =>
                        have h := h.neg hc2071
                        refine RL.re 129 rfl (congrArg Value.bool (eq_false_of hc2071)) ?_
                        refine RL.nn rfl rfl ?_
                        refine RL.nn rfl rfl ?_
                        refine RL.nn rfl rfl ?_
                        refine RL.s (Vl.pickF rfl rfl) rfl ?_
                        refine RL.s (Vl.move rfl) rfl ?_
                        refine RL.nn rfl rfl ?_
                        refine RL.nn rfl rfl ?_
                        refine RL.nn rfl rfl ?_
                        refine RL.s (Vl.pickF rfl rfl) rfl ?_
                        refine RL.s (Vl.assign rfl) rfl ?_
                        refine RL.nil ?_
                        refine RQ.then_n ?_
                        refine RC.ret ?_
                        refine RQ.inB_ret ?_
                        refine RQ.ret ?_
                        have e := h.some
                        subst e
                        refine RQ.ret0 (vs := [.bool false]) Tryd.results44 ⟨rfl, trivial⟩ ?_
                        exact ⟨rfl, (hS.dropAt 0 rfl)⟩
                    case neg =>
                      have h := h.neg hc2068
                      refine RC.re 122 rfl (congrArg Value.bool (eq_false_of hc2068)) ?_
                      refine RC.condF rfl ?_
                      refine RC.skip ?_
                      refine RQ.inB_n ?_
                      refine RQ.then_n ?_
                      refine RC.seq ?_
                      refine RC.region ?_
                      refine RL.s (Vl.assign rfl) rfl ?_
                      refine RL.nil ?_
                      refine RQ.then_n ?_
                      refine RC.ret ?_
                      have e := h.some
                      subst e
                      refine RQ.ret0 (vs := [.bool false]) Tryd.results44 ⟨rfl, trivial⟩ ?_
                      exact ⟨rfl, (hS.dropAt 0 rfl)⟩
                  · refine RC.seq ?_
                    refine RC.region ?_
                    refine RL.s (Vl.int rfl rfl rfl) rfl ?_
                    refine RL.s (Vl.assign rfl) rfl ?_
                    refine RL.nil ?_
                    refine RQ.then_n ?_
                    by_cases hc2073 : a1948.Op = 14
                    case pos =>
                      have h := h.pos hc2073
                      refine RC.re 122 rfl (congrArg Value.bool (decide_eq_true hc2073)) ?_
                      refine RC.condT rfl ?_
                      refine RC.skip ?_
                      exact fun a ha => ⟨(true), true, rfl, ha.to ⟨rfl, rfl, trivial⟩, hS, h⟩
                    case neg =>
                      have h := h.neg hc2073
                      refine RC.re 122 rfl (congrArg Value.bool (decide_eq_false hc2073)) ?_
                      refine RC.condF rfl ?_
                      refine RC.seq ?_
                      refine RC.region ?_
                      refine RL.s (Vl.int rfl rfl rfl) rfl ?_
                      refine RL.s (Vl.assign rfl) rfl ?_
                      refine RL.nil ?_
                      refine RQ.then_n ?_
                      by_cases hc2074 : a1948.Op = 15
                      case pos =>
                        have h := h.pos hc2074
                        refine RC.re 122 rfl (congrArg Value.bool (decide_eq_true hc2074)) ?_
                        refine RC.condT rfl ?_
                        refine RC.skip ?_
                        exact fun a ha => ⟨(true), true, rfl, ha.to ⟨rfl, rfl, trivial⟩, hS, h⟩
                      case neg =>
                        have h := h.neg hc2074
                        refine RC.re 122 rfl (congrArg Value.bool (decide_eq_false hc2074)) ?_
                        refine RC.condF rfl ?_
                        refine RC.region ?_
                        refine RL.s (Vl.int rfl rfl rfl) rfl ?_
                        refine RL.s (Vl.assign rfl) rfl ?_
                        refine RL.nil ?_
                        exact fun a ha => ⟨((decide (a1948.Op = 16))), (decide (a1948.Op = 16)), rfl, ha.to ⟨rfl, rfl, trivial⟩, hS, h⟩
          · refine RC.seq ?_
            refine RC.region ?_
            refine RL.s (Vl.int rfl rfl rfl) rfl ?_
            refine RL.s (Vl.assign rfl) rfl ?_
            refine RL.nil ?_
            refine RQ.then_n ?_
            by_cases hc2075 : a1948.Op = 3
            case pos =>
              have h := h.pos hc2075
              refine RC.re 58 rfl (congrArg Value.bool (decide_eq_true hc2075)) ?_
              refine RC.condT rfl ?_
              refine RC.skip ?_
              exact fun a ha => ⟨(true), true, rfl, ha.to ⟨rfl, rfl, rfl, rfl, trivial⟩, hS, h⟩
            case neg =>
              have h := h.neg hc2075
              refine RC.re 58 rfl (congrArg Value.bool (decide_eq_false hc2075)) ?_
              refine RC.condF rfl ?_
              refine RC.seq ?_
              refine RC.region ?_
              refine RL.s (Vl.int rfl rfl rfl) rfl ?_
              refine RL.s (Vl.assign rfl) rfl ?_
              refine RL.nil ?_
              refine RQ.then_n ?_
              by_cases hc2076 : a1948.Op = 4
              case pos =>
                have h := h.pos hc2076
                refine RC.re 58 rfl (congrArg Value.bool (decide_eq_true hc2076)) ?_
                refine RC.condT rfl ?_
                refine RC.skip ?_
                exact fun a ha => ⟨(true), true, rfl, ha.to ⟨rfl, rfl, rfl, rfl, trivial⟩, hS, h⟩
              case neg =>
                have h := h.neg hc2076
                refine RC.re 58 rfl (congrArg Value.bool (decide_eq_false hc2076)) ?_
                refine RC.condF rfl ?_
                refine RC.seq ?_
                refine RC.region ?_
                refine RL.s (Vl.int rfl rfl rfl) rfl ?_
                refine RL.s (Vl.assign rfl) rfl ?_
                refine RL.nil ?_
                refine RQ.then_n ?_
                by_cases hc2077 : a1948.Op = 5
                case pos =>
                  have h := h.pos hc2077
                  refine RC.re 58 rfl (congrArg Value.bool (decide_eq_true hc2077)) ?_
                  refine RC.condT rfl ?_
                  refine RC.skip ?_
                  exact fun a ha => ⟨(true), true, rfl, ha.to ⟨rfl, rfl, rfl, rfl, trivial⟩, hS, h⟩
                case neg =>
                  have h := h.neg hc2077
                  refine RC.re 58 rfl (congrArg Value.bool (decide_eq_false hc2077)) ?_
                  refine RC.condF rfl ?_
                  refine RC.seq ?_
                  refine RC.region ?_
                  refine RL.s (Vl.int rfl rfl rfl) rfl ?_
                  refine RL.s (Vl.assign rfl) rfl ?_
                  refine RL.nil ?_
                  refine RQ.then_n ?_
                  by_cases hc2078 : a1948.Op = 6
                  case pos =>
                    have h := h.pos hc2078
                    refine RC.re 58 rfl (congrArg Value.bool (decide_eq_true hc2078)) ?_
                    refine RC.condT rfl ?_
                    refine RC.skip ?_
                    exact fun a ha => ⟨(true), true, rfl, ha.to ⟨rfl, rfl, rfl, rfl, trivial⟩, hS, h⟩
                  case neg =>
                    have h := h.neg hc2078
                    refine RC.re 58 rfl (congrArg Value.bool (decide_eq_false hc2078)) ?_
                    refine RC.condF rfl ?_
                    refine RC.seq ?_
                    refine RC.region ?_
                    refine RL.s (Vl.int rfl rfl rfl) rfl ?_
                    refine RL.s (Vl.assign rfl) rfl ?_
                    refine RL.nil ?_
                    refine RQ.then_n ?_
                    by_cases hc2079 : a1948.Op = 7
                    case pos =>
                      have h := h.pos hc2079
                      refine RC.re 58 rfl (congrArg Value.bool (decide_eq_true hc2079)) ?_
                      refine RC.condT rfl ?_
                      refine RC.skip ?_
                      exact fun a ha => ⟨(true), true, rfl, ha.to ⟨rfl, rfl, rfl, rfl, trivial⟩, hS, h⟩
                    case neg =>
                      have h := h.neg hc2079
                      refine RC.re 58 rfl (congrArg Value.bool (decide_eq_false hc2079)) ?_
                      refine RC.condF rfl ?_
                      refine RC.seq ?_
                      refine RC.region ?_
                      refine RL.s (Vl.int rfl rfl rfl) rfl ?_
                      refine RL.s (Vl.assign rfl) rfl ?_
                      refine RL.nil ?_
                      refine RQ.then_n ?_
                      by_cases hc2080 : a1948.Op = 8
                      case pos =>
                        have h := h.pos hc2080
                        refine RC.re 58 rfl (congrArg Value.bool (decide_eq_true hc2080)) ?_
                        refine RC.condT rfl ?_
                        refine RC.skip ?_
                        exact fun a ha => ⟨(true), true, rfl, ha.to ⟨rfl, rfl, rfl, rfl, trivial⟩, hS, h⟩
                      case neg =>
                        have h := h.neg hc2080
                        refine RC.re 58 rfl (congrArg Value.bool (decide_eq_false hc2080)) ?_
                        refine RC.condF rfl ?_
                        refine RC.seq ?_
                        refine RC.region ?_
                        refine RL.s (Vl.int rfl rfl rfl) rfl ?_
                        refine RL.s (Vl.assign rfl) rfl ?_
                        refine RL.nil ?_
                        refine RQ.then_n ?_
                        by_cases hc2081 : a1948.Op = 9
                        case pos =>
                          have h := h.pos hc2081
                          refine RC.re 58 rfl (congrArg Value.bool (decide_eq_true hc2081)) ?_
                          refine RC.condT rfl ?_
                          refine RC.skip ?_
                          exact fun a ha => ⟨(true), true, rfl, ha.to ⟨rfl, rfl, rfl, rfl, trivial⟩, hS, h⟩
                        case neg =>
                          have h := h.neg hc2081
                          refine RC.re 58 rfl (congrArg Value.bool (decide_eq_false hc2081)) ?_
                          refine RC.condF rfl ?_
                          refine RC.region ?_
                          refine RL.s (Vl.int rfl rfl rfl) rfl ?_
                          refine RL.s (Vl.assign rfl) rfl ?_
                          refine RL.nil ?_
                          exact fun a ha => ⟨((decide (a1948.Op = 12))), (decide (a1948.Op = 12)), rfl, ha.to ⟨rfl, rfl, rfl, rfl, trivial⟩, hS, h⟩
      · refine RC.seq ?_
        refine RC.region ?_
        refine RL.s (Vl.int rfl rfl rfl) rfl ?_
        refine RL.s (Vl.assign rfl) rfl ?_
        refine RL.nil ?_
        refine RQ.then_n ?_
        by_cases hc2082 : a1948.Op = 2
        case pos =>
          have h := h.pos hc2082
          refine RC.re 42 rfl (congrArg Value.bool (decide_eq_true hc2082)) ?_
          refine RC.condT rfl ?_
          refine RC.skip ?_
          exact fun a ha => ⟨(true), true, rfl, ha.to ⟨rfl, rfl, rfl, rfl, trivial⟩, hS, h⟩
        case neg =>
          have h := h.neg hc2082
          refine RC.re 42 rfl (congrArg Value.bool (decide_eq_false hc2082)) ?_
          refine RC.condF rfl ?_
          refine RC.region ?_
          refine RL.s (Vl.int rfl rfl rfl) rfl ?_
          refine RL.s (Vl.assign rfl) rfl ?_
          refine RL.nil ?_
          exact fun a ha => ⟨((decide (a1948.Op = 13))), (decide (a1948.Op = 13)), rfl, ha.to ⟨rfl, rfl, rfl, rfl, trivial⟩, hS, h⟩

/-! ### isochron/isochronref03.Check: function 24 -/
noncomputable def isochronref03vCheck.l2b (a1940 : List api_Instr) : Int → Option ((Int) ⊕ (Int))
  | (x2124) => (if x2124 < (a1940.length : Int) then (if 0 ≤ x2124 then ((isochronref03vmay.f (nth a1940 x2124) (a1940.length : Int)).bind fun t2144 => (if t2144 = true then some (.inl (IntKind.i64.wrap (x2124 + 1))) else some (.inr 130))) else none) else some (.inr 0))
noncomputable def isochronref03vCheck.l2 (a1940 : List api_Instr) (s : Int) : Option (Int) := loopR (isochronref03vCheck.l2b a1940) s
noncomputable def isochronref03vCheck.f (a1940 : List api_Instr) : Option (Int) := (if 256 < (a1940.length : Int) then some 2 else isochronref03vCheck.l2 a1940 (0))
set_option maxRecDepth 100000 in
set_option maxHeartbeats 4000000 in
theorem isochronref03vCheck.ok {B : Base} {w : World} {l : List HProp} {hf : Hp} (a1940 : List api_Instr) (A1941 : Option Addr) (c1942 : Nat) (hr1943 : SlR E_api_Instr.rep hf A1941 c1942 a1940) (r : Int) (h : isochronref03vCheck.f a1940 = some r) (hS : St B w (l) hf) :
    Calls Tryd.prog 24 #[.slice A1941 a1940.length c1942] w (Ret fun v w => v = .int .i64 r ∧ St B w (l) hf) := by
  have h := Holds.of h
  refine enter (args := [.slice A1941 a1940.length c1942]) Tryd.func24 rfl Tryd.ntmps24 (Nat.le_of_ble_eq_true rfl) ?_
  refine RC.seq ?_
  refine RC.region ?_
  refine RL.s (Vl.assign rfl) rfl ?_
  refine RL.nil ?_
  refine RQ.then_n ?_
  refine RC.seq ?_
  refine RC.seq ?_
  refine RC.region ?_
  refine RL.s (Vl.move rfl) rfl ?_
  refine RL.s (Vl.lenSl Tryd.underlying35 rfl) rfl ?_
  refine RL.s (Vl.int rfl rfl rfl) rfl ?_
  refine RL.nil ?_
  refine RQ.then_n ?_
  by_cases hc2114 : 256 < (a1940.length : Int)
  case pos =>
    have h := h.pos hc2114
    refine RC.re 6 rfl (congrArg Value.bool (decide_eq_true hc2114)) ?_
    refine RC.condT rfl ?_
    refine RC.seq ?_
    refine RC.region ?_
    refine RL.s (Vl.assign rfl) rfl ?_
    refine RL.nil ?_
    refine RQ.then_n ?_
    refine RC.ret ?_
    refine RQ.ret ?_
    have e := h.some
    subst e
    refine RQ.ret0 (vs := [.int .i64 2]) Tryd.results24 ⟨rfl, trivial⟩ ?_
    exact ⟨rfl, hS⟩
  case neg =>
    have h := h.neg hc2114
    refine RC.re 6 rfl (congrArg Value.bool (decide_eq_false hc2114)) ?_
    refine RC.condF rfl ?_
    refine RC.skip ?_
    refine RQ.then_n ?_
    refine RC.seq ?_
    refine RC.seq ?_
    refine RC.region ?_
    refine RL.s (Vl.assign rfl) rfl ?_
    refine RL.nil ?_
    refine RQ.then_n ?_
    refine RC.block ?_
    refine fun a ha => RC.loop (N := 21) (body := (isochronref03vCheck.l2b a1940)) (φ := (· = r)) (fun (s : Int) a w => ∃ (x2124 : Int), s = (x2124) ∧ Has 21 [(0, .slice A1941 a1940.length c1942), (3, .int .i64 x2124)] a ∧ St B w (l) hf) ?_ (s0 := (0)) h ⟨0, rfl, ha.to ⟨rfl, rfl, trivial⟩, hS⟩
    rintro G2136 x2124 a w ⟨_, rfl, ha, hS⟩ h
    revert a
    show RC _ _ _ _ _ _
    refine RC.seq ?_
    refine RC.seq ?_
    refine RC.region ?_
    refine RL.s (Vl.move rfl) rfl ?_
    refine RL.s (Vl.move rfl) rfl ?_
    refine RL.s (Vl.lenSl Tryd.underlying35 rfl) rfl ?_
    refine RL.s (Vl.int rfl rfl rfl) rfl ?_
    refine RL.nil ?_
    refine RQ.then_n ?_
    by_cases hc2138 : x2124 < (a1940.length : Int)
    case pos =>
      have h := h.pos hc2138
      refine RC.re 10 rfl (congrArg Value.bool (decide_eq_true hc2138)) ?_
      refine RC.condT rfl ?_
      refine RC.skip ?_
      refine RQ.then_n ?_
      refine RC.seq ?_
      refine RC.block ?_
      refine RC.seq ?_
      refine RC.region ?_
      refine RL.s (Vl.move rfl) rfl ?_
      refine RL.s (Vl.move rfl) rfl ?_
      obtain ⟨hq2143, h⟩ := h.req
      refine RL.s (Vl.indexAddr Tryd.underlying35 Tryd.sizeOf34 rfl rfl ((hr1943.2.world hS.sub).adr hq2143 hc2138) hq2143 hc2138 rfl) rfl ?_
      refine RL.s (Vl.loadA Tryd.isAgg34 Tryd.sizeOf34 rfl rfl ((hr1943.2.world hS.sub).cells hq2143 hc2138)) rfl ?_
      refine RL.s (Vl.move rfl) rfl ?_
      refine RL.s (Vl.lenSl Tryd.underlying35 rfl) rfl ?_
      obtain ⟨t2144, hg2145, h⟩ := h.bind
      refine RL.e (OW.callF (ls := [.tmp 16, .tmp 18]) rfl Tryd.call44 (isochronref03vmay.ok (nth a1940 x2124) (a1940.length : Int) _ hg2145 hS)) rfl rfl ?_
      rintro _ w ⟨rfl, hS⟩
      have hS : St B w (l) hf := hS
      refine RL.s (Vl.not rfl) rfl ?_
      refine RL.nil ?_
      refine RQ.then_n ?_
      by_cases hc2146 : t2144 = true
      case pos =>
        have h := h.pos hc2146
        refine RC.re 20 rfl (congrArg Value.bool (notb_pos hc2146)) ?_
        refine RC.condF rfl ?_
        refine RC.skip ?_
        refine RQ.inB_n ?_
        refine RQ.then_n ?_
        refine RC.region ?_
        refine RL.s (Vl.move rfl) rfl ?_
        refine RL.s (Vl.int rfl rfl rfl) rfl ?_
        refine RL.s (Vl.assign rfl) rfl ?_
        refine RL.nil ?_
        exact fun a ha => ⟨(IntKind.i64.wrap (x2124 + 1)), ⟨(IntKind.i64.wrap (x2124 + 1)), rfl, ha.to ⟨rfl, rfl, trivial⟩, hS⟩, h.some⟩
      case neg =>
        have h := h.neg hc2146
        refine RC.re 20 rfl (congrArg Value.bool (notb_neg hc2146)) ?_
        refine RC.condT rfl ?_
        refine RC.seq ?_
        refine RC.region ?_
        refine RL.s (Vl.assign rfl) rfl ?_
        refine RL.nil ?_
        refine RQ.then_n ?_
        refine RC.ret ?_
        refine RQ.inB_ret ?_
        refine RQ.ret ?_
        have h := h.inrS
        refine RQ.ret ?_
        refine RQ.inB_ret ?_
        refine RQ.ret ?_
        have e := h.some
        subst e
        refine RQ.ret0 (vs := [.int .i64 130]) Tryd.results24 ⟨rfl, trivial⟩ ?_
        exact ⟨rfl, hS⟩
    case neg =>
      have h := h.neg hc2138
      refine RC.re 10 rfl (congrArg Value.bool (decide_eq_false hc2138)) ?_
      refine RC.condF rfl ?_
      refine RC.exit ?_
      refine RQ.exitT ?_
      have h := h.inrS
      refine RQ.exitT ?_
      refine RQ.inB_hit ?_
      refine RQ.then_n ?_
      refine RC.seq ?_
      refine RC.region ?_
      refine RL.s (Vl.assign rfl) rfl ?_
      refine RL.nil ?_
      refine RQ.then_n ?_
      refine RC.ret ?_
      have e := h.some
      subst e
      refine RQ.ret0 (vs := [.int .i64 0]) Tryd.results24 ⟨rfl, trivial⟩ ?_
      exact ⟨rfl, hS⟩

end Go.Proofs.Gx
