/-
  The walks of functions, each with what it computes: printed by wip/gx.py.
-/
import Derived.Test.YtihfmpohdadciaaDoorW0
import Derived.Test.YtihfmpohdadciaaDoorW2
set_option linter.unusedVariables false
namespace Go.Proofs.Gx
open Go.Sl
/-! ### isochron/isochronref13.links: function 25 -/
noncomputable def isochronref13vlinks.l14b (a2253 : api_Model) (x2532 : Int) : Int → Option ((Int) ⊕ ((Int) ⊕ (Bool)))
  | (x2704) => (if x2704 < x2532 then (if 0 ≤ x2704 ∧ x2704 < (a2253.Links.length : Int) then (if (nth a2253.Links x2704).From = (nth a2253.Links x2532).From then (if (nth a2253.Links x2704).To = (nth a2253.Links x2532).To then some (.inr (.inr false)) else some (.inl (IntKind.i64.wrap (x2704 + 1)))) else some (.inl (IntKind.i64.wrap (x2704 + 1)))) else none) else some (.inr (.inl (IntKind.i64.wrap (x2532 + 1)))))
noncomputable def isochronref13vlinks.l14 (a2253 : api_Model) (x2532 : Int) (s : Int) : Option ((Int) ⊕ (Bool)) := loopR (isochronref13vlinks.l14b a2253 x2532) s
noncomputable def isochronref13vlinks.l12b (a2253 : api_Model) : Int → Option ((Int) ⊕ (Bool))
  | (x2532) => (if x2532 < (a2253.Links.length : Int) then (if 0 ≤ x2532 then (if (nth a2253.Links x2532).From < 0 then some (.inr false) else (if (a2253.Progs.length : Int) ≤ (nth a2253.Links x2532).From then some (.inr false) else (if (nth a2253.Links x2532).To < 0 then some (.inr false) else (if (a2253.Progs.length : Int) ≤ (nth a2253.Links x2532).To then some (.inr false) else (if (nth a2253.Links x2532).Look < 1 then some (.inr false) else (if 4611686018427387903 < (nth a2253.Links x2532).Look then some (.inr false) else isochronref13vlinks.l14 a2253 x2532 (0))))))) else none) else some (.inr true))
noncomputable def isochronref13vlinks.l12 (a2253 : api_Model) (s : Int) : Option (Bool) := loopR (isochronref13vlinks.l12b a2253) s
noncomputable def isochronref13vlinks.f (a2253 : api_Model) : Option (Bool) := (if 1024 < (a2253.Links.length : Int) then some false else isochronref13vlinks.l12 a2253 (0))
set_option maxRecDepth 100000 in
set_option maxHeartbeats 4000000 in
theorem isochronref13vlinks.ok {B : Base} {w : World} {l : List HProp} {hf : Hp} (a2253 : api_Model) (A2254 : Option Addr) (c2255 : Nat) (A2257 : Option Addr) (c2258 : Nat) (A2260 : Option Addr) (c2261 : Nat) (hr2256 : SlR (Rep.sl E_api_Instr.rep) hf A2254 c2255 a2253.Progs) (hr2259 : SlR E_api_Link.rep hf A2257 c2258 a2253.Links) (hr2262 : SlR E_api_Start.rep hf A2260 c2261 a2253.Starts) (r : Bool) (h : isochronref13vlinks.f a2253 = some r) (hS : St B w (l) hf) :
    Calls Tryd.prog 25 #[.agg #[.slice A2254 a2253.Progs.length c2255, .slice A2257 a2253.Links.length c2258, .slice A2260 a2253.Starts.length c2261, .int .u64 a2253.Seed, .int .i64 a2253.End, .int .i64 a2253.Budget]] w (Ret fun v w => v = .bool r ∧ St B w (l) hf) := by
  have h := Holds.of h
  refine enter (args := [.agg #[.slice A2254 a2253.Progs.length c2255, .slice A2257 a2253.Links.length c2258, .slice A2260 a2253.Starts.length c2261, .int .u64 a2253.Seed, .int .i64 a2253.End, .int .i64 a2253.Budget]]) Tryd.func25 rfl Tryd.ntmps25 (Nat.le_of_ble_eq_true rfl) ?_
  refine RC.seq ?_
  refine RC.region ?_
  refine RL.e (OW.box (cs := [.slice A2254 a2253.Progs.length c2255, .slice A2257 a2253.Links.length c2258, .slice A2260 a2253.Starts.length c2261, .int .u64 a2253.Seed, .int .i64 a2253.End, .int .i64 a2253.Budget]) hS rfl rfl) rfl rfl ?_
  rintro _ w ⟨b2496, rfl, hS⟩
  have hS : St B w (Cl b2496 [.slice A2254 a2253.Progs.length c2255, .slice A2257 a2253.Links.length c2258, .slice A2260 a2253.Starts.length c2261, .int .u64 a2253.Seed, .int .i64 a2253.End, .int .i64 a2253.Budget] 27 :: l) hf := hS
  refine RL.s (Vl.assign rfl) rfl ?_
  refine RL.nil ?_
  refine RQ.then_n ?_
  refine RC.seq ?_
  refine RC.region ?_
  refine RL.s (Vl.fieldAddr (a'' := ⟨b2496, 0, none⟩) Tryd.underlying27 rfl Tryd.sizeOf22 rfl rfl) rfl ?_
  refine RL.s (Vl.load Tryd.isAgg22 rfl (hS.cell 0 rfl rfl)) rfl ?_
  refine RL.s (Vl.lenSl Tryd.underlying22 rfl) rfl ?_
  refine RL.s (Vl.assign rfl) rfl ?_
  refine RL.nil ?_
  refine RQ.then_n ?_
  refine RC.seq ?_
  refine RC.seq ?_
  refine RC.region ?_
  refine RL.s (Vl.fieldAddr (a'' := ⟨b2496, 1, none⟩) Tryd.underlying27 rfl Tryd.sizeOf23 rfl rfl) rfl ?_
  refine RL.s (Vl.load Tryd.isAgg23 rfl (hS.cell 0 rfl rfl)) rfl ?_
  refine RL.s (Vl.lenSl Tryd.underlying23 rfl) rfl ?_
  refine RL.s (Vl.int rfl rfl rfl) rfl ?_
  refine RL.nil ?_
  refine RQ.then_n ?_
  by_cases hc2498 : 1024 < (a2253.Links.length : Int)
  case pos =>
    have h := h.pos hc2498
    refine RC.re 13 rfl (congrArg Value.bool (decide_eq_true hc2498)) ?_
    refine RC.condT rfl ?_
    refine RC.seq ?_
    refine RC.region ?_
    refine RL.s (Vl.assign rfl) rfl ?_
    refine RL.nil ?_
    refine RQ.then_n ?_
    refine RC.ret ?_
    refine RQ.ret ?_
    have e := h.some
    subst e
    refine RQ.ret0 (vs := [.bool false]) Tryd.results25 ⟨rfl, trivial⟩ ?_
    exact ⟨rfl, (hS.dropAt 0 rfl)⟩
  case neg =>
    have h := h.neg hc2498
    refine RC.re 13 rfl (congrArg Value.bool (decide_eq_false hc2498)) ?_
    refine RC.condF rfl ?_
    refine RC.skip ?_
    refine RQ.then_n ?_
    refine RC.seq ?_
    refine RC.seq ?_
    refine RC.region ?_
    refine RL.s (Vl.assign rfl) rfl ?_
    refine RL.nil ?_
    refine RQ.then_n ?_
    refine RC.block ?_
    refine fun a ha => RC.loop (N := 81) (body := (isochronref13vlinks.l12b a2253)) (φ := (· = r)) (fun (s : Int) a w => ∃ (x2532 : Int), s = (x2532) ∧ Has 81 [(1, .pointer (some ⟨b2496, 0, none⟩)), (3, .int .i64 (a2253.Progs.length : Int)), (4, .int .i64 x2532)] a ∧ St B w (Cl b2496 [.slice A2254 a2253.Progs.length c2255, .slice A2257 a2253.Links.length c2258, .slice A2260 a2253.Starts.length c2261, .int .u64 a2253.Seed, .int .i64 a2253.End, .int .i64 a2253.Budget] 27 :: l) hf) ?_ (s0 := (0)) h ⟨0, rfl, ha.to ⟨rfl, rfl, rfl, trivial⟩, hS⟩
    rintro G2630 x2532 a w ⟨_, rfl, ha, hS⟩ h
    revert a
    show RC _ _ _ _ _ _
    refine RC.seq ?_
    refine RC.seq ?_
    refine RC.region ?_
    refine RL.s (Vl.move rfl) rfl ?_
    refine RL.s (Vl.fieldAddr (a'' := ⟨b2496, 1, none⟩) Tryd.underlying27 rfl Tryd.sizeOf23 rfl rfl) rfl ?_
    refine RL.s (Vl.load Tryd.isAgg23 rfl (hS.cell 0 rfl rfl)) rfl ?_
    refine RL.s (Vl.lenSl Tryd.underlying23 rfl) rfl ?_
    refine RL.s (Vl.int rfl rfl rfl) rfl ?_
    refine RL.nil ?_
    refine RQ.then_n ?_
    by_cases hc2632 : x2532 < (a2253.Links.length : Int)
    case pos =>
      have h := h.pos hc2632
      refine RC.re 18 rfl (congrArg Value.bool (decide_eq_true hc2632)) ?_
      refine RC.condT rfl ?_
      refine RC.skip ?_
      refine RQ.then_n ?_
      refine RC.seq ?_
      refine RC.block ?_
      refine RC.seq ?_
      refine RC.region ?_
      refine RL.s (Vl.fieldAddr (a'' := ⟨b2496, 1, none⟩) Tryd.underlying27 rfl Tryd.sizeOf23 rfl rfl) rfl ?_
      refine RL.s (Vl.load Tryd.isAgg23 rfl (hS.cell 0 rfl rfl)) rfl ?_
      refine RL.s (Vl.move rfl) rfl ?_
      obtain ⟨hq2680, h⟩ := h.req
      refine RL.s (Vl.indexAddr Tryd.underlying23 Tryd.sizeOf37 rfl rfl ((hr2259.2.world hS.sub).adr hq2680 hc2632) hq2680 hc2632 rfl) rfl ?_
      refine RL.s (Vl.loadA Tryd.isAgg37 Tryd.sizeOf37 rfl rfl ((hr2259.2.world hS.sub).cells hq2680 hc2632)) rfl ?_
      refine RL.e (OW.alloc (cs := [.int .i64 0, .int .i64 0, .int .i64 0, .bool false]) hS Tryd.zeroValue37 rfl) rfl rfl ?_
      rintro _ w ⟨b2682, rfl, hS⟩
      have hS : St B w (Cl b2682 [.int .i64 0, .int .i64 0, .int .i64 0, .bool false] 37 :: Cl b2496 [.slice A2254 a2253.Progs.length c2255, .slice A2257 a2253.Links.length c2258, .slice A2260 a2253.Starts.length c2261, .int .u64 a2253.Seed, .int .i64 a2253.End, .int .i64 a2253.Budget] 27 :: l) hf := hS
      refine RL.e0 (OW.store (cs := [.int .i64 0, .int .i64 0, .int .i64 0, .bool false]) (vs := [.int .i64 ((nth a2253.Links x2532).From), .int .i64 ((nth a2253.Links x2532).To), .int .i64 ((nth a2253.Links x2532).Look), .bool ((nth a2253.Links x2532).Loose)]) (l' := Cl b2682 [.int .i64 ((nth a2253.Links x2532).From), .int .i64 ((nth a2253.Links x2532).To), .int .i64 ((nth a2253.Links x2532).Look), .bool ((nth a2253.Links x2532).Loose)] 37 :: Cl b2496 [.slice A2254 a2253.Progs.length c2255, .slice A2257 a2253.Links.length c2258, .slice A2260 a2253.Starts.length c2261, .int .u64 a2253.Seed, .int .i64 a2253.End, .int .i64 a2253.Budget] 27 :: l) 0 hS rfl rfl rfl rfl Tryd.sizeOf37 rfl rfl rfl rfl) rfl ?_
      rintro _ w ⟨rfl, hS⟩
      have hS : St B w (Cl b2682 [.int .i64 ((nth a2253.Links x2532).From), .int .i64 ((nth a2253.Links x2532).To), .int .i64 ((nth a2253.Links x2532).Look), .bool ((nth a2253.Links x2532).Loose)] 37 :: Cl b2496 [.slice A2254 a2253.Progs.length c2255, .slice A2257 a2253.Links.length c2258, .slice A2260 a2253.Starts.length c2261, .int .u64 a2253.Seed, .int .i64 a2253.End, .int .i64 a2253.Budget] 27 :: l) hf := hS
      refine RL.nil ?_
      refine RQ.then_n ?_
      refine RC.seq ?_
      refine RC.seq ?_
      refine RC.region ?_
      refine RL.s (Vl.fieldAddr (a'' := ⟨b2682, 0, none⟩) Tryd.underlying37 rfl Tryd.sizeOf3 rfl rfl) rfl ?_
      refine RL.s (Vl.load Tryd.isAgg3 rfl (hS.cell 0 rfl rfl)) rfl ?_
      refine RL.s (Vl.int rfl rfl rfl) rfl ?_
      refine RL.s (Vl.move rfl) rfl ?_
      by_cases hc2689 : (nth a2253.Links x2532).From < 0
      case pos =>
        have h := h.pos hc2689
        refine RL.re 29 rfl (congrArg Value.bool (decide_eq_true hc2689)) ?_
        refine RL.nn rfl rfl ?_
        refine RL.nn rfl rfl ?_
        refine RL.nn rfl rfl ?_
        refine RL.nn rfl rfl ?_
        refine RL.s (Vl.pickT rfl rfl) rfl ?_
        refine RL.s (Vl.move rfl) rfl ?_
        refine RL.nn rfl rfl ?_
        refine RL.nn rfl rfl ?_
        refine RL.nn rfl rfl ?_
        refine RL.s (Vl.pickT rfl rfl) rfl ?_
        refine RL.s (Vl.move rfl) rfl ?_
        refine RL.nn rfl rfl ?_
        refine RL.nn rfl rfl ?_
        refine RL.nn rfl rfl ?_
        refine RL.nn rfl rfl ?_
        refine RL.s (Vl.pickT rfl rfl) rfl ?_
        refine RL.s (Vl.move rfl) rfl ?_
        refine RL.nn rfl rfl ?_
        refine RL.nn rfl rfl ?_
        refine RL.nn rfl rfl ?_
        refine RL.s (Vl.pickT rfl rfl) rfl ?_
        refine RL.s (Vl.move rfl) rfl ?_
        refine RL.nn rfl rfl ?_
        refine RL.nn rfl rfl ?_
        refine RL.nn rfl rfl ?_
        refine RL.s (Vl.pickT rfl rfl) rfl ?_
        refine RL.nil ?_
        refine RQ.then_n ?_
        refine RC.condT rfl ?_
        refine RC.seq ?_
        refine RC.region ?_
        refine RL.s (Vl.assign rfl) rfl ?_
        refine RL.nil ?_
        refine RQ.then_n ?_
        refine RC.ret ?_
        refine RQ.ret ?_
        refine RQ.inB_ret ?_
        refine RQ.ret ?_
        have h := h.inrS
        refine RQ.ret ?_
        refine RQ.inB_ret ?_
        refine RQ.ret ?_
        have e := h.some
        subst e
        refine RQ.ret0 (vs := [.bool false]) Tryd.results25 ⟨rfl, trivial⟩ ?_
        exact ⟨rfl, ((hS.dropAt 0 rfl).dropAt 0 rfl)⟩
      case neg =>
        have h := h.neg hc2689
        refine RL.re 29 rfl (congrArg Value.bool (decide_eq_false hc2689)) ?_
        refine RL.sg (Vl.fieldAddr (a'' := ⟨b2682, 0, none⟩) Tryd.underlying37 rfl Tryd.sizeOf3 rfl rfl) rfl rfl ?_
        refine RL.sg (Vl.load Tryd.isAgg3 rfl (hS.cell 0 rfl rfl)) rfl rfl ?_
        refine RL.sg (Vl.move rfl) rfl rfl ?_
        refine RL.sg (Vl.int rfl rfl rfl) rfl rfl ?_
        refine RL.s (Vl.pickF rfl rfl) rfl ?_
        refine RL.s (Vl.move rfl) rfl ?_
        by_cases hc2690 : (a2253.Progs.length : Int) ≤ (nth a2253.Links x2532).From
        case pos =>
          have h := h.pos hc2690
          refine RL.re 35 rfl (congrArg Value.bool (decide_eq_true hc2690)) ?_
          refine RL.nn rfl rfl ?_
          refine RL.nn rfl rfl ?_
          refine RL.nn rfl rfl ?_
          refine RL.s (Vl.pickT rfl rfl) rfl ?_
          refine RL.s (Vl.move rfl) rfl ?_
          refine RL.nn rfl rfl ?_
          refine RL.nn rfl rfl ?_
          refine RL.nn rfl rfl ?_
          refine RL.nn rfl rfl ?_
          refine RL.s (Vl.pickT rfl rfl) rfl ?_
          refine RL.s (Vl.move rfl) rfl ?_
          refine RL.nn rfl rfl ?_
          refine RL.nn rfl rfl ?_
          refine RL.nn rfl rfl ?_
          refine RL.s (Vl.pickT rfl rfl) rfl ?_
          refine RL.s (Vl.move rfl) rfl ?_
          refine RL.nn rfl rfl ?_
          refine RL.nn rfl rfl ?_
          refine RL.nn rfl rfl ?_
          refine RL.s (Vl.pickT rfl rfl) rfl ?_
          refine RL.nil ?_
          refine RQ.then_n ?_
          refine RC.condT rfl ?_
          refine RC.seq ?_
          refine RC.region ?_
          refine RL.s (Vl.assign rfl) rfl ?_
          refine RL.nil ?_
          refine RQ.then_n ?_
          refine RC.ret ?_
          refine RQ.ret ?_
          refine RQ.inB_ret ?_
          refine RQ.ret ?_
          have h := h.inrS
          refine RQ.ret ?_
          refine RQ.inB_ret ?_
          refine RQ.ret ?_
          have e := h.some
          subst e
          refine RQ.ret0 (vs := [.bool false]) Tryd.results25 ⟨rfl, trivial⟩ ?_
          exact ⟨rfl, ((hS.dropAt 0 rfl).dropAt 0 rfl)⟩
        case neg =>
          have h := h.neg hc2690
          refine RL.re 35 rfl (congrArg Value.bool (decide_eq_false hc2690)) ?_
          refine RL.sg (Vl.fieldAddr (a'' := ⟨b2682, 1, none⟩) Tryd.underlying37 rfl Tryd.sizeOf3 rfl rfl) rfl rfl ?_
          refine RL.sg (Vl.load Tryd.isAgg3 rfl (hS.cell 0 rfl rfl)) rfl rfl ?_
          refine RL.sg (Vl.int rfl rfl rfl) rfl rfl ?_
          refine RL.s (Vl.pickF rfl rfl) rfl ?_
          refine RL.s (Vl.move rfl) rfl ?_
          by_cases hc2691 : (nth a2253.Links x2532).To < 0
          case pos =>
            have h := h.pos hc2691
            refine RL.re 40 rfl (congrArg Value.bool (decide_eq_true hc2691)) ?_
            refine RL.nn rfl rfl ?_
            refine RL.nn rfl rfl ?_
            refine RL.nn rfl rfl ?_
            refine RL.nn rfl rfl ?_
            refine RL.s (Vl.pickT rfl rfl) rfl ?_
            refine RL.s (Vl.move rfl) rfl ?_
            refine RL.nn rfl rfl ?_
            refine RL.nn rfl rfl ?_
            refine RL.nn rfl rfl ?_
            refine RL.s (Vl.pickT rfl rfl) rfl ?_
            refine RL.s (Vl.move rfl) rfl ?_
            refine RL.nn rfl rfl ?_
            refine RL.nn rfl rfl ?_
            refine RL.nn rfl rfl ?_
            refine RL.s (Vl.pickT rfl rfl) rfl ?_
            refine RL.nil ?_
            refine RQ.then_n ?_
            refine RC.condT rfl ?_
            refine RC.seq ?_
            refine RC.region ?_
            refine RL.s (Vl.assign rfl) rfl ?_
            refine RL.nil ?_
            refine RQ.then_n ?_
            refine RC.ret ?_
            refine RQ.ret ?_
            refine RQ.inB_ret ?_
            refine RQ.ret ?_
            have h := h.inrS
            refine RQ.ret ?_
            refine RQ.inB_ret ?_
            refine RQ.ret ?_
            have e := h.some
            subst e
            refine RQ.ret0 (vs := [.bool false]) Tryd.results25 ⟨rfl, trivial⟩ ?_
            exact ⟨rfl, ((hS.dropAt 0 rfl).dropAt 0 rfl)⟩
          case neg =>
            have h := h.neg hc2691
            refine RL.re 40 rfl (congrArg Value.bool (decide_eq_false hc2691)) ?_
            refine RL.sg (Vl.fieldAddr (a'' := ⟨b2682, 1, none⟩) Tryd.underlying37 rfl Tryd.sizeOf3 rfl rfl) rfl rfl ?_
            refine RL.sg (Vl.load Tryd.isAgg3 rfl (hS.cell 0 rfl rfl)) rfl rfl ?_
            refine RL.sg (Vl.move rfl) rfl rfl ?_
            refine RL.sg (Vl.int rfl rfl rfl) rfl rfl ?_
            refine RL.s (Vl.pickF rfl rfl) rfl ?_
            refine RL.s (Vl.move rfl) rfl ?_
            by_cases hc2692 : (a2253.Progs.length : Int) ≤ (nth a2253.Links x2532).To
            case pos =>
              have h := h.pos hc2692
              refine RL.re 46 rfl (congrArg Value.bool (decide_eq_true hc2692)) ?_
              refine RL.nn rfl rfl ?_
              refine RL.nn rfl rfl ?_
              refine RL.nn rfl rfl ?_
              refine RL.s (Vl.pickT rfl rfl) rfl ?_
              refine RL.s (Vl.move rfl) rfl ?_
              refine RL.nn rfl rfl ?_
              refine RL.nn rfl rfl ?_
              refine RL.nn rfl rfl ?_
              refine RL.s (Vl.pickT rfl rfl) rfl ?_
              refine RL.nil ?_
              refine RQ.then_n ?_
              refine RC.condT rfl ?_
              refine RC.seq ?_
              refine RC.region ?_
              refine RL.s (Vl.assign rfl) rfl ?_
              refine RL.nil ?_
              refine RQ.then_n ?_
              refine RC.ret ?_
              refine RQ.ret ?_
              refine RQ.inB_ret ?_
              refine RQ.ret ?_
              have h := h.inrS
              refine RQ.ret ?_
              refine RQ.inB_ret ?_
              refine RQ.ret ?_
              have e := h.some
              subst e
              refine RQ.ret0 (vs := [.bool false]) Tryd.results25 ⟨rfl, trivial⟩ ?_
              exact ⟨rfl, ((hS.dropAt 0 rfl).dropAt 0 rfl)⟩
            case neg =>
              have h := h.neg hc2692
              refine RL.re 46 rfl (congrArg Value.bool (decide_eq_false hc2692)) ?_
              refine RL.sg (Vl.fieldAddr (a'' := ⟨b2682, 2, none⟩) Tryd.underlying37 rfl Tryd.sizeOf2 rfl rfl) rfl rfl ?_
              refine RL.sg (Vl.load Tryd.isAgg2 rfl (hS.cell 0 rfl rfl)) rfl rfl ?_
              refine RL.sg (Vl.int rfl rfl rfl) rfl rfl ?_
              refine RL.s (Vl.pickF rfl rfl) rfl ?_
              refine RL.s (Vl.move rfl) rfl ?_
              by_cases hc2693 : (nth a2253.Links x2532).Look < 1
              case pos =>
                have h := h.pos hc2693
                refine RL.re 51 rfl (congrArg Value.bool (decide_eq_true hc2693)) ?_
                refine RL.nn rfl rfl ?_
                refine RL.nn rfl rfl ?_
                refine RL.nn rfl rfl ?_
                refine RL.s (Vl.pickT rfl rfl) rfl ?_
                refine RL.nil ?_
                refine RQ.then_n ?_
                refine RC.condT rfl ?_
                refine RC.seq ?_
                refine RC.region ?_
                refine RL.s (Vl.assign rfl) rfl ?_
                refine RL.nil ?_
                refine RQ.then_n ?_
                refine RC.ret ?_
                refine RQ.ret ?_
                refine RQ.inB_ret ?_
                refine RQ.ret ?_
                have h := h.inrS
                refine RQ.ret ?_
                refine RQ.inB_ret ?_
                refine RQ.ret ?_
                have e := h.some
                subst e
                refine RQ.ret0 (vs := [.bool false]) Tryd.results25 ⟨rfl, trivial⟩ ?_
                exact ⟨rfl, ((hS.dropAt 0 rfl).dropAt 0 rfl)⟩
              case neg =>
                have h := h.neg hc2693
                refine RL.re 51 rfl (congrArg Value.bool (decide_eq_false hc2693)) ?_
                refine RL.sg (Vl.fieldAddr (a'' := ⟨b2682, 2, none⟩) Tryd.underlying37 rfl Tryd.sizeOf2 rfl rfl) rfl rfl ?_
                refine RL.sg (Vl.load Tryd.isAgg2 rfl (hS.cell 0 rfl rfl)) rfl rfl ?_
                refine RL.sg (Vl.int rfl rfl rfl) rfl rfl ?_
                refine RL.s (Vl.pickF rfl rfl) rfl ?_
                refine RL.nil ?_
                refine RQ.then_n ?_
                by_cases hc2694 : 4611686018427387903 < (nth a2253.Links x2532).Look
                case pos =>
                  have h := h.pos hc2694
                  refine RC.re 55 rfl (congrArg Value.bool (decide_eq_true hc2694)) ?_
                  refine RC.condT rfl ?_
                  refine RC.seq ?_
                  refine RC.region ?_
                  refine RL.s (Vl.assign rfl) rfl ?_
                  refine RL.nil ?_
                  refine RQ.then_n ?_
                  refine RC.ret ?_
                  refine RQ.ret ?_
                  refine RQ.inB_ret ?_
                  refine RQ.ret ?_
                  have h := h.inrS
                  refine RQ.ret ?_
                  refine RQ.inB_ret ?_
                  refine RQ.ret ?_
                  have e := h.some
                  subst e
                  refine RQ.ret0 (vs := [.bool false]) Tryd.results25 ⟨rfl, trivial⟩ ?_
                  exact ⟨rfl, ((hS.dropAt 0 rfl).dropAt 0 rfl)⟩
                case neg =>
                  have h := h.neg hc2694
                  refine RC.re 55 rfl (congrArg Value.bool (decide_eq_false hc2694)) ?_
                  refine RC.condF rfl ?_
                  refine RC.skip ?_
                  refine RQ.then_n ?_
                  refine RC.seq ?_
                  refine RC.region ?_
                  refine RL.s (Vl.assign rfl) rfl ?_
                  refine RL.nil ?_
                  refine RQ.then_n ?_
                  refine RC.block ?_
                  refine fun a ha => RC.loop (N := 81) (body := (isochronref13vlinks.l14b a2253 x2532)) (φ := (Sum.elim G2630 (· = r))) (fun (s : Int) a w => ∃ (x2704 : Int), s = (x2704) ∧ Has 81 [(1, .pointer (some ⟨b2496, 0, none⟩)), (3, .int .i64 (a2253.Progs.length : Int)), (4, .int .i64 x2532), (5, .pointer (some ⟨b2682, 0, none⟩)), (6, .int .i64 x2704), (30, .pointer (some ⟨b2682, 0, none⟩)), (31, .int .i64 ((nth a2253.Links x2532).From)), (32, .int .i64 (a2253.Progs.length : Int)), (33, .bool (decide ((a2253.Progs.length : Int) ≤ (nth a2253.Links x2532).From))), (36, .pointer (some ⟨b2682, 1, none⟩)), (37, .int .i64 ((nth a2253.Links x2532).To)), (38, .bool (decide ((nth a2253.Links x2532).To < 0))), (41, .pointer (some ⟨b2682, 1, none⟩)), (42, .int .i64 ((nth a2253.Links x2532).To)), (43, .int .i64 (a2253.Progs.length : Int)), (44, .bool (decide ((a2253.Progs.length : Int) ≤ (nth a2253.Links x2532).To))), (47, .pointer (some ⟨b2682, 2, none⟩)), (48, .int .i64 ((nth a2253.Links x2532).Look)), (49, .bool (decide ((nth a2253.Links x2532).Look < 1))), (52, .pointer (some ⟨b2682, 2, none⟩)), (53, .int .i64 ((nth a2253.Links x2532).Look)), (54, .bool (decide (4611686018427387903 < (nth a2253.Links x2532).Look)))] a ∧ St B w (Cl b2682 [.int .i64 ((nth a2253.Links x2532).From), .int .i64 ((nth a2253.Links x2532).To), .int .i64 ((nth a2253.Links x2532).Look), .bool ((nth a2253.Links x2532).Loose)] 37 :: Cl b2496 [.slice A2254 a2253.Progs.length c2255, .slice A2257 a2253.Links.length c2258, .slice A2260 a2253.Starts.length c2261, .int .u64 a2253.Seed, .int .i64 a2253.End, .int .i64 a2253.Budget] 27 :: l) hf) ?_ (s0 := (0)) h ⟨0, rfl, ha.to ⟨rfl, rfl, rfl, rfl, rfl, rfl, rfl, rfl, rfl, rfl, rfl, rfl, rfl, rfl, rfl, rfl, rfl, rfl, rfl, rfl, rfl, rfl, trivial⟩, hS⟩
                  rintro G2716 x2704 a w ⟨_, rfl, ha, hS⟩ h
                  revert a
                  show RC _ _ _ _ _ _
                  refine RC.seq ?_
                  refine RC.seq ?_
                  refine RC.region ?_
                  refine RL.s (Vl.move rfl) rfl ?_
                  refine RL.s (Vl.move rfl) rfl ?_
                  refine RL.s (Vl.int rfl rfl rfl) rfl ?_
                  refine RL.nil ?_
                  refine RQ.then_n ?_
                  by_cases hc2718 : x2704 < x2532
                  case pos =>
                    have h := h.pos hc2718
                    refine RC.re 58 rfl (congrArg Value.bool (decide_eq_true hc2718)) ?_
                    refine RC.condT rfl ?_
                    refine RC.skip ?_
                    refine RQ.then_n ?_
                    refine RC.seq ?_
                    refine RC.block ?_
                    refine RC.seq ?_
                    refine RC.plan (.cons 0 true (.cons 1 true (.cons 2 true (.cons 3 true (.cons 4 true (.cons 5 true (.cons 6 true (.cons 7 true (.cons 8 true (.cons 9 true (.cons 10 true (.cons 11 true (.cons 12 true (.cons 13 true (.cons 14 true (.cons 15 true (.cons 16 false (.cons 17 false (.cons 18 false (.cons 19 false .nil)))))))))))))))))))) [] (fun w => St B w (Cl b2682 [.int .i64 ((nth a2253.Links x2532).From), .int .i64 ((nth a2253.Links x2532).To), .int .i64 ((nth a2253.Links x2532).Look), .bool ((nth a2253.Links x2532).Loose)] 37 :: Cl b2496 [.slice A2254 a2253.Progs.length c2255, .slice A2257 a2253.Links.length c2258, .slice A2260 a2253.Starts.length c2261, .int .u64 a2253.Seed, .int .i64 a2253.End, .int .i64 a2253.Budget] 27 :: l) hf) follows rfl (by kernel_rfl) (NoTmp.then (NoTmp.block (NoTmp.then (NoTmp.then (NoTmp.block (NoTmp.block (NoTmp.then (NoTmp.then (NoTmp.block (NoTmp.then NoTmp.body)))))))))) ?_
                    have hS := hS.same (w' := { w with drawn := w.drawn + 1 }) rfl rfl
                    revert hS
                    generalize { w with drawn := w.drawn + 1 } = w
                    intro hS
                    refine RP.s 0 rfl rfl hS (fun w hS => Vl.fieldAddr (a'' := ⟨b2496, 1, none⟩) Tryd.underlying27 rfl Tryd.sizeOf23 rfl rfl) rfl ?_
                    refine RP.s 1 rfl rfl hS (fun w hS => Vl.load Tryd.isAgg23 rfl (hS.cell 1 rfl rfl)) rfl ?_
                    refine RP.s 2 rfl rfl hS (fun w hS => Vl.move rfl) rfl ?_
                    obtain ⟨⟨hq2723, hq2724⟩, h⟩ := h.req
                    refine RP.s 3 rfl rfl hS (fun w hS => Vl.indexAddr Tryd.underlying23 Tryd.sizeOf37 rfl rfl ((hr2259.2.world hS.sub).adr hq2723 hq2724) hq2723 hq2724 rfl) rfl ?_
                    refine RP.s 4 rfl rfl hS (fun w hS => Vl.fieldAddr (a'' := (ad A2257).add (x2704.toNat * 4 + 0)) Tryd.underlying37 rfl Tryd.sizeOf3 rfl (add_add _ _ _)) rfl ?_
                    refine RP.s 5 rfl rfl hS (fun w hS => Vl.load Tryd.isAgg3 rfl ((hr2259.2.world hS.sub).cell (j := 0) hq2723 hq2724 rfl)) rfl ?_
                    refine RP.s 6 rfl rfl hS (fun w hS => Vl.fieldAddr (a'' := ⟨b2682, 0, none⟩) Tryd.underlying37 rfl Tryd.sizeOf3 rfl rfl) rfl ?_
                    refine RP.s 7 rfl rfl hS (fun w hS => Vl.load Tryd.isAgg3 rfl (hS.cell 0 rfl rfl)) rfl ?_
                    refine RP.s 8 rfl rfl hS (fun w hS => Vl.int rfl rfl rfl) rfl ?_
                    refine RP.s 9 rfl rfl hS (fun w hS => Vl.move rfl) rfl ?_
                    by_cases hc2725 : (nth a2253.Links x2704).From = (nth a2253.Links x2532).From
                    case pos =>
                      have h := h.pos hc2725
                      refine RP.re 70 rfl (congrArg Value.bool (decide_eq_true hc2725)) ?_
                      refine RP.sg 10 rfl rfl hS (fun w hS => Vl.fieldAddr (a'' := ⟨b2496, 1, none⟩) Tryd.underlying27 rfl Tryd.sizeOf23 rfl rfl) rfl rfl ?_
                      refine RP.sg 11 rfl rfl hS (fun w hS => Vl.load Tryd.isAgg23 rfl (hS.cell 1 rfl rfl)) rfl rfl ?_
                      refine RP.sg 12 rfl rfl hS (fun w hS => Vl.move rfl) rfl rfl ?_
                      refine RP.sg 13 rfl rfl hS (fun w hS => Vl.indexAddr Tryd.underlying23 Tryd.sizeOf37 rfl rfl ((hr2259.2.world hS.sub).adr hq2723 hq2724) hq2723 hq2724 rfl) rfl rfl ?_
                      refine RP.sg 14 rfl rfl hS (fun w hS => Vl.fieldAddr (a'' := (ad A2257).add (x2704.toNat * 4 + 1)) Tryd.underlying37 rfl Tryd.sizeOf3 rfl (add_add _ _ _)) rfl rfl ?_
                      refine RP.sg 15 rfl rfl hS (fun w hS => Vl.load Tryd.isAgg3 rfl ((hr2259.2.world hS.sub).cell (j := 1) hq2723 hq2724 rfl)) rfl rfl ?_
                      refine RP.v1 16 rfl (fun _ => hS) (Vl.fieldAddr (a'' := ⟨b2682, 1, none⟩) Tryd.underlying37 rfl Tryd.sizeOf3 rfl rfl) rfl rfl ?_
                      refine RP.v1 17 rfl (fun _ => hS) (Vl.load Tryd.isAgg3 rfl (hS.cell 0 rfl rfl)) rfl rfl ?_
                      refine RP.v1 18 rfl (fun _ => hS) (Vl.int rfl rfl rfl) rfl rfl ?_
                      refine RP.v1 19 rfl (fun _ => hS) (Vl.pickT rfl rfl) rfl rfl ?_
                      refine RP.nil ?_
                      refine RQ.then_n ?_
                      by_cases hc2726 : (nth a2253.Links x2704).To = (nth a2253.Links x2532).To
                      case pos =>
                        have h := h.pos hc2726
                        refine RC.re 80 rfl (congrArg Value.bool (decide_eq_true hc2726)) ?_
                        refine RC.condT rfl ?_
                        refine RC.seq ?_
                        refine RC.region ?_
                        refine RL.s (Vl.assign rfl) rfl ?_
                        refine RL.nil ?_
                        refine RQ.then_n ?_
                        refine RC.ret ?_
                        refine RQ.inB_ret ?_
                        refine RQ.ret ?_
                        have h := h.inrS
                        refine RQ.ret ?_
                        refine RQ.inB_ret ?_
                        refine RQ.inB_ret ?_
                        refine RQ.ret ?_
                        have h := h.inrS
                        refine RQ.ret ?_
                        refine RQ.inB_ret ?_
                        refine RQ.ret ?_
                        have e := h.some
                        subst e
                        refine RQ.ret0 (vs := [.bool false]) Tryd.results25 ⟨rfl, trivial⟩ ?_
                        exact ⟨rfl, ((hS.dropAt 0 rfl).dropAt 0 rfl)⟩
                      case neg =>
                        have h := h.neg hc2726
                        refine RC.re 80 rfl (congrArg Value.bool (decide_eq_false hc2726)) ?_
                        refine RC.condF rfl ?_
                        refine RC.skip ?_
                        refine RQ.inB_n ?_
                        refine RQ.then_n ?_
                        refine RC.region ?_
                        refine RL.s (Vl.move rfl) rfl ?_
                        refine RL.s (Vl.int rfl rfl rfl) rfl ?_
                        refine RL.s (Vl.assign rfl) rfl ?_
                        refine RL.nil ?_
                        exact fun a ha => ⟨(IntKind.i64.wrap (x2704 + 1)), ⟨(IntKind.i64.wrap (x2704 + 1)), rfl, ha.to ⟨rfl, rfl, rfl, rfl, rfl, rfl, rfl, rfl, rfl, rfl, rfl, rfl, rfl, rfl, rfl, rfl, rfl, rfl, rfl, rfl, rfl, rfl, trivial⟩, hS⟩, h.some⟩
                    case neg =>
                      have h := h.neg hc2725
                      refine RP.re 70 rfl (congrArg Value.bool (decide_eq_false hc2725)) ?_
                      refine RP.nn 10 rfl rfl hS rfl rfl ?_
                      refine RP.nn 11 rfl rfl hS rfl rfl ?_
                      refine RP.nn 12 rfl rfl hS rfl rfl ?_
                      refine RP.nn 13 rfl rfl hS rfl rfl ?_
                      refine RP.nn 14 rfl rfl hS rfl rfl ?_
                      refine RP.nn 15 rfl rfl hS rfl rfl ?_
                      refine RP.n1 16 rfl (fun _ => hS) rfl rfl ?_
                      refine RP.n1 17 rfl (fun _ => hS) rfl rfl ?_
                      refine RP.n1 18 rfl (fun _ => hS) rfl rfl ?_
                      refine RP.v1 19 rfl (fun _ => hS) (Vl.pickF rfl rfl) rfl rfl ?_
                      refine RP.nil ?_
                      refine RQ.then_n ?_
                      refine RC.condF rfl ?_
                      refine RC.skip ?_
                      refine RQ.inB_n ?_
                      refine RQ.then_n ?_
                      refine RC.region ?_
                      refine RL.s (Vl.move rfl) rfl ?_
                      refine RL.s (Vl.int rfl rfl rfl) rfl ?_
                      refine RL.s (Vl.assign rfl) rfl ?_
                      refine RL.nil ?_
                      exact fun a ha => ⟨(IntKind.i64.wrap (x2704 + 1)), ⟨(IntKind.i64.wrap (x2704 + 1)), rfl, ha.to ⟨rfl, rfl, rfl, rfl, rfl, rfl, rfl, rfl, rfl, rfl, rfl, rfl, rfl, rfl, rfl, rfl, rfl, rfl, rfl, rfl, rfl, rfl, trivial⟩, hS⟩, h.some⟩
                  case neg =>
                    have h := h.neg hc2718
                    refine RC.re 58 rfl (congrArg Value.bool (decide_eq_false hc2718)) ?_
                    refine RC.condF rfl ?_
                    refine RC.exit ?_
                    refine RQ.exitT ?_
                    have h := h.inrS
                    refine RQ.exitT ?_
                    refine RQ.inB_hit ?_
                    refine RQ.inB_n ?_
                    refine RQ.then_n ?_
                    refine RC.region ?_
                    refine RL.s (Vl.move rfl) rfl ?_
                    refine RL.s (Vl.int rfl rfl rfl) rfl ?_
                    refine RL.s (Vl.assign rfl) rfl ?_
                    refine RL.nil ?_
                    exact fun a ha => ⟨(IntKind.i64.wrap (x2532 + 1)), ⟨(IntKind.i64.wrap (x2532 + 1)), rfl, ha.to ⟨rfl, rfl, rfl, trivial⟩, (hS.dropAt 0 rfl)⟩, h.some⟩
    case neg =>
      have h := h.neg hc2632
      refine RC.re 18 rfl (congrArg Value.bool (decide_eq_false hc2632)) ?_
      refine RC.condF rfl ?_
      refine RC.exit ?_
      refine RQ.exitT ?_
      have h := h.inrS
      refine RQ.exitT ?_
      refine RQ.inB_hit ?_
      refine RQ.then_n ?_
      refine RC.seq ?_
      refine RC.region ?_
      refine RL.s (Vl.assign rfl) rfl ?_
      refine RL.nil ?_
      refine RQ.then_n ?_
      refine RC.ret ?_
      have e := h.some
      subst e
      refine RQ.ret0 (vs := [.bool true]) Tryd.results25 ⟨rfl, trivial⟩ ?_
      exact ⟨rfl, (hS.dropAt 0 rfl)⟩

/-! ### isochron/isochronref13.Check: function 10 -/
noncomputable def isochronref13vCheck.l6b (a1905 : api_Model) : Int → Option ((Int) ⊕ (Int))
  | (x2944) => (if x2944 < (a1905.Starts.length : Int) then (if 0 ≤ x2944 then (if (nth a1905.Starts x2944).To < 0 then some (.inr 132) else (if (a1905.Progs.length : Int) ≤ (nth a1905.Starts x2944).To then some (.inr 132) else ((isochronref01vValid.f ((nth a1905.Starts x2944).Time)).bind fun t2980 => (if t2980 = true then some (.inl (IntKind.i64.wrap (x2944 + 1))) else some (.inr 132))))) else none) else some (.inr 0))
noncomputable def isochronref13vCheck.l6 (a1905 : api_Model) (s : Int) : Option (Int) := loopR (isochronref13vCheck.l6b a1905) s
noncomputable def isochronref13vCheck.l5b (a1905 : api_Model) : Int → Option ((Int) ⊕ (Int))
  | (x2880) => (if x2880 < (a1905.Progs.length : Int) then (if 0 ≤ x2880 then ((isochronref03vCheck.f (nth a1905.Progs x2880)).bind fun t2916 => (if t2916 = 0 then some (.inl (IntKind.i64.wrap (x2880 + 1))) else some (.inr 130))) else none) else (Option.map Sum.inr ((isochronref13vlinks.f a1905).bind fun t2922 => (if t2922 = true then (if 4096 < (a1905.Starts.length : Int) then some 132 else isochronref13vCheck.l6 a1905 (0)) else some 131))))
noncomputable def isochronref13vCheck.l5 (a1905 : api_Model) (s : Int) : Option (Int) := loopR (isochronref13vCheck.l5b a1905) s
noncomputable def isochronref13vCheck.f (a1905 : api_Model) : Option (Int) := (if (a1905.Progs.length : Int) = 0 then some 1 else (if 16 < (a1905.Progs.length : Int) then some 1 else ((isochronref01vValid.f a1905.End).bind fun t2802 => (if t2802 = true then (if a1905.Budget < 0 then some 1 else (if 4096 < a1905.Budget then some 1 else isochronref13vCheck.l5 a1905 (0))) else some 1))))
set_option maxRecDepth 100000 in
set_option maxHeartbeats 4000000 in
theorem isochronref13vCheck.ok {B : Base} {w : World} {l : List HProp} {hf : Hp} (a1905 : api_Model) (A1906 : Option Addr) (c1907 : Nat) (A1909 : Option Addr) (c1910 : Nat) (A1912 : Option Addr) (c1913 : Nat) (hr1908 : SlR (Rep.sl E_api_Instr.rep) hf A1906 c1907 a1905.Progs) (hr1911 : SlR E_api_Link.rep hf A1909 c1910 a1905.Links) (hr1914 : SlR E_api_Start.rep hf A1912 c1913 a1905.Starts) (r : Int) (h : isochronref13vCheck.f a1905 = some r) (hS : St B w (l) hf) :
    Calls Tryd.prog 10 #[.agg #[.slice A1906 a1905.Progs.length c1907, .slice A1909 a1905.Links.length c1910, .slice A1912 a1905.Starts.length c1913, .int .u64 a1905.Seed, .int .i64 a1905.End, .int .i64 a1905.Budget]] w (Ret fun v w => v = .int .i64 r ∧ St B w (l) hf) := by
  have h := Holds.of h
  refine enter (args := [.agg #[.slice A1906 a1905.Progs.length c1907, .slice A1909 a1905.Links.length c1910, .slice A1912 a1905.Starts.length c1913, .int .u64 a1905.Seed, .int .i64 a1905.End, .int .i64 a1905.Budget]]) Tryd.func10 rfl Tryd.ntmps10 (Nat.le_of_ble_eq_true rfl) ?_
  refine RC.seq ?_
  refine RC.region ?_
  refine RL.e (OW.box (cs := [.slice A1906 a1905.Progs.length c1907, .slice A1909 a1905.Links.length c1910, .slice A1912 a1905.Starts.length c1913, .int .u64 a1905.Seed, .int .i64 a1905.End, .int .i64 a1905.Budget]) hS rfl rfl) rfl rfl ?_
  rintro _ w ⟨b2792, rfl, hS⟩
  have hS : St B w (Cl b2792 [.slice A1906 a1905.Progs.length c1907, .slice A1909 a1905.Links.length c1910, .slice A1912 a1905.Starts.length c1913, .int .u64 a1905.Seed, .int .i64 a1905.End, .int .i64 a1905.Budget] 27 :: l) hf := hS
  refine RL.s (Vl.assign rfl) rfl ?_
  refine RL.nil ?_
  refine RQ.then_n ?_
  refine RC.seq ?_
  refine RC.seq ?_
  refine RC.region ?_
  refine RL.s (Vl.fieldAddr (a'' := ⟨b2792, 0, none⟩) Tryd.underlying27 rfl Tryd.sizeOf22 rfl rfl) rfl ?_
  refine RL.s (Vl.load Tryd.isAgg22 rfl (hS.cell 0 rfl rfl)) rfl ?_
  refine RL.s (Vl.lenSl Tryd.underlying22 rfl) rfl ?_
  refine RL.s (Vl.int rfl rfl rfl) rfl ?_
  refine RL.s (Vl.move rfl) rfl ?_
  by_cases hc2800 : (a1905.Progs.length : Int) = 0
  case pos =>
    have h := h.pos hc2800
    refine RL.re 10 rfl (congrArg Value.bool (decide_eq_true hc2800)) ?_
    refine RL.nn rfl rfl ?_
    refine RL.nn rfl rfl ?_
    refine RL.nn rfl rfl ?_
    refine RL.nn rfl rfl ?_
    refine RL.s (Vl.pickT rfl rfl) rfl ?_
    refine RL.s (Vl.move rfl) rfl ?_
    refine RL.nn rfl rfl ?_
    refine RL.nn rfl rfl ?_
    refine RL.nn rfl rfl ?_
    refine RL.nn rfl rfl ?_
    refine RL.s (Vl.pickT rfl rfl) rfl ?_
    refine RL.s (Vl.move rfl) rfl ?_
    refine RL.nn rfl rfl ?_
    refine RL.nn rfl rfl ?_
    refine RL.nn rfl rfl ?_
    refine RL.s (Vl.pickT rfl rfl) rfl ?_
    refine RL.s (Vl.move rfl) rfl ?_
    refine RL.nn rfl rfl ?_
    refine RL.nn rfl rfl ?_
    refine RL.nn rfl rfl ?_
    refine RL.s (Vl.pickT rfl rfl) rfl ?_
    refine RL.nil ?_
    refine RQ.then_n ?_
    refine RC.condT rfl ?_
    refine RC.seq ?_
    refine RC.region ?_
    refine RL.s (Vl.assign rfl) rfl ?_
    refine RL.nil ?_
    refine RQ.then_n ?_
    refine RC.ret ?_
    refine RQ.ret ?_
    have e := h.some
    subst e
    refine RQ.ret0 (vs := [.int .i64 1]) Tryd.results10 ⟨rfl, trivial⟩ ?_
    exact ⟨rfl, (hS.dropAt 0 rfl)⟩
  case neg =>
    have h := h.neg hc2800
    refine RL.re 10 rfl (congrArg Value.bool (decide_eq_false hc2800)) ?_
    refine RL.sg (Vl.fieldAddr (a'' := ⟨b2792, 0, none⟩) Tryd.underlying27 rfl Tryd.sizeOf22 rfl rfl) rfl rfl ?_
    refine RL.sg (Vl.load Tryd.isAgg22 rfl (hS.cell 0 rfl rfl)) rfl rfl ?_
    refine RL.sg (Vl.lenSl Tryd.underlying22 rfl) rfl rfl ?_
    refine RL.sg (Vl.int rfl rfl rfl) rfl rfl ?_
    refine RL.s (Vl.pickF rfl rfl) rfl ?_
    refine RL.s (Vl.move rfl) rfl ?_
    by_cases hc2801 : 16 < (a1905.Progs.length : Int)
    case pos =>
      have h := h.pos hc2801
      refine RL.re 16 rfl (congrArg Value.bool (decide_eq_true hc2801)) ?_
      refine RL.nn rfl rfl ?_
      refine RL.nn rfl rfl ?_
      refine RL.nn rfl rfl ?_
      refine RL.nn rfl rfl ?_
      refine RL.s (Vl.pickT rfl rfl) rfl ?_
      refine RL.s (Vl.move rfl) rfl ?_
      refine RL.nn rfl rfl ?_
      refine RL.nn rfl rfl ?_
      refine RL.nn rfl rfl ?_
      refine RL.s (Vl.pickT rfl rfl) rfl ?_
      refine RL.s (Vl.move rfl) rfl ?_
      refine RL.nn rfl rfl ?_
      refine RL.nn rfl rfl ?_
      refine RL.nn rfl rfl ?_
      refine RL.s (Vl.pickT rfl rfl) rfl ?_
      refine RL.nil ?_
      refine RQ.then_n ?_
      refine RC.condT rfl ?_
      refine RC.seq ?_
      refine RC.region ?_
      refine RL.s (Vl.assign rfl) rfl ?_
      refine RL.nil ?_
      refine RQ.then_n ?_
      refine RC.ret ?_
      refine RQ.ret ?_
      have e := h.some
      subst e
      refine RQ.ret0 (vs := [.int .i64 1]) Tryd.results10 ⟨rfl, trivial⟩ ?_
      exact ⟨rfl, (hS.dropAt 0 rfl)⟩
    case neg =>
      have h := h.neg hc2801
      refine RL.re 16 rfl (congrArg Value.bool (decide_eq_false hc2801)) ?_
      refine RL.sg (Vl.fieldAddr (a'' := ⟨b2792, 4, none⟩) Tryd.underlying27 rfl Tryd.sizeOf2 rfl rfl) rfl rfl ?_
      refine RL.sg (Vl.load Tryd.isAgg2 rfl (hS.cell 0 rfl rfl)) rfl rfl ?_
      obtain ⟨t2802, hg2803, h⟩ := h.bind
      refine RL.e (OW.callF (ls := [.tmp 18]) rfl Tryd.call23 (isochronref01vValid.ok a1905.End _ hg2803 hS)) rfl rfl ?_
      rintro _ w ⟨rfl, hS⟩
      have hS : St B w (Cl b2792 [.slice A1906 a1905.Progs.length c1907, .slice A1909 a1905.Links.length c1910, .slice A1912 a1905.Starts.length c1913, .int .u64 a1905.Seed, .int .i64 a1905.End, .int .i64 a1905.Budget] 27 :: l) hf := hS
      refine RL.sg (Vl.not rfl) rfl rfl ?_
      refine RL.s (Vl.pickF rfl rfl) rfl ?_
      refine RL.s (Vl.move rfl) rfl ?_
      by_cases hc2804 : t2802 = true
      case pos =>
        have h := h.pos hc2804
        refine RL.re 22 rfl (congrArg Value.bool (notb_pos hc2804)) ?_
        refine RL.sg (Vl.fieldAddr (a'' := ⟨b2792, 5, none⟩) Tryd.underlying27 rfl Tryd.sizeOf3 rfl rfl) rfl rfl ?_
        refine RL.sg (Vl.load Tryd.isAgg3 rfl (hS.cell 0 rfl rfl)) rfl rfl ?_
        refine RL.sg (Vl.int rfl rfl rfl) rfl rfl ?_
        refine RL.s (Vl.pickF rfl rfl) rfl ?_
        refine RL.s (Vl.move rfl) rfl ?_
        by_cases hc2805 : a1905.Budget < 0
        case pos =>
          have h := h.pos hc2805
          refine RL.re 27 rfl (congrArg Value.bool (decide_eq_true hc2805)) ?_
          refine RL.nn rfl rfl ?_
          refine RL.nn rfl rfl ?_
          refine RL.nn rfl rfl ?_
          refine RL.s (Vl.pickT rfl rfl) rfl ?_
          refine RL.nil ?_
          refine RQ.then_n ?_
          refine RC.condT rfl ?_
          refine RC.seq ?_
          refine RC.region ?_
          refine RL.s (Vl.assign rfl) rfl ?_
          refine RL.nil ?_
          refine RQ.then_n ?_
          refine RC.ret ?_
          refine RQ.ret ?_
          have e := h.some
          subst e
          refine RQ.ret0 (vs := [.int .i64 1]) Tryd.results10 ⟨rfl, trivial⟩ ?_
          exact ⟨rfl, (hS.dropAt 0 rfl)⟩
        case neg =>
          have h := h.neg hc2805
          refine RL.re 27 rfl (congrArg Value.bool (decide_eq_false hc2805)) ?_
          refine RL.sg (Vl.fieldAddr (a'' := ⟨b2792, 5, none⟩) Tryd.underlying27 rfl Tryd.sizeOf3 rfl rfl) rfl rfl ?_
          refine RL.sg (Vl.load Tryd.isAgg3 rfl (hS.cell 0 rfl rfl)) rfl rfl ?_
          refine RL.sg (Vl.int rfl rfl rfl) rfl rfl ?_
          refine RL.s (Vl.pickF rfl rfl) rfl ?_
          refine RL.nil ?_
          refine RQ.then_n ?_
          by_cases hc2806 : 4096 < a1905.Budget
          case pos =>
            have h := h.pos hc2806
            refine RC.re 31 rfl (congrArg Value.bool (decide_eq_true hc2806)) ?_
            refine RC.condT rfl ?_
            refine RC.seq ?_
            refine RC.region ?_
            refine RL.s (Vl.assign rfl) rfl ?_
            refine RL.nil ?_
            refine RQ.then_n ?_
            refine RC.ret ?_
            refine RQ.ret ?_
            have e := h.some
            subst e
            refine RQ.ret0 (vs := [.int .i64 1]) Tryd.results10 ⟨rfl, trivial⟩ ?_
            exact ⟨rfl, (hS.dropAt 0 rfl)⟩
          case neg =>
            have h := h.neg hc2806
            refine RC.re 31 rfl (congrArg Value.bool (decide_eq_false hc2806)) ?_
            refine RC.condF rfl ?_
            refine RC.skip ?_
            refine RQ.then_n ?_
            refine RC.seq ?_
            refine RC.seq ?_
            refine RC.region ?_
            refine RL.s (Vl.assign rfl) rfl ?_
            refine RL.nil ?_
            refine RQ.then_n ?_
            refine RC.block ?_
            refine fun a ha => RC.loop (N := 82) (body := (isochronref13vCheck.l5b a1905)) (φ := (· = r)) (fun (s : Int) a w => ∃ (x2880 : Int), s = (x2880) ∧ Has 82 [(1, .pointer (some ⟨b2792, 0, none⟩)), (3, .int .i64 x2880)] a ∧ St B w (Cl b2792 [.slice A1906 a1905.Progs.length c1907, .slice A1909 a1905.Links.length c1910, .slice A1912 a1905.Starts.length c1913, .int .u64 a1905.Seed, .int .i64 a1905.End, .int .i64 a1905.Budget] 27 :: l) hf) ?_ (s0 := (0)) h ⟨0, rfl, ha.to ⟨rfl, rfl, trivial⟩, hS⟩
            rintro G2900 x2880 a w ⟨_, rfl, ha, hS⟩ h
            revert a
            show RC _ _ _ _ _ _
            refine RC.seq ?_
            refine RC.seq ?_
            refine RC.region ?_
            refine RL.s (Vl.move rfl) rfl ?_
            refine RL.s (Vl.fieldAddr (a'' := ⟨b2792, 0, none⟩) Tryd.underlying27 rfl Tryd.sizeOf22 rfl rfl) rfl ?_
            refine RL.s (Vl.load Tryd.isAgg22 rfl (hS.cell 0 rfl rfl)) rfl ?_
            refine RL.s (Vl.lenSl Tryd.underlying22 rfl) rfl ?_
            refine RL.s (Vl.int rfl rfl rfl) rfl ?_
            refine RL.nil ?_
            refine RQ.then_n ?_
            by_cases hc2902 : x2880 < (a1905.Progs.length : Int)
            case pos =>
              have h := h.pos hc2902
              refine RC.re 36 rfl (congrArg Value.bool (decide_eq_true hc2902)) ?_
              refine RC.condT rfl ?_
              refine RC.skip ?_
              refine RQ.then_n ?_
              refine RC.seq ?_
              refine RC.block ?_
              refine RC.seq ?_
              refine RC.region ?_
              refine RL.s (Vl.fieldAddr (a'' := ⟨b2792, 0, none⟩) Tryd.underlying27 rfl Tryd.sizeOf22 rfl rfl) rfl ?_
              refine RL.s (Vl.load Tryd.isAgg22 rfl (hS.cell 0 rfl rfl)) rfl ?_
              refine RL.s (Vl.move rfl) rfl ?_
              obtain ⟨hq2911, h⟩ := h.req
              refine RL.s (Vl.indexAddr Tryd.underlying22 Tryd.sizeOf35 rfl rfl (hr1908.2.adr hq2911 hc2902) hq2911 hc2902 rfl) rfl ?_
              obtain ⟨_, _, ⟨A2912, c2913, rfl, hr2914⟩, hl2915⟩ := hr1908.2.elem hq2911 hc2902
              refine RL.s (Vl.load Tryd.isAgg35 rfl (cellH_world hS.sub (hl2915 0 _ rfl))) rfl ?_
              obtain ⟨t2916, hg2917, h⟩ := h.bind
              refine RL.e (OW.callF (ls := [.tmp 43]) rfl Tryd.call24 (isochronref03vCheck.ok (nth a1905.Progs x2880) A2912 c2913 hr2914 _ hg2917 hS)) rfl rfl ?_
              rintro _ w ⟨rfl, hS⟩
              have hS : St B w (Cl b2792 [.slice A1906 a1905.Progs.length c1907, .slice A1909 a1905.Links.length c1910, .slice A1912 a1905.Starts.length c1913, .int .u64 a1905.Seed, .int .i64 a1905.End, .int .i64 a1905.Budget] 27 :: l) hf := hS
              refine RL.s (Vl.int rfl rfl rfl) rfl ?_
              refine RL.nil ?_
              refine RQ.then_n ?_
              by_cases hc2918 : t2916 = 0
              case pos =>
                have h := h.pos hc2918
                refine RC.re 45 rfl (congrArg Value.bool (notdec_pos hc2918)) ?_
                refine RC.condF rfl ?_
                refine RC.skip ?_
                refine RQ.inB_n ?_
                refine RQ.then_n ?_
                refine RC.region ?_
                refine RL.s (Vl.move rfl) rfl ?_
                refine RL.s (Vl.int rfl rfl rfl) rfl ?_
                refine RL.s (Vl.assign rfl) rfl ?_
                refine RL.nil ?_
                exact fun a ha => ⟨(IntKind.i64.wrap (x2880 + 1)), ⟨(IntKind.i64.wrap (x2880 + 1)), rfl, ha.to ⟨rfl, rfl, trivial⟩, hS⟩, h.some⟩
              case neg =>
                have h := h.neg hc2918
                refine RC.re 45 rfl (congrArg Value.bool (notdec_neg hc2918)) ?_
                refine RC.condT rfl ?_
                refine RC.seq ?_
                refine RC.region ?_
                refine RL.s (Vl.assign rfl) rfl ?_
                refine RL.nil ?_
                refine RQ.then_n ?_
                refine RC.ret ?_
                refine RQ.inB_ret ?_
                refine RQ.ret ?_
                have h := h.inrS
                refine RQ.ret ?_
                refine RQ.inB_ret ?_
                refine RQ.ret ?_
                have e := h.some
                subst e
                refine RQ.ret0 (vs := [.int .i64 130]) Tryd.results10 ⟨rfl, trivial⟩ ?_
                exact ⟨rfl, (hS.dropAt 0 rfl)⟩
            case neg =>
              have h := h.neg hc2902
              refine RC.re 36 rfl (congrArg Value.bool (decide_eq_false hc2902)) ?_
              refine RC.condF rfl ?_
              refine RC.exit ?_
              refine RQ.exitT ?_
              have h := h.inr
              refine RQ.exitT ?_
              refine RQ.inB_hit ?_
              refine RQ.then_n ?_
              refine RC.seq ?_
              refine RC.seq ?_
              refine RC.region ?_
              refine RL.s (Vl.loadA (vs := [.slice A1906 a1905.Progs.length c1907, .slice A1909 a1905.Links.length c1910, .slice A1912 a1905.Starts.length c1913, .int .u64 a1905.Seed, .int .i64 a1905.End, .int .i64 a1905.Budget]) Tryd.isAgg27 Tryd.sizeOf27 rfl rfl (hS.cellsAt 0 rfl rfl)) rfl ?_
              obtain ⟨t2922, hg2923, h⟩ := h.bind
              refine RL.e (OW.callF (ls := [.tmp 46]) rfl Tryd.call25 (isochronref13vlinks.ok a1905 A1906 c1907 A1909 c1910 A1912 c1913 hr1908 hr1911 hr1914 _ hg2923 hS)) rfl rfl ?_
              rintro _ w ⟨rfl, hS⟩
              have hS : St B w (Cl b2792 [.slice A1906 a1905.Progs.length c1907, .slice A1909 a1905.Links.length c1910, .slice A1912 a1905.Starts.length c1913, .int .u64 a1905.Seed, .int .i64 a1905.End, .int .i64 a1905.Budget] 27 :: l) hf := hS
              refine RL.s (Vl.not rfl) rfl ?_
              refine RL.nil ?_
              refine RQ.then_n ?_
              by_cases hc2924 : t2922 = true
              case pos =>
                have h := h.pos hc2924
                refine RC.re 48 rfl (congrArg Value.bool (notb_pos hc2924)) ?_
                refine RC.condF rfl ?_
                refine RC.skip ?_
                refine RQ.then_n ?_
                refine RC.seq ?_
                refine RC.seq ?_
                refine RC.region ?_
                refine RL.s (Vl.fieldAddr (a'' := ⟨b2792, 2, none⟩) Tryd.underlying27 rfl Tryd.sizeOf24 rfl rfl) rfl ?_
                refine RL.s (Vl.load Tryd.isAgg24 rfl (hS.cell 0 rfl rfl)) rfl ?_
                refine RL.s (Vl.lenSl Tryd.underlying24 rfl) rfl ?_
                refine RL.s (Vl.int rfl rfl rfl) rfl ?_
                refine RL.nil ?_
                refine RQ.then_n ?_
                by_cases hc2926 : 4096 < (a1905.Starts.length : Int)
                case pos =>
                  have h := h.pos hc2926
                  refine RC.re 52 rfl (congrArg Value.bool (decide_eq_true hc2926)) ?_
                  refine RC.condT rfl ?_
                  refine RC.seq ?_
                  refine RC.region ?_
                  refine RL.s (Vl.assign rfl) rfl ?_
                  refine RL.nil ?_
                  refine RQ.then_n ?_
                  refine RC.ret ?_
                  refine RQ.ret ?_
                  have e := h.some
                  subst e
                  refine RQ.ret0 (vs := [.int .i64 132]) Tryd.results10 ⟨rfl, trivial⟩ ?_
                  exact ⟨rfl, (hS.dropAt 0 rfl)⟩
                case neg =>
                  have h := h.neg hc2926
                  refine RC.re 52 rfl (congrArg Value.bool (decide_eq_false hc2926)) ?_
                  refine RC.condF rfl ?_
                  refine RC.skip ?_
                  refine RQ.then_n ?_
                  refine RC.seq ?_
                  refine RC.seq ?_
                  refine RC.region ?_
                  refine RL.s (Vl.assign rfl) rfl ?_
                  refine RL.nil ?_
                  refine RQ.then_n ?_
                  refine RC.block ?_
                  refine fun a ha => RC.loop (N := 82) (body := (isochronref13vCheck.l6b a1905)) (φ := (· = r)) (fun (s : Int) a w => ∃ (x2944 : Int), s = (x2944) ∧ Has 82 [(1, .pointer (some ⟨b2792, 0, none⟩)), (4, .int .i64 x2944)] a ∧ St B w (Cl b2792 [.slice A1906 a1905.Progs.length c1907, .slice A1909 a1905.Links.length c1910, .slice A1912 a1905.Starts.length c1913, .int .u64 a1905.Seed, .int .i64 a1905.End, .int .i64 a1905.Budget] 27 :: l) hf) ?_ (s0 := (0)) h ⟨0, rfl, ha.to ⟨rfl, rfl, trivial⟩, hS⟩
                  rintro G2964 x2944 a w ⟨_, rfl, ha, hS⟩ h
                  revert a
                  show RC _ _ _ _ _ _
                  refine RC.seq ?_
                  refine RC.seq ?_
                  refine RC.region ?_
                  refine RL.s (Vl.move rfl) rfl ?_
                  refine RL.s (Vl.fieldAddr (a'' := ⟨b2792, 2, none⟩) Tryd.underlying27 rfl Tryd.sizeOf24 rfl rfl) rfl ?_
                  refine RL.s (Vl.load Tryd.isAgg24 rfl (hS.cell 0 rfl rfl)) rfl ?_
                  refine RL.s (Vl.lenSl Tryd.underlying24 rfl) rfl ?_
                  refine RL.s (Vl.int rfl rfl rfl) rfl ?_
                  refine RL.nil ?_
                  refine RQ.then_n ?_
                  by_cases hc2966 : x2944 < (a1905.Starts.length : Int)
                  case pos =>
                    have h := h.pos hc2966
                    refine RC.re 57 rfl (congrArg Value.bool (decide_eq_true hc2966)) ?_
                    refine RC.condT rfl ?_
                    refine RC.skip ?_
                    refine RQ.then_n ?_
                    refine RC.seq ?_
                    refine RC.block ?_
                    refine RC.seq ?_
                    refine RC.region ?_
                    refine RL.s (Vl.fieldAddr (a'' := ⟨b2792, 2, none⟩) Tryd.underlying27 rfl Tryd.sizeOf24 rfl rfl) rfl ?_
                    refine RL.s (Vl.load Tryd.isAgg24 rfl (hS.cell 0 rfl rfl)) rfl ?_
                    refine RL.s (Vl.move rfl) rfl ?_
                    obtain ⟨hq2975, h⟩ := h.req
                    refine RL.s (Vl.indexAddr Tryd.underlying24 Tryd.sizeOf39 rfl rfl ((hr1914.2.world hS.sub).adr hq2975 hc2966) hq2975 hc2966 rfl) rfl ?_
                    refine RL.s (Vl.loadA Tryd.isAgg39 Tryd.sizeOf39 rfl rfl ((hr1914.2.world hS.sub).cells hq2975 hc2966)) rfl ?_
                    refine RL.e (OW.alloc (cs := [.int .i64 0, .int .i64 0, .int .i64 0]) hS Tryd.zeroValue39 rfl) rfl rfl ?_
                    rintro _ w ⟨b2977, rfl, hS⟩
                    have hS : St B w (Cl b2977 [.int .i64 0, .int .i64 0, .int .i64 0] 39 :: Cl b2792 [.slice A1906 a1905.Progs.length c1907, .slice A1909 a1905.Links.length c1910, .slice A1912 a1905.Starts.length c1913, .int .u64 a1905.Seed, .int .i64 a1905.End, .int .i64 a1905.Budget] 27 :: l) hf := hS
                    refine RL.e0 (OW.store (cs := [.int .i64 0, .int .i64 0, .int .i64 0]) (vs := [.int .i64 ((nth a1905.Starts x2944).To), .int .i64 ((nth a1905.Starts x2944).Time), .int .i64 ((nth a1905.Starts x2944).Value)]) (l' := Cl b2977 [.int .i64 ((nth a1905.Starts x2944).To), .int .i64 ((nth a1905.Starts x2944).Time), .int .i64 ((nth a1905.Starts x2944).Value)] 39 :: Cl b2792 [.slice A1906 a1905.Progs.length c1907, .slice A1909 a1905.Links.length c1910, .slice A1912 a1905.Starts.length c1913, .int .u64 a1905.Seed, .int .i64 a1905.End, .int .i64 a1905.Budget] 27 :: l) 0 hS rfl rfl rfl rfl Tryd.sizeOf39 rfl rfl rfl rfl) rfl ?_
                    rintro _ w ⟨rfl, hS⟩
                    have hS : St B w (Cl b2977 [.int .i64 ((nth a1905.Starts x2944).To), .int .i64 ((nth a1905.Starts x2944).Time), .int .i64 ((nth a1905.Starts x2944).Value)] 39 :: Cl b2792 [.slice A1906 a1905.Progs.length c1907, .slice A1909 a1905.Links.length c1910, .slice A1912 a1905.Starts.length c1913, .int .u64 a1905.Seed, .int .i64 a1905.End, .int .i64 a1905.Budget] 27 :: l) hf := hS
                    refine RL.nil ?_
                    refine RQ.then_n ?_
                    refine RC.seq ?_
                    refine RC.region ?_
                    refine RL.s (Vl.fieldAddr (a'' := ⟨b2977, 0, none⟩) Tryd.underlying39 rfl Tryd.sizeOf3 rfl rfl) rfl ?_
                    refine RL.s (Vl.load Tryd.isAgg3 rfl (hS.cell 0 rfl rfl)) rfl ?_
                    refine RL.s (Vl.int rfl rfl rfl) rfl ?_
                    refine RL.s (Vl.move rfl) rfl ?_
                    by_cases hc2978 : (nth a1905.Starts x2944).To < 0
                    case pos =>
                      have h := h.pos hc2978
                      refine RL.re 68 rfl (congrArg Value.bool (decide_eq_true hc2978)) ?_
                      refine RL.nn rfl rfl ?_
                      refine RL.nn rfl rfl ?_
                      refine RL.nn rfl rfl ?_
                      refine RL.nn rfl rfl ?_
                      refine RL.nn rfl rfl ?_
                      refine RL.nn rfl rfl ?_
                      refine RL.s (Vl.pickT rfl rfl) rfl ?_
                      refine RL.s (Vl.move rfl) rfl ?_
                      refine RL.nn rfl rfl ?_
                      refine RL.nn rfl rfl ?_
                      refine RL.nn rfl rfl ?_
                      refine RL.nn rfl rfl ?_
                      refine RL.s (Vl.pickT rfl rfl) rfl ?_
                      refine RL.nil ?_
                      refine RQ.then_n ?_
                      refine RC.condT rfl ?_
                      refine RC.seq ?_
                      refine RC.region ?_
                      refine RL.s (Vl.assign rfl) rfl ?_
                      refine RL.nil ?_
                      refine RQ.then_n ?_
                      refine RC.ret ?_
                      refine RQ.inB_ret ?_
                      refine RQ.ret ?_
                      have h := h.inrS
                      refine RQ.ret ?_
                      refine RQ.inB_ret ?_
                      refine RQ.ret ?_
                      have e := h.some
                      subst e
                      refine RQ.ret0 (vs := [.int .i64 132]) Tryd.results10 ⟨rfl, trivial⟩ ?_
                      exact ⟨rfl, ((hS.dropAt 0 rfl).dropAt 0 rfl)⟩
                    case neg =>
                      have h := h.neg hc2978
                      refine RL.re 68 rfl (congrArg Value.bool (decide_eq_false hc2978)) ?_
                      refine RL.sg (Vl.fieldAddr (a'' := ⟨b2977, 0, none⟩) Tryd.underlying39 rfl Tryd.sizeOf3 rfl rfl) rfl rfl ?_
                      refine RL.sg (Vl.load Tryd.isAgg3 rfl (hS.cell 0 rfl rfl)) rfl rfl ?_
                      refine RL.sg (Vl.fieldAddr (a'' := ⟨b2792, 0, none⟩) Tryd.underlying27 rfl Tryd.sizeOf22 rfl rfl) rfl rfl ?_
                      refine RL.sg (Vl.load Tryd.isAgg22 rfl (hS.cell 1 rfl rfl)) rfl rfl ?_
                      refine RL.sg (Vl.lenSl Tryd.underlying22 rfl) rfl rfl ?_
                      refine RL.sg (Vl.int rfl rfl rfl) rfl rfl ?_
                      refine RL.s (Vl.pickF rfl rfl) rfl ?_
                      refine RL.s (Vl.move rfl) rfl ?_
                      by_cases hc2979 : (a1905.Progs.length : Int) ≤ (nth a1905.Starts x2944).To
                      case pos =>
                        have h := h.pos hc2979
                        refine RL.re 76 rfl (congrArg Value.bool (decide_eq_true hc2979)) ?_
                        refine RL.nn rfl rfl ?_
                        refine RL.nn rfl rfl ?_
                        refine RL.nn rfl rfl ?_
                        refine RL.nn rfl rfl ?_
                        refine RL.s (Vl.pickT rfl rfl) rfl ?_
                        refine RL.nil ?_
                        refine RQ.then_n ?_
                        refine RC.condT rfl ?_
                        refine RC.seq ?_
                        refine RC.region ?_
                        refine RL.s (Vl.assign rfl) rfl ?_
                        refine RL.nil ?_
                        refine RQ.then_n ?_
                        refine RC.ret ?_
                        refine RQ.inB_ret ?_
                        refine RQ.ret ?_
                        have h := h.inrS
                        refine RQ.ret ?_
                        refine RQ.inB_ret ?_
                        refine RQ.ret ?_
                        have e := h.some
                        subst e
                        refine RQ.ret0 (vs := [.int .i64 132]) Tryd.results10 ⟨rfl, trivial⟩ ?_
                        exact ⟨rfl, ((hS.dropAt 0 rfl).dropAt 0 rfl)⟩
                      case neg =>
                        have h := h.neg hc2979
                        refine RL.re 76 rfl (congrArg Value.bool (decide_eq_false hc2979)) ?_
                        refine RL.sg (Vl.fieldAddr (a'' := ⟨b2977, 1, none⟩) Tryd.underlying39 rfl Tryd.sizeOf2 rfl rfl) rfl rfl ?_
                        refine RL.sg (Vl.load Tryd.isAgg2 rfl (hS.cell 0 rfl rfl)) rfl rfl ?_
                        obtain ⟨t2980, hg2981, h⟩ := h.bind
                        refine RL.e (OW.callF (ls := [.tmp 78]) rfl Tryd.call23 (isochronref01vValid.ok ((nth a1905.Starts x2944).Time) _ hg2981 hS)) rfl rfl ?_
                        rintro _ w ⟨rfl, hS⟩
                        have hS : St B w (Cl b2977 [.int .i64 ((nth a1905.Starts x2944).To), .int .i64 ((nth a1905.Starts x2944).Time), .int .i64 ((nth a1905.Starts x2944).Value)] 39 :: Cl b2792 [.slice A1906 a1905.Progs.length c1907, .slice A1909 a1905.Links.length c1910, .slice A1912 a1905.Starts.length c1913, .int .u64 a1905.Seed, .int .i64 a1905.End, .int .i64 a1905.Budget] 27 :: l) hf := hS
                        refine RL.sg (Vl.not rfl) rfl rfl ?_
                        refine RL.s (Vl.pickF rfl rfl) rfl ?_
                        refine RL.nil ?_
                        refine RQ.then_n ?_
                        by_cases hc2982 : t2980 = true
                        case pos =>
                          have h := h.pos hc2982
                          refine RC.re 81 rfl (congrArg Value.bool (notb_pos hc2982)) ?_
                          refine RC.condF rfl ?_
                          refine RC.skip ?_
                          refine RQ.inB_n ?_
                          refine RQ.then_n ?_
                          refine RC.region ?_
                          refine RL.s (Vl.move rfl) rfl ?_
                          refine RL.s (Vl.int rfl rfl rfl) rfl ?_
                          refine RL.s (Vl.assign rfl) rfl ?_
                          refine RL.nil ?_
                          exact fun a ha => ⟨(IntKind.i64.wrap (x2944 + 1)), ⟨(IntKind.i64.wrap (x2944 + 1)), rfl, ha.to ⟨rfl, rfl, trivial⟩, (hS.dropAt 0 rfl)⟩, h.some⟩
                        case neg =>
                          have h := h.neg hc2982
                          refine RC.re 81 rfl (congrArg Value.bool (notb_neg hc2982)) ?_
                          refine RC.condT rfl ?_
                          refine RC.seq ?_
                          refine RC.region ?_
                          refine RL.s (Vl.assign rfl) rfl ?_
                          refine RL.nil ?_
                          refine RQ.then_n ?_
                          refine RC.ret ?_
                          refine RQ.inB_ret ?_
                          refine RQ.ret ?_
                          have h := h.inrS
                          refine RQ.ret ?_
                          refine RQ.inB_ret ?_
                          refine RQ.ret ?_
                          have e := h.some
                          subst e
                          refine RQ.ret0 (vs := [.int .i64 132]) Tryd.results10 ⟨rfl, trivial⟩ ?_
                          exact ⟨rfl, ((hS.dropAt 0 rfl).dropAt 0 rfl)⟩
                  case neg =>
                    have h := h.neg hc2966
                    refine RC.re 57 rfl (congrArg Value.bool (decide_eq_false hc2966)) ?_
                    refine RC.condF rfl ?_
                    refine RC.exit ?_
                    refine RQ.exitT ?_
                    have h := h.inrS
                    refine RQ.exitT ?_
                    refine RQ.inB_hit ?_
                    refine RQ.then_n ?_
                    refine RC.seq ?_
                    refine RC.region ?_
                    refine RL.s (Vl.assign rfl) rfl ?_
                    refine RL.nil ?_
                    refine RQ.then_n ?_
                    refine RC.ret ?_
                    have e := h.some
                    subst e
                    refine RQ.ret0 (vs := [.int .i64 0]) Tryd.results10 ⟨rfl, trivial⟩ ?_
                    exact ⟨rfl, (hS.dropAt 0 rfl)⟩
              case neg =>
                have h := h.neg hc2924
                refine RC.re 48 rfl (congrArg Value.bool (notb_neg hc2924)) ?_
                refine RC.condT rfl ?_
                refine RC.seq ?_
                refine RC.region ?_
                refine RL.s (Vl.assign rfl) rfl ?_
                refine RL.nil ?_
                refine RQ.then_n ?_
                refine RC.ret ?_
                refine RQ.ret ?_
                have e := h.some
                subst e
                refine RQ.ret0 (vs := [.int .i64 131]) Tryd.results10 ⟨rfl, trivial⟩ ?_
                exact ⟨rfl, (hS.dropAt 0 rfl)⟩
      case neg =>
        have h := h.neg hc2804
        refine RL.re 22 rfl (congrArg Value.bool (notb_neg hc2804)) ?_
        refine RL.nn rfl rfl ?_
        refine RL.nn rfl rfl ?_
        refine RL.nn rfl rfl ?_
        refine RL.s (Vl.pickT rfl rfl) rfl ?_
        refine RL.s (Vl.move rfl) rfl ?_
        refine RL.nn rfl rfl ?_
        refine RL.nn rfl rfl ?_
        refine RL.nn rfl rfl ?_
        refine RL.s (Vl.pickT rfl rfl) rfl ?_
        refine RL.nil ?_
        refine RQ.then_n ?_
        refine RC.condT rfl ?_
        refine RC.seq ?_
        refine RC.region ?_
        refine RL.s (Vl.assign rfl) rfl ?_
        refine RL.nil ?_
        refine RQ.then_n ?_
        refine RC.ret ?_
        refine RQ.ret ?_
        have e := h.some
        subst e
        refine RQ.ret0 (vs := [.int .i64 1]) Tryd.results10 ⟨rfl, trivial⟩ ?_
        exact ⟨rfl, (hS.dropAt 0 rfl)⟩

/-! ### isochron/isochronlaw13.awake: function 11 -/
noncomputable def isochronlaw13vawake.f  : Option (Bool) := ((model_Check.f (⟨[([] : List api_Instr)], [], [], 0, 0, 0⟩ : api_Model)).bind fun t3005 => (if t3005 = 0 then ((model_Check.f (⟨[], [], [], 0, 0, 0⟩ : api_Model)).bind fun t3008 => some (decide (t3008 = 1))) else some false))
set_option maxRecDepth 100000 in
set_option maxHeartbeats 4000000 in
theorem isochronlaw13vawake.ok {B : Base} {w : World} {l : List HProp} {hf : Hp} (hG0 : GlobAt hf 0 (.iface 96 (.agg #[.pointer (some ⟨1, 66, none⟩)]))) (r : Bool) (h : isochronlaw13vawake.f = some r) (hS : St B w (l) hf) :
    Calls Tryd.prog 11 #[] w (Ret fun v w => v = .bool r ∧ St B w (l) hf) := by
  have h := Holds.of h
  refine enter (args := []) Tryd.func11 rfl Tryd.ntmps11 (Nat.le_of_ble_eq_true rfl) ?_
  refine RC.seq ?_
  refine RC.region ?_
  refine RL.s (Vl.assign rfl) rfl ?_
  refine RL.nil ?_
  refine RQ.then_n ?_
  refine RC.seq ?_
  refine RC.region ?_
  have hx3000 : RepL (Rep.sl E_api_Instr.rep) hf [.slice none 0 0] [([] : List api_Instr)] := (RepL.cons (c := [.slice none 0 0]) (r := []) ⟨none, 0, rfl, SlR.nil⟩ RepL.nil)
  refine RL.e (OW.buildSliceR (sz := 1) (cs := [.slice none 0 0]) hS Tryd.underlying22 Tryd.zeroValue35 Tryd.sizeOf35 (parts := [(0, .const (.slice none 0 0))]) rfl rfl (by decide) (by decide) (by kernel_rfl)) rfl rfl ?_
  rintro _ w ⟨b2999, rfl, hS⟩
  have hS : St B w (OSl 35 1 (.slice (some ⟨b2999, 0, none⟩) ([([] : List api_Instr)]).length 1) ([([] : List api_Instr)]).length ([.slice none 0 0]) :: l) hf := hS
  refine RL.s (Vl.build (v := .agg #[.slice (some ⟨b2999, 0, none⟩) ([([] : List api_Instr)]).length 1, .slice none 0 0, .slice none 0 0, .int .u64 0, .int .i64 0, .int .i64 0]) (parts := [(0, .tmp 1)]) rfl (by kernel_rfl)) rfl ?_
  obtain ⟨hf3004, hs3002, hS, hr3001, hb3003⟩ := St.lendSlR (Rep.sl_ok E_api_Instr.rep) hS rfl hx3000
  obtain ⟨t3005, hg3006, h⟩ := h.bind
  refine RL.e (OW.callF (ls := [.tmp 2]) rfl Tryd.call9 (model_Check.ok (⟨[([] : List api_Instr)], [], [], 0, 0, 0⟩ : api_Model) (some ⟨b2999, 0, none⟩) 1 none 0 none 0 hr3001 SlR.nil SlR.nil (hG0.mono hs3002) _ hg3006 hS)) rfl rfl ?_
  rintro _ w ⟨rfl, hS⟩
  have hS := hb3003 _ _ hS
  have hS : St B w (OSl 35 1 (.slice (some ⟨b2999, 0, none⟩) ([([] : List api_Instr)]).length 1) ([([] : List api_Instr)]).length ([.slice none 0 0]) :: l) hf := hS
  refine RL.s (Vl.int rfl rfl rfl) rfl ?_
  refine RL.s (Vl.move rfl) rfl ?_
  by_cases hc3007 : t3005 = 0
  case pos =>
    have h := h.pos hc3007
    refine RL.re 5 rfl (congrArg Value.bool (decide_eq_true hc3007)) ?_
    refine RL.sg (Vl.build (v := .agg #[.slice none 0 0, .slice none 0 0, .slice none 0 0, .int .u64 0, .int .i64 0, .int .i64 0]) (parts := []) rfl (by kernel_rfl)) rfl rfl ?_
    obtain ⟨t3008, hg3009, h⟩ := h.bind
    refine RL.e (OW.callF (ls := [.tmp 6]) rfl Tryd.call9 (model_Check.ok (⟨[], [], [], 0, 0, 0⟩ : api_Model) none 0 none 0 none 0 SlR.nil SlR.nil SlR.nil hG0 _ hg3009 hS)) rfl rfl ?_
    rintro _ w ⟨rfl, hS⟩
    have hS : St B w (OSl 35 1 (.slice (some ⟨b2999, 0, none⟩) ([([] : List api_Instr)]).length 1) ([([] : List api_Instr)]).length ([.slice none 0 0]) :: l) hf := hS
    refine RL.sg (Vl.int rfl rfl rfl) rfl rfl ?_
    refine RL.s (Vl.pickT rfl rfl) rfl ?_
    refine RL.s (Vl.assign rfl) rfl ?_
    refine RL.nil ?_
    refine RQ.then_n ?_
    refine RC.ret ?_
    have e := h.some
    subst e
    refine RQ.ret0 (vs := [.bool (decide (t3008 = 1))]) Tryd.results11 ⟨rfl, trivial⟩ ?_
    exact ⟨rfl, (hS.dropAt 0 rfl)⟩
  case neg =>
    have h := h.neg hc3007
    refine RL.re 5 rfl (congrArg Value.bool (decide_eq_false hc3007)) ?_
    refine RL.nn rfl rfl ?_
    refine RL.nn rfl rfl ?_
    refine RL.nn rfl rfl ?_
    refine RL.s (Vl.pickF rfl rfl) rfl ?_
    refine RL.s (Vl.assign rfl) rfl ?_
    refine RL.nil ?_
    refine RQ.then_n ?_
    refine RC.ret ?_
    have e := h.some
    subst e
    refine RQ.ret0 (vs := [.bool false]) Tryd.results11 ⟨rfl, trivial⟩ ?_
    exact ⟨rfl, (hS.dropAt 0 rfl)⟩

/-! ### isochron/isochronlaw13.ModelChecks: function 3 -/
noncomputable def isochronlaw13vModelChecks.f (a1 : api_Model) : Option (Bool) := ((model_Check.f a1).bind fun t3014 => ((isochronref13vCheck.f a1).bind fun t3016 => (if t3014 = t3016 then ((isochronlaw13vawake.f).bind fun t3019 => some t3019) else some false)))
set_option maxRecDepth 100000 in
set_option maxHeartbeats 4000000 in
theorem isochronlaw13vModelChecks.ok {B : Base} {w : World} {l : List HProp} {hf : Hp} (a1 : api_Model) (A2 : Option Addr) (c3 : Nat) (A5 : Option Addr) (c6 : Nat) (A8 : Option Addr) (c9 : Nat) (hr4 : SlR (Rep.sl E_api_Instr.rep) hf A2 c3 a1.Progs) (hr7 : SlR E_api_Link.rep hf A5 c6 a1.Links) (hr10 : SlR E_api_Start.rep hf A8 c9 a1.Starts) (hG0 : GlobAt hf 0 (.iface 96 (.agg #[.pointer (some ⟨1, 66, none⟩)]))) (r : Bool) (h : isochronlaw13vModelChecks.f a1 = some r) (hS : St B w (l) hf) :
    Calls Tryd.prog 3 #[.agg #[.slice A2 a1.Progs.length c3, .slice A5 a1.Links.length c6, .slice A8 a1.Starts.length c9, .int .u64 a1.Seed, .int .i64 a1.End, .int .i64 a1.Budget]] w (Ret fun v w => v = .bool r ∧ St B w (l) hf) := by
  have h := Holds.of h
  refine enter (args := [.agg #[.slice A2 a1.Progs.length c3, .slice A5 a1.Links.length c6, .slice A8 a1.Starts.length c9, .int .u64 a1.Seed, .int .i64 a1.End, .int .i64 a1.Budget]]) Tryd.func3 rfl Tryd.ntmps3 (Nat.le_of_ble_eq_true rfl) ?_
  refine RC.seq ?_
  refine RC.region ?_
  refine RL.e (OW.box (cs := [.slice A2 a1.Progs.length c3, .slice A5 a1.Links.length c6, .slice A8 a1.Starts.length c9, .int .u64 a1.Seed, .int .i64 a1.End, .int .i64 a1.Budget]) hS rfl rfl) rfl rfl ?_
  rintro _ w ⟨b3013, rfl, hS⟩
  have hS : St B w (Cl b3013 [.slice A2 a1.Progs.length c3, .slice A5 a1.Links.length c6, .slice A8 a1.Starts.length c9, .int .u64 a1.Seed, .int .i64 a1.End, .int .i64 a1.Budget] 27 :: l) hf := hS
  refine RL.s (Vl.assign rfl) rfl ?_
  refine RL.nil ?_
  refine RQ.then_n ?_
  refine RC.seq ?_
  refine RC.plan (.cons 0 true (.cons 2 true (.cons 1 false (.cons 3 false (.cons 4 false (.cons 5 false (.cons 6 false (.cons 7 false (.cons 8 false .nil))))))))) [8] (fun w => St B w (Cl b3013 [.slice A2 a1.Progs.length c3, .slice A5 a1.Links.length c6, .slice A8 a1.Starts.length c9, .int .u64 a1.Seed, .int .i64 a1.End, .int .i64 a1.Budget] 27 :: l) hf) follows rfl (by kernel_rfl) (NoTmp.then NoTmp.body) ?_
  have hS := hS.same (w' := { w with drawn := w.drawn + 1 }) rfl rfl
  revert hS
  generalize { w with drawn := w.drawn + 1 } = w
  intro hS
  refine RP.s 0 rfl rfl hS (fun w hS => Vl.loadA (vs := [.slice A2 a1.Progs.length c3, .slice A5 a1.Links.length c6, .slice A8 a1.Starts.length c9, .int .u64 a1.Seed, .int .i64 a1.End, .int .i64 a1.Budget]) Tryd.isAgg27 Tryd.sizeOf27 rfl rfl (hS.cellsAt 0 rfl rfl)) rfl ?_
  refine RP.s 2 rfl rfl hS (fun w hS => Vl.loadA (vs := [.slice A2 a1.Progs.length c3, .slice A5 a1.Links.length c6, .slice A8 a1.Starts.length c9, .int .u64 a1.Seed, .int .i64 a1.End, .int .i64 a1.Budget]) Tryd.isAgg27 Tryd.sizeOf27 rfl rfl (hS.cellsAt 0 rfl rfl)) rfl ?_
  obtain ⟨t3014, hg3015, h⟩ := h.bind
  refine RP.e 1 rfl (OW.callF (ls := [.tmp 3]) rfl Tryd.call9 (model_Check.ok a1 A2 c3 A5 c6 A8 c9 hr4 hr7 hr10 hG0 _ hg3015 hS)) rfl rfl ?_
  rintro _ w ⟨rfl, hS⟩
  have hS : St B w (Cl b3013 [.slice A2 a1.Progs.length c3, .slice A5 a1.Links.length c6, .slice A8 a1.Starts.length c9, .int .u64 a1.Seed, .int .i64 a1.End, .int .i64 a1.Budget] 27 :: l) hf := hS
  refine ⟨fun _ => hS, ?_⟩
  obtain ⟨t3016, hg3017, h⟩ := h.bind
  refine RP.e 3 rfl (OW.callF (ls := [.tmp 5]) rfl Tryd.call10 (isochronref13vCheck.ok a1 A2 c3 A5 c6 A8 c9 hr4 hr7 hr10 _ hg3017 hS)) rfl rfl ?_
  rintro _ w ⟨rfl, hS⟩
  have hS : St B w (Cl b3013 [.slice A2 a1.Progs.length c3, .slice A5 a1.Links.length c6, .slice A8 a1.Starts.length c9, .int .u64 a1.Seed, .int .i64 a1.End, .int .i64 a1.Budget] 27 :: l) hf := hS
  refine ⟨fun _ => hS, ?_⟩
  refine RP.v1 4 rfl (fun _ => hS) (Vl.int rfl rfl rfl) rfl rfl ?_
  refine RP.v1 5 rfl (fun _ => hS) (Vl.move rfl) rfl rfl ?_
  by_cases hc3018 : t3014 = t3016
  case pos =>
    have h := h.pos hc3018
    refine RP.re 8 rfl (congrArg Value.bool (decide_eq_true hc3018)) ?_
    obtain ⟨t3019, hg3020, h⟩ := h.bind
    refine RP.e 6 rfl (OW.callF (ls := []) rfl Tryd.call11 (isochronlaw13vawake.ok hG0 _ hg3020 hS)) rfl rfl ?_
    rintro _ w ⟨rfl, hS⟩
    have hS : St B w (Cl b3013 [.slice A2 a1.Progs.length c3, .slice A5 a1.Links.length c6, .slice A8 a1.Starts.length c9, .int .u64 a1.Seed, .int .i64 a1.End, .int .i64 a1.Budget] 27 :: l) hf := hS
    refine ⟨fun _ => hS, ?_⟩
    refine RP.v1 7 rfl (fun _ => hS) (Vl.pickT rfl rfl) rfl rfl ?_
    refine RP.v1 8 rfl (by intro hx; cases hx) (Vl.assign rfl) rfl rfl ?_
    refine RP.nil ?_
    refine RQ.then_n ?_
    refine RC.ret ?_
    have e := h.some
    subst e
    refine RQ.ret0 (vs := [.bool t3019]) Tryd.results3 ⟨rfl, trivial⟩ ?_
    exact ⟨rfl, (hS.dropAt 0 rfl)⟩
  case neg =>
    have h := h.neg hc3018
    refine RP.re 8 rfl (congrArg Value.bool (decide_eq_false hc3018)) ?_
    refine RP.n1 6 rfl (fun _ => hS) rfl rfl ?_
    refine RP.v1 7 rfl (fun _ => hS) (Vl.pickF rfl rfl) rfl rfl ?_
    refine RP.v1 8 rfl (by intro hx; cases hx) (Vl.assign rfl) rfl rfl ?_
    refine RP.nil ?_
    refine RQ.then_n ?_
    refine RC.ret ?_
    have e := h.some
    subst e
    refine RQ.ret0 (vs := [.bool false]) Tryd.results3 ⟨rfl, trivial⟩ ?_
    exact ⟨rfl, (hS.dropAt 0 rfl)⟩

/-! ### isochron/isochronlaw13.ModelFaults: function 4 -/
noncomputable def isochronlaw13vModelFaults.f (a3021 : api_Model) (a3031 : Int) : Option (Bool) := ((model_Check.f a3021).bind fun t3330 => (if t3330 = 0 then (if Int.tmod a3031 6 = 0 then ((model_Check.f (⟨a3021.Progs, a3021.Links, a3021.Starts, a3021.Seed, (-1), a3021.Budget⟩ : api_Model)).bind fun t3438 => (if t3438 = 1 then ((isochronlaw13vawake.f).bind fun t3441 => some t3441) else some false)) else (if Int.tmod a3031 6 = 1 then ((model_Check.f (⟨a3021.Progs, a3021.Links, a3021.Starts, a3021.Seed, a3021.End, 4097⟩ : api_Model)).bind fun t3444 => (if t3444 = 1 then ((isochronlaw13vawake.f).bind fun t3447 => some t3447) else some false)) else (if Int.tmod a3031 6 = 2 then (if (([] : List (List api_Instr)).length + a3021.Progs.length) * 24 ≤ 140737488355328 then (if ((([] : List (List api_Instr)) ++ a3021.Progs).length + ([[(⟨99, 0, 0, 0⟩ : api_Instr)]]).length) * 24 ≤ 140737488355328 then (if 16 < (((([] : List (List api_Instr)) ++ a3021.Progs) ++ ([[(⟨99, 0, 0, 0⟩ : api_Instr)]])).length : Int) then ((model_Check.f (⟨((([] : List (List api_Instr)) ++ a3021.Progs) ++ ([[(⟨99, 0, 0, 0⟩ : api_Instr)]])), a3021.Links, a3021.Starts, a3021.Seed, a3021.End, a3021.Budget⟩ : api_Model)).bind fun t3479 => (if t3479 = 1 then ((isochronlaw13vawake.f).bind fun t3482 => some t3482) else some false)) else ((model_Check.f (⟨((([] : List (List api_Instr)) ++ a3021.Progs) ++ ([[(⟨99, 0, 0, 0⟩ : api_Instr)]])), a3021.Links, a3021.Starts, a3021.Seed, a3021.End, a3021.Budget⟩ : api_Model)).bind fun t3488 => (if t3488 = 130 then ((isochronlaw13vawake.f).bind fun t3491 => some t3491) else some false))) else none) else none) else (if Int.tmod a3031 6 = 3 then (if (([] : List api_Link).length + a3021.Links.length) * 32 ≤ 140737488355328 then (if ((([] : List api_Link) ++ a3021.Links).length + 1) * 32 ≤ 140737488355328 then ((model_Check.f (⟨a3021.Progs, ((([] : List api_Link) ++ a3021.Links) ++ ([(⟨(a3021.Progs.length : Int), 0, 1, false⟩ : api_Link)])), a3021.Starts, a3021.Seed, a3021.End, a3021.Budget⟩ : api_Model)).bind fun t3513 => (if t3513 = 131 then ((isochronlaw13vawake.f).bind fun t3516 => some t3516) else some false)) else none) else none) else (if Int.tmod a3031 6 = 4 then (if (([] : List api_Link).length + a3021.Links.length) * 32 ≤ 140737488355328 then (if ((([] : List api_Link) ++ a3021.Links).length + 1) * 32 ≤ 140737488355328 then ((model_Check.f (⟨a3021.Progs, ((([] : List api_Link) ++ a3021.Links) ++ ([(⟨0, 0, 0, false⟩ : api_Link)])), a3021.Starts, a3021.Seed, a3021.End, a3021.Budget⟩ : api_Model)).bind fun t3583 => (if t3583 = 131 then ((isochronlaw13vawake.f).bind fun t3586 => some t3586) else some false)) else none) else none) else (if (([] : List api_Start).length + a3021.Starts.length) * 24 ≤ 140737488355328 then (if ((([] : List api_Start) ++ a3021.Starts).length + 1) * 24 ≤ 140737488355328 then ((model_Check.f (⟨a3021.Progs, a3021.Links, ((([] : List api_Start) ++ a3021.Starts) ++ ([(⟨(-1), 0, 0⟩ : api_Start)])), a3021.Seed, a3021.End, a3021.Budget⟩ : api_Model)).bind fun t3607 => (if t3607 = 132 then ((isochronlaw13vawake.f).bind fun t3610 => some t3610) else some false)) else none) else none)))))) else ((isochronlaw13vawake.f).bind fun t3612 => some t3612)))
set_option maxRecDepth 100000 in
set_option maxHeartbeats 4000000 in
theorem isochronlaw13vModelFaults.ok {B : Base} {w : World} {l : List HProp} {hf : Hp} (a3021 : api_Model) (a3031 : Int) (A3022 : Option Addr) (c3023 : Nat) (A3025 : Option Addr) (c3026 : Nat) (A3028 : Option Addr) (c3029 : Nat) (hr3024 : SlR (Rep.sl E_api_Instr.rep) hf A3022 c3023 a3021.Progs) (hr3027 : SlR E_api_Link.rep hf A3025 c3026 a3021.Links) (hr3030 : SlR E_api_Start.rep hf A3028 c3029 a3021.Starts) (hG0 : GlobAt hf 0 (.iface 96 (.agg #[.pointer (some ⟨1, 66, none⟩)]))) (r : Bool) (h : isochronlaw13vModelFaults.f a3021 a3031 = some r) (hS : St B w (l) hf) :
    Calls Tryd.prog 4 #[.agg #[.slice A3022 a3021.Progs.length c3023, .slice A3025 a3021.Links.length c3026, .slice A3028 a3021.Starts.length c3029, .int .u64 a3021.Seed, .int .i64 a3021.End, .int .i64 a3021.Budget], .int .u8 a3031] w (Ret fun v w => v = .bool r ∧ St B w (l) hf) := by
  have h := Holds.of h
  refine enter (args := [.agg #[.slice A3022 a3021.Progs.length c3023, .slice A3025 a3021.Links.length c3026, .slice A3028 a3021.Starts.length c3029, .int .u64 a3021.Seed, .int .i64 a3021.End, .int .i64 a3021.Budget], .int .u8 a3031]) Tryd.func4 rfl Tryd.ntmps4 (Nat.le_of_ble_eq_true rfl) ?_
  refine RC.seq ?_
  refine RC.region ?_
  refine RL.e (OW.box (cs := [.slice A3022 a3021.Progs.length c3023, .slice A3025 a3021.Links.length c3026, .slice A3028 a3021.Starts.length c3029, .int .u64 a3021.Seed, .int .i64 a3021.End, .int .i64 a3021.Budget]) hS rfl rfl) rfl rfl ?_
  rintro _ w ⟨b3324, rfl, hS⟩
  have hS : St B w (Cl b3324 [.slice A3022 a3021.Progs.length c3023, .slice A3025 a3021.Links.length c3026, .slice A3028 a3021.Starts.length c3029, .int .u64 a3021.Seed, .int .i64 a3021.End, .int .i64 a3021.Budget] 27 :: l) hf := hS
  refine RL.s (Vl.assign rfl) rfl ?_
  refine RL.nil ?_
  refine RQ.then_n ?_
  refine RC.seq ?_
  refine RC.seq ?_
  refine RC.region ?_
  refine RL.s (Vl.loadA (vs := [.slice A3022 a3021.Progs.length c3023, .slice A3025 a3021.Links.length c3026, .slice A3028 a3021.Starts.length c3029, .int .u64 a3021.Seed, .int .i64 a3021.End, .int .i64 a3021.Budget]) Tryd.isAgg27 Tryd.sizeOf27 rfl rfl (hS.cellsAt 0 rfl rfl)) rfl ?_
  obtain ⟨t3330, hg3331, h⟩ := h.bind
  refine RL.e (OW.callF (ls := [.tmp 7]) rfl Tryd.call9 (model_Check.ok a3021 A3022 c3023 A3025 c3026 A3028 c3029 hr3024 hr3027 hr3030 hG0 _ hg3331 hS)) rfl rfl ?_
  rintro _ w ⟨rfl, hS⟩
  have hS : St B w (Cl b3324 [.slice A3022 a3021.Progs.length c3023, .slice A3025 a3021.Links.length c3026, .slice A3028 a3021.Starts.length c3029, .int .u64 a3021.Seed, .int .i64 a3021.End, .int .i64 a3021.Budget] 27 :: l) hf := hS
  refine RL.s (Vl.int rfl rfl rfl) rfl ?_
  refine RL.nil ?_
  refine RQ.then_n ?_
  by_cases hc3332 : t3330 = 0
  case pos =>
    have h := h.pos hc3332
    refine RC.re 9 rfl (congrArg Value.bool (notdec_pos hc3332)) ?_
    refine RC.condF rfl ?_
    refine RC.skip ?_
    refine RQ.then_n ?_
    refine RC.seq ?_
    refine RC.region ?_
    refine RL.s (Vl.loadA (vs := [.slice A3022 a3021.Progs.length c3023, .slice A3025 a3021.Links.length c3026, .slice A3028 a3021.Starts.length c3029, .int .u64 a3021.Seed, .int .i64 a3021.End, .int .i64 a3021.Budget]) Tryd.isAgg27 Tryd.sizeOf27 rfl rfl (hS.cellsAt 0 rfl rfl)) rfl ?_
    refine RL.e (OW.alloc (cs := [.slice none 0 0, .slice none 0 0, .slice none 0 0, .int .u64 0, .int .i64 0, .int .i64 0]) hS Tryd.zeroValue27 rfl) rfl rfl ?_
    rintro _ w ⟨b3334, rfl, hS⟩
    have hS : St B w (Cl b3334 [.slice none 0 0, .slice none 0 0, .slice none 0 0, .int .u64 0, .int .i64 0, .int .i64 0] 27 :: Cl b3324 [.slice A3022 a3021.Progs.length c3023, .slice A3025 a3021.Links.length c3026, .slice A3028 a3021.Starts.length c3029, .int .u64 a3021.Seed, .int .i64 a3021.End, .int .i64 a3021.Budget] 27 :: l) hf := hS
    refine RL.e0 (OW.store (cs := [.slice none 0 0, .slice none 0 0, .slice none 0 0, .int .u64 0, .int .i64 0, .int .i64 0]) (vs := [.slice A3022 a3021.Progs.length c3023, .slice A3025 a3021.Links.length c3026, .slice A3028 a3021.Starts.length c3029, .int .u64 a3021.Seed, .int .i64 a3021.End, .int .i64 a3021.Budget]) (l' := Cl b3334 [.slice A3022 a3021.Progs.length c3023, .slice A3025 a3021.Links.length c3026, .slice A3028 a3021.Starts.length c3029, .int .u64 a3021.Seed, .int .i64 a3021.End, .int .i64 a3021.Budget] 27 :: Cl b3324 [.slice A3022 a3021.Progs.length c3023, .slice A3025 a3021.Links.length c3026, .slice A3028 a3021.Starts.length c3029, .int .u64 a3021.Seed, .int .i64 a3021.End, .int .i64 a3021.Budget] 27 :: l) 0 hS rfl rfl rfl rfl Tryd.sizeOf27 rfl rfl rfl rfl) rfl ?_
    rintro _ w ⟨rfl, hS⟩
    have hS : St B w (Cl b3334 [.slice A3022 a3021.Progs.length c3023, .slice A3025 a3021.Links.length c3026, .slice A3028 a3021.Starts.length c3029, .int .u64 a3021.Seed, .int .i64 a3021.End, .int .i64 a3021.Budget] 27 :: Cl b3324 [.slice A3022 a3021.Progs.length c3023, .slice A3025 a3021.Links.length c3026, .slice A3028 a3021.Starts.length c3029, .int .u64 a3021.Seed, .int .i64 a3021.End, .int .i64 a3021.Budget] 27 :: l) hf := hS
    refine RL.nil ?_
    refine RQ.then_n ?_
    refine RC.seq ?_
    refine RC.region ?_
    refine RL.s (Vl.assign rfl) rfl ?_
    refine RL.nil ?_
    refine RQ.then_n ?_
    refine RC.seq ?_
    refine RC.seq ?_
    refine RC.region ?_
    refine RL.s (Vl.move rfl) rfl ?_
    refine RL.s (Vl.rem rfl rfl (by decide)) rfl ?_
    refine RL.nil ?_
    refine RQ.then_n ?_
    refine RC.block ?_
    refine RC.seq ?_
    refine RC.region ?_
    refine RL.s (Vl.int rfl rfl rfl) rfl ?_
    refine RL.s (Vl.assign rfl) rfl ?_
    refine RL.nil ?_
    refine RQ.then_n ?_
    by_cases hc3437 : Int.tmod a3031 6 = 0
    case pos =>
      have h := h.pos hc3437
      refine RC.re 22 rfl (congrArg Value.bool (decide_eq_true hc3437)) ?_
      refine RC.condT rfl ?_
      refine RC.region ?_
      refine RL.s (Vl.fieldAddr (a'' := ⟨b3334, 4, none⟩) Tryd.underlying27 rfl Tryd.sizeOf2 rfl rfl) rfl ?_
      refine RL.e0 (OW.store (cs := [.slice A3022 a3021.Progs.length c3023, .slice A3025 a3021.Links.length c3026, .slice A3028 a3021.Starts.length c3029, .int .u64 a3021.Seed, .int .i64 a3021.End, .int .i64 a3021.Budget]) (vs := [.int .i64 (-1)]) (l' := Cl b3334 [.slice A3022 a3021.Progs.length c3023, .slice A3025 a3021.Links.length c3026, .slice A3028 a3021.Starts.length c3029, .int .u64 a3021.Seed, .int .i64 (-1), .int .i64 a3021.Budget] 27 :: Cl b3324 [.slice A3022 a3021.Progs.length c3023, .slice A3025 a3021.Links.length c3026, .slice A3028 a3021.Starts.length c3029, .int .u64 a3021.Seed, .int .i64 a3021.End, .int .i64 a3021.Budget] 27 :: l) 0 hS rfl rfl rfl rfl Tryd.sizeOf2 rfl rfl rfl rfl) rfl ?_
      rintro _ w ⟨rfl, hS⟩
      have hS : St B w (Cl b3334 [.slice A3022 a3021.Progs.length c3023, .slice A3025 a3021.Links.length c3026, .slice A3028 a3021.Starts.length c3029, .int .u64 a3021.Seed, .int .i64 (-1), .int .i64 a3021.Budget] 27 :: Cl b3324 [.slice A3022 a3021.Progs.length c3023, .slice A3025 a3021.Links.length c3026, .slice A3028 a3021.Starts.length c3029, .int .u64 a3021.Seed, .int .i64 a3021.End, .int .i64 a3021.Budget] 27 :: l) hf := hS
      refine RL.nil ?_
      refine RQ.inB_n ?_
      refine RQ.then_n ?_
      refine RC.seq ?_
      refine RC.region ?_
      refine RL.s (Vl.loadA (vs := [.slice A3022 a3021.Progs.length c3023, .slice A3025 a3021.Links.length c3026, .slice A3028 a3021.Starts.length c3029, .int .u64 a3021.Seed, .int .i64 (-1), .int .i64 a3021.Budget]) Tryd.isAgg27 Tryd.sizeOf27 rfl rfl (hS.cellsAt 0 rfl rfl)) rfl ?_
      obtain ⟨t3438, hg3439, h⟩ := h.bind
      refine RL.e (OW.callF (ls := [.tmp 66]) rfl Tryd.call9 (model_Check.ok (⟨a3021.Progs, a3021.Links, a3021.Starts, a3021.Seed, (-1), a3021.Budget⟩ : api_Model) A3022 c3023 A3025 c3026 A3028 c3029 hr3024 hr3027 hr3030 hG0 _ hg3439 hS)) rfl rfl ?_
      rintro _ w ⟨rfl, hS⟩
      have hS : St B w (Cl b3334 [.slice A3022 a3021.Progs.length c3023, .slice A3025 a3021.Links.length c3026, .slice A3028 a3021.Starts.length c3029, .int .u64 a3021.Seed, .int .i64 (-1), .int .i64 a3021.Budget] 27 :: Cl b3324 [.slice A3022 a3021.Progs.length c3023, .slice A3025 a3021.Links.length c3026, .slice A3028 a3021.Starts.length c3029, .int .u64 a3021.Seed, .int .i64 a3021.End, .int .i64 a3021.Budget] 27 :: l) hf := hS
      refine RL.s (Vl.move rfl) rfl ?_
      refine RL.s (Vl.int rfl rfl rfl) rfl ?_
      refine RL.s (Vl.move rfl) rfl ?_
      by_cases hc3440 : t3438 = 1
      case pos =>
        have h := h.pos hc3440
        refine RL.re 70 rfl (congrArg Value.bool (decide_eq_true hc3440)) ?_
        obtain ⟨t3441, hg3442, h⟩ := h.bind
        refine RL.e (OW.callF (ls := []) rfl Tryd.call11 (isochronlaw13vawake.ok hG0 _ hg3442 hS)) rfl rfl ?_
        rintro _ w ⟨rfl, hS⟩
        have hS : St B w (Cl b3334 [.slice A3022 a3021.Progs.length c3023, .slice A3025 a3021.Links.length c3026, .slice A3028 a3021.Starts.length c3029, .int .u64 a3021.Seed, .int .i64 (-1), .int .i64 a3021.Budget] 27 :: Cl b3324 [.slice A3022 a3021.Progs.length c3023, .slice A3025 a3021.Links.length c3026, .slice A3028 a3021.Starts.length c3029, .int .u64 a3021.Seed, .int .i64 a3021.End, .int .i64 a3021.Budget] 27 :: l) hf := hS
        refine RL.s (Vl.pickT rfl rfl) rfl ?_
        refine RL.s (Vl.assign rfl) rfl ?_
        refine RL.nil ?_
        refine RQ.then_n ?_
        refine RC.ret ?_
        have e := h.some
        subst e
        refine RQ.ret0 (vs := [.bool t3441]) Tryd.results4 ⟨rfl, trivial⟩ ?_
        exact ⟨rfl, ((hS.dropAt 0 rfl).dropAt 0 rfl)⟩
      case neg =>
        have h := h.neg hc3440
        refine RL.re 70 rfl (congrArg Value.bool (decide_eq_false hc3440)) ?_
        refine RL.nn rfl rfl ?_
        refine RL.s (Vl.pickF rfl rfl) rfl ?_
        refine RL.s (Vl.assign rfl) rfl ?_
        refine RL.nil ?_
        refine RQ.then_n ?_
        refine RC.ret ?_
        have e := h.some
        subst e
        refine RQ.ret0 (vs := [.bool false]) Tryd.results4 ⟨rfl, trivial⟩ ?_
        exact ⟨rfl, ((hS.dropAt 0 rfl).dropAt 0 rfl)⟩
    case neg =>
      have h := h.neg hc3437
      refine RC.re 22 rfl (congrArg Value.bool (decide_eq_false hc3437)) ?_
      refine RC.condF rfl ?_
      refine RC.seq ?_
      refine RC.region ?_
      refine RL.s (Vl.int rfl rfl rfl) rfl ?_
      refine RL.s (Vl.assign rfl) rfl ?_
      refine RL.nil ?_
      refine RQ.then_n ?_
      by_cases hc3443 : Int.tmod a3031 6 = 1
      case pos =>
        have h := h.pos hc3443
        refine RC.re 25 rfl (congrArg Value.bool (decide_eq_true hc3443)) ?_
        refine RC.condT rfl ?_
        refine RC.region ?_
        refine RL.s (Vl.fieldAddr (a'' := ⟨b3334, 5, none⟩) Tryd.underlying27 rfl Tryd.sizeOf3 rfl rfl) rfl ?_
        refine RL.e0 (OW.store (cs := [.slice A3022 a3021.Progs.length c3023, .slice A3025 a3021.Links.length c3026, .slice A3028 a3021.Starts.length c3029, .int .u64 a3021.Seed, .int .i64 a3021.End, .int .i64 a3021.Budget]) (vs := [.int .i64 4097]) (l' := Cl b3334 [.slice A3022 a3021.Progs.length c3023, .slice A3025 a3021.Links.length c3026, .slice A3028 a3021.Starts.length c3029, .int .u64 a3021.Seed, .int .i64 a3021.End, .int .i64 4097] 27 :: Cl b3324 [.slice A3022 a3021.Progs.length c3023, .slice A3025 a3021.Links.length c3026, .slice A3028 a3021.Starts.length c3029, .int .u64 a3021.Seed, .int .i64 a3021.End, .int .i64 a3021.Budget] 27 :: l) 0 hS rfl rfl rfl rfl Tryd.sizeOf3 rfl rfl rfl rfl) rfl ?_
        rintro _ w ⟨rfl, hS⟩
        have hS : St B w (Cl b3334 [.slice A3022 a3021.Progs.length c3023, .slice A3025 a3021.Links.length c3026, .slice A3028 a3021.Starts.length c3029, .int .u64 a3021.Seed, .int .i64 a3021.End, .int .i64 4097] 27 :: Cl b3324 [.slice A3022 a3021.Progs.length c3023, .slice A3025 a3021.Links.length c3026, .slice A3028 a3021.Starts.length c3029, .int .u64 a3021.Seed, .int .i64 a3021.End, .int .i64 a3021.Budget] 27 :: l) hf := hS
        refine RL.nil ?_
        refine RQ.inB_n ?_
        refine RQ.then_n ?_
        refine RC.seq ?_
        refine RC.region ?_
        refine RL.s (Vl.loadA (vs := [.slice A3022 a3021.Progs.length c3023, .slice A3025 a3021.Links.length c3026, .slice A3028 a3021.Starts.length c3029, .int .u64 a3021.Seed, .int .i64 a3021.End, .int .i64 4097]) Tryd.isAgg27 Tryd.sizeOf27 rfl rfl (hS.cellsAt 0 rfl rfl)) rfl ?_
        obtain ⟨t3444, hg3445, h⟩ := h.bind
        refine RL.e (OW.callF (ls := [.tmp 66]) rfl Tryd.call9 (model_Check.ok (⟨a3021.Progs, a3021.Links, a3021.Starts, a3021.Seed, a3021.End, 4097⟩ : api_Model) A3022 c3023 A3025 c3026 A3028 c3029 hr3024 hr3027 hr3030 hG0 _ hg3445 hS)) rfl rfl ?_
        rintro _ w ⟨rfl, hS⟩
        have hS : St B w (Cl b3334 [.slice A3022 a3021.Progs.length c3023, .slice A3025 a3021.Links.length c3026, .slice A3028 a3021.Starts.length c3029, .int .u64 a3021.Seed, .int .i64 a3021.End, .int .i64 4097] 27 :: Cl b3324 [.slice A3022 a3021.Progs.length c3023, .slice A3025 a3021.Links.length c3026, .slice A3028 a3021.Starts.length c3029, .int .u64 a3021.Seed, .int .i64 a3021.End, .int .i64 a3021.Budget] 27 :: l) hf := hS
        refine RL.s (Vl.move rfl) rfl ?_
        refine RL.s (Vl.int rfl rfl rfl) rfl ?_
        refine RL.s (Vl.move rfl) rfl ?_
        by_cases hc3446 : t3444 = 1
        case pos =>
          have h := h.pos hc3446
          refine RL.re 70 rfl (congrArg Value.bool (decide_eq_true hc3446)) ?_
          obtain ⟨t3447, hg3448, h⟩ := h.bind
          refine RL.e (OW.callF (ls := []) rfl Tryd.call11 (isochronlaw13vawake.ok hG0 _ hg3448 hS)) rfl rfl ?_
          rintro _ w ⟨rfl, hS⟩
          have hS : St B w (Cl b3334 [.slice A3022 a3021.Progs.length c3023, .slice A3025 a3021.Links.length c3026, .slice A3028 a3021.Starts.length c3029, .int .u64 a3021.Seed, .int .i64 a3021.End, .int .i64 4097] 27 :: Cl b3324 [.slice A3022 a3021.Progs.length c3023, .slice A3025 a3021.Links.length c3026, .slice A3028 a3021.Starts.length c3029, .int .u64 a3021.Seed, .int .i64 a3021.End, .int .i64 a3021.Budget] 27 :: l) hf := hS
          refine RL.s (Vl.pickT rfl rfl) rfl ?_
          refine RL.s (Vl.assign rfl) rfl ?_
          refine RL.nil ?_
          refine RQ.then_n ?_
          refine RC.ret ?_
          have e := h.some
          subst e
          refine RQ.ret0 (vs := [.bool t3447]) Tryd.results4 ⟨rfl, trivial⟩ ?_
          exact ⟨rfl, ((hS.dropAt 0 rfl).dropAt 0 rfl)⟩
        case neg =>
          have h := h.neg hc3446
          refine RL.re 70 rfl (congrArg Value.bool (decide_eq_false hc3446)) ?_
          refine RL.nn rfl rfl ?_
          refine RL.s (Vl.pickF rfl rfl) rfl ?_
          refine RL.s (Vl.assign rfl) rfl ?_
          refine RL.nil ?_
          refine RQ.then_n ?_
          refine RC.ret ?_
          have e := h.some
          subst e
          refine RQ.ret0 (vs := [.bool false]) Tryd.results4 ⟨rfl, trivial⟩ ?_
          exact ⟨rfl, ((hS.dropAt 0 rfl).dropAt 0 rfl)⟩
      case neg =>
        have h := h.neg hc3443
        refine RC.re 25 rfl (congrArg Value.bool (decide_eq_false hc3443)) ?_
        refine RC.condF rfl ?_
        refine RC.seq ?_
        refine RC.region ?_
        refine RL.s (Vl.int rfl rfl rfl) rfl ?_
        refine RL.s (Vl.assign rfl) rfl ?_
        refine RL.nil ?_
        refine RQ.then_n ?_
        by_cases hc3449 : Int.tmod a3031 6 = 2
        case pos =>
          have h := h.pos hc3449
          refine RC.re 28 rfl (congrArg Value.bool (decide_eq_true hc3449)) ?_
          refine RC.condT rfl ?_
          refine RC.seq ?_
          refine RC.region ?_
          have hx3452 : RepL (Rep.sl E_api_Instr.rep) hf [] ([] : List (List api_Instr)) := RepL.nil
          refine RL.e (OW.build0R (sz := 1) hS Tryd.underlying22 Tryd.zeroValue35 Tryd.sizeOf35) rfl rfl ?_
          rintro _ w ⟨b3451, rfl, hS⟩
          have hS : St B w (OSl 35 1 (.slice (some ⟨b3451, 0, none⟩) ([] : List (List api_Instr)).length 0) ([] : List (List api_Instr)).length ([]) :: Cl b3334 [.slice A3022 a3021.Progs.length c3023, .slice A3025 a3021.Links.length c3026, .slice A3028 a3021.Starts.length c3029, .int .u64 a3021.Seed, .int .i64 a3021.End, .int .i64 a3021.Budget] 27 :: Cl b3324 [.slice A3022 a3021.Progs.length c3023, .slice A3025 a3021.Links.length c3026, .slice A3028 a3021.Starts.length c3029, .int .u64 a3021.Seed, .int .i64 a3021.End, .int .i64 a3021.Budget] 27 :: l) hf := hS
          refine RL.s (Vl.fieldAddr (a'' := ⟨b3324, 0, none⟩) Tryd.underlying27 rfl Tryd.sizeOf22 rfl rfl) rfl ?_
          refine RL.s (Vl.load Tryd.isAgg22 rfl (hS.cell 2 rfl rfl)) rfl ?_
          obtain ⟨hq3453, h⟩ := h.req
          refine RL.e (OW.appendR (R := Rep.sl E_api_Instr.rep) (Rep.sl_ok E_api_Instr.rep) (xs := ([] : List (List api_Instr))) (ys := a3021.Progs) 0 hS rfl Tryd.underlying22 Tryd.type35 rfl rfl rfl rfl (by decide) (by decide) hx3452 rfl rfl hr3024 hq3453 rfl) rfl rfl ?_
          rintro _ w ⟨cs3457, hx3458, hS⟩
          obtain ⟨A3454, c3455, rfl, _⟩ := hS.osShape 0 rfl
          have hS : St B w (OSl 35 1 (.slice A3454 (([] : List (List api_Instr)) ++ a3021.Progs).length c3455) (([] : List (List api_Instr)) ++ a3021.Progs).length cs3457 :: Cl b3334 [.slice A3022 a3021.Progs.length c3023, .slice A3025 a3021.Links.length c3026, .slice A3028 a3021.Starts.length c3029, .int .u64 a3021.Seed, .int .i64 a3021.End, .int .i64 a3021.Budget] 27 :: Cl b3324 [.slice A3022 a3021.Progs.length c3023, .slice A3025 a3021.Links.length c3026, .slice A3028 a3021.Starts.length c3029, .int .u64 a3021.Seed, .int .i64 a3021.End, .int .i64 a3021.Budget] 27 :: l) hf := hS
          refine RL.s (Vl.build (v := .agg #[.int .i64 99, .int .i64 0, .int .i64 0, .int .i64 0]) (parts := [(0, .const (.int .i64 99))]) rfl (by kernel_rfl)) rfl ?_
          refine RL.e (OW.buildSlice (E := E_api_Instr) (xs := [(⟨99, 0, 0, 0⟩ : api_Instr)]) (cs := [.int .i64 99, .int .i64 0, .int .i64 0, .int .i64 0]) hS Tryd.underlying35 Tryd.zeroValue34 Tryd.sizeOf34 (parts := [(0, .tmp 34)]) rfl rfl (by decide) (by decide) (by kernel_rfl) rfl) rfl rfl ?_
          rintro _ w ⟨b3460, rfl, hS⟩
          have hS : St B w (OSf E_api_Instr 34 (.slice (some ⟨b3460, 0, none⟩) ([(⟨99, 0, 0, 0⟩ : api_Instr)]).length 1) ([(⟨99, 0, 0, 0⟩ : api_Instr)]) :: OSl 35 1 (.slice A3454 (([] : List (List api_Instr)) ++ a3021.Progs).length c3455) (([] : List (List api_Instr)) ++ a3021.Progs).length cs3457 :: Cl b3334 [.slice A3022 a3021.Progs.length c3023, .slice A3025 a3021.Links.length c3026, .slice A3028 a3021.Starts.length c3029, .int .u64 a3021.Seed, .int .i64 a3021.End, .int .i64 a3021.Budget] 27 :: Cl b3324 [.slice A3022 a3021.Progs.length c3023, .slice A3025 a3021.Links.length c3026, .slice A3028 a3021.Starts.length c3029, .int .u64 a3021.Seed, .int .i64 a3021.End, .int .i64 a3021.Budget] 27 :: l) hf := hS
          obtain ⟨hf, hs3461, hS, hr3462⟩ := St.promote hS
          have hx3465 : RepL (Rep.sl E_api_Instr.rep) hf [.slice (some ⟨b3460, 0, none⟩) ([(⟨99, 0, 0, 0⟩ : api_Instr)]).length 1] [[(⟨99, 0, 0, 0⟩ : api_Instr)]] := (RepL.cons (c := [.slice (some ⟨b3460, 0, none⟩) ([(⟨99, 0, 0, 0⟩ : api_Instr)]).length 1]) (r := []) ⟨_, _, rfl, hr3462⟩ RepL.nil)
          refine RL.e (OW.buildSliceR (sz := 1) (cs := [.slice (some ⟨b3460, 0, none⟩) ([(⟨99, 0, 0, 0⟩ : api_Instr)]).length 1]) hS Tryd.underlying22 Tryd.zeroValue35 Tryd.sizeOf35 (parts := [(0, .tmp 35)]) rfl rfl (by decide) (by decide) (by kernel_rfl)) rfl rfl ?_
          rintro _ w ⟨b3464, rfl, hS⟩
          have hS : St B w (OSl 35 1 (.slice (some ⟨b3464, 0, none⟩) ([[(⟨99, 0, 0, 0⟩ : api_Instr)]]).length 1) ([[(⟨99, 0, 0, 0⟩ : api_Instr)]]).length ([.slice (some ⟨b3460, 0, none⟩) ([(⟨99, 0, 0, 0⟩ : api_Instr)]).length 1]) :: OSl 35 1 (.slice A3454 (([] : List (List api_Instr)) ++ a3021.Progs).length c3455) (([] : List (List api_Instr)) ++ a3021.Progs).length cs3457 :: Cl b3334 [.slice A3022 a3021.Progs.length c3023, .slice A3025 a3021.Links.length c3026, .slice A3028 a3021.Starts.length c3029, .int .u64 a3021.Seed, .int .i64 a3021.End, .int .i64 a3021.Budget] 27 :: Cl b3324 [.slice A3022 a3021.Progs.length c3023, .slice A3025 a3021.Links.length c3026, .slice A3028 a3021.Starts.length c3029, .int .u64 a3021.Seed, .int .i64 a3021.End, .int .i64 a3021.Budget] 27 :: l) hf := hS
          obtain ⟨hq3468, h⟩ := h.req
          obtain ⟨hf, hs3466, hS, hr3467⟩ := St.promoteR (Rep.sl_ok E_api_Instr.rep) hS rfl hx3465
          refine RL.e (OW.appendR (R := Rep.sl E_api_Instr.rep) (Rep.sl_ok E_api_Instr.rep) (xs := (([] : List (List api_Instr)) ++ a3021.Progs)) (ys := [[(⟨99, 0, 0, 0⟩ : api_Instr)]]) 0 hS rfl Tryd.underlying22 Tryd.type35 rfl rfl rfl rfl (by decide) (by decide) ((hx3458.mono hs3461).mono hs3466) rfl rfl hr3467 hq3468 rfl) rfl rfl ?_
          rintro _ w ⟨cs3472, hx3473, hS⟩
          obtain ⟨A3469, c3470, rfl, _⟩ := hS.osShape 0 rfl
          have hS : St B w (OSl 35 1 (.slice A3469 ((([] : List (List api_Instr)) ++ a3021.Progs) ++ ([[(⟨99, 0, 0, 0⟩ : api_Instr)]])).length c3470) ((([] : List (List api_Instr)) ++ a3021.Progs) ++ ([[(⟨99, 0, 0, 0⟩ : api_Instr)]])).length cs3472 :: Cl b3334 [.slice A3022 a3021.Progs.length c3023, .slice A3025 a3021.Links.length c3026, .slice A3028 a3021.Starts.length c3029, .int .u64 a3021.Seed, .int .i64 a3021.End, .int .i64 a3021.Budget] 27 :: Cl b3324 [.slice A3022 a3021.Progs.length c3023, .slice A3025 a3021.Links.length c3026, .slice A3028 a3021.Starts.length c3029, .int .u64 a3021.Seed, .int .i64 a3021.End, .int .i64 a3021.Budget] 27 :: l) hf := hS
          refine RL.s (Vl.fieldAddr (a'' := ⟨b3334, 0, none⟩) Tryd.underlying27 rfl Tryd.sizeOf22 rfl rfl) rfl ?_
          refine RL.e0 (OW.store (cs := [.slice A3022 a3021.Progs.length c3023, .slice A3025 a3021.Links.length c3026, .slice A3028 a3021.Starts.length c3029, .int .u64 a3021.Seed, .int .i64 a3021.End, .int .i64 a3021.Budget]) (vs := [.slice A3469 ((([] : List (List api_Instr)) ++ a3021.Progs) ++ ([[(⟨99, 0, 0, 0⟩ : api_Instr)]])).length c3470]) (l' := OSl 35 1 (.slice A3469 ((([] : List (List api_Instr)) ++ a3021.Progs) ++ ([[(⟨99, 0, 0, 0⟩ : api_Instr)]])).length c3470) ((([] : List (List api_Instr)) ++ a3021.Progs) ++ ([[(⟨99, 0, 0, 0⟩ : api_Instr)]])).length cs3472 :: Cl b3334 [.slice A3469 ((([] : List (List api_Instr)) ++ a3021.Progs) ++ ([[(⟨99, 0, 0, 0⟩ : api_Instr)]])).length c3470, .slice A3025 a3021.Links.length c3026, .slice A3028 a3021.Starts.length c3029, .int .u64 a3021.Seed, .int .i64 a3021.End, .int .i64 a3021.Budget] 27 :: Cl b3324 [.slice A3022 a3021.Progs.length c3023, .slice A3025 a3021.Links.length c3026, .slice A3028 a3021.Starts.length c3029, .int .u64 a3021.Seed, .int .i64 a3021.End, .int .i64 a3021.Budget] 27 :: l) 1 hS rfl rfl rfl rfl Tryd.sizeOf22 rfl rfl rfl rfl) rfl ?_
          rintro _ w ⟨rfl, hS⟩
          have hS : St B w (OSl 35 1 (.slice A3469 ((([] : List (List api_Instr)) ++ a3021.Progs) ++ ([[(⟨99, 0, 0, 0⟩ : api_Instr)]])).length c3470) ((([] : List (List api_Instr)) ++ a3021.Progs) ++ ([[(⟨99, 0, 0, 0⟩ : api_Instr)]])).length cs3472 :: Cl b3334 [.slice A3469 ((([] : List (List api_Instr)) ++ a3021.Progs) ++ ([[(⟨99, 0, 0, 0⟩ : api_Instr)]])).length c3470, .slice A3025 a3021.Links.length c3026, .slice A3028 a3021.Starts.length c3029, .int .u64 a3021.Seed, .int .i64 a3021.End, .int .i64 a3021.Budget] 27 :: Cl b3324 [.slice A3022 a3021.Progs.length c3023, .slice A3025 a3021.Links.length c3026, .slice A3028 a3021.Starts.length c3029, .int .u64 a3021.Seed, .int .i64 a3021.End, .int .i64 a3021.Budget] 27 :: l) hf := hS
          refine RL.nil ?_
          refine RQ.then_n ?_
          refine RC.seq ?_
          refine RC.region ?_
          refine RL.s (Vl.assign rfl) rfl ?_
          refine RL.nil ?_
          refine RQ.then_n ?_
          refine RC.seq ?_
          refine RC.region ?_
          refine RL.s (Vl.fieldAddr (a'' := ⟨b3334, 0, none⟩) Tryd.underlying27 rfl Tryd.sizeOf22 rfl rfl) rfl ?_
          refine RL.s (Vl.load Tryd.isAgg22 rfl (hS.cell 1 rfl rfl)) rfl ?_
          refine RL.s (Vl.lenSl Tryd.underlying22 rfl) rfl ?_
          refine RL.s (Vl.int rfl rfl rfl) rfl ?_
          refine RL.nil ?_
          refine RQ.then_n ?_
          by_cases hc3474 : 16 < (((([] : List (List api_Instr)) ++ a3021.Progs) ++ ([[(⟨99, 0, 0, 0⟩ : api_Instr)]])).length : Int)
          case pos =>
            have h := h.pos hc3474
            refine RC.re 42 rfl (congrArg Value.bool (decide_eq_true hc3474)) ?_
            refine RC.condT rfl ?_
            refine RC.region ?_
            refine RL.s (Vl.assign rfl) rfl ?_
            refine RL.nil ?_
            refine RQ.inB_n ?_
            refine RQ.then_n ?_
            refine RC.seq ?_
            refine RC.region ?_
            refine RL.s (Vl.loadA (vs := [.slice A3469 ((([] : List (List api_Instr)) ++ a3021.Progs) ++ ([[(⟨99, 0, 0, 0⟩ : api_Instr)]])).length c3470, .slice A3025 a3021.Links.length c3026, .slice A3028 a3021.Starts.length c3029, .int .u64 a3021.Seed, .int .i64 a3021.End, .int .i64 a3021.Budget]) Tryd.isAgg27 Tryd.sizeOf27 rfl rfl (hS.cellsAt 1 rfl rfl)) rfl ?_
            obtain ⟨hf3478, hs3476, hS, hr3475, hb3477⟩ := St.lendSlR (Rep.sl_ok E_api_Instr.rep) hS rfl hx3473
            obtain ⟨t3479, hg3480, h⟩ := h.bind
            refine RL.e (OW.callF (ls := [.tmp 66]) rfl Tryd.call9 (model_Check.ok (⟨((([] : List (List api_Instr)) ++ a3021.Progs) ++ ([[(⟨99, 0, 0, 0⟩ : api_Instr)]])), a3021.Links, a3021.Starts, a3021.Seed, a3021.End, a3021.Budget⟩ : api_Model) A3469 c3470 A3025 c3026 A3028 c3029 hr3475 (((hr3027.mono hs3461).mono hs3466).mono hs3476) (((hr3030.mono hs3461).mono hs3466).mono hs3476) (((hG0.mono hs3461).mono hs3466).mono hs3476) _ hg3480 hS)) rfl rfl ?_
            rintro _ w ⟨rfl, hS⟩
            have hS := hb3477 _ _ hS
            have hS : St B w (OSl 35 1 (.slice A3469 ((([] : List (List api_Instr)) ++ a3021.Progs) ++ ([[(⟨99, 0, 0, 0⟩ : api_Instr)]])).length c3470) ((([] : List (List api_Instr)) ++ a3021.Progs) ++ ([[(⟨99, 0, 0, 0⟩ : api_Instr)]])).length cs3472 :: Cl b3334 [.slice A3469 ((([] : List (List api_Instr)) ++ a3021.Progs) ++ ([[(⟨99, 0, 0, 0⟩ : api_Instr)]])).length c3470, .slice A3025 a3021.Links.length c3026, .slice A3028 a3021.Starts.length c3029, .int .u64 a3021.Seed, .int .i64 a3021.End, .int .i64 a3021.Budget] 27 :: Cl b3324 [.slice A3022 a3021.Progs.length c3023, .slice A3025 a3021.Links.length c3026, .slice A3028 a3021.Starts.length c3029, .int .u64 a3021.Seed, .int .i64 a3021.End, .int .i64 a3021.Budget] 27 :: l) hf := hS
            refine RL.s (Vl.move rfl) rfl ?_
            refine RL.s (Vl.int rfl rfl rfl) rfl ?_
            refine RL.s (Vl.move rfl) rfl ?_
            by_cases hc3481 : t3479 = 1
            case pos =>
              have h := h.pos hc3481
              refine RL.re 70 rfl (congrArg Value.bool (decide_eq_true hc3481)) ?_
              obtain ⟨t3482, hg3483, h⟩ := h.bind
              refine RL.e (OW.callF (ls := []) rfl Tryd.call11 (isochronlaw13vawake.ok ((hG0.mono hs3461).mono hs3466) _ hg3483 hS)) rfl rfl ?_
              rintro _ w ⟨rfl, hS⟩
              have hS : St B w (OSl 35 1 (.slice A3469 ((([] : List (List api_Instr)) ++ a3021.Progs) ++ ([[(⟨99, 0, 0, 0⟩ : api_Instr)]])).length c3470) ((([] : List (List api_Instr)) ++ a3021.Progs) ++ ([[(⟨99, 0, 0, 0⟩ : api_Instr)]])).length cs3472 :: Cl b3334 [.slice A3469 ((([] : List (List api_Instr)) ++ a3021.Progs) ++ ([[(⟨99, 0, 0, 0⟩ : api_Instr)]])).length c3470, .slice A3025 a3021.Links.length c3026, .slice A3028 a3021.Starts.length c3029, .int .u64 a3021.Seed, .int .i64 a3021.End, .int .i64 a3021.Budget] 27 :: Cl b3324 [.slice A3022 a3021.Progs.length c3023, .slice A3025 a3021.Links.length c3026, .slice A3028 a3021.Starts.length c3029, .int .u64 a3021.Seed, .int .i64 a3021.End, .int .i64 a3021.Budget] 27 :: l) hf := hS
              refine RL.s (Vl.pickT rfl rfl) rfl ?_
              refine RL.s (Vl.assign rfl) rfl ?_
              refine RL.nil ?_
              refine RQ.then_n ?_
              refine RC.ret ?_
              have e := h.some
              subst e
              refine RQ.ret0 (vs := [.bool t3482]) Tryd.results4 ⟨rfl, trivial⟩ ?_
              exact ⟨rfl, ((((hS.dropAt 0 rfl).dropAt 0 rfl).dropAt 0 rfl)).down (hs3461.trans hs3466)⟩
            case neg =>
              have h := h.neg hc3481
              refine RL.re 70 rfl (congrArg Value.bool (decide_eq_false hc3481)) ?_
              refine RL.nn rfl rfl ?_
              refine RL.s (Vl.pickF rfl rfl) rfl ?_
              refine RL.s (Vl.assign rfl) rfl ?_
              refine RL.nil ?_
              refine RQ.then_n ?_
              refine RC.ret ?_
              have e := h.some
              subst e
              refine RQ.ret0 (vs := [.bool false]) Tryd.results4 ⟨rfl, trivial⟩ ?_
              exact ⟨rfl, ((((hS.dropAt 0 rfl).dropAt 0 rfl).dropAt 0 rfl)).down (hs3461.trans hs3466)⟩
          case neg =>
            have h := h.neg hc3474
            refine RC.re 42 rfl (congrArg Value.bool (decide_eq_false hc3474)) ?_
            refine RC.condF rfl ?_
            refine RC.skip ?_
            refine RQ.inB_n ?_
            refine RQ.then_n ?_
            refine RC.seq ?_
            refine RC.region ?_
            refine RL.s (Vl.loadA (vs := [.slice A3469 ((([] : List (List api_Instr)) ++ a3021.Progs) ++ ([[(⟨99, 0, 0, 0⟩ : api_Instr)]])).length c3470, .slice A3025 a3021.Links.length c3026, .slice A3028 a3021.Starts.length c3029, .int .u64 a3021.Seed, .int .i64 a3021.End, .int .i64 a3021.Budget]) Tryd.isAgg27 Tryd.sizeOf27 rfl rfl (hS.cellsAt 1 rfl rfl)) rfl ?_
            obtain ⟨hf3487, hs3485, hS, hr3484, hb3486⟩ := St.lendSlR (Rep.sl_ok E_api_Instr.rep) hS rfl hx3473
            obtain ⟨t3488, hg3489, h⟩ := h.bind
            refine RL.e (OW.callF (ls := [.tmp 66]) rfl Tryd.call9 (model_Check.ok (⟨((([] : List (List api_Instr)) ++ a3021.Progs) ++ ([[(⟨99, 0, 0, 0⟩ : api_Instr)]])), a3021.Links, a3021.Starts, a3021.Seed, a3021.End, a3021.Budget⟩ : api_Model) A3469 c3470 A3025 c3026 A3028 c3029 hr3484 (((hr3027.mono hs3461).mono hs3466).mono hs3485) (((hr3030.mono hs3461).mono hs3466).mono hs3485) (((hG0.mono hs3461).mono hs3466).mono hs3485) _ hg3489 hS)) rfl rfl ?_
            rintro _ w ⟨rfl, hS⟩
            have hS := hb3486 _ _ hS
            have hS : St B w (OSl 35 1 (.slice A3469 ((([] : List (List api_Instr)) ++ a3021.Progs) ++ ([[(⟨99, 0, 0, 0⟩ : api_Instr)]])).length c3470) ((([] : List (List api_Instr)) ++ a3021.Progs) ++ ([[(⟨99, 0, 0, 0⟩ : api_Instr)]])).length cs3472 :: Cl b3334 [.slice A3469 ((([] : List (List api_Instr)) ++ a3021.Progs) ++ ([[(⟨99, 0, 0, 0⟩ : api_Instr)]])).length c3470, .slice A3025 a3021.Links.length c3026, .slice A3028 a3021.Starts.length c3029, .int .u64 a3021.Seed, .int .i64 a3021.End, .int .i64 a3021.Budget] 27 :: Cl b3324 [.slice A3022 a3021.Progs.length c3023, .slice A3025 a3021.Links.length c3026, .slice A3028 a3021.Starts.length c3029, .int .u64 a3021.Seed, .int .i64 a3021.End, .int .i64 a3021.Budget] 27 :: l) hf := hS
            refine RL.s (Vl.move rfl) rfl ?_
            refine RL.s (Vl.int rfl rfl rfl) rfl ?_
            refine RL.s (Vl.move rfl) rfl ?_
            by_cases hc3490 : t3488 = 130
            case pos =>
              have h := h.pos hc3490
              refine RL.re 70 rfl (congrArg Value.bool (decide_eq_true hc3490)) ?_
              obtain ⟨t3491, hg3492, h⟩ := h.bind
              refine RL.e (OW.callF (ls := []) rfl Tryd.call11 (isochronlaw13vawake.ok ((hG0.mono hs3461).mono hs3466) _ hg3492 hS)) rfl rfl ?_
              rintro _ w ⟨rfl, hS⟩
              have hS : St B w (OSl 35 1 (.slice A3469 ((([] : List (List api_Instr)) ++ a3021.Progs) ++ ([[(⟨99, 0, 0, 0⟩ : api_Instr)]])).length c3470) ((([] : List (List api_Instr)) ++ a3021.Progs) ++ ([[(⟨99, 0, 0, 0⟩ : api_Instr)]])).length cs3472 :: Cl b3334 [.slice A3469 ((([] : List (List api_Instr)) ++ a3021.Progs) ++ ([[(⟨99, 0, 0, 0⟩ : api_Instr)]])).length c3470, .slice A3025 a3021.Links.length c3026, .slice A3028 a3021.Starts.length c3029, .int .u64 a3021.Seed, .int .i64 a3021.End, .int .i64 a3021.Budget] 27 :: Cl b3324 [.slice A3022 a3021.Progs.length c3023, .slice A3025 a3021.Links.length c3026, .slice A3028 a3021.Starts.length c3029, .int .u64 a3021.Seed, .int .i64 a3021.End, .int .i64 a3021.Budget] 27 :: l) hf := hS
              refine RL.s (Vl.pickT rfl rfl) rfl ?_
              refine RL.s (Vl.assign rfl) rfl ?_
              refine RL.nil ?_
              refine RQ.then_n ?_
              refine RC.ret ?_
              have e := h.some
              subst e
              refine RQ.ret0 (vs := [.bool t3491]) Tryd.results4 ⟨rfl, trivial⟩ ?_
              exact ⟨rfl, ((((hS.dropAt 0 rfl).dropAt 0 rfl).dropAt 0 rfl)).down (hs3461.trans hs3466)⟩
            case neg =>
              have h := h.neg hc3490
              refine RL.re 70 rfl (congrArg Value.bool (decide_eq_false hc3490)) ?_
              refine RL.nn rfl rfl ?_
              refine RL.s (Vl.pickF rfl rfl) rfl ?_
              refine RL.s (Vl.assign rfl) rfl ?_
              refine RL.nil ?_
              refine RQ.then_n ?_
              refine RC.ret ?_
              have e := h.some
              subst e
              refine RQ.ret0 (vs := [.bool false]) Tryd.results4 ⟨rfl, trivial⟩ ?_
              exact ⟨rfl, ((((hS.dropAt 0 rfl).dropAt 0 rfl).dropAt 0 rfl)).down (hs3461.trans hs3466)⟩
        case neg =>
          have h := h.neg hc3449
          refine RC.re 28 rfl (congrArg Value.bool (decide_eq_false hc3449)) ?_
          refine RC.condF rfl ?_
          refine RC.seq ?_
          refine RC.region ?_
          refine RL.s (Vl.int rfl rfl rfl) rfl ?_
          refine RL.s (Vl.assign rfl) rfl ?_
          refine RL.nil ?_
          refine RQ.then_n ?_
          by_cases hc3493 : Int.tmod a3031 6 = 3
          case pos =>
            have h := h.pos hc3493
            refine RC.re 43 rfl (congrArg Value.bool (decide_eq_true hc3493)) ?_
            refine RC.condT rfl ?_
            refine RC.seq ?_
            refine RC.plan (.cons 1 true (.cons 2 true (.cons 4 true (.cons 5 true (.cons 6 true (.cons 7 true (.fork 0 8 (.fork 3 8 (.cons 8 false (.cons 9 false (.cons 10 false (.cons 11 false .nil)))) (.cons 3 false (.cons 9 false (.cons 10 false (.cons 11 false .nil))))) (.cons 0 false (.cons 3 false (.cons 9 false (.cons 10 false (.cons 11 false .nil)))))))))))) [10, 11] (fun w => St B w (Cl b3334 [.slice A3022 a3021.Progs.length c3023, .slice A3025 a3021.Links.length c3026, .slice A3028 a3021.Starts.length c3029, .int .u64 a3021.Seed, .int .i64 a3021.End, .int .i64 a3021.Budget] 27 :: Cl b3324 [.slice A3022 a3021.Progs.length c3023, .slice A3025 a3021.Links.length c3026, .slice A3028 a3021.Starts.length c3029, .int .u64 a3021.Seed, .int .i64 a3021.End, .int .i64 a3021.Budget] 27 :: l) hf) follows rfl (by kernel_rfl) (NoTmp.then (NoTmp.block (NoTmp.then NoTmp.body))) ?_
            have hS := hS.same (w' := { w with drawn := w.drawn + 1 }) rfl rfl
            revert hS
            generalize { w with drawn := w.drawn + 1 } = w
            intro hS
            refine RP.s 1 rfl rfl hS (fun w hS => Vl.fieldAddr (a'' := ⟨b3324, 1, none⟩) Tryd.underlying27 rfl Tryd.sizeOf23 rfl rfl) rfl ?_
            refine RP.s 2 rfl rfl hS (fun w hS => Vl.load Tryd.isAgg23 rfl (hS.cell 1 rfl rfl)) rfl ?_
            refine RP.s 4 rfl rfl hS (fun w hS => Vl.fieldAddr (a'' := ⟨b3324, 0, none⟩) Tryd.underlying27 rfl Tryd.sizeOf22 rfl rfl) rfl ?_
            refine RP.s 5 rfl rfl hS (fun w hS => Vl.load Tryd.isAgg22 rfl (hS.cell 1 rfl rfl)) rfl ?_
            refine RP.s 6 rfl rfl hS (fun w hS => Vl.lenSl Tryd.underlying22 rfl) rfl ?_
            refine RP.s 7 rfl rfl hS (fun w hS => Vl.build (v := .agg #[.int .i64 (a3021.Progs.length : Int), .int .i64 0, .int .i64 1, .bool false]) (parts := [(0, .tmp 51), (2, .const (.int .i64 1))]) rfl (by kernel_rfl)) rfl ?_
            refine RP.fork ?_ ?_
            · refine RPW.e 0 rfl (OW.build0 (E := E_api_Link) hS Tryd.underlying23 Tryd.zeroValue37 Tryd.sizeOf37) rfl rfl ?_
              rintro _ w ⟨b3496, rfl, hS⟩
              have hS : St B w (OSf E_api_Link 37 (.slice (some ⟨b3496, 0, none⟩) ([] : List api_Link).length 0) ([] : List api_Link) :: Cl b3334 [.slice A3022 a3021.Progs.length c3023, .slice A3025 a3021.Links.length c3026, .slice A3028 a3021.Starts.length c3029, .int .u64 a3021.Seed, .int .i64 a3021.End, .int .i64 a3021.Budget] 27 :: Cl b3324 [.slice A3022 a3021.Progs.length c3023, .slice A3025 a3021.Links.length c3026, .slice A3028 a3021.Starts.length c3029, .int .u64 a3021.Seed, .int .i64 a3021.End, .int .i64 a3021.Budget] 27 :: l) hf := hS
              refine ⟨fun _ => (hS.dropAt 0 rfl), ?_⟩
              refine RP.fork ?_ ?_
              · obtain ⟨hq3497, h⟩ := h.req
                refine RPW.e 3 rfl (OW.appendV (E := E_api_Link) (xs := ([] : List api_Link)) (ys := a3021.Links) 0 hS rfl Tryd.underlying23 Tryd.type37 rfl rfl rfl rfl (by decide) (by decide) rfl rfl (hr3027.2.world hS.sub) hq3497 rfl) rfl rfl ?_
                rintro v3501 w hS
                obtain ⟨A3498, c3499, rfl, _⟩ := hS.osShape 0 rfl
                have hS : St B w (OSf E_api_Link 37 (.slice A3498 (([] : List api_Link) ++ a3021.Links).length c3499) (([] : List api_Link) ++ a3021.Links) :: Cl b3334 [.slice A3022 a3021.Progs.length c3023, .slice A3025 a3021.Links.length c3026, .slice A3028 a3021.Starts.length c3029, .int .u64 a3021.Seed, .int .i64 a3021.End, .int .i64 a3021.Budget] 27 :: Cl b3324 [.slice A3022 a3021.Progs.length c3023, .slice A3025 a3021.Links.length c3026, .slice A3028 a3021.Starts.length c3029, .int .u64 a3021.Seed, .int .i64 a3021.End, .int .i64 a3021.Budget] 27 :: l) hf := hS
                refine ⟨fun _ => (hS.dropAt 0 rfl), ?_⟩
                refine RP.e 8 rfl (OW.buildSlice (E := E_api_Link) (xs := [(⟨(a3021.Progs.length : Int), 0, 1, false⟩ : api_Link)]) (cs := [.int .i64 (a3021.Progs.length : Int), .int .i64 0, .int .i64 1, .bool false]) hS Tryd.underlying23 Tryd.zeroValue37 Tryd.sizeOf37 (parts := [(0, .tmp 52)]) rfl rfl (by decide) (by decide) (by kernel_rfl) rfl) rfl rfl ?_
                rintro _ w ⟨b3503, rfl, hS⟩
                have hS : St B w (OSf E_api_Link 37 (.slice (some ⟨b3503, 0, none⟩) ([(⟨(a3021.Progs.length : Int), 0, 1, false⟩ : api_Link)]).length 1) ([(⟨(a3021.Progs.length : Int), 0, 1, false⟩ : api_Link)]) :: OSf E_api_Link 37 (.slice A3498 (([] : List api_Link) ++ a3021.Links).length c3499) (([] : List api_Link) ++ a3021.Links) :: Cl b3334 [.slice A3022 a3021.Progs.length c3023, .slice A3025 a3021.Links.length c3026, .slice A3028 a3021.Starts.length c3029, .int .u64 a3021.Seed, .int .i64 a3021.End, .int .i64 a3021.Budget] 27 :: Cl b3324 [.slice A3022 a3021.Progs.length c3023, .slice A3025 a3021.Links.length c3026, .slice A3028 a3021.Starts.length c3029, .int .u64 a3021.Seed, .int .i64 a3021.End, .int .i64 a3021.Budget] 27 :: l) hf := hS
                refine ⟨fun _ => ((hS.dropAt 0 rfl).dropAt 0 rfl), ?_⟩
                obtain ⟨hq3504, h⟩ := h.req
                refine RP.e 9 rfl (OW.append (E := E_api_Link) (xs := (([] : List api_Link) ++ a3021.Links)) (ys := [(⟨(a3021.Progs.length : Int), 0, 1, false⟩ : api_Link)]) 1 hS rfl Tryd.underlying23 Tryd.type37 rfl rfl rfl rfl (by decide) rfl rfl rfl (hS.slW 0 rfl).2.2.flat (by simp only [maxLen, List.length_cons, List.length_nil] at *; omega) hq3504 rfl) rfl rfl ?_
                rintro v3508 w hS
                obtain ⟨A3505, c3506, rfl, _⟩ := hS.osShape 0 rfl
                have hS : St B w (OSf E_api_Link 37 (.slice A3505 ((([] : List api_Link) ++ a3021.Links) ++ ([(⟨(a3021.Progs.length : Int), 0, 1, false⟩ : api_Link)])).length c3506) ((([] : List api_Link) ++ a3021.Links) ++ ([(⟨(a3021.Progs.length : Int), 0, 1, false⟩ : api_Link)])) :: OSf E_api_Link 37 (.slice (some ⟨b3503, 0, none⟩) ([(⟨(a3021.Progs.length : Int), 0, 1, false⟩ : api_Link)]).length 1) ([(⟨(a3021.Progs.length : Int), 0, 1, false⟩ : api_Link)]) :: Cl b3334 [.slice A3022 a3021.Progs.length c3023, .slice A3025 a3021.Links.length c3026, .slice A3028 a3021.Starts.length c3029, .int .u64 a3021.Seed, .int .i64 a3021.End, .int .i64 a3021.Budget] 27 :: Cl b3324 [.slice A3022 a3021.Progs.length c3023, .slice A3025 a3021.Links.length c3026, .slice A3028 a3021.Starts.length c3029, .int .u64 a3021.Seed, .int .i64 a3021.End, .int .i64 a3021.Budget] 27 :: l) hf := hS
                refine ⟨fun _ => ((hS.dropAt 0 rfl).dropAt 0 rfl), ?_⟩
                refine RP.v1 10 rfl (by intro hx; cases hx) (Vl.fieldAddr (a'' := ⟨b3334, 1, none⟩) Tryd.underlying27 rfl Tryd.sizeOf23 rfl rfl) rfl rfl ?_
                refine RP.e0 11 rfl (OW.store (cs := [.slice A3022 a3021.Progs.length c3023, .slice A3025 a3021.Links.length c3026, .slice A3028 a3021.Starts.length c3029, .int .u64 a3021.Seed, .int .i64 a3021.End, .int .i64 a3021.Budget]) (vs := [.slice A3505 ((([] : List api_Link) ++ a3021.Links) ++ ([(⟨(a3021.Progs.length : Int), 0, 1, false⟩ : api_Link)])).length c3506]) (l' := OSf E_api_Link 37 (.slice A3505 ((([] : List api_Link) ++ a3021.Links) ++ ([(⟨(a3021.Progs.length : Int), 0, 1, false⟩ : api_Link)])).length c3506) ((([] : List api_Link) ++ a3021.Links) ++ ([(⟨(a3021.Progs.length : Int), 0, 1, false⟩ : api_Link)])) :: OSf E_api_Link 37 (.slice (some ⟨b3503, 0, none⟩) ([(⟨(a3021.Progs.length : Int), 0, 1, false⟩ : api_Link)]).length 1) ([(⟨(a3021.Progs.length : Int), 0, 1, false⟩ : api_Link)]) :: Cl b3334 [.slice A3022 a3021.Progs.length c3023, .slice A3505 ((([] : List api_Link) ++ a3021.Links) ++ ([(⟨(a3021.Progs.length : Int), 0, 1, false⟩ : api_Link)])).length c3506, .slice A3028 a3021.Starts.length c3029, .int .u64 a3021.Seed, .int .i64 a3021.End, .int .i64 a3021.Budget] 27 :: Cl b3324 [.slice A3022 a3021.Progs.length c3023, .slice A3025 a3021.Links.length c3026, .slice A3028 a3021.Starts.length c3029, .int .u64 a3021.Seed, .int .i64 a3021.End, .int .i64 a3021.Budget] 27 :: l) 2 hS rfl rfl rfl rfl Tryd.sizeOf23 rfl rfl rfl rfl) rfl ?_
                rintro _ w ⟨rfl, hS⟩
                have hS : St B w (OSf E_api_Link 37 (.slice A3505 ((([] : List api_Link) ++ a3021.Links) ++ ([(⟨(a3021.Progs.length : Int), 0, 1, false⟩ : api_Link)])).length c3506) ((([] : List api_Link) ++ a3021.Links) ++ ([(⟨(a3021.Progs.length : Int), 0, 1, false⟩ : api_Link)])) :: OSf E_api_Link 37 (.slice (some ⟨b3503, 0, none⟩) ([(⟨(a3021.Progs.length : Int), 0, 1, false⟩ : api_Link)]).length 1) ([(⟨(a3021.Progs.length : Int), 0, 1, false⟩ : api_Link)]) :: Cl b3334 [.slice A3022 a3021.Progs.length c3023, .slice A3505 ((([] : List api_Link) ++ a3021.Links) ++ ([(⟨(a3021.Progs.length : Int), 0, 1, false⟩ : api_Link)])).length c3506, .slice A3028 a3021.Starts.length c3029, .int .u64 a3021.Seed, .int .i64 a3021.End, .int .i64 a3021.Budget] 27 :: Cl b3324 [.slice A3022 a3021.Progs.length c3023, .slice A3025 a3021.Links.length c3026, .slice A3028 a3021.Starts.length c3029, .int .u64 a3021.Seed, .int .i64 a3021.End, .int .i64 a3021.Budget] 27 :: l) hf := hS
                refine ⟨(by intro hx; cases hx), ?_⟩
                refine RP.nil ?_
                refine RQ.then_n ?_
                refine RC.region ?_
                refine RL.s (Vl.assign rfl) rfl ?_
                refine RL.nil ?_
                refine RQ.inB_n ?_
                refine RQ.then_n ?_
                refine RC.seq ?_
                refine RC.region ?_
                refine RL.s (Vl.loadA (vs := [.slice A3022 a3021.Progs.length c3023, .slice A3505 ((([] : List api_Link) ++ a3021.Links) ++ ([(⟨(a3021.Progs.length : Int), 0, 1, false⟩ : api_Link)])).length c3506, .slice A3028 a3021.Starts.length c3029, .int .u64 a3021.Seed, .int .i64 a3021.End, .int .i64 a3021.Budget]) Tryd.isAgg27 Tryd.sizeOf27 rfl rfl (hS.cellsAt 2 rfl rfl)) rfl ?_
                obtain ⟨hf3512, hs3510, hS, hr3509, hb3511⟩ := St.lendSl hS
                obtain ⟨t3513, hg3514, h⟩ := h.bind
                refine RL.e (OW.callF (ls := [.tmp 66]) rfl Tryd.call9 (model_Check.ok (⟨a3021.Progs, ((([] : List api_Link) ++ a3021.Links) ++ ([(⟨(a3021.Progs.length : Int), 0, 1, false⟩ : api_Link)])), a3021.Starts, a3021.Seed, a3021.End, a3021.Budget⟩ : api_Model) A3022 c3023 A3505 c3506 A3028 c3029 (hr3024.mono hs3510) hr3509 (hr3030.mono hs3510) (hG0.mono hs3510) _ hg3514 hS)) rfl rfl ?_
                rintro _ w ⟨rfl, hS⟩
                have hS := hb3511 _ _ hS
                have hS : St B w (OSf E_api_Link 37 (.slice A3505 ((([] : List api_Link) ++ a3021.Links) ++ ([(⟨(a3021.Progs.length : Int), 0, 1, false⟩ : api_Link)])).length c3506) ((([] : List api_Link) ++ a3021.Links) ++ ([(⟨(a3021.Progs.length : Int), 0, 1, false⟩ : api_Link)])) :: OSf E_api_Link 37 (.slice (some ⟨b3503, 0, none⟩) ([(⟨(a3021.Progs.length : Int), 0, 1, false⟩ : api_Link)]).length 1) ([(⟨(a3021.Progs.length : Int), 0, 1, false⟩ : api_Link)]) :: Cl b3334 [.slice A3022 a3021.Progs.length c3023, .slice A3505 ((([] : List api_Link) ++ a3021.Links) ++ ([(⟨(a3021.Progs.length : Int), 0, 1, false⟩ : api_Link)])).length c3506, .slice A3028 a3021.Starts.length c3029, .int .u64 a3021.Seed, .int .i64 a3021.End, .int .i64 a3021.Budget] 27 :: Cl b3324 [.slice A3022 a3021.Progs.length c3023, .slice A3025 a3021.Links.length c3026, .slice A3028 a3021.Starts.length c3029, .int .u64 a3021.Seed, .int .i64 a3021.End, .int .i64 a3021.Budget] 27 :: l) hf := hS
                refine RL.s (Vl.move rfl) rfl ?_
                refine RL.s (Vl.int rfl rfl rfl) rfl ?_
                refine RL.s (Vl.move rfl) rfl ?_
                by_cases hc3515 : t3513 = 131
                case pos =>
                  have h := h.pos hc3515
                  refine RL.re 70 rfl (congrArg Value.bool (decide_eq_true hc3515)) ?_
                  obtain ⟨t3516, hg3517, h⟩ := h.bind
                  refine RL.e (OW.callF (ls := []) rfl Tryd.call11 (isochronlaw13vawake.ok hG0 _ hg3517 hS)) rfl rfl ?_
                  rintro _ w ⟨rfl, hS⟩
                  have hS : St B w (OSf E_api_Link 37 (.slice A3505 ((([] : List api_Link) ++ a3021.Links) ++ ([(⟨(a3021.Progs.length : Int), 0, 1, false⟩ : api_Link)])).length c3506) ((([] : List api_Link) ++ a3021.Links) ++ ([(⟨(a3021.Progs.length : Int), 0, 1, false⟩ : api_Link)])) :: OSf E_api_Link 37 (.slice (some ⟨b3503, 0, none⟩) ([(⟨(a3021.Progs.length : Int), 0, 1, false⟩ : api_Link)]).length 1) ([(⟨(a3021.Progs.length : Int), 0, 1, false⟩ : api_Link)]) :: Cl b3334 [.slice A3022 a3021.Progs.length c3023, .slice A3505 ((([] : List api_Link) ++ a3021.Links) ++ ([(⟨(a3021.Progs.length : Int), 0, 1, false⟩ : api_Link)])).length c3506, .slice A3028 a3021.Starts.length c3029, .int .u64 a3021.Seed, .int .i64 a3021.End, .int .i64 a3021.Budget] 27 :: Cl b3324 [.slice A3022 a3021.Progs.length c3023, .slice A3025 a3021.Links.length c3026, .slice A3028 a3021.Starts.length c3029, .int .u64 a3021.Seed, .int .i64 a3021.End, .int .i64 a3021.Budget] 27 :: l) hf := hS
                  refine RL.s (Vl.pickT rfl rfl) rfl ?_
                  refine RL.s (Vl.assign rfl) rfl ?_
                  refine RL.nil ?_
                  refine RQ.then_n ?_
                  refine RC.ret ?_
                  have e := h.some
                  subst e
                  refine RQ.ret0 (vs := [.bool t3516]) Tryd.results4 ⟨rfl, trivial⟩ ?_
                  exact ⟨rfl, ((((hS.dropAt 0 rfl).dropAt 0 rfl).dropAt 0 rfl).dropAt 0 rfl)⟩
                case neg =>
                  have h := h.neg hc3515
                  refine RL.re 70 rfl (congrArg Value.bool (decide_eq_false hc3515)) ?_
                  refine RL.nn rfl rfl ?_
                  refine RL.s (Vl.pickF rfl rfl) rfl ?_
                  refine RL.s (Vl.assign rfl) rfl ?_
                  refine RL.nil ?_
                  refine RQ.then_n ?_
                  refine RC.ret ?_
                  have e := h.some
                  subst e
                  refine RQ.ret0 (vs := [.bool false]) Tryd.results4 ⟨rfl, trivial⟩ ?_
                  exact ⟨rfl, ((((hS.dropAt 0 rfl).dropAt 0 rfl).dropAt 0 rfl).dropAt 0 rfl)⟩
              · refine RPW.e 8 rfl (OW.buildSlice (E := E_api_Link) (xs := [(⟨(a3021.Progs.length : Int), 0, 1, false⟩ : api_Link)]) (cs := [.int .i64 (a3021.Progs.length : Int), .int .i64 0, .int .i64 1, .bool false]) hS Tryd.underlying23 Tryd.zeroValue37 Tryd.sizeOf37 (parts := [(0, .tmp 52)]) rfl rfl (by decide) (by decide) (by kernel_rfl) rfl) rfl rfl ?_
                rintro _ w ⟨b3519, rfl, hS⟩
                have hS : St B w (OSf E_api_Link 37 (.slice (some ⟨b3519, 0, none⟩) ([(⟨(a3021.Progs.length : Int), 0, 1, false⟩ : api_Link)]).length 1) ([(⟨(a3021.Progs.length : Int), 0, 1, false⟩ : api_Link)]) :: OSf E_api_Link 37 (.slice (some ⟨b3496, 0, none⟩) ([] : List api_Link).length 0) ([] : List api_Link) :: Cl b3334 [.slice A3022 a3021.Progs.length c3023, .slice A3025 a3021.Links.length c3026, .slice A3028 a3021.Starts.length c3029, .int .u64 a3021.Seed, .int .i64 a3021.End, .int .i64 a3021.Budget] 27 :: Cl b3324 [.slice A3022 a3021.Progs.length c3023, .slice A3025 a3021.Links.length c3026, .slice A3028 a3021.Starts.length c3029, .int .u64 a3021.Seed, .int .i64 a3021.End, .int .i64 a3021.Budget] 27 :: l) hf := hS
                refine ⟨fun _ => ((hS.dropAt 0 rfl).dropAt 0 rfl), ?_⟩
                obtain ⟨hq3520, h⟩ := h.req
                refine RP.e 3 rfl (OW.appendV (E := E_api_Link) (xs := ([] : List api_Link)) (ys := a3021.Links) 1 hS rfl Tryd.underlying23 Tryd.type37 rfl rfl rfl rfl (by decide) (by decide) rfl rfl (hr3027.2.world hS.sub) hq3520 rfl) rfl rfl ?_
                rintro v3524 w hS
                obtain ⟨A3521, c3522, rfl, _⟩ := hS.osShape 0 rfl
                have hS : St B w (OSf E_api_Link 37 (.slice A3521 (([] : List api_Link) ++ a3021.Links).length c3522) (([] : List api_Link) ++ a3021.Links) :: OSf E_api_Link 37 (.slice (some ⟨b3519, 0, none⟩) ([(⟨(a3021.Progs.length : Int), 0, 1, false⟩ : api_Link)]).length 1) ([(⟨(a3021.Progs.length : Int), 0, 1, false⟩ : api_Link)]) :: Cl b3334 [.slice A3022 a3021.Progs.length c3023, .slice A3025 a3021.Links.length c3026, .slice A3028 a3021.Starts.length c3029, .int .u64 a3021.Seed, .int .i64 a3021.End, .int .i64 a3021.Budget] 27 :: Cl b3324 [.slice A3022 a3021.Progs.length c3023, .slice A3025 a3021.Links.length c3026, .slice A3028 a3021.Starts.length c3029, .int .u64 a3021.Seed, .int .i64 a3021.End, .int .i64 a3021.Budget] 27 :: l) hf := hS
                refine ⟨fun _ => ((hS.dropAt 0 rfl).dropAt 0 rfl), ?_⟩
                obtain ⟨hq3525, h⟩ := h.req
                refine RP.e 9 rfl (OW.append (E := E_api_Link) (xs := (([] : List api_Link) ++ a3021.Links)) (ys := [(⟨(a3021.Progs.length : Int), 0, 1, false⟩ : api_Link)]) 0 hS rfl Tryd.underlying23 Tryd.type37 rfl rfl rfl rfl (by decide) rfl rfl rfl (hS.slW 1 rfl).2.2.flat (by simp only [maxLen, List.length_cons, List.length_nil] at *; omega) hq3525 rfl) rfl rfl ?_
                rintro v3529 w hS
                obtain ⟨A3526, c3527, rfl, _⟩ := hS.osShape 0 rfl
                have hS : St B w (OSf E_api_Link 37 (.slice A3526 ((([] : List api_Link) ++ a3021.Links) ++ ([(⟨(a3021.Progs.length : Int), 0, 1, false⟩ : api_Link)])).length c3527) ((([] : List api_Link) ++ a3021.Links) ++ ([(⟨(a3021.Progs.length : Int), 0, 1, false⟩ : api_Link)])) :: OSf E_api_Link 37 (.slice (some ⟨b3519, 0, none⟩) ([(⟨(a3021.Progs.length : Int), 0, 1, false⟩ : api_Link)]).length 1) ([(⟨(a3021.Progs.length : Int), 0, 1, false⟩ : api_Link)]) :: Cl b3334 [.slice A3022 a3021.Progs.length c3023, .slice A3025 a3021.Links.length c3026, .slice A3028 a3021.Starts.length c3029, .int .u64 a3021.Seed, .int .i64 a3021.End, .int .i64 a3021.Budget] 27 :: Cl b3324 [.slice A3022 a3021.Progs.length c3023, .slice A3025 a3021.Links.length c3026, .slice A3028 a3021.Starts.length c3029, .int .u64 a3021.Seed, .int .i64 a3021.End, .int .i64 a3021.Budget] 27 :: l) hf := hS
                refine ⟨fun _ => ((hS.dropAt 0 rfl).dropAt 0 rfl), ?_⟩
                refine RP.v1 10 rfl (by intro hx; cases hx) (Vl.fieldAddr (a'' := ⟨b3334, 1, none⟩) Tryd.underlying27 rfl Tryd.sizeOf23 rfl rfl) rfl rfl ?_
                refine RP.e0 11 rfl (OW.store (cs := [.slice A3022 a3021.Progs.length c3023, .slice A3025 a3021.Links.length c3026, .slice A3028 a3021.Starts.length c3029, .int .u64 a3021.Seed, .int .i64 a3021.End, .int .i64 a3021.Budget]) (vs := [.slice A3526 ((([] : List api_Link) ++ a3021.Links) ++ ([(⟨(a3021.Progs.length : Int), 0, 1, false⟩ : api_Link)])).length c3527]) (l' := OSf E_api_Link 37 (.slice A3526 ((([] : List api_Link) ++ a3021.Links) ++ ([(⟨(a3021.Progs.length : Int), 0, 1, false⟩ : api_Link)])).length c3527) ((([] : List api_Link) ++ a3021.Links) ++ ([(⟨(a3021.Progs.length : Int), 0, 1, false⟩ : api_Link)])) :: OSf E_api_Link 37 (.slice (some ⟨b3519, 0, none⟩) ([(⟨(a3021.Progs.length : Int), 0, 1, false⟩ : api_Link)]).length 1) ([(⟨(a3021.Progs.length : Int), 0, 1, false⟩ : api_Link)]) :: Cl b3334 [.slice A3022 a3021.Progs.length c3023, .slice A3526 ((([] : List api_Link) ++ a3021.Links) ++ ([(⟨(a3021.Progs.length : Int), 0, 1, false⟩ : api_Link)])).length c3527, .slice A3028 a3021.Starts.length c3029, .int .u64 a3021.Seed, .int .i64 a3021.End, .int .i64 a3021.Budget] 27 :: Cl b3324 [.slice A3022 a3021.Progs.length c3023, .slice A3025 a3021.Links.length c3026, .slice A3028 a3021.Starts.length c3029, .int .u64 a3021.Seed, .int .i64 a3021.End, .int .i64 a3021.Budget] 27 :: l) 2 hS rfl rfl rfl rfl Tryd.sizeOf23 rfl rfl rfl rfl) rfl ?_
                rintro _ w ⟨rfl, hS⟩
                have hS : St B w (OSf E_api_Link 37 (.slice A3526 ((([] : List api_Link) ++ a3021.Links) ++ ([(⟨(a3021.Progs.length : Int), 0, 1, false⟩ : api_Link)])).length c3527) ((([] : List api_Link) ++ a3021.Links) ++ ([(⟨(a3021.Progs.length : Int), 0, 1, false⟩ : api_Link)])) :: OSf E_api_Link 37 (.slice (some ⟨b3519, 0, none⟩) ([(⟨(a3021.Progs.length : Int), 0, 1, false⟩ : api_Link)]).length 1) ([(⟨(a3021.Progs.length : Int), 0, 1, false⟩ : api_Link)]) :: Cl b3334 [.slice A3022 a3021.Progs.length c3023, .slice A3526 ((([] : List api_Link) ++ a3021.Links) ++ ([(⟨(a3021.Progs.length : Int), 0, 1, false⟩ : api_Link)])).length c3527, .slice A3028 a3021.Starts.length c3029, .int .u64 a3021.Seed, .int .i64 a3021.End, .int .i64 a3021.Budget] 27 :: Cl b3324 [.slice A3022 a3021.Progs.length c3023, .slice A3025 a3021.Links.length c3026, .slice A3028 a3021.Starts.length c3029, .int .u64 a3021.Seed, .int .i64 a3021.End, .int .i64 a3021.Budget] 27 :: l) hf := hS
                refine ⟨(by intro hx; cases hx), ?_⟩
                refine RP.nil ?_
                refine RQ.then_n ?_
                refine RC.region ?_
                refine RL.s (Vl.assign rfl) rfl ?_
                refine RL.nil ?_
                refine RQ.inB_n ?_
                refine RQ.then_n ?_
                refine RC.seq ?_
                refine RC.region ?_
                refine RL.s (Vl.loadA (vs := [.slice A3022 a3021.Progs.length c3023, .slice A3526 ((([] : List api_Link) ++ a3021.Links) ++ ([(⟨(a3021.Progs.length : Int), 0, 1, false⟩ : api_Link)])).length c3527, .slice A3028 a3021.Starts.length c3029, .int .u64 a3021.Seed, .int .i64 a3021.End, .int .i64 a3021.Budget]) Tryd.isAgg27 Tryd.sizeOf27 rfl rfl (hS.cellsAt 2 rfl rfl)) rfl ?_
                obtain ⟨hf3533, hs3531, hS, hr3530, hb3532⟩ := St.lendSl hS
                obtain ⟨t3534, hg3535, h⟩ := h.bind
                refine RL.e (OW.callF (ls := [.tmp 66]) rfl Tryd.call9 (model_Check.ok (⟨a3021.Progs, ((([] : List api_Link) ++ a3021.Links) ++ ([(⟨(a3021.Progs.length : Int), 0, 1, false⟩ : api_Link)])), a3021.Starts, a3021.Seed, a3021.End, a3021.Budget⟩ : api_Model) A3022 c3023 A3526 c3527 A3028 c3029 (hr3024.mono hs3531) hr3530 (hr3030.mono hs3531) (hG0.mono hs3531) _ hg3535 hS)) rfl rfl ?_
                rintro _ w ⟨rfl, hS⟩
                have hS := hb3532 _ _ hS
                have hS : St B w (OSf E_api_Link 37 (.slice A3526 ((([] : List api_Link) ++ a3021.Links) ++ ([(⟨(a3021.Progs.length : Int), 0, 1, false⟩ : api_Link)])).length c3527) ((([] : List api_Link) ++ a3021.Links) ++ ([(⟨(a3021.Progs.length : Int), 0, 1, false⟩ : api_Link)])) :: OSf E_api_Link 37 (.slice (some ⟨b3519, 0, none⟩) ([(⟨(a3021.Progs.length : Int), 0, 1, false⟩ : api_Link)]).length 1) ([(⟨(a3021.Progs.length : Int), 0, 1, false⟩ : api_Link)]) :: Cl b3334 [.slice A3022 a3021.Progs.length c3023, .slice A3526 ((([] : List api_Link) ++ a3021.Links) ++ ([(⟨(a3021.Progs.length : Int), 0, 1, false⟩ : api_Link)])).length c3527, .slice A3028 a3021.Starts.length c3029, .int .u64 a3021.Seed, .int .i64 a3021.End, .int .i64 a3021.Budget] 27 :: Cl b3324 [.slice A3022 a3021.Progs.length c3023, .slice A3025 a3021.Links.length c3026, .slice A3028 a3021.Starts.length c3029, .int .u64 a3021.Seed, .int .i64 a3021.End, .int .i64 a3021.Budget] 27 :: l) hf := hS
                refine RL.s (Vl.move rfl) rfl ?_
                refine RL.s (Vl.int rfl rfl rfl) rfl ?_
                refine RL.s (Vl.move rfl) rfl ?_
                by_cases hc3536 : t3534 = 131
                case pos =>
                  have h := h.pos hc3536
                  refine RL.re 70 rfl (congrArg Value.bool (decide_eq_true hc3536)) ?_
                  obtain ⟨t3537, hg3538, h⟩ := h.bind
                  refine RL.e (OW.callF (ls := []) rfl Tryd.call11 (isochronlaw13vawake.ok hG0 _ hg3538 hS)) rfl rfl ?_
                  rintro _ w ⟨rfl, hS⟩
                  have hS : St B w (OSf E_api_Link 37 (.slice A3526 ((([] : List api_Link) ++ a3021.Links) ++ ([(⟨(a3021.Progs.length : Int), 0, 1, false⟩ : api_Link)])).length c3527) ((([] : List api_Link) ++ a3021.Links) ++ ([(⟨(a3021.Progs.length : Int), 0, 1, false⟩ : api_Link)])) :: OSf E_api_Link 37 (.slice (some ⟨b3519, 0, none⟩) ([(⟨(a3021.Progs.length : Int), 0, 1, false⟩ : api_Link)]).length 1) ([(⟨(a3021.Progs.length : Int), 0, 1, false⟩ : api_Link)]) :: Cl b3334 [.slice A3022 a3021.Progs.length c3023, .slice A3526 ((([] : List api_Link) ++ a3021.Links) ++ ([(⟨(a3021.Progs.length : Int), 0, 1, false⟩ : api_Link)])).length c3527, .slice A3028 a3021.Starts.length c3029, .int .u64 a3021.Seed, .int .i64 a3021.End, .int .i64 a3021.Budget] 27 :: Cl b3324 [.slice A3022 a3021.Progs.length c3023, .slice A3025 a3021.Links.length c3026, .slice A3028 a3021.Starts.length c3029, .int .u64 a3021.Seed, .int .i64 a3021.End, .int .i64 a3021.Budget] 27 :: l) hf := hS
                  refine RL.s (Vl.pickT rfl rfl) rfl ?_
                  refine RL.s (Vl.assign rfl) rfl ?_
                  refine RL.nil ?_
                  refine RQ.then_n ?_
                  refine RC.ret ?_
                  have e := h.some
                  subst e
                  refine RQ.ret0 (vs := [.bool t3537]) Tryd.results4 ⟨rfl, trivial⟩ ?_
                  exact ⟨rfl, ((((hS.dropAt 0 rfl).dropAt 0 rfl).dropAt 0 rfl).dropAt 0 rfl)⟩
                case neg =>
                  have h := h.neg hc3536
                  refine RL.re 70 rfl (congrArg Value.bool (decide_eq_false hc3536)) ?_
                  refine RL.nn rfl rfl ?_
                  refine RL.s (Vl.pickF rfl rfl) rfl ?_
                  refine RL.s (Vl.assign rfl) rfl ?_
                  refine RL.nil ?_
                  refine RQ.then_n ?_
                  refine RC.ret ?_
                  have e := h.some
                  subst e
                  refine RQ.ret0 (vs := [.bool false]) Tryd.results4 ⟨rfl, trivial⟩ ?_
                  exact ⟨rfl, ((((hS.dropAt 0 rfl).dropAt 0 rfl).dropAt 0 rfl).dropAt 0 rfl)⟩
            · refine RPW.e 8 rfl (OW.buildSlice (E := E_api_Link) (xs := [(⟨(a3021.Progs.length : Int), 0, 1, false⟩ : api_Link)]) (cs := [.int .i64 (a3021.Progs.length : Int), .int .i64 0, .int .i64 1, .bool false]) hS Tryd.underlying23 Tryd.zeroValue37 Tryd.sizeOf37 (parts := [(0, .tmp 52)]) rfl rfl (by decide) (by decide) (by kernel_rfl) rfl) rfl rfl ?_
              rintro _ w ⟨b3540, rfl, hS⟩
              have hS : St B w (OSf E_api_Link 37 (.slice (some ⟨b3540, 0, none⟩) ([(⟨(a3021.Progs.length : Int), 0, 1, false⟩ : api_Link)]).length 1) ([(⟨(a3021.Progs.length : Int), 0, 1, false⟩ : api_Link)]) :: Cl b3334 [.slice A3022 a3021.Progs.length c3023, .slice A3025 a3021.Links.length c3026, .slice A3028 a3021.Starts.length c3029, .int .u64 a3021.Seed, .int .i64 a3021.End, .int .i64 a3021.Budget] 27 :: Cl b3324 [.slice A3022 a3021.Progs.length c3023, .slice A3025 a3021.Links.length c3026, .slice A3028 a3021.Starts.length c3029, .int .u64 a3021.Seed, .int .i64 a3021.End, .int .i64 a3021.Budget] 27 :: l) hf := hS
              refine ⟨fun _ => (hS.dropAt 0 rfl), ?_⟩
              refine RP.e 0 rfl (OW.build0 (E := E_api_Link) hS Tryd.underlying23 Tryd.zeroValue37 Tryd.sizeOf37) rfl rfl ?_
              rintro _ w ⟨b3543, rfl, hS⟩
              have hS : St B w (OSf E_api_Link 37 (.slice (some ⟨b3543, 0, none⟩) ([] : List api_Link).length 0) ([] : List api_Link) :: OSf E_api_Link 37 (.slice (some ⟨b3540, 0, none⟩) ([(⟨(a3021.Progs.length : Int), 0, 1, false⟩ : api_Link)]).length 1) ([(⟨(a3021.Progs.length : Int), 0, 1, false⟩ : api_Link)]) :: Cl b3334 [.slice A3022 a3021.Progs.length c3023, .slice A3025 a3021.Links.length c3026, .slice A3028 a3021.Starts.length c3029, .int .u64 a3021.Seed, .int .i64 a3021.End, .int .i64 a3021.Budget] 27 :: Cl b3324 [.slice A3022 a3021.Progs.length c3023, .slice A3025 a3021.Links.length c3026, .slice A3028 a3021.Starts.length c3029, .int .u64 a3021.Seed, .int .i64 a3021.End, .int .i64 a3021.Budget] 27 :: l) hf := hS
              refine ⟨fun _ => ((hS.dropAt 0 rfl).dropAt 0 rfl), ?_⟩
              obtain ⟨hq3544, h⟩ := h.req
              refine RP.e 3 rfl (OW.appendV (E := E_api_Link) (xs := ([] : List api_Link)) (ys := a3021.Links) 0 hS rfl Tryd.underlying23 Tryd.type37 rfl rfl rfl rfl (by decide) (by decide) rfl rfl (hr3027.2.world hS.sub) hq3544 rfl) rfl rfl ?_
              rintro v3548 w hS
              obtain ⟨A3545, c3546, rfl, _⟩ := hS.osShape 0 rfl
              have hS : St B w (OSf E_api_Link 37 (.slice A3545 (([] : List api_Link) ++ a3021.Links).length c3546) (([] : List api_Link) ++ a3021.Links) :: OSf E_api_Link 37 (.slice (some ⟨b3540, 0, none⟩) ([(⟨(a3021.Progs.length : Int), 0, 1, false⟩ : api_Link)]).length 1) ([(⟨(a3021.Progs.length : Int), 0, 1, false⟩ : api_Link)]) :: Cl b3334 [.slice A3022 a3021.Progs.length c3023, .slice A3025 a3021.Links.length c3026, .slice A3028 a3021.Starts.length c3029, .int .u64 a3021.Seed, .int .i64 a3021.End, .int .i64 a3021.Budget] 27 :: Cl b3324 [.slice A3022 a3021.Progs.length c3023, .slice A3025 a3021.Links.length c3026, .slice A3028 a3021.Starts.length c3029, .int .u64 a3021.Seed, .int .i64 a3021.End, .int .i64 a3021.Budget] 27 :: l) hf := hS
              refine ⟨fun _ => ((hS.dropAt 0 rfl).dropAt 0 rfl), ?_⟩
              obtain ⟨hq3549, h⟩ := h.req
              refine RP.e 9 rfl (OW.append (E := E_api_Link) (xs := (([] : List api_Link) ++ a3021.Links)) (ys := [(⟨(a3021.Progs.length : Int), 0, 1, false⟩ : api_Link)]) 0 hS rfl Tryd.underlying23 Tryd.type37 rfl rfl rfl rfl (by decide) rfl rfl rfl (hS.slW 1 rfl).2.2.flat (by simp only [maxLen, List.length_cons, List.length_nil] at *; omega) hq3549 rfl) rfl rfl ?_
              rintro v3553 w hS
              obtain ⟨A3550, c3551, rfl, _⟩ := hS.osShape 0 rfl
              have hS : St B w (OSf E_api_Link 37 (.slice A3550 ((([] : List api_Link) ++ a3021.Links) ++ ([(⟨(a3021.Progs.length : Int), 0, 1, false⟩ : api_Link)])).length c3551) ((([] : List api_Link) ++ a3021.Links) ++ ([(⟨(a3021.Progs.length : Int), 0, 1, false⟩ : api_Link)])) :: OSf E_api_Link 37 (.slice (some ⟨b3540, 0, none⟩) ([(⟨(a3021.Progs.length : Int), 0, 1, false⟩ : api_Link)]).length 1) ([(⟨(a3021.Progs.length : Int), 0, 1, false⟩ : api_Link)]) :: Cl b3334 [.slice A3022 a3021.Progs.length c3023, .slice A3025 a3021.Links.length c3026, .slice A3028 a3021.Starts.length c3029, .int .u64 a3021.Seed, .int .i64 a3021.End, .int .i64 a3021.Budget] 27 :: Cl b3324 [.slice A3022 a3021.Progs.length c3023, .slice A3025 a3021.Links.length c3026, .slice A3028 a3021.Starts.length c3029, .int .u64 a3021.Seed, .int .i64 a3021.End, .int .i64 a3021.Budget] 27 :: l) hf := hS
              refine ⟨fun _ => ((hS.dropAt 0 rfl).dropAt 0 rfl), ?_⟩
              refine RP.v1 10 rfl (by intro hx; cases hx) (Vl.fieldAddr (a'' := ⟨b3334, 1, none⟩) Tryd.underlying27 rfl Tryd.sizeOf23 rfl rfl) rfl rfl ?_
              refine RP.e0 11 rfl (OW.store (cs := [.slice A3022 a3021.Progs.length c3023, .slice A3025 a3021.Links.length c3026, .slice A3028 a3021.Starts.length c3029, .int .u64 a3021.Seed, .int .i64 a3021.End, .int .i64 a3021.Budget]) (vs := [.slice A3550 ((([] : List api_Link) ++ a3021.Links) ++ ([(⟨(a3021.Progs.length : Int), 0, 1, false⟩ : api_Link)])).length c3551]) (l' := OSf E_api_Link 37 (.slice A3550 ((([] : List api_Link) ++ a3021.Links) ++ ([(⟨(a3021.Progs.length : Int), 0, 1, false⟩ : api_Link)])).length c3551) ((([] : List api_Link) ++ a3021.Links) ++ ([(⟨(a3021.Progs.length : Int), 0, 1, false⟩ : api_Link)])) :: OSf E_api_Link 37 (.slice (some ⟨b3540, 0, none⟩) ([(⟨(a3021.Progs.length : Int), 0, 1, false⟩ : api_Link)]).length 1) ([(⟨(a3021.Progs.length : Int), 0, 1, false⟩ : api_Link)]) :: Cl b3334 [.slice A3022 a3021.Progs.length c3023, .slice A3550 ((([] : List api_Link) ++ a3021.Links) ++ ([(⟨(a3021.Progs.length : Int), 0, 1, false⟩ : api_Link)])).length c3551, .slice A3028 a3021.Starts.length c3029, .int .u64 a3021.Seed, .int .i64 a3021.End, .int .i64 a3021.Budget] 27 :: Cl b3324 [.slice A3022 a3021.Progs.length c3023, .slice A3025 a3021.Links.length c3026, .slice A3028 a3021.Starts.length c3029, .int .u64 a3021.Seed, .int .i64 a3021.End, .int .i64 a3021.Budget] 27 :: l) 2 hS rfl rfl rfl rfl Tryd.sizeOf23 rfl rfl rfl rfl) rfl ?_
              rintro _ w ⟨rfl, hS⟩
              have hS : St B w (OSf E_api_Link 37 (.slice A3550 ((([] : List api_Link) ++ a3021.Links) ++ ([(⟨(a3021.Progs.length : Int), 0, 1, false⟩ : api_Link)])).length c3551) ((([] : List api_Link) ++ a3021.Links) ++ ([(⟨(a3021.Progs.length : Int), 0, 1, false⟩ : api_Link)])) :: OSf E_api_Link 37 (.slice (some ⟨b3540, 0, none⟩) ([(⟨(a3021.Progs.length : Int), 0, 1, false⟩ : api_Link)]).length 1) ([(⟨(a3021.Progs.length : Int), 0, 1, false⟩ : api_Link)]) :: Cl b3334 [.slice A3022 a3021.Progs.length c3023, .slice A3550 ((([] : List api_Link) ++ a3021.Links) ++ ([(⟨(a3021.Progs.length : Int), 0, 1, false⟩ : api_Link)])).length c3551, .slice A3028 a3021.Starts.length c3029, .int .u64 a3021.Seed, .int .i64 a3021.End, .int .i64 a3021.Budget] 27 :: Cl b3324 [.slice A3022 a3021.Progs.length c3023, .slice A3025 a3021.Links.length c3026, .slice A3028 a3021.Starts.length c3029, .int .u64 a3021.Seed, .int .i64 a3021.End, .int .i64 a3021.Budget] 27 :: l) hf := hS
              refine ⟨(by intro hx; cases hx), ?_⟩
              refine RP.nil ?_
              refine RQ.then_n ?_
              refine RC.region ?_
              refine RL.s (Vl.assign rfl) rfl ?_
              refine RL.nil ?_
              refine RQ.inB_n ?_
              refine RQ.then_n ?_
              refine RC.seq ?_
              refine RC.region ?_
              refine RL.s (Vl.loadA (vs := [.slice A3022 a3021.Progs.length c3023, .slice A3550 ((([] : List api_Link) ++ a3021.Links) ++ ([(⟨(a3021.Progs.length : Int), 0, 1, false⟩ : api_Link)])).length c3551, .slice A3028 a3021.Starts.length c3029, .int .u64 a3021.Seed, .int .i64 a3021.End, .int .i64 a3021.Budget]) Tryd.isAgg27 Tryd.sizeOf27 rfl rfl (hS.cellsAt 2 rfl rfl)) rfl ?_
              obtain ⟨hf3557, hs3555, hS, hr3554, hb3556⟩ := St.lendSl hS
              obtain ⟨t3558, hg3559, h⟩ := h.bind
              refine RL.e (OW.callF (ls := [.tmp 66]) rfl Tryd.call9 (model_Check.ok (⟨a3021.Progs, ((([] : List api_Link) ++ a3021.Links) ++ ([(⟨(a3021.Progs.length : Int), 0, 1, false⟩ : api_Link)])), a3021.Starts, a3021.Seed, a3021.End, a3021.Budget⟩ : api_Model) A3022 c3023 A3550 c3551 A3028 c3029 (hr3024.mono hs3555) hr3554 (hr3030.mono hs3555) (hG0.mono hs3555) _ hg3559 hS)) rfl rfl ?_
              rintro _ w ⟨rfl, hS⟩
              have hS := hb3556 _ _ hS
              have hS : St B w (OSf E_api_Link 37 (.slice A3550 ((([] : List api_Link) ++ a3021.Links) ++ ([(⟨(a3021.Progs.length : Int), 0, 1, false⟩ : api_Link)])).length c3551) ((([] : List api_Link) ++ a3021.Links) ++ ([(⟨(a3021.Progs.length : Int), 0, 1, false⟩ : api_Link)])) :: OSf E_api_Link 37 (.slice (some ⟨b3540, 0, none⟩) ([(⟨(a3021.Progs.length : Int), 0, 1, false⟩ : api_Link)]).length 1) ([(⟨(a3021.Progs.length : Int), 0, 1, false⟩ : api_Link)]) :: Cl b3334 [.slice A3022 a3021.Progs.length c3023, .slice A3550 ((([] : List api_Link) ++ a3021.Links) ++ ([(⟨(a3021.Progs.length : Int), 0, 1, false⟩ : api_Link)])).length c3551, .slice A3028 a3021.Starts.length c3029, .int .u64 a3021.Seed, .int .i64 a3021.End, .int .i64 a3021.Budget] 27 :: Cl b3324 [.slice A3022 a3021.Progs.length c3023, .slice A3025 a3021.Links.length c3026, .slice A3028 a3021.Starts.length c3029, .int .u64 a3021.Seed, .int .i64 a3021.End, .int .i64 a3021.Budget] 27 :: l) hf := hS
              refine RL.s (Vl.move rfl) rfl ?_
              refine RL.s (Vl.int rfl rfl rfl) rfl ?_
              refine RL.s (Vl.move rfl) rfl ?_
              by_cases hc3560 : t3558 = 131
              case pos =>
                have h := h.pos hc3560
                refine RL.re 70 rfl (congrArg Value.bool (decide_eq_true hc3560)) ?_
                obtain ⟨t3561, hg3562, h⟩ := h.bind
                refine RL.e (OW.callF (ls := []) rfl Tryd.call11 (isochronlaw13vawake.ok hG0 _ hg3562 hS)) rfl rfl ?_
                rintro _ w ⟨rfl, hS⟩
                have hS : St B w (OSf E_api_Link 37 (.slice A3550 ((([] : List api_Link) ++ a3021.Links) ++ ([(⟨(a3021.Progs.length : Int), 0, 1, false⟩ : api_Link)])).length c3551) ((([] : List api_Link) ++ a3021.Links) ++ ([(⟨(a3021.Progs.length : Int), 0, 1, false⟩ : api_Link)])) :: OSf E_api_Link 37 (.slice (some ⟨b3540, 0, none⟩) ([(⟨(a3021.Progs.length : Int), 0, 1, false⟩ : api_Link)]).length 1) ([(⟨(a3021.Progs.length : Int), 0, 1, false⟩ : api_Link)]) :: Cl b3334 [.slice A3022 a3021.Progs.length c3023, .slice A3550 ((([] : List api_Link) ++ a3021.Links) ++ ([(⟨(a3021.Progs.length : Int), 0, 1, false⟩ : api_Link)])).length c3551, .slice A3028 a3021.Starts.length c3029, .int .u64 a3021.Seed, .int .i64 a3021.End, .int .i64 a3021.Budget] 27 :: Cl b3324 [.slice A3022 a3021.Progs.length c3023, .slice A3025 a3021.Links.length c3026, .slice A3028 a3021.Starts.length c3029, .int .u64 a3021.Seed, .int .i64 a3021.End, .int .i64 a3021.Budget] 27 :: l) hf := hS
                refine RL.s (Vl.pickT rfl rfl) rfl ?_
                refine RL.s (Vl.assign rfl) rfl ?_
                refine RL.nil ?_
                refine RQ.then_n ?_
                refine RC.ret ?_
                have e := h.some
                subst e
                refine RQ.ret0 (vs := [.bool t3561]) Tryd.results4 ⟨rfl, trivial⟩ ?_
                exact ⟨rfl, ((((hS.dropAt 0 rfl).dropAt 0 rfl).dropAt 0 rfl).dropAt 0 rfl)⟩
              case neg =>
                have h := h.neg hc3560
                refine RL.re 70 rfl (congrArg Value.bool (decide_eq_false hc3560)) ?_
                refine RL.nn rfl rfl ?_
                refine RL.s (Vl.pickF rfl rfl) rfl ?_
                refine RL.s (Vl.assign rfl) rfl ?_
                refine RL.nil ?_
                refine RQ.then_n ?_
                refine RC.ret ?_
                have e := h.some
                subst e
                refine RQ.ret0 (vs := [.bool false]) Tryd.results4 ⟨rfl, trivial⟩ ?_
                exact ⟨rfl, ((((hS.dropAt 0 rfl).dropAt 0 rfl).dropAt 0 rfl).dropAt 0 rfl)⟩
          case neg =>
            have h := h.neg hc3493
            refine RC.re 43 rfl (congrArg Value.bool (decide_eq_false hc3493)) ?_
            refine RC.condF rfl ?_
            refine RC.seq ?_
            refine RC.region ?_
            refine RL.s (Vl.int rfl rfl rfl) rfl ?_
            refine RL.s (Vl.assign rfl) rfl ?_
            refine RL.nil ?_
            refine RQ.then_n ?_
            by_cases hc3563 : Int.tmod a3031 6 = 4
            case pos =>
              have h := h.pos hc3563
              refine RC.re 56 rfl (congrArg Value.bool (decide_eq_true hc3563)) ?_
              refine RC.condT rfl ?_
              refine RC.seq ?_
              refine RC.region ?_
              refine RL.e (OW.build0 (E := E_api_Link) hS Tryd.underlying23 Tryd.zeroValue37 Tryd.sizeOf37) rfl rfl ?_
              rintro _ w ⟨b3566, rfl, hS⟩
              have hS : St B w (OSf E_api_Link 37 (.slice (some ⟨b3566, 0, none⟩) ([] : List api_Link).length 0) ([] : List api_Link) :: Cl b3334 [.slice A3022 a3021.Progs.length c3023, .slice A3025 a3021.Links.length c3026, .slice A3028 a3021.Starts.length c3029, .int .u64 a3021.Seed, .int .i64 a3021.End, .int .i64 a3021.Budget] 27 :: Cl b3324 [.slice A3022 a3021.Progs.length c3023, .slice A3025 a3021.Links.length c3026, .slice A3028 a3021.Starts.length c3029, .int .u64 a3021.Seed, .int .i64 a3021.End, .int .i64 a3021.Budget] 27 :: l) hf := hS
              refine RL.s (Vl.fieldAddr (a'' := ⟨b3324, 1, none⟩) Tryd.underlying27 rfl Tryd.sizeOf23 rfl rfl) rfl ?_
              refine RL.s (Vl.load Tryd.isAgg23 rfl (hS.cell 2 rfl rfl)) rfl ?_
              obtain ⟨hq3567, h⟩ := h.req
              refine RL.e (OW.appendV (E := E_api_Link) (xs := ([] : List api_Link)) (ys := a3021.Links) 0 hS rfl Tryd.underlying23 Tryd.type37 rfl rfl rfl rfl (by decide) (by decide) rfl rfl (hr3027.2.world hS.sub) hq3567 rfl) rfl rfl ?_
              rintro v3571 w hS
              obtain ⟨A3568, c3569, rfl, _⟩ := hS.osShape 0 rfl
              have hS : St B w (OSf E_api_Link 37 (.slice A3568 (([] : List api_Link) ++ a3021.Links).length c3569) (([] : List api_Link) ++ a3021.Links) :: Cl b3334 [.slice A3022 a3021.Progs.length c3023, .slice A3025 a3021.Links.length c3026, .slice A3028 a3021.Starts.length c3029, .int .u64 a3021.Seed, .int .i64 a3021.End, .int .i64 a3021.Budget] 27 :: Cl b3324 [.slice A3022 a3021.Progs.length c3023, .slice A3025 a3021.Links.length c3026, .slice A3028 a3021.Starts.length c3029, .int .u64 a3021.Seed, .int .i64 a3021.End, .int .i64 a3021.Budget] 27 :: l) hf := hS
              refine RL.s (Vl.build (v := .agg #[.int .i64 0, .int .i64 0, .int .i64 0, .bool false]) (parts := [(2, .const (.int .i64 0))]) rfl (by kernel_rfl)) rfl ?_
              refine RL.e (OW.buildSlice (E := E_api_Link) (xs := [(⟨0, 0, 0, false⟩ : api_Link)]) (cs := [.int .i64 0, .int .i64 0, .int .i64 0, .bool false]) hS Tryd.underlying23 Tryd.zeroValue37 Tryd.sizeOf37 (parts := [(0, .tmp 62)]) rfl rfl (by decide) (by decide) (by kernel_rfl) rfl) rfl rfl ?_
              rintro _ w ⟨b3573, rfl, hS⟩
              have hS : St B w (OSf E_api_Link 37 (.slice (some ⟨b3573, 0, none⟩) ([(⟨0, 0, 0, false⟩ : api_Link)]).length 1) ([(⟨0, 0, 0, false⟩ : api_Link)]) :: OSf E_api_Link 37 (.slice A3568 (([] : List api_Link) ++ a3021.Links).length c3569) (([] : List api_Link) ++ a3021.Links) :: Cl b3334 [.slice A3022 a3021.Progs.length c3023, .slice A3025 a3021.Links.length c3026, .slice A3028 a3021.Starts.length c3029, .int .u64 a3021.Seed, .int .i64 a3021.End, .int .i64 a3021.Budget] 27 :: Cl b3324 [.slice A3022 a3021.Progs.length c3023, .slice A3025 a3021.Links.length c3026, .slice A3028 a3021.Starts.length c3029, .int .u64 a3021.Seed, .int .i64 a3021.End, .int .i64 a3021.Budget] 27 :: l) hf := hS
              obtain ⟨hq3574, h⟩ := h.req
              refine RL.e (OW.append (E := E_api_Link) (xs := (([] : List api_Link) ++ a3021.Links)) (ys := [(⟨0, 0, 0, false⟩ : api_Link)]) 1 hS rfl Tryd.underlying23 Tryd.type37 rfl rfl rfl rfl (by decide) rfl rfl rfl (hS.slW 0 rfl).2.2.flat (by simp only [maxLen, List.length_cons, List.length_nil] at *; omega) hq3574 rfl) rfl rfl ?_
              rintro v3578 w hS
              obtain ⟨A3575, c3576, rfl, _⟩ := hS.osShape 0 rfl
              have hS : St B w (OSf E_api_Link 37 (.slice A3575 ((([] : List api_Link) ++ a3021.Links) ++ ([(⟨0, 0, 0, false⟩ : api_Link)])).length c3576) ((([] : List api_Link) ++ a3021.Links) ++ ([(⟨0, 0, 0, false⟩ : api_Link)])) :: OSf E_api_Link 37 (.slice (some ⟨b3573, 0, none⟩) ([(⟨0, 0, 0, false⟩ : api_Link)]).length 1) ([(⟨0, 0, 0, false⟩ : api_Link)]) :: Cl b3334 [.slice A3022 a3021.Progs.length c3023, .slice A3025 a3021.Links.length c3026, .slice A3028 a3021.Starts.length c3029, .int .u64 a3021.Seed, .int .i64 a3021.End, .int .i64 a3021.Budget] 27 :: Cl b3324 [.slice A3022 a3021.Progs.length c3023, .slice A3025 a3021.Links.length c3026, .slice A3028 a3021.Starts.length c3029, .int .u64 a3021.Seed, .int .i64 a3021.End, .int .i64 a3021.Budget] 27 :: l) hf := hS
              refine RL.s (Vl.fieldAddr (a'' := ⟨b3334, 1, none⟩) Tryd.underlying27 rfl Tryd.sizeOf23 rfl rfl) rfl ?_
              refine RL.e0 (OW.store (cs := [.slice A3022 a3021.Progs.length c3023, .slice A3025 a3021.Links.length c3026, .slice A3028 a3021.Starts.length c3029, .int .u64 a3021.Seed, .int .i64 a3021.End, .int .i64 a3021.Budget]) (vs := [.slice A3575 ((([] : List api_Link) ++ a3021.Links) ++ ([(⟨0, 0, 0, false⟩ : api_Link)])).length c3576]) (l' := OSf E_api_Link 37 (.slice A3575 ((([] : List api_Link) ++ a3021.Links) ++ ([(⟨0, 0, 0, false⟩ : api_Link)])).length c3576) ((([] : List api_Link) ++ a3021.Links) ++ ([(⟨0, 0, 0, false⟩ : api_Link)])) :: OSf E_api_Link 37 (.slice (some ⟨b3573, 0, none⟩) ([(⟨0, 0, 0, false⟩ : api_Link)]).length 1) ([(⟨0, 0, 0, false⟩ : api_Link)]) :: Cl b3334 [.slice A3022 a3021.Progs.length c3023, .slice A3575 ((([] : List api_Link) ++ a3021.Links) ++ ([(⟨0, 0, 0, false⟩ : api_Link)])).length c3576, .slice A3028 a3021.Starts.length c3029, .int .u64 a3021.Seed, .int .i64 a3021.End, .int .i64 a3021.Budget] 27 :: Cl b3324 [.slice A3022 a3021.Progs.length c3023, .slice A3025 a3021.Links.length c3026, .slice A3028 a3021.Starts.length c3029, .int .u64 a3021.Seed, .int .i64 a3021.End, .int .i64 a3021.Budget] 27 :: l) 2 hS rfl rfl rfl rfl Tryd.sizeOf23 rfl rfl rfl rfl) rfl ?_
              rintro _ w ⟨rfl, hS⟩
              have hS : St B w (OSf E_api_Link 37 (.slice A3575 ((([] : List api_Link) ++ a3021.Links) ++ ([(⟨0, 0, 0, false⟩ : api_Link)])).length c3576) ((([] : List api_Link) ++ a3021.Links) ++ ([(⟨0, 0, 0, false⟩ : api_Link)])) :: OSf E_api_Link 37 (.slice (some ⟨b3573, 0, none⟩) ([(⟨0, 0, 0, false⟩ : api_Link)]).length 1) ([(⟨0, 0, 0, false⟩ : api_Link)]) :: Cl b3334 [.slice A3022 a3021.Progs.length c3023, .slice A3575 ((([] : List api_Link) ++ a3021.Links) ++ ([(⟨0, 0, 0, false⟩ : api_Link)])).length c3576, .slice A3028 a3021.Starts.length c3029, .int .u64 a3021.Seed, .int .i64 a3021.End, .int .i64 a3021.Budget] 27 :: Cl b3324 [.slice A3022 a3021.Progs.length c3023, .slice A3025 a3021.Links.length c3026, .slice A3028 a3021.Starts.length c3029, .int .u64 a3021.Seed, .int .i64 a3021.End, .int .i64 a3021.Budget] 27 :: l) hf := hS
              refine RL.nil ?_
              refine RQ.then_n ?_
              refine RC.region ?_
              refine RL.s (Vl.assign rfl) rfl ?_
              refine RL.nil ?_
              refine RQ.inB_n ?_
              refine RQ.then_n ?_
              refine RC.seq ?_
              refine RC.region ?_
              refine RL.s (Vl.loadA (vs := [.slice A3022 a3021.Progs.length c3023, .slice A3575 ((([] : List api_Link) ++ a3021.Links) ++ ([(⟨0, 0, 0, false⟩ : api_Link)])).length c3576, .slice A3028 a3021.Starts.length c3029, .int .u64 a3021.Seed, .int .i64 a3021.End, .int .i64 a3021.Budget]) Tryd.isAgg27 Tryd.sizeOf27 rfl rfl (hS.cellsAt 2 rfl rfl)) rfl ?_
              obtain ⟨hf3582, hs3580, hS, hr3579, hb3581⟩ := St.lendSl hS
              obtain ⟨t3583, hg3584, h⟩ := h.bind
              refine RL.e (OW.callF (ls := [.tmp 66]) rfl Tryd.call9 (model_Check.ok (⟨a3021.Progs, ((([] : List api_Link) ++ a3021.Links) ++ ([(⟨0, 0, 0, false⟩ : api_Link)])), a3021.Starts, a3021.Seed, a3021.End, a3021.Budget⟩ : api_Model) A3022 c3023 A3575 c3576 A3028 c3029 (hr3024.mono hs3580) hr3579 (hr3030.mono hs3580) (hG0.mono hs3580) _ hg3584 hS)) rfl rfl ?_
              rintro _ w ⟨rfl, hS⟩
              have hS := hb3581 _ _ hS
              have hS : St B w (OSf E_api_Link 37 (.slice A3575 ((([] : List api_Link) ++ a3021.Links) ++ ([(⟨0, 0, 0, false⟩ : api_Link)])).length c3576) ((([] : List api_Link) ++ a3021.Links) ++ ([(⟨0, 0, 0, false⟩ : api_Link)])) :: OSf E_api_Link 37 (.slice (some ⟨b3573, 0, none⟩) ([(⟨0, 0, 0, false⟩ : api_Link)]).length 1) ([(⟨0, 0, 0, false⟩ : api_Link)]) :: Cl b3334 [.slice A3022 a3021.Progs.length c3023, .slice A3575 ((([] : List api_Link) ++ a3021.Links) ++ ([(⟨0, 0, 0, false⟩ : api_Link)])).length c3576, .slice A3028 a3021.Starts.length c3029, .int .u64 a3021.Seed, .int .i64 a3021.End, .int .i64 a3021.Budget] 27 :: Cl b3324 [.slice A3022 a3021.Progs.length c3023, .slice A3025 a3021.Links.length c3026, .slice A3028 a3021.Starts.length c3029, .int .u64 a3021.Seed, .int .i64 a3021.End, .int .i64 a3021.Budget] 27 :: l) hf := hS
              refine RL.s (Vl.move rfl) rfl ?_
              refine RL.s (Vl.int rfl rfl rfl) rfl ?_
              refine RL.s (Vl.move rfl) rfl ?_
              by_cases hc3585 : t3583 = 131
              case pos =>
                have h := h.pos hc3585
                refine RL.re 70 rfl (congrArg Value.bool (decide_eq_true hc3585)) ?_
                obtain ⟨t3586, hg3587, h⟩ := h.bind
                refine RL.e (OW.callF (ls := []) rfl Tryd.call11 (isochronlaw13vawake.ok hG0 _ hg3587 hS)) rfl rfl ?_
                rintro _ w ⟨rfl, hS⟩
                have hS : St B w (OSf E_api_Link 37 (.slice A3575 ((([] : List api_Link) ++ a3021.Links) ++ ([(⟨0, 0, 0, false⟩ : api_Link)])).length c3576) ((([] : List api_Link) ++ a3021.Links) ++ ([(⟨0, 0, 0, false⟩ : api_Link)])) :: OSf E_api_Link 37 (.slice (some ⟨b3573, 0, none⟩) ([(⟨0, 0, 0, false⟩ : api_Link)]).length 1) ([(⟨0, 0, 0, false⟩ : api_Link)]) :: Cl b3334 [.slice A3022 a3021.Progs.length c3023, .slice A3575 ((([] : List api_Link) ++ a3021.Links) ++ ([(⟨0, 0, 0, false⟩ : api_Link)])).length c3576, .slice A3028 a3021.Starts.length c3029, .int .u64 a3021.Seed, .int .i64 a3021.End, .int .i64 a3021.Budget] 27 :: Cl b3324 [.slice A3022 a3021.Progs.length c3023, .slice A3025 a3021.Links.length c3026, .slice A3028 a3021.Starts.length c3029, .int .u64 a3021.Seed, .int .i64 a3021.End, .int .i64 a3021.Budget] 27 :: l) hf := hS
                refine RL.s (Vl.pickT rfl rfl) rfl ?_
                refine RL.s (Vl.assign rfl) rfl ?_
                refine RL.nil ?_
                refine RQ.then_n ?_
                refine RC.ret ?_
                have e := h.some
                subst e
                refine RQ.ret0 (vs := [.bool t3586]) Tryd.results4 ⟨rfl, trivial⟩ ?_
                exact ⟨rfl, ((((hS.dropAt 0 rfl).dropAt 0 rfl).dropAt 0 rfl).dropAt 0 rfl)⟩
              case neg =>
                have h := h.neg hc3585
                refine RL.re 70 rfl (congrArg Value.bool (decide_eq_false hc3585)) ?_
                refine RL.nn rfl rfl ?_
                refine RL.s (Vl.pickF rfl rfl) rfl ?_
                refine RL.s (Vl.assign rfl) rfl ?_
                refine RL.nil ?_
                refine RQ.then_n ?_
                refine RC.ret ?_
                have e := h.some
                subst e
                refine RQ.ret0 (vs := [.bool false]) Tryd.results4 ⟨rfl, trivial⟩ ?_
                exact ⟨rfl, ((((hS.dropAt 0 rfl).dropAt 0 rfl).dropAt 0 rfl).dropAt 0 rfl)⟩
            case neg =>
              have h := h.neg hc3563
              refine RC.re 56 rfl (congrArg Value.bool (decide_eq_false hc3563)) ?_
              refine RC.condF rfl ?_
              refine RC.seq ?_
              refine RC.region ?_
              refine RL.e (OW.build0 (E := E_api_Start) hS Tryd.underlying24 Tryd.zeroValue39 Tryd.sizeOf39) rfl rfl ?_
              rintro _ w ⟨b3590, rfl, hS⟩
              have hS : St B w (OSf E_api_Start 39 (.slice (some ⟨b3590, 0, none⟩) ([] : List api_Start).length 0) ([] : List api_Start) :: Cl b3334 [.slice A3022 a3021.Progs.length c3023, .slice A3025 a3021.Links.length c3026, .slice A3028 a3021.Starts.length c3029, .int .u64 a3021.Seed, .int .i64 a3021.End, .int .i64 a3021.Budget] 27 :: Cl b3324 [.slice A3022 a3021.Progs.length c3023, .slice A3025 a3021.Links.length c3026, .slice A3028 a3021.Starts.length c3029, .int .u64 a3021.Seed, .int .i64 a3021.End, .int .i64 a3021.Budget] 27 :: l) hf := hS
              refine RL.s (Vl.fieldAddr (a'' := ⟨b3324, 2, none⟩) Tryd.underlying27 rfl Tryd.sizeOf24 rfl rfl) rfl ?_
              refine RL.s (Vl.load Tryd.isAgg24 rfl (hS.cell 2 rfl rfl)) rfl ?_
              obtain ⟨hq3591, h⟩ := h.req
              refine RL.e (OW.appendV (E := E_api_Start) (xs := ([] : List api_Start)) (ys := a3021.Starts) 0 hS rfl Tryd.underlying24 Tryd.type39 rfl rfl rfl rfl (by decide) (by decide) rfl rfl (hr3030.2.world hS.sub) hq3591 rfl) rfl rfl ?_
              rintro v3595 w hS
              obtain ⟨A3592, c3593, rfl, _⟩ := hS.osShape 0 rfl
              have hS : St B w (OSf E_api_Start 39 (.slice A3592 (([] : List api_Start) ++ a3021.Starts).length c3593) (([] : List api_Start) ++ a3021.Starts) :: Cl b3334 [.slice A3022 a3021.Progs.length c3023, .slice A3025 a3021.Links.length c3026, .slice A3028 a3021.Starts.length c3029, .int .u64 a3021.Seed, .int .i64 a3021.End, .int .i64 a3021.Budget] 27 :: Cl b3324 [.slice A3022 a3021.Progs.length c3023, .slice A3025 a3021.Links.length c3026, .slice A3028 a3021.Starts.length c3029, .int .u64 a3021.Seed, .int .i64 a3021.End, .int .i64 a3021.Budget] 27 :: l) hf := hS
              refine RL.s (Vl.build (v := .agg #[.int .i64 (-1), .int .i64 0, .int .i64 0]) (parts := [(0, .const (.int .i64 (-1)))]) rfl (by kernel_rfl)) rfl ?_
              refine RL.e (OW.buildSlice (E := E_api_Start) (xs := [(⟨(-1), 0, 0⟩ : api_Start)]) (cs := [.int .i64 (-1), .int .i64 0, .int .i64 0]) hS Tryd.underlying24 Tryd.zeroValue39 Tryd.sizeOf39 (parts := [(0, .tmp 18)]) rfl rfl (by decide) (by decide) (by kernel_rfl) rfl) rfl rfl ?_
              rintro _ w ⟨b3597, rfl, hS⟩
              have hS : St B w (OSf E_api_Start 39 (.slice (some ⟨b3597, 0, none⟩) ([(⟨(-1), 0, 0⟩ : api_Start)]).length 1) ([(⟨(-1), 0, 0⟩ : api_Start)]) :: OSf E_api_Start 39 (.slice A3592 (([] : List api_Start) ++ a3021.Starts).length c3593) (([] : List api_Start) ++ a3021.Starts) :: Cl b3334 [.slice A3022 a3021.Progs.length c3023, .slice A3025 a3021.Links.length c3026, .slice A3028 a3021.Starts.length c3029, .int .u64 a3021.Seed, .int .i64 a3021.End, .int .i64 a3021.Budget] 27 :: Cl b3324 [.slice A3022 a3021.Progs.length c3023, .slice A3025 a3021.Links.length c3026, .slice A3028 a3021.Starts.length c3029, .int .u64 a3021.Seed, .int .i64 a3021.End, .int .i64 a3021.Budget] 27 :: l) hf := hS
              obtain ⟨hq3598, h⟩ := h.req
              refine RL.e (OW.append (E := E_api_Start) (xs := (([] : List api_Start) ++ a3021.Starts)) (ys := [(⟨(-1), 0, 0⟩ : api_Start)]) 1 hS rfl Tryd.underlying24 Tryd.type39 rfl rfl rfl rfl (by decide) rfl rfl rfl (hS.slW 0 rfl).2.2.flat (by simp only [maxLen, List.length_cons, List.length_nil] at *; omega) hq3598 rfl) rfl rfl ?_
              rintro v3602 w hS
              obtain ⟨A3599, c3600, rfl, _⟩ := hS.osShape 0 rfl
              have hS : St B w (OSf E_api_Start 39 (.slice A3599 ((([] : List api_Start) ++ a3021.Starts) ++ ([(⟨(-1), 0, 0⟩ : api_Start)])).length c3600) ((([] : List api_Start) ++ a3021.Starts) ++ ([(⟨(-1), 0, 0⟩ : api_Start)])) :: OSf E_api_Start 39 (.slice (some ⟨b3597, 0, none⟩) ([(⟨(-1), 0, 0⟩ : api_Start)]).length 1) ([(⟨(-1), 0, 0⟩ : api_Start)]) :: Cl b3334 [.slice A3022 a3021.Progs.length c3023, .slice A3025 a3021.Links.length c3026, .slice A3028 a3021.Starts.length c3029, .int .u64 a3021.Seed, .int .i64 a3021.End, .int .i64 a3021.Budget] 27 :: Cl b3324 [.slice A3022 a3021.Progs.length c3023, .slice A3025 a3021.Links.length c3026, .slice A3028 a3021.Starts.length c3029, .int .u64 a3021.Seed, .int .i64 a3021.End, .int .i64 a3021.Budget] 27 :: l) hf := hS
              refine RL.s (Vl.fieldAddr (a'' := ⟨b3334, 2, none⟩) Tryd.underlying27 rfl Tryd.sizeOf24 rfl rfl) rfl ?_
              refine RL.e0 (OW.store (cs := [.slice A3022 a3021.Progs.length c3023, .slice A3025 a3021.Links.length c3026, .slice A3028 a3021.Starts.length c3029, .int .u64 a3021.Seed, .int .i64 a3021.End, .int .i64 a3021.Budget]) (vs := [.slice A3599 ((([] : List api_Start) ++ a3021.Starts) ++ ([(⟨(-1), 0, 0⟩ : api_Start)])).length c3600]) (l' := OSf E_api_Start 39 (.slice A3599 ((([] : List api_Start) ++ a3021.Starts) ++ ([(⟨(-1), 0, 0⟩ : api_Start)])).length c3600) ((([] : List api_Start) ++ a3021.Starts) ++ ([(⟨(-1), 0, 0⟩ : api_Start)])) :: OSf E_api_Start 39 (.slice (some ⟨b3597, 0, none⟩) ([(⟨(-1), 0, 0⟩ : api_Start)]).length 1) ([(⟨(-1), 0, 0⟩ : api_Start)]) :: Cl b3334 [.slice A3022 a3021.Progs.length c3023, .slice A3025 a3021.Links.length c3026, .slice A3599 ((([] : List api_Start) ++ a3021.Starts) ++ ([(⟨(-1), 0, 0⟩ : api_Start)])).length c3600, .int .u64 a3021.Seed, .int .i64 a3021.End, .int .i64 a3021.Budget] 27 :: Cl b3324 [.slice A3022 a3021.Progs.length c3023, .slice A3025 a3021.Links.length c3026, .slice A3028 a3021.Starts.length c3029, .int .u64 a3021.Seed, .int .i64 a3021.End, .int .i64 a3021.Budget] 27 :: l) 2 hS rfl rfl rfl rfl Tryd.sizeOf24 rfl rfl rfl rfl) rfl ?_
              rintro _ w ⟨rfl, hS⟩
              have hS : St B w (OSf E_api_Start 39 (.slice A3599 ((([] : List api_Start) ++ a3021.Starts) ++ ([(⟨(-1), 0, 0⟩ : api_Start)])).length c3600) ((([] : List api_Start) ++ a3021.Starts) ++ ([(⟨(-1), 0, 0⟩ : api_Start)])) :: OSf E_api_Start 39 (.slice (some ⟨b3597, 0, none⟩) ([(⟨(-1), 0, 0⟩ : api_Start)]).length 1) ([(⟨(-1), 0, 0⟩ : api_Start)]) :: Cl b3334 [.slice A3022 a3021.Progs.length c3023, .slice A3025 a3021.Links.length c3026, .slice A3599 ((([] : List api_Start) ++ a3021.Starts) ++ ([(⟨(-1), 0, 0⟩ : api_Start)])).length c3600, .int .u64 a3021.Seed, .int .i64 a3021.End, .int .i64 a3021.Budget] 27 :: Cl b3324 [.slice A3022 a3021.Progs.length c3023, .slice A3025 a3021.Links.length c3026, .slice A3028 a3021.Starts.length c3029, .int .u64 a3021.Seed, .int .i64 a3021.End, .int .i64 a3021.Budget] 27 :: l) hf := hS
              refine RL.nil ?_
              refine RQ.then_n ?_
              refine RC.region ?_
              refine RL.s (Vl.assign rfl) rfl ?_
              refine RL.nil ?_
              refine RQ.inB_n ?_
              refine RQ.then_n ?_
              refine RC.seq ?_
              refine RC.region ?_
              refine RL.s (Vl.loadA (vs := [.slice A3022 a3021.Progs.length c3023, .slice A3025 a3021.Links.length c3026, .slice A3599 ((([] : List api_Start) ++ a3021.Starts) ++ ([(⟨(-1), 0, 0⟩ : api_Start)])).length c3600, .int .u64 a3021.Seed, .int .i64 a3021.End, .int .i64 a3021.Budget]) Tryd.isAgg27 Tryd.sizeOf27 rfl rfl (hS.cellsAt 2 rfl rfl)) rfl ?_
              obtain ⟨hf3606, hs3604, hS, hr3603, hb3605⟩ := St.lendSl hS
              obtain ⟨t3607, hg3608, h⟩ := h.bind
              refine RL.e (OW.callF (ls := [.tmp 66]) rfl Tryd.call9 (model_Check.ok (⟨a3021.Progs, a3021.Links, ((([] : List api_Start) ++ a3021.Starts) ++ ([(⟨(-1), 0, 0⟩ : api_Start)])), a3021.Seed, a3021.End, a3021.Budget⟩ : api_Model) A3022 c3023 A3025 c3026 A3599 c3600 (hr3024.mono hs3604) (hr3027.mono hs3604) hr3603 (hG0.mono hs3604) _ hg3608 hS)) rfl rfl ?_
              rintro _ w ⟨rfl, hS⟩
              have hS := hb3605 _ _ hS
              have hS : St B w (OSf E_api_Start 39 (.slice A3599 ((([] : List api_Start) ++ a3021.Starts) ++ ([(⟨(-1), 0, 0⟩ : api_Start)])).length c3600) ((([] : List api_Start) ++ a3021.Starts) ++ ([(⟨(-1), 0, 0⟩ : api_Start)])) :: OSf E_api_Start 39 (.slice (some ⟨b3597, 0, none⟩) ([(⟨(-1), 0, 0⟩ : api_Start)]).length 1) ([(⟨(-1), 0, 0⟩ : api_Start)]) :: Cl b3334 [.slice A3022 a3021.Progs.length c3023, .slice A3025 a3021.Links.length c3026, .slice A3599 ((([] : List api_Start) ++ a3021.Starts) ++ ([(⟨(-1), 0, 0⟩ : api_Start)])).length c3600, .int .u64 a3021.Seed, .int .i64 a3021.End, .int .i64 a3021.Budget] 27 :: Cl b3324 [.slice A3022 a3021.Progs.length c3023, .slice A3025 a3021.Links.length c3026, .slice A3028 a3021.Starts.length c3029, .int .u64 a3021.Seed, .int .i64 a3021.End, .int .i64 a3021.Budget] 27 :: l) hf := hS
              refine RL.s (Vl.move rfl) rfl ?_
              refine RL.s (Vl.int rfl rfl rfl) rfl ?_
              refine RL.s (Vl.move rfl) rfl ?_
              by_cases hc3609 : t3607 = 132
              case pos =>
                have h := h.pos hc3609
                refine RL.re 70 rfl (congrArg Value.bool (decide_eq_true hc3609)) ?_
                obtain ⟨t3610, hg3611, h⟩ := h.bind
                refine RL.e (OW.callF (ls := []) rfl Tryd.call11 (isochronlaw13vawake.ok hG0 _ hg3611 hS)) rfl rfl ?_
                rintro _ w ⟨rfl, hS⟩
                have hS : St B w (OSf E_api_Start 39 (.slice A3599 ((([] : List api_Start) ++ a3021.Starts) ++ ([(⟨(-1), 0, 0⟩ : api_Start)])).length c3600) ((([] : List api_Start) ++ a3021.Starts) ++ ([(⟨(-1), 0, 0⟩ : api_Start)])) :: OSf E_api_Start 39 (.slice (some ⟨b3597, 0, none⟩) ([(⟨(-1), 0, 0⟩ : api_Start)]).length 1) ([(⟨(-1), 0, 0⟩ : api_Start)]) :: Cl b3334 [.slice A3022 a3021.Progs.length c3023, .slice A3025 a3021.Links.length c3026, .slice A3599 ((([] : List api_Start) ++ a3021.Starts) ++ ([(⟨(-1), 0, 0⟩ : api_Start)])).length c3600, .int .u64 a3021.Seed, .int .i64 a3021.End, .int .i64 a3021.Budget] 27 :: Cl b3324 [.slice A3022 a3021.Progs.length c3023, .slice A3025 a3021.Links.length c3026, .slice A3028 a3021.Starts.length c3029, .int .u64 a3021.Seed, .int .i64 a3021.End, .int .i64 a3021.Budget] 27 :: l) hf := hS
                refine RL.s (Vl.pickT rfl rfl) rfl ?_
                refine RL.s (Vl.assign rfl) rfl ?_
                refine RL.nil ?_
                refine RQ.then_n ?_
                refine RC.ret ?_
                have e := h.some
                subst e
                refine RQ.ret0 (vs := [.bool t3610]) Tryd.results4 ⟨rfl, trivial⟩ ?_
                exact ⟨rfl, ((((hS.dropAt 0 rfl).dropAt 0 rfl).dropAt 0 rfl).dropAt 0 rfl)⟩
              case neg =>
                have h := h.neg hc3609
                refine RL.re 70 rfl (congrArg Value.bool (decide_eq_false hc3609)) ?_
                refine RL.nn rfl rfl ?_
                refine RL.s (Vl.pickF rfl rfl) rfl ?_
                refine RL.s (Vl.assign rfl) rfl ?_
                refine RL.nil ?_
                refine RQ.then_n ?_
                refine RC.ret ?_
                have e := h.some
                subst e
                refine RQ.ret0 (vs := [.bool false]) Tryd.results4 ⟨rfl, trivial⟩ ?_
                exact ⟨rfl, ((((hS.dropAt 0 rfl).dropAt 0 rfl).dropAt 0 rfl).dropAt 0 rfl)⟩
  case neg =>
    have h := h.neg hc3332
    refine RC.re 9 rfl (congrArg Value.bool (notdec_neg hc3332)) ?_
    refine RC.condT rfl ?_
    refine RC.seq ?_
    refine RC.region ?_
    obtain ⟨t3612, hg3613, h⟩ := h.bind
    refine RL.e (OW.callF (ls := []) rfl Tryd.call11 (isochronlaw13vawake.ok hG0 _ hg3613 hS)) rfl rfl ?_
    rintro _ w ⟨rfl, hS⟩
    have hS : St B w (Cl b3324 [.slice A3022 a3021.Progs.length c3023, .slice A3025 a3021.Links.length c3026, .slice A3028 a3021.Starts.length c3029, .int .u64 a3021.Seed, .int .i64 a3021.End, .int .i64 a3021.Budget] 27 :: l) hf := hS
    refine RL.s (Vl.assign rfl) rfl ?_
    refine RL.nil ?_
    refine RQ.then_n ?_
    refine RC.ret ?_
    refine RQ.ret ?_
    have e := h.some
    subst e
    refine RQ.ret0 (vs := [.bool t3612]) Tryd.results4 ⟨rfl, trivial⟩ ?_
    exact ⟨rfl, (hS.dropAt 0 rfl)⟩

/-! ### isochron/model.Starts: function 12 -/
noncomputable def model_Starts.l2b (a3626 : api_Model) : List api_Message × Int → Option ((List api_Message × Int) ⊕ (List api_Message))
  | (l3750, x3754) => (if x3754 < (a3626.Starts.length : Int) then (if 0 ≤ x3754 then (if (l3750.length + 1) * 56 ≤ 140737488355328 then some (.inl ((l3750 ++ ([(⟨(⟨(nth a3626.Starts x3754).Time, (-1), x3754⟩ : api_Key), (nth a3626.Starts x3754).To, (nth a3626.Starts x3754).Value, x3754, false⟩ : api_Message)])), IntKind.i64.wrap (x3754 + 1))) else none) else none) else some (.inr l3750))
noncomputable def model_Starts.l2 (a3626 : api_Model) (s : List api_Message × Int) : Option (List api_Message) := loopR (model_Starts.l2b a3626) s
noncomputable def model_Starts.f (a3626 : api_Model) : Option (List api_Message) := model_Starts.l2 a3626 ([], 0)
set_option maxRecDepth 100000 in
set_option maxHeartbeats 4000000 in
theorem model_Starts.ok {B : Base} {w : World} {l : List HProp} {hf : Hp} (a3626 : api_Model) (A3627 : Option Addr) (c3628 : Nat) (A3630 : Option Addr) (c3631 : Nat) (A3633 : Option Addr) (c3634 : Nat) (hr3629 : SlR (Rep.sl E_api_Instr.rep) hf A3627 c3628 a3626.Progs) (hr3632 : SlR E_api_Link.rep hf A3630 c3631 a3626.Links) (hr3635 : SlR E_api_Start.rep hf A3633 c3634 a3626.Starts) (r : List api_Message) (h : model_Starts.f a3626 = some r) (hS : St B w (l) hf) :
    Calls Tryd.prog 12 #[.agg #[.slice A3627 a3626.Progs.length c3628, .slice A3630 a3626.Links.length c3631, .slice A3633 a3626.Starts.length c3634, .int .u64 a3626.Seed, .int .i64 a3626.End, .int .i64 a3626.Budget]] w (Ret fun v w => ∃ (A_1 : Option Addr) (c_2 : Nat), v = .slice A_1 r.length c_2 ∧ St B w (OSf E_api_Message 46 (.slice A_1 r.length c_2) r :: l) hf) := by
  have h := Holds.of h
  refine enter (args := [.agg #[.slice A3627 a3626.Progs.length c3628, .slice A3630 a3626.Links.length c3631, .slice A3633 a3626.Starts.length c3634, .int .u64 a3626.Seed, .int .i64 a3626.End, .int .i64 a3626.Budget]]) Tryd.func12 rfl Tryd.ntmps12 (Nat.le_of_ble_eq_true rfl) ?_
  refine RC.seq ?_
  refine RC.region ?_
  refine RL.e (OW.box (cs := [.slice A3627 a3626.Progs.length c3628, .slice A3630 a3626.Links.length c3631, .slice A3633 a3626.Starts.length c3634, .int .u64 a3626.Seed, .int .i64 a3626.End, .int .i64 a3626.Budget]) hS rfl rfl) rfl rfl ?_
  rintro _ w ⟨b3722, rfl, hS⟩
  have hS : St B w (Cl b3722 [.slice A3627 a3626.Progs.length c3628, .slice A3630 a3626.Links.length c3631, .slice A3633 a3626.Starts.length c3634, .int .u64 a3626.Seed, .int .i64 a3626.End, .int .i64 a3626.Budget] 27 :: l) hf := hS
  refine RL.s (Vl.assign rfl) rfl ?_
  refine RL.nil ?_
  refine RQ.then_n ?_
  refine RC.seq ?_
  refine RC.region ?_
  refine RL.s (Vl.assign rfl) rfl ?_
  refine RL.nil ?_
  refine RQ.then_n ?_
  refine RC.seq ?_
  refine RC.seq ?_
  refine RC.region ?_
  refine RL.s (Vl.fieldAddr (a'' := ⟨b3722, 2, none⟩) Tryd.underlying27 rfl Tryd.sizeOf24 rfl rfl) rfl ?_
  refine RL.s (Vl.load Tryd.isAgg24 rfl (hS.cell 0 rfl rfl)) rfl ?_
  refine RL.s (Vl.lenSl Tryd.underlying24 rfl) rfl ?_
  refine RL.s (Vl.move rfl) rfl ?_
  refine RL.nil ?_
  refine RQ.then_n ?_
  refine RC.block ?_
  have hS := hS.nilSl E_api_Message 46
  refine fun a ha => RC.loop (N := 29) (body := (model_Starts.l2b a3626)) (φ := (· = r)) (fun (s : List api_Message × Int) a w => ∃ (l3750 : List api_Message) (x3754 : Int), s = (l3750, x3754) ∧ ∃ (A3751 : Option Addr) (c3752 : Nat), Has 29 [(3, .slice A3751 l3750.length c3752), (7, .slice A3633 a3626.Starts.length c3634), (8, .int .i64 (a3626.Starts.length : Int)), (9, .int .i64 x3754)] a ∧ St B w (OSf E_api_Message 46 (.slice A3751 l3750.length c3752) l3750 :: l) hf) ?_ (s0 := ([], 0)) h ⟨([]), 0, rfl, none, 0, ha.to ⟨rfl, rfl, rfl, rfl, trivial⟩, (hS.dropAt 1 rfl)⟩
  rintro G3782 _ a w ⟨l3750, x3754, rfl, A3751, c3752, ha, hS⟩ h
  revert a
  show RC _ _ _ _ _ _
  refine RC.seq ?_
  refine RC.region ?_
  refine RL.s (Vl.int rfl rfl rfl) rfl ?_
  refine RL.nil ?_
  refine RQ.then_n ?_
  refine RC.seq ?_
  by_cases hc3784 : x3754 < (a3626.Starts.length : Int)
  case pos =>
    have h := h.pos hc3784
    refine RC.re 10 rfl (congrArg Value.bool (decide_eq_true hc3784)) ?_
    refine RC.condT rfl ?_
    refine RC.skip ?_
    refine RQ.then_n ?_
    refine RC.seq ?_
    refine RC.block ?_
    refine RC.seq ?_
    refine RC.region ?_
    refine RL.s (Vl.move rfl) rfl ?_
    obtain ⟨hq3795, h⟩ := h.req
    refine RL.s (Vl.indexAddr Tryd.underlying24 Tryd.sizeOf39 rfl rfl ((hr3635.2.world hS.sub).adr hq3795 hc3784) hq3795 hc3784 rfl) rfl ?_
    refine RL.s (Vl.loadA Tryd.isAgg39 Tryd.sizeOf39 rfl rfl ((hr3635.2.world hS.sub).cells hq3795 hc3784)) rfl ?_
    refine RL.e (OW.alloc (cs := [.int .i64 0, .int .i64 0, .int .i64 0]) hS Tryd.zeroValue39 rfl) rfl rfl ?_
    rintro _ w ⟨b3797, rfl, hS⟩
    have hS : St B w (Cl b3797 [.int .i64 0, .int .i64 0, .int .i64 0] 39 :: OSf E_api_Message 46 (.slice A3751 l3750.length c3752) l3750 :: l) hf := hS
    refine RL.s (Vl.assign rfl) rfl ?_
    refine RL.e0 (OW.store (cs := [.int .i64 0, .int .i64 0, .int .i64 0]) (vs := [.int .i64 ((nth a3626.Starts x3754).To), .int .i64 ((nth a3626.Starts x3754).Time), .int .i64 ((nth a3626.Starts x3754).Value)]) (l' := Cl b3797 [.int .i64 ((nth a3626.Starts x3754).To), .int .i64 ((nth a3626.Starts x3754).Time), .int .i64 ((nth a3626.Starts x3754).Value)] 39 :: OSf E_api_Message 46 (.slice A3751 l3750.length c3752) l3750 :: l) 0 hS rfl rfl rfl rfl Tryd.sizeOf39 rfl rfl rfl rfl) rfl ?_
    rintro _ w ⟨rfl, hS⟩
    have hS : St B w (Cl b3797 [.int .i64 ((nth a3626.Starts x3754).To), .int .i64 ((nth a3626.Starts x3754).Time), .int .i64 ((nth a3626.Starts x3754).Value)] 39 :: OSf E_api_Message 46 (.slice A3751 l3750.length c3752) l3750 :: l) hf := hS
    refine RL.nil ?_
    refine RQ.then_n ?_
    refine RC.region ?_
    refine RL.s (Vl.move rfl) rfl ?_
    refine RL.s (Vl.fieldAddr (a'' := ⟨b3797, 1, none⟩) Tryd.underlying39 rfl Tryd.sizeOf2 rfl rfl) rfl ?_
    refine RL.s (Vl.load Tryd.isAgg2 rfl (hS.cell 0 rfl rfl)) rfl ?_
    refine RL.s (Vl.move rfl) rfl ?_
    refine RL.s (Vl.build (v := .agg #[.int .i64 ((nth a3626.Starts x3754).Time), .int .i64 (-1), .int .i64 x3754]) (parts := [(0, .tmp 16), (1, .const (.int .i64 (-1))), (2, .tmp 17)]) rfl (by kernel_rfl)) rfl ?_
    refine RL.s (Vl.fieldAddr (a'' := ⟨b3797, 0, none⟩) Tryd.underlying39 rfl Tryd.sizeOf3 rfl rfl) rfl ?_
    refine RL.s (Vl.load Tryd.isAgg3 rfl (hS.cell 0 rfl rfl)) rfl ?_
    refine RL.s (Vl.fieldAddr (a'' := ⟨b3797, 2, none⟩) Tryd.underlying39 rfl Tryd.sizeOf2 rfl rfl) rfl ?_
    refine RL.s (Vl.load Tryd.isAgg2 rfl (hS.cell 0 rfl rfl)) rfl ?_
    refine RL.s (Vl.move rfl) rfl ?_
    refine RL.s (Vl.build (v := .agg #[.int .i64 ((nth a3626.Starts x3754).Time), .int .i64 (-1), .int .i64 x3754, .int .i64 ((nth a3626.Starts x3754).To), .int .i64 ((nth a3626.Starts x3754).Value), .int .i64 x3754, .bool false]) (parts := [(0, .tmp 18), (1, .tmp 20), (2, .tmp 22), (3, .tmp 23)]) rfl (by kernel_rfl)) rfl ?_
    refine RL.e (OW.buildSlice (E := E_api_Message) (xs := [(⟨(⟨(nth a3626.Starts x3754).Time, (-1), x3754⟩ : api_Key), (nth a3626.Starts x3754).To, (nth a3626.Starts x3754).Value, x3754, false⟩ : api_Message)]) (cs := [.int .i64 ((nth a3626.Starts x3754).Time), .int .i64 (-1), .int .i64 x3754, .int .i64 ((nth a3626.Starts x3754).To), .int .i64 ((nth a3626.Starts x3754).Value), .int .i64 x3754, .bool false]) hS Tryd.underlying41 Tryd.zeroValue46 Tryd.sizeOf46 (parts := [(0, .tmp 24)]) rfl rfl (by decide) (by decide) (by kernel_rfl) rfl) rfl rfl ?_
    rintro _ w ⟨b3799, rfl, hS⟩
    have hS : St B w (OSf E_api_Message 46 (.slice (some ⟨b3799, 0, none⟩) ([(⟨(⟨(nth a3626.Starts x3754).Time, (-1), x3754⟩ : api_Key), (nth a3626.Starts x3754).To, (nth a3626.Starts x3754).Value, x3754, false⟩ : api_Message)]).length 1) ([(⟨(⟨(nth a3626.Starts x3754).Time, (-1), x3754⟩ : api_Key), (nth a3626.Starts x3754).To, (nth a3626.Starts x3754).Value, x3754, false⟩ : api_Message)]) :: Cl b3797 [.int .i64 ((nth a3626.Starts x3754).To), .int .i64 ((nth a3626.Starts x3754).Time), .int .i64 ((nth a3626.Starts x3754).Value)] 39 :: OSf E_api_Message 46 (.slice A3751 l3750.length c3752) l3750 :: l) hf := hS
    obtain ⟨hq3800, h⟩ := h.req
    refine RL.e (OW.append (E := E_api_Message) (xs := l3750) (ys := [(⟨(⟨(nth a3626.Starts x3754).Time, (-1), x3754⟩ : api_Key), (nth a3626.Starts x3754).To, (nth a3626.Starts x3754).Value, x3754, false⟩ : api_Message)]) 2 hS rfl Tryd.underlying41 Tryd.type46 rfl rfl rfl rfl (by decide) rfl rfl rfl (hS.slW 0 rfl).2.2.flat (by simp only [maxLen, List.length_cons, List.length_nil] at *; omega) hq3800 rfl) rfl rfl ?_
    rintro v3804 w hS
    obtain ⟨A3801, c3802, rfl, _⟩ := hS.osShape 0 rfl
    have hS : St B w (OSf E_api_Message 46 (.slice A3801 (l3750 ++ ([(⟨(⟨(nth a3626.Starts x3754).Time, (-1), x3754⟩ : api_Key), (nth a3626.Starts x3754).To, (nth a3626.Starts x3754).Value, x3754, false⟩ : api_Message)])).length c3802) (l3750 ++ ([(⟨(⟨(nth a3626.Starts x3754).Time, (-1), x3754⟩ : api_Key), (nth a3626.Starts x3754).To, (nth a3626.Starts x3754).Value, x3754, false⟩ : api_Message)])) :: OSf E_api_Message 46 (.slice (some ⟨b3799, 0, none⟩) ([(⟨(⟨(nth a3626.Starts x3754).Time, (-1), x3754⟩ : api_Key), (nth a3626.Starts x3754).To, (nth a3626.Starts x3754).Value, x3754, false⟩ : api_Message)]).length 1) ([(⟨(⟨(nth a3626.Starts x3754).Time, (-1), x3754⟩ : api_Key), (nth a3626.Starts x3754).To, (nth a3626.Starts x3754).Value, x3754, false⟩ : api_Message)]) :: Cl b3797 [.int .i64 ((nth a3626.Starts x3754).To), .int .i64 ((nth a3626.Starts x3754).Time), .int .i64 ((nth a3626.Starts x3754).Value)] 39 :: l) hf := hS
    refine RL.s (Vl.assign rfl) rfl ?_
    refine RL.nil ?_
    refine RQ.inB_n ?_
    refine RQ.then_n ?_
    refine RC.region ?_
    refine RL.s (Vl.int rfl rfl rfl) rfl ?_
    refine RL.s (Vl.move rfl) rfl ?_
    refine RL.nil ?_
    exact fun a ha => ⟨((l3750 ++ ([(⟨(⟨(nth a3626.Starts x3754).Time, (-1), x3754⟩ : api_Key), (nth a3626.Starts x3754).To, (nth a3626.Starts x3754).Value, x3754, false⟩ : api_Message)])), IntKind.i64.wrap (x3754 + 1)), ⟨(l3750 ++ ([(⟨(⟨(nth a3626.Starts x3754).Time, (-1), x3754⟩ : api_Key), (nth a3626.Starts x3754).To, (nth a3626.Starts x3754).Value, x3754, false⟩ : api_Message)])), (IntKind.i64.wrap (x3754 + 1)), rfl, A3801, c3802, ha.to ⟨rfl, rfl, rfl, rfl, trivial⟩, ((hS.dropAt 1 rfl).dropAt 1 rfl)⟩, h.some⟩
  case neg =>
    have h := h.neg hc3784
    refine RC.re 10 rfl (congrArg Value.bool (decide_eq_false hc3784)) ?_
    refine RC.condF rfl ?_
    refine RC.exit ?_
    refine RQ.exitT ?_
    have h := h.inrS
    refine RQ.exitT ?_
    refine RQ.inB_hit ?_
    refine RQ.then_n ?_
    refine RC.seq ?_
    refine RC.region ?_
    refine RL.s (Vl.move rfl) rfl ?_
    refine RL.s (Vl.assign rfl) rfl ?_
    refine RL.nil ?_
    refine RQ.then_n ?_
    refine RC.ret ?_
    have e := h.some
    subst e
    refine RQ.ret0 (vs := [.slice A3751 l3750.length c3752]) Tryd.results12 ⟨rfl, trivial⟩ ?_
    exact ⟨A3751, c3752, rfl, hS⟩

/-! ### isochron/isochronref13.Starts: function 13 -/
noncomputable def isochronref13vStarts.l2b (a3812 : api_Model) : List api_Message × Int → Option ((List api_Message × Int) ⊕ (List api_Message))
  | (l3936, x3940) => (if x3940 < (a3812.Starts.length : Int) then (if 0 ≤ x3940 then (if (l3936.length + 1) * 56 ≤ 140737488355328 then some (.inl ((l3936 ++ ([(⟨(⟨(nth a3812.Starts x3940).Time, (-1), x3940⟩ : api_Key), (nth a3812.Starts x3940).To, (nth a3812.Starts x3940).Value, x3940, false⟩ : api_Message)])), IntKind.i64.wrap (x3940 + 1))) else none) else none) else some (.inr l3936))
noncomputable def isochronref13vStarts.l2 (a3812 : api_Model) (s : List api_Message × Int) : Option (List api_Message) := loopR (isochronref13vStarts.l2b a3812) s
noncomputable def isochronref13vStarts.f (a3812 : api_Model) : Option (List api_Message) := isochronref13vStarts.l2 a3812 ([], 0)
set_option maxRecDepth 100000 in
set_option maxHeartbeats 4000000 in
theorem isochronref13vStarts.ok {B : Base} {w : World} {l : List HProp} {hf : Hp} (a3812 : api_Model) (A3813 : Option Addr) (c3814 : Nat) (A3816 : Option Addr) (c3817 : Nat) (A3819 : Option Addr) (c3820 : Nat) (hr3815 : SlR (Rep.sl E_api_Instr.rep) hf A3813 c3814 a3812.Progs) (hr3818 : SlR E_api_Link.rep hf A3816 c3817 a3812.Links) (hr3821 : SlR E_api_Start.rep hf A3819 c3820 a3812.Starts) (r : List api_Message) (h : isochronref13vStarts.f a3812 = some r) (hS : St B w (l) hf) :
    Calls Tryd.prog 13 #[.agg #[.slice A3813 a3812.Progs.length c3814, .slice A3816 a3812.Links.length c3817, .slice A3819 a3812.Starts.length c3820, .int .u64 a3812.Seed, .int .i64 a3812.End, .int .i64 a3812.Budget]] w (Ret fun v w => ∃ (A_1 : Option Addr) (c_2 : Nat), v = .slice A_1 r.length c_2 ∧ St B w (OSf E_api_Message 46 (.slice A_1 r.length c_2) r :: l) hf) := by
  have h := Holds.of h
  refine enter (args := [.agg #[.slice A3813 a3812.Progs.length c3814, .slice A3816 a3812.Links.length c3817, .slice A3819 a3812.Starts.length c3820, .int .u64 a3812.Seed, .int .i64 a3812.End, .int .i64 a3812.Budget]]) Tryd.func13 rfl Tryd.ntmps13 (Nat.le_of_ble_eq_true rfl) ?_
  refine RC.seq ?_
  refine RC.region ?_
  refine RL.e (OW.box (cs := [.slice A3813 a3812.Progs.length c3814, .slice A3816 a3812.Links.length c3817, .slice A3819 a3812.Starts.length c3820, .int .u64 a3812.Seed, .int .i64 a3812.End, .int .i64 a3812.Budget]) hS rfl rfl) rfl rfl ?_
  rintro _ w ⟨b3908, rfl, hS⟩
  have hS : St B w (Cl b3908 [.slice A3813 a3812.Progs.length c3814, .slice A3816 a3812.Links.length c3817, .slice A3819 a3812.Starts.length c3820, .int .u64 a3812.Seed, .int .i64 a3812.End, .int .i64 a3812.Budget] 27 :: l) hf := hS
  refine RL.s (Vl.assign rfl) rfl ?_
  refine RL.nil ?_
  refine RQ.then_n ?_
  refine RC.seq ?_
  refine RC.region ?_
  refine RL.s (Vl.assign rfl) rfl ?_
  refine RL.nil ?_
  refine RQ.then_n ?_
  refine RC.seq ?_
  refine RC.seq ?_
  refine RC.region ?_
  refine RL.s (Vl.assign rfl) rfl ?_
  refine RL.nil ?_
  refine RQ.then_n ?_
  refine RC.block ?_
  have hS := hS.nilSl E_api_Message 46
  refine fun a ha => RC.loop (N := 32) (body := (isochronref13vStarts.l2b a3812)) (φ := (· = r)) (fun (s : List api_Message × Int) a w => ∃ (l3936 : List api_Message) (x3940 : Int), s = (l3936, x3940) ∧ ∃ (A3937 : Option Addr) (c3938 : Nat), Has 32 [(1, .pointer (some ⟨b3908, 0, none⟩)), (3, .slice A3937 l3936.length c3938), (4, .int .i64 x3940)] a ∧ St B w (OSf E_api_Message 46 (.slice A3937 l3936.length c3938) l3936 :: Cl b3908 [.slice A3813 a3812.Progs.length c3814, .slice A3816 a3812.Links.length c3817, .slice A3819 a3812.Starts.length c3820, .int .u64 a3812.Seed, .int .i64 a3812.End, .int .i64 a3812.Budget] 27 :: l) hf) ?_ (s0 := ([], 0)) h ⟨([]), 0, rfl, none, 0, ha.to ⟨rfl, rfl, rfl, trivial⟩, hS⟩
  rintro G3968 _ a w ⟨l3936, x3940, rfl, A3937, c3938, ha, hS⟩ h
  revert a
  show RC _ _ _ _ _ _
  refine RC.seq ?_
  refine RC.seq ?_
  refine RC.region ?_
  refine RL.s (Vl.move rfl) rfl ?_
  refine RL.s (Vl.fieldAddr (a'' := ⟨b3908, 2, none⟩) Tryd.underlying27 rfl Tryd.sizeOf24 rfl rfl) rfl ?_
  refine RL.s (Vl.load Tryd.isAgg24 rfl (hS.cell 1 rfl rfl)) rfl ?_
  refine RL.s (Vl.lenSl Tryd.underlying24 rfl) rfl ?_
  refine RL.s (Vl.int rfl rfl rfl) rfl ?_
  refine RL.nil ?_
  refine RQ.then_n ?_
  by_cases hc3970 : x3940 < (a3812.Starts.length : Int)
  case pos =>
    have h := h.pos hc3970
    refine RC.re 10 rfl (congrArg Value.bool (decide_eq_true hc3970)) ?_
    refine RC.condT rfl ?_
    refine RC.skip ?_
    refine RQ.then_n ?_
    refine RC.seq ?_
    refine RC.block ?_
    refine RC.seq ?_
    refine RC.region ?_
    refine RL.s (Vl.fieldAddr (a'' := ⟨b3908, 2, none⟩) Tryd.underlying27 rfl Tryd.sizeOf24 rfl rfl) rfl ?_
    refine RL.s (Vl.load Tryd.isAgg24 rfl (hS.cell 1 rfl rfl)) rfl ?_
    refine RL.s (Vl.move rfl) rfl ?_
    obtain ⟨hq3981, h⟩ := h.req
    refine RL.s (Vl.indexAddr Tryd.underlying24 Tryd.sizeOf39 rfl rfl ((hr3821.2.world hS.sub).adr hq3981 hc3970) hq3981 hc3970 rfl) rfl ?_
    refine RL.s (Vl.loadA Tryd.isAgg39 Tryd.sizeOf39 rfl rfl ((hr3821.2.world hS.sub).cells hq3981 hc3970)) rfl ?_
    refine RL.e (OW.alloc (cs := [.int .i64 0, .int .i64 0, .int .i64 0]) hS Tryd.zeroValue39 rfl) rfl rfl ?_
    rintro _ w ⟨b3983, rfl, hS⟩
    have hS : St B w (Cl b3983 [.int .i64 0, .int .i64 0, .int .i64 0] 39 :: OSf E_api_Message 46 (.slice A3937 l3936.length c3938) l3936 :: Cl b3908 [.slice A3813 a3812.Progs.length c3814, .slice A3816 a3812.Links.length c3817, .slice A3819 a3812.Starts.length c3820, .int .u64 a3812.Seed, .int .i64 a3812.End, .int .i64 a3812.Budget] 27 :: l) hf := hS
    refine RL.e0 (OW.store (cs := [.int .i64 0, .int .i64 0, .int .i64 0]) (vs := [.int .i64 ((nth a3812.Starts x3940).To), .int .i64 ((nth a3812.Starts x3940).Time), .int .i64 ((nth a3812.Starts x3940).Value)]) (l' := Cl b3983 [.int .i64 ((nth a3812.Starts x3940).To), .int .i64 ((nth a3812.Starts x3940).Time), .int .i64 ((nth a3812.Starts x3940).Value)] 39 :: OSf E_api_Message 46 (.slice A3937 l3936.length c3938) l3936 :: Cl b3908 [.slice A3813 a3812.Progs.length c3814, .slice A3816 a3812.Links.length c3817, .slice A3819 a3812.Starts.length c3820, .int .u64 a3812.Seed, .int .i64 a3812.End, .int .i64 a3812.Budget] 27 :: l) 0 hS rfl rfl rfl rfl Tryd.sizeOf39 rfl rfl rfl rfl) rfl ?_
    rintro _ w ⟨rfl, hS⟩
    have hS : St B w (Cl b3983 [.int .i64 ((nth a3812.Starts x3940).To), .int .i64 ((nth a3812.Starts x3940).Time), .int .i64 ((nth a3812.Starts x3940).Value)] 39 :: OSf E_api_Message 46 (.slice A3937 l3936.length c3938) l3936 :: Cl b3908 [.slice A3813 a3812.Progs.length c3814, .slice A3816 a3812.Links.length c3817, .slice A3819 a3812.Starts.length c3820, .int .u64 a3812.Seed, .int .i64 a3812.End, .int .i64 a3812.Budget] 27 :: l) hf := hS
    refine RL.nil ?_
    refine RQ.then_n ?_
    refine RC.region ?_
    refine RL.s (Vl.move rfl) rfl ?_
    refine RL.s (Vl.fieldAddr (a'' := ⟨b3983, 1, none⟩) Tryd.underlying39 rfl Tryd.sizeOf2 rfl rfl) rfl ?_
    refine RL.s (Vl.load Tryd.isAgg2 rfl (hS.cell 0 rfl rfl)) rfl ?_
    refine RL.s (Vl.move rfl) rfl ?_
    refine RL.s (Vl.build (v := .agg #[.int .i64 ((nth a3812.Starts x3940).Time), .int .i64 (-1), .int .i64 x3940]) (parts := [(0, .tmp 20), (1, .const (.int .i64 (-1))), (2, .tmp 21)]) rfl (by kernel_rfl)) rfl ?_
    refine RL.s (Vl.fieldAddr (a'' := ⟨b3983, 0, none⟩) Tryd.underlying39 rfl Tryd.sizeOf3 rfl rfl) rfl ?_
    refine RL.s (Vl.load Tryd.isAgg3 rfl (hS.cell 0 rfl rfl)) rfl ?_
    refine RL.s (Vl.fieldAddr (a'' := ⟨b3983, 2, none⟩) Tryd.underlying39 rfl Tryd.sizeOf2 rfl rfl) rfl ?_
    refine RL.s (Vl.load Tryd.isAgg2 rfl (hS.cell 0 rfl rfl)) rfl ?_
    refine RL.s (Vl.move rfl) rfl ?_
    refine RL.s (Vl.build (v := .agg #[.int .i64 ((nth a3812.Starts x3940).Time), .int .i64 (-1), .int .i64 x3940, .int .i64 ((nth a3812.Starts x3940).To), .int .i64 ((nth a3812.Starts x3940).Value), .int .i64 x3940, .bool false]) (parts := [(0, .tmp 22), (1, .tmp 24), (2, .tmp 26), (3, .tmp 27)]) rfl (by kernel_rfl)) rfl ?_
    refine RL.e (OW.buildSlice (E := E_api_Message) (xs := [(⟨(⟨(nth a3812.Starts x3940).Time, (-1), x3940⟩ : api_Key), (nth a3812.Starts x3940).To, (nth a3812.Starts x3940).Value, x3940, false⟩ : api_Message)]) (cs := [.int .i64 ((nth a3812.Starts x3940).Time), .int .i64 (-1), .int .i64 x3940, .int .i64 ((nth a3812.Starts x3940).To), .int .i64 ((nth a3812.Starts x3940).Value), .int .i64 x3940, .bool false]) hS Tryd.underlying41 Tryd.zeroValue46 Tryd.sizeOf46 (parts := [(0, .tmp 28)]) rfl rfl (by decide) (by decide) (by kernel_rfl) rfl) rfl rfl ?_
    rintro _ w ⟨b3985, rfl, hS⟩
    have hS : St B w (OSf E_api_Message 46 (.slice (some ⟨b3985, 0, none⟩) ([(⟨(⟨(nth a3812.Starts x3940).Time, (-1), x3940⟩ : api_Key), (nth a3812.Starts x3940).To, (nth a3812.Starts x3940).Value, x3940, false⟩ : api_Message)]).length 1) ([(⟨(⟨(nth a3812.Starts x3940).Time, (-1), x3940⟩ : api_Key), (nth a3812.Starts x3940).To, (nth a3812.Starts x3940).Value, x3940, false⟩ : api_Message)]) :: Cl b3983 [.int .i64 ((nth a3812.Starts x3940).To), .int .i64 ((nth a3812.Starts x3940).Time), .int .i64 ((nth a3812.Starts x3940).Value)] 39 :: OSf E_api_Message 46 (.slice A3937 l3936.length c3938) l3936 :: Cl b3908 [.slice A3813 a3812.Progs.length c3814, .slice A3816 a3812.Links.length c3817, .slice A3819 a3812.Starts.length c3820, .int .u64 a3812.Seed, .int .i64 a3812.End, .int .i64 a3812.Budget] 27 :: l) hf := hS
    obtain ⟨hq3986, h⟩ := h.req
    refine RL.e (OW.append (E := E_api_Message) (xs := l3936) (ys := [(⟨(⟨(nth a3812.Starts x3940).Time, (-1), x3940⟩ : api_Key), (nth a3812.Starts x3940).To, (nth a3812.Starts x3940).Value, x3940, false⟩ : api_Message)]) 2 hS rfl Tryd.underlying41 Tryd.type46 rfl rfl rfl rfl (by decide) rfl rfl rfl (hS.slW 0 rfl).2.2.flat (by simp only [maxLen, List.length_cons, List.length_nil] at *; omega) hq3986 rfl) rfl rfl ?_
    rintro v3990 w hS
    obtain ⟨A3987, c3988, rfl, _⟩ := hS.osShape 0 rfl
    have hS : St B w (OSf E_api_Message 46 (.slice A3987 (l3936 ++ ([(⟨(⟨(nth a3812.Starts x3940).Time, (-1), x3940⟩ : api_Key), (nth a3812.Starts x3940).To, (nth a3812.Starts x3940).Value, x3940, false⟩ : api_Message)])).length c3988) (l3936 ++ ([(⟨(⟨(nth a3812.Starts x3940).Time, (-1), x3940⟩ : api_Key), (nth a3812.Starts x3940).To, (nth a3812.Starts x3940).Value, x3940, false⟩ : api_Message)])) :: OSf E_api_Message 46 (.slice (some ⟨b3985, 0, none⟩) ([(⟨(⟨(nth a3812.Starts x3940).Time, (-1), x3940⟩ : api_Key), (nth a3812.Starts x3940).To, (nth a3812.Starts x3940).Value, x3940, false⟩ : api_Message)]).length 1) ([(⟨(⟨(nth a3812.Starts x3940).Time, (-1), x3940⟩ : api_Key), (nth a3812.Starts x3940).To, (nth a3812.Starts x3940).Value, x3940, false⟩ : api_Message)]) :: Cl b3983 [.int .i64 ((nth a3812.Starts x3940).To), .int .i64 ((nth a3812.Starts x3940).Time), .int .i64 ((nth a3812.Starts x3940).Value)] 39 :: Cl b3908 [.slice A3813 a3812.Progs.length c3814, .slice A3816 a3812.Links.length c3817, .slice A3819 a3812.Starts.length c3820, .int .u64 a3812.Seed, .int .i64 a3812.End, .int .i64 a3812.Budget] 27 :: l) hf := hS
    refine RL.s (Vl.assign rfl) rfl ?_
    refine RL.nil ?_
    refine RQ.inB_n ?_
    refine RQ.then_n ?_
    refine RC.region ?_
    refine RL.s (Vl.move rfl) rfl ?_
    refine RL.s (Vl.int rfl rfl rfl) rfl ?_
    refine RL.s (Vl.assign rfl) rfl ?_
    refine RL.nil ?_
    exact fun a ha => ⟨((l3936 ++ ([(⟨(⟨(nth a3812.Starts x3940).Time, (-1), x3940⟩ : api_Key), (nth a3812.Starts x3940).To, (nth a3812.Starts x3940).Value, x3940, false⟩ : api_Message)])), IntKind.i64.wrap (x3940 + 1)), ⟨(l3936 ++ ([(⟨(⟨(nth a3812.Starts x3940).Time, (-1), x3940⟩ : api_Key), (nth a3812.Starts x3940).To, (nth a3812.Starts x3940).Value, x3940, false⟩ : api_Message)])), (IntKind.i64.wrap (x3940 + 1)), rfl, A3987, c3988, ha.to ⟨rfl, rfl, rfl, trivial⟩, ((hS.dropAt 1 rfl).dropAt 1 rfl)⟩, h.some⟩
  case neg =>
    have h := h.neg hc3970
    refine RC.re 10 rfl (congrArg Value.bool (decide_eq_false hc3970)) ?_
    refine RC.condF rfl ?_
    refine RC.exit ?_
    refine RQ.exitT ?_
    have h := h.inrS
    refine RQ.exitT ?_
    refine RQ.inB_hit ?_
    refine RQ.then_n ?_
    refine RC.seq ?_
    refine RC.region ?_
    refine RL.s (Vl.move rfl) rfl ?_
    refine RL.s (Vl.assign rfl) rfl ?_
    refine RL.nil ?_
    refine RQ.then_n ?_
    refine RC.ret ?_
    have e := h.some
    subst e
    refine RQ.ret0 (vs := [.slice A3937 l3936.length c3938]) Tryd.results13 ⟨rfl, trivial⟩ ?_
    exact ⟨A3937, c3938, rfl, (hS.dropAt 1 rfl)⟩

end Go.Proofs.Gx
