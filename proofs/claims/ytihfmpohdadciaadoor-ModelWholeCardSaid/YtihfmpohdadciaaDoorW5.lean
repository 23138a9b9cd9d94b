/-
  The walks of functions, each with what it computes: printed by wip/gx.py.
-/
import Derived.Test.YtihfmpohdadciaaDoorW0
import Derived.Test.YtihfmpohdadciaaDoorW1
import Derived.Test.YtihfmpohdadciaaDoorW2
import Derived.Test.YtihfmpohdadciaaDoorW3
import Derived.Test.YtihfmpohdadciaaDoorW4
set_option linter.unusedVariables false
namespace Go.Proofs.Gx
open Go.Sl
/-! ### isochron/isochronlaw13.ModelWorlds: function 7 -/
noncomputable def isochronlaw13vModelWorlds.l8b (y7142 : List api_Link) (y7157 : List api_Link) : Int → Option ((Int) ⊕ (Bool))
  | (x7263) => (if x7263 < (y7142.length : Int) then (if 0 ≤ x7263 then (if x7263 < (y7157.length : Int) then (if (⟨(nth y7142 x7263).From, (nth y7142 x7263).To, (nth y7142 x7263).Look, ((nth y7142 x7263).Loose)⟩ : api_Link) = (⟨(nth y7157 x7263).From, (nth y7157 x7263).To, (nth y7157 x7263).Look, ((nth y7157 x7263).Loose)⟩ : api_Link) then some (.inl (IntKind.i64.wrap (x7263 + 1))) else some (.inr false)) else none) else none) else (Option.map Sum.inr ((isochronlaw13vawake.f).bind fun t7282 => some t7282)))
noncomputable def isochronlaw13vModelWorlds.l8 (y7142 : List api_Link) (y7157 : List api_Link) (s : Int) : Option (Bool) := loopR (isochronlaw13vModelWorlds.l8b y7142 y7157) s
noncomputable def isochronlaw13vModelWorlds.l6b (y7140 : List api_Instr) (y7142 : List api_Link) (y7155 : List api_Instr) (y7157 : List api_Link) : Int → Option ((Int) ⊕ (Bool))
  | (x7211) => (if x7211 < (y7140.length : Int) then (if 0 ≤ x7211 then (if x7211 < (y7155.length : Int) then (if nth y7140 x7211 = nth y7155 x7211 then some (.inl (IntKind.i64.wrap (x7211 + 1))) else some (.inr false)) else none) else none) else (Option.map Sum.inr (isochronlaw13vModelWorlds.l8 y7142 y7157 (0))))
noncomputable def isochronlaw13vModelWorlds.l6 (y7140 : List api_Instr) (y7142 : List api_Link) (y7155 : List api_Instr) (y7157 : List api_Link) (s : Int) : Option (Bool) := loopR (isochronlaw13vModelWorlds.l6b y7140 y7142 y7155 y7157) s
noncomputable def isochronlaw13vModelWorlds.f (a5611 : api_Model) (a5621 : Int) : Option (Bool) := ((model_World.f a5611 a5621).bind fun (y7140, y7141, y7142, y7143, y7144) => ((isochronref13vWorld.f a5611 a5621).bind fun (y7155, y7156, y7157, y7158, y7159) => (if y7144 = y7159 then (if y7141 = y7156 then (if y7143 = y7158 then (if (y7140.length : Int) = (y7155.length : Int) then (if (y7142.length : Int) = (y7157.length : Int) then isochronlaw13vModelWorlds.l6 y7140 y7142 y7155 y7157 (0) else some false) else some false) else some false) else some false) else some false)))
set_option maxRecDepth 100000 in
set_option maxHeartbeats 4000000 in
theorem isochronlaw13vModelWorlds.ok {B : Base} {w : World} {l : List HProp} {hf : Hp} (a5611 : api_Model) (a5621 : Int) (A5612 : Option Addr) (c5613 : Nat) (A5615 : Option Addr) (c5616 : Nat) (A5618 : Option Addr) (c5619 : Nat) (hr5614 : SlR (Rep.sl E_api_Instr.rep) hf A5612 c5613 a5611.Progs) (hr5617 : SlR E_api_Link.rep hf A5615 c5616 a5611.Links) (hr5620 : SlR E_api_Start.rep hf A5618 c5619 a5611.Starts) (hG0 : GlobAt hf 0 (.iface 96 (.agg #[.pointer (some ⟨1, 66, none⟩)]))) (r : Bool) (h : isochronlaw13vModelWorlds.f a5611 a5621 = some r) (hS : St B w (l) hf) :
    Calls Tryd.prog 7 #[.agg #[.slice A5612 a5611.Progs.length c5613, .slice A5615 a5611.Links.length c5616, .slice A5618 a5611.Starts.length c5619, .int .u64 a5611.Seed, .int .i64 a5611.End, .int .i64 a5611.Budget], .int .i64 a5621] w (Ret fun v w => v = .bool r ∧ St B w (l) hf) := by
  have h := Holds.of h
  refine enter (args := [.agg #[.slice A5612 a5611.Progs.length c5613, .slice A5615 a5611.Links.length c5616, .slice A5618 a5611.Starts.length c5619, .int .u64 a5611.Seed, .int .i64 a5611.End, .int .i64 a5611.Budget], .int .i64 a5621]) Tryd.func7 rfl Tryd.ntmps7 (Nat.le_of_ble_eq_true rfl) ?_
  refine RC.seq ?_
  refine RC.region ?_
  refine RL.e (OW.box (cs := [.slice A5612 a5611.Progs.length c5613, .slice A5615 a5611.Links.length c5616, .slice A5618 a5611.Starts.length c5619, .int .u64 a5611.Seed, .int .i64 a5611.End, .int .i64 a5611.Budget]) hS rfl rfl) rfl rfl ?_
  rintro _ w ⟨b7137, rfl, hS⟩
  have hS : St B w (Cl b7137 [.slice A5612 a5611.Progs.length c5613, .slice A5615 a5611.Links.length c5616, .slice A5618 a5611.Starts.length c5619, .int .u64 a5611.Seed, .int .i64 a5611.End, .int .i64 a5611.Budget] 27 :: l) hf := hS
  refine RL.s (Vl.assign rfl) rfl ?_
  refine RL.nil ?_
  refine RQ.then_n ?_
  refine RC.seq ?_
  refine RC.region ?_
  refine RL.s (Vl.loadA (vs := [.slice A5612 a5611.Progs.length c5613, .slice A5615 a5611.Links.length c5616, .slice A5618 a5611.Starts.length c5619, .int .u64 a5611.Seed, .int .i64 a5611.End, .int .i64 a5611.Budget]) Tryd.isAgg27 Tryd.sizeOf27 rfl rfl (hS.cellsAt 0 rfl rfl)) rfl ?_
  refine RL.s (Vl.move rfl) rfl ?_
  obtain ⟨t7138, hg7139, h⟩ := h.bind
  obtain ⟨y7140, y7141, y7142, y7143, y7144⟩ := t7138
  refine RL.e (OW.callF (ls := [.tmp 12, .tmp 13]) rfl Tryd.call16 (model_World.ok a5611 a5621 A5612 c5613 A5615 c5616 A5618 c5619 hr5614 hr5617 hr5620 hG0 _ hg7139 hS)) rfl rfl ?_
  rintro _ w ⟨A7145, c7146, A7148, c7149, rfl, hS⟩
  have hS : St B w (OSf E_api_Instr 34 (.slice A7145 y7140.length c7146) y7140 :: OSf E_api_Link 37 (.slice A7148 y7142.length c7149) y7142 :: Cl b7137 [.slice A5612 a5611.Progs.length c5613, .slice A5615 a5611.Links.length c5616, .slice A5618 a5611.Starts.length c5619, .int .u64 a5611.Seed, .int .i64 a5611.End, .int .i64 a5611.Budget] 27 :: l) hf := hS
  refine RL.s (Vl.move rfl) rfl ?_
  refine RL.s (Vl.extract rfl rfl) rfl ?_
  refine RL.s (Vl.extract rfl rfl) rfl ?_
  refine RL.e (OW.alloc (cs := [.slice none 0 0, .int .i64 0, .slice none 0 0, .int .u64 0]) hS Tryd.zeroValue51 rfl) rfl rfl ?_
  rintro _ w ⟨b7152, rfl, hS⟩
  have hS : St B w (Cl b7152 [.slice none 0 0, .int .i64 0, .slice none 0 0, .int .u64 0] 51 :: OSf E_api_Instr 34 (.slice A7145 y7140.length c7146) y7140 :: OSf E_api_Link 37 (.slice A7148 y7142.length c7149) y7142 :: Cl b7137 [.slice A5612 a5611.Progs.length c5613, .slice A5615 a5611.Links.length c5616, .slice A5618 a5611.Starts.length c5619, .int .u64 a5611.Seed, .int .i64 a5611.End, .int .i64 a5611.Budget] 27 :: l) hf := hS
  refine RL.e0 (OW.store (cs := [.slice none 0 0, .int .i64 0, .slice none 0 0, .int .u64 0]) (vs := [.slice A7145 y7140.length c7146, .int .i64 y7141, .slice A7148 y7142.length c7149, .int .u64 y7143]) (l' := Cl b7152 [.slice A7145 y7140.length c7146, .int .i64 y7141, .slice A7148 y7142.length c7149, .int .u64 y7143] 51 :: OSf E_api_Instr 34 (.slice A7145 y7140.length c7146) y7140 :: OSf E_api_Link 37 (.slice A7148 y7142.length c7149) y7142 :: Cl b7137 [.slice A5612 a5611.Progs.length c5613, .slice A5615 a5611.Links.length c5616, .slice A5618 a5611.Starts.length c5619, .int .u64 a5611.Seed, .int .i64 a5611.End, .int .i64 a5611.Budget] 27 :: l) 0 hS rfl rfl rfl rfl Tryd.sizeOf51 rfl rfl rfl rfl) rfl ?_
  rintro _ w ⟨rfl, hS⟩
  have hS : St B w (Cl b7152 [.slice A7145 y7140.length c7146, .int .i64 y7141, .slice A7148 y7142.length c7149, .int .u64 y7143] 51 :: OSf E_api_Instr 34 (.slice A7145 y7140.length c7146) y7140 :: OSf E_api_Link 37 (.slice A7148 y7142.length c7149) y7142 :: Cl b7137 [.slice A5612 a5611.Progs.length c5613, .slice A5615 a5611.Links.length c5616, .slice A5618 a5611.Starts.length c5619, .int .u64 a5611.Seed, .int .i64 a5611.End, .int .i64 a5611.Budget] 27 :: l) hf := hS
  refine RL.s (Vl.assign rfl) rfl ?_
  refine RL.nil ?_
  refine RQ.then_n ?_
  refine RC.seq ?_
  refine RC.region ?_
  refine RL.s (Vl.loadA (vs := [.slice A5612 a5611.Progs.length c5613, .slice A5615 a5611.Links.length c5616, .slice A5618 a5611.Starts.length c5619, .int .u64 a5611.Seed, .int .i64 a5611.End, .int .i64 a5611.Budget]) Tryd.isAgg27 Tryd.sizeOf27 rfl rfl (hS.cellsAt 3 rfl rfl)) rfl ?_
  refine RL.s (Vl.move rfl) rfl ?_
  obtain ⟨t7153, hg7154, h⟩ := h.bind
  obtain ⟨y7155, y7156, y7157, y7158, y7159⟩ := t7153
  refine RL.e (OW.callF (ls := [.tmp 18, .tmp 19]) rfl Tryd.call17 (isochronref13vWorld.ok a5611 a5621 A5612 c5613 A5615 c5616 A5618 c5619 hr5614 hr5617 hr5620 _ hg7154 hS)) rfl rfl ?_
  rintro _ w ⟨A7160, c7161, A7163, c7164, rfl, hS, hr7162⟩
  have hS : St B w (OSf E_api_Link 37 (.slice A7163 y7157.length c7164) y7157 :: Cl b7152 [.slice A7145 y7140.length c7146, .int .i64 y7141, .slice A7148 y7142.length c7149, .int .u64 y7143] 51 :: OSf E_api_Instr 34 (.slice A7145 y7140.length c7146) y7140 :: OSf E_api_Link 37 (.slice A7148 y7142.length c7149) y7142 :: Cl b7137 [.slice A5612 a5611.Progs.length c5613, .slice A5615 a5611.Links.length c5616, .slice A5618 a5611.Starts.length c5619, .int .u64 a5611.Seed, .int .i64 a5611.End, .int .i64 a5611.Budget] 27 :: l) hf := hS
  refine RL.s (Vl.move rfl) rfl ?_
  refine RL.s (Vl.extract rfl rfl) rfl ?_
  refine RL.s (Vl.extract rfl rfl) rfl ?_
  refine RL.e (OW.alloc (cs := [.slice none 0 0, .int .i64 0, .slice none 0 0, .int .u64 0]) hS Tryd.zeroValue51 rfl) rfl rfl ?_
  rintro _ w ⟨b7167, rfl, hS⟩
  have hS : St B w (Cl b7167 [.slice none 0 0, .int .i64 0, .slice none 0 0, .int .u64 0] 51 :: OSf E_api_Link 37 (.slice A7163 y7157.length c7164) y7157 :: Cl b7152 [.slice A7145 y7140.length c7146, .int .i64 y7141, .slice A7148 y7142.length c7149, .int .u64 y7143] 51 :: OSf E_api_Instr 34 (.slice A7145 y7140.length c7146) y7140 :: OSf E_api_Link 37 (.slice A7148 y7142.length c7149) y7142 :: Cl b7137 [.slice A5612 a5611.Progs.length c5613, .slice A5615 a5611.Links.length c5616, .slice A5618 a5611.Starts.length c5619, .int .u64 a5611.Seed, .int .i64 a5611.End, .int .i64 a5611.Budget] 27 :: l) hf := hS
  refine RL.e0 (OW.store (cs := [.slice none 0 0, .int .i64 0, .slice none 0 0, .int .u64 0]) (vs := [.slice A7160 y7155.length c7161, .int .i64 y7156, .slice A7163 y7157.length c7164, .int .u64 y7158]) (l' := Cl b7167 [.slice A7160 y7155.length c7161, .int .i64 y7156, .slice A7163 y7157.length c7164, .int .u64 y7158] 51 :: OSf E_api_Link 37 (.slice A7163 y7157.length c7164) y7157 :: Cl b7152 [.slice A7145 y7140.length c7146, .int .i64 y7141, .slice A7148 y7142.length c7149, .int .u64 y7143] 51 :: OSf E_api_Instr 34 (.slice A7145 y7140.length c7146) y7140 :: OSf E_api_Link 37 (.slice A7148 y7142.length c7149) y7142 :: Cl b7137 [.slice A5612 a5611.Progs.length c5613, .slice A5615 a5611.Links.length c5616, .slice A5618 a5611.Starts.length c5619, .int .u64 a5611.Seed, .int .i64 a5611.End, .int .i64 a5611.Budget] 27 :: l) 0 hS rfl rfl rfl rfl Tryd.sizeOf51 rfl rfl rfl rfl) rfl ?_
  rintro _ w ⟨rfl, hS⟩
  have hS : St B w (Cl b7167 [.slice A7160 y7155.length c7161, .int .i64 y7156, .slice A7163 y7157.length c7164, .int .u64 y7158] 51 :: OSf E_api_Link 37 (.slice A7163 y7157.length c7164) y7157 :: Cl b7152 [.slice A7145 y7140.length c7146, .int .i64 y7141, .slice A7148 y7142.length c7149, .int .u64 y7143] 51 :: OSf E_api_Instr 34 (.slice A7145 y7140.length c7146) y7140 :: OSf E_api_Link 37 (.slice A7148 y7142.length c7149) y7142 :: Cl b7137 [.slice A5612 a5611.Progs.length c5613, .slice A5615 a5611.Links.length c5616, .slice A5618 a5611.Starts.length c5619, .int .u64 a5611.Seed, .int .i64 a5611.End, .int .i64 a5611.Budget] 27 :: l) hf := hS
  refine RL.s (Vl.assign rfl) rfl ?_
  refine RL.nil ?_
  refine RQ.then_n ?_
  refine RC.seq ?_
  refine RC.seq ?_
  refine RC.region ?_
  refine RL.s (Vl.move rfl) rfl ?_
  refine RL.s (Vl.move rfl) rfl ?_
  refine RL.s (Vl.int rfl rfl rfl) rfl ?_
  refine RL.s (Vl.move rfl) rfl ?_
  by_cases hc7173 : y7144 = y7159
  case pos =>
    have h := h.pos hc7173
    refine RL.re 26 rfl (congrArg Value.bool (notdec_pos hc7173)) ?_
    refine RL.sg (Vl.fieldAddr (a'' := ⟨b7152, 1, none⟩) Tryd.underlying51 rfl Tryd.sizeOf3 rfl rfl) rfl rfl ?_
    refine RL.sg (Vl.load Tryd.isAgg3 rfl (hS.cell 2 rfl rfl)) rfl rfl ?_
    refine RL.sg (Vl.fieldAddr (a'' := ⟨b7167, 1, none⟩) Tryd.underlying51 rfl Tryd.sizeOf3 rfl rfl) rfl rfl ?_
    refine RL.sg (Vl.load Tryd.isAgg3 rfl (hS.cell 0 rfl rfl)) rfl rfl ?_
    refine RL.sg (Vl.int rfl rfl rfl) rfl rfl ?_
    refine RL.s (Vl.pickF rfl rfl) rfl ?_
    refine RL.s (Vl.move rfl) rfl ?_
    by_cases hc7174 : y7141 = y7156
    case pos =>
      have h := h.pos hc7174
      refine RL.re 33 rfl (congrArg Value.bool (notdec_pos hc7174)) ?_
      refine RL.sg (Vl.fieldAddr (a'' := ⟨b7152, 3, none⟩) Tryd.underlying51 rfl Tryd.sizeOf25 rfl rfl) rfl rfl ?_
      refine RL.sg (Vl.load Tryd.isAgg25 rfl (hS.cell 2 rfl rfl)) rfl rfl ?_
      refine RL.sg (Vl.fieldAddr (a'' := ⟨b7167, 3, none⟩) Tryd.underlying51 rfl Tryd.sizeOf25 rfl rfl) rfl rfl ?_
      refine RL.sg (Vl.load Tryd.isAgg25 rfl (hS.cell 0 rfl rfl)) rfl rfl ?_
      refine RL.sg (Vl.int rfl rfl rfl) rfl rfl ?_
      refine RL.s (Vl.pickF rfl rfl) rfl ?_
      refine RL.s (Vl.move rfl) rfl ?_
      by_cases hc7175 : y7143 = y7158
      case pos =>
        have h := h.pos hc7175
        refine RL.re 40 rfl (congrArg Value.bool (notdec_pos hc7175)) ?_
        refine RL.sg (Vl.fieldAddr (a'' := ⟨b7152, 0, none⟩) Tryd.underlying51 rfl Tryd.sizeOf35 rfl rfl) rfl rfl ?_
        refine RL.sg (Vl.load Tryd.isAgg35 rfl (hS.cell 2 rfl rfl)) rfl rfl ?_
        refine RL.sg (Vl.lenSl Tryd.underlying35 rfl) rfl rfl ?_
        refine RL.sg (Vl.fieldAddr (a'' := ⟨b7167, 0, none⟩) Tryd.underlying51 rfl Tryd.sizeOf35 rfl rfl) rfl rfl ?_
        refine RL.sg (Vl.load Tryd.isAgg35 rfl (hS.cell 0 rfl rfl)) rfl rfl ?_
        refine RL.sg (Vl.lenSl Tryd.underlying35 rfl) rfl rfl ?_
        refine RL.sg (Vl.int rfl rfl rfl) rfl rfl ?_
        refine RL.s (Vl.pickF rfl rfl) rfl ?_
        refine RL.s (Vl.move rfl) rfl ?_
        by_cases hc7176 : (y7140.length : Int) = (y7155.length : Int)
        case pos =>
          have h := h.pos hc7176
          refine RL.re 49 rfl (congrArg Value.bool (notdec_pos hc7176)) ?_
          refine RL.sg (Vl.fieldAddr (a'' := ⟨b7152, 2, none⟩) Tryd.underlying51 rfl Tryd.sizeOf23 rfl rfl) rfl rfl ?_
          refine RL.sg (Vl.load Tryd.isAgg23 rfl (hS.cell 2 rfl rfl)) rfl rfl ?_
          refine RL.sg (Vl.lenSl Tryd.underlying23 rfl) rfl rfl ?_
          refine RL.sg (Vl.fieldAddr (a'' := ⟨b7167, 2, none⟩) Tryd.underlying51 rfl Tryd.sizeOf23 rfl rfl) rfl rfl ?_
          refine RL.sg (Vl.load Tryd.isAgg23 rfl (hS.cell 0 rfl rfl)) rfl rfl ?_
          refine RL.sg (Vl.lenSl Tryd.underlying23 rfl) rfl rfl ?_
          refine RL.sg (Vl.int rfl rfl rfl) rfl rfl ?_
          refine RL.s (Vl.pickF rfl rfl) rfl ?_
          refine RL.nil ?_
          refine RQ.then_n ?_
          by_cases hc7177 : (y7142.length : Int) = (y7157.length : Int)
          case pos =>
            have h := h.pos hc7177
            refine RC.re 57 rfl (congrArg Value.bool (notdec_pos hc7177)) ?_
            refine RC.condF rfl ?_
            refine RC.skip ?_
            refine RQ.then_n ?_
            refine RC.seq ?_
            refine RC.seq ?_
            refine RC.region ?_
            refine RL.s (Vl.assign rfl) rfl ?_
            refine RL.nil ?_
            refine RQ.then_n ?_
            refine RC.block ?_
            refine fun a ha => RC.loop (N := 95) (body := (isochronlaw13vModelWorlds.l6b y7140 y7142 y7155 y7157)) (φ := (· = r)) (fun (s : Int) a w => ∃ (x7211 : Int), s = (x7211) ∧ Has 95 [(5, .pointer (some ⟨b7152, 0, none⟩)), (7, .pointer (some ⟨b7167, 0, none⟩)), (9, .int .i64 x7211)] a ∧ St B w (OSf E_api_Instr 34 (.slice A7145 y7140.length c7146) y7140 :: OSf E_api_Link 37 (.slice A7148 y7142.length c7149) y7142 :: OSf E_api_Link 37 (.slice A7163 y7157.length c7164) y7157 :: Cl b7167 [.slice A7160 y7155.length c7161, .int .i64 y7156, .slice A7163 y7157.length c7164, .int .u64 y7158] 51 :: Cl b7152 [.slice A7145 y7140.length c7146, .int .i64 y7141, .slice A7148 y7142.length c7149, .int .u64 y7143] 51 :: l) hf) ?_ (s0 := (0)) h ⟨0, rfl, ha.to ⟨rfl, rfl, rfl, trivial⟩, ((((((hS.dropAt 5 rfl).pull 2 rfl rfl).pull 1 rfl rfl).pull 2 rfl rfl).pull 4 rfl rfl).pull 4 rfl rfl)⟩
            rintro G7221 x7211 a w ⟨_, rfl, ha, hS⟩ h
            revert a
            show RC _ _ _ _ _ _
            refine RC.seq ?_
            refine RC.seq ?_
            refine RC.region ?_
            refine RL.s (Vl.move rfl) rfl ?_
            refine RL.s (Vl.fieldAddr (a'' := ⟨b7152, 0, none⟩) Tryd.underlying51 rfl Tryd.sizeOf35 rfl rfl) rfl ?_
            refine RL.s (Vl.load Tryd.isAgg35 rfl (hS.cell 4 rfl rfl)) rfl ?_
            refine RL.s (Vl.lenSl Tryd.underlying35 rfl) rfl ?_
            refine RL.s (Vl.int rfl rfl rfl) rfl ?_
            refine RL.nil ?_
            refine RQ.then_n ?_
            by_cases hc7223 : x7211 < (y7140.length : Int)
            case pos =>
              have h := h.pos hc7223
              refine RC.re 62 rfl (congrArg Value.bool (decide_eq_true hc7223)) ?_
              refine RC.condT rfl ?_
              refine RC.skip ?_
              refine RQ.then_n ?_
              refine RC.seq ?_
              refine RC.block ?_
              refine RC.seq ?_
              refine RC.plan (.cons 0 true (.cons 1 true (.cons 2 true (.cons 3 true (.cons 4 true (.cons 5 true (.cons 6 true (.cons 7 false (.cons 8 false (.cons 9 false (.cons 10 false .nil))))))))))) [] (fun w => St B w (OSf E_api_Instr 34 (.slice A7145 y7140.length c7146) y7140 :: OSf E_api_Link 37 (.slice A7148 y7142.length c7149) y7142 :: OSf E_api_Link 37 (.slice A7163 y7157.length c7164) y7157 :: Cl b7167 [.slice A7160 y7155.length c7161, .int .i64 y7156, .slice A7163 y7157.length c7164, .int .u64 y7158] 51 :: Cl b7152 [.slice A7145 y7140.length c7146, .int .i64 y7141, .slice A7148 y7142.length c7149, .int .u64 y7143] 51 :: l) hf) follows rfl (by kernel_rfl) (NoTmp.then (NoTmp.block (NoTmp.then (NoTmp.then (NoTmp.block (NoTmp.then NoTmp.body)))))) ?_
              have hS := hS.same (w' := { w with drawn := w.drawn + 1 }) rfl rfl
              revert hS
              generalize { w with drawn := w.drawn + 1 } = w
              intro hS
              refine RP.s 0 rfl rfl hS (fun w hS => Vl.fieldAddr (a'' := ⟨b7152, 0, none⟩) Tryd.underlying51 rfl Tryd.sizeOf35 rfl rfl) rfl ?_
              refine RP.s 1 rfl rfl hS (fun w hS => Vl.load Tryd.isAgg35 rfl (hS.cell 4 rfl rfl)) rfl ?_
              refine RP.s 2 rfl rfl hS (fun w hS => Vl.move rfl) rfl ?_
              obtain ⟨hq7227, h⟩ := h.req
              refine RP.s 3 rfl rfl hS (fun w hS => Vl.indexAddr Tryd.underlying35 Tryd.sizeOf34 rfl rfl ((hS.slW 0 rfl).2.2.adr hq7227 hc7223) hq7227 hc7223 rfl) rfl ?_
              refine RP.s 4 rfl rfl hS (fun w hS => Vl.loadA Tryd.isAgg34 Tryd.sizeOf34 rfl rfl ((hS.slW 0 rfl).2.2.cells hq7227 hc7223)) rfl ?_
              refine RP.s 5 rfl rfl hS (fun w hS => Vl.fieldAddr (a'' := ⟨b7167, 0, none⟩) Tryd.underlying51 rfl Tryd.sizeOf35 rfl rfl) rfl ?_
              refine RP.s 6 rfl rfl hS (fun w hS => Vl.load Tryd.isAgg35 rfl (hS.cell 3 rfl rfl)) rfl ?_
              refine RP.v1 7 rfl (fun _ => hS) (Vl.move rfl) rfl rfl ?_
              obtain ⟨hq7228, h⟩ := h.req
              refine RP.v1 8 rfl (fun _ => hS) (Vl.indexAddr Tryd.underlying35 Tryd.sizeOf34 rfl rfl ((hr7162.2.world hS.sub).adr hq7227 hq7228) hq7227 hq7228 rfl) rfl rfl ?_
              refine RP.v1 9 rfl (fun _ => hS) (Vl.loadA Tryd.isAgg34 Tryd.sizeOf34 rfl rfl ((hr7162.2.world hS.sub).cells hq7227 hq7228)) rfl rfl ?_
              refine RP.v1 10 rfl (fun _ => hS) (Vl.neqS (run_neq_api_Instr _ _ (nth y7140 x7211) (nth y7155 x7211)) rfl rfl) rfl rfl ?_
              refine RP.nil ?_
              refine RQ.then_n ?_
              by_cases hc7229 : nth y7140 x7211 = nth y7155 x7211
              case pos =>
                have h := h.pos hc7229
                refine RC.re 75 rfl (congrArg Value.bool (notdec_pos hc7229)) ?_
                refine RC.condF rfl ?_
                refine RC.skip ?_
                refine RQ.inB_n ?_
                refine RQ.then_n ?_
                refine RC.region ?_
                refine RL.s (Vl.move rfl) rfl ?_
                refine RL.s (Vl.int rfl rfl rfl) rfl ?_
                refine RL.s (Vl.assign rfl) rfl ?_
                refine RL.nil ?_
                exact fun a ha => ⟨(IntKind.i64.wrap (x7211 + 1)), ⟨(IntKind.i64.wrap (x7211 + 1)), rfl, ha.to ⟨rfl, rfl, rfl, trivial⟩, hS⟩, h.some⟩
              case neg =>
                have h := h.neg hc7229
                refine RC.re 75 rfl (congrArg Value.bool (notdec_neg hc7229)) ?_
                refine RC.condT rfl ?_
                refine RC.seq ?_
                refine RC.region ?_
                refine RL.s (Vl.assign rfl) rfl ?_
                refine RL.nil ?_
                refine RQ.then_n ?_
                refine RC.ret ?_
                refine RQ.inB_ret ?_
                refine RQ.ret ?_
                have h := h.inrS
                refine RQ.ret ?_
                refine RQ.inB_ret ?_
                refine RQ.ret ?_
                have e := h.some
                subst e
                refine RQ.ret0 (vs := [.bool false]) Tryd.results7 ⟨rfl, trivial⟩ ?_
                exact ⟨rfl, (((((hS.dropAt 0 rfl).dropAt 0 rfl).dropAt 0 rfl).dropAt 0 rfl).dropAt 0 rfl)⟩
            case neg =>
              have h := h.neg hc7223
              refine RC.re 62 rfl (congrArg Value.bool (decide_eq_false hc7223)) ?_
              refine RC.condF rfl ?_
              refine RC.exit ?_
              refine RQ.exitT ?_
              have h := h.inr
              refine RQ.exitT ?_
              refine RQ.inB_hit ?_
              refine RQ.then_n ?_
              refine RC.seq ?_
              refine RC.seq ?_
              refine RC.region ?_
              refine RL.s (Vl.assign rfl) rfl ?_
              refine RL.nil ?_
              refine RQ.then_n ?_
              refine RC.block ?_
              refine fun a ha => RC.loop (N := 95) (body := (isochronlaw13vModelWorlds.l8b y7142 y7157)) (φ := (· = r)) (fun (s : Int) a w => ∃ (x7263 : Int), s = (x7263) ∧ Has 95 [(5, .pointer (some ⟨b7152, 0, none⟩)), (7, .pointer (some ⟨b7167, 0, none⟩)), (10, .int .i64 x7263)] a ∧ St B w (OSf E_api_Instr 34 (.slice A7145 y7140.length c7146) y7140 :: OSf E_api_Link 37 (.slice A7148 y7142.length c7149) y7142 :: OSf E_api_Link 37 (.slice A7163 y7157.length c7164) y7157 :: Cl b7167 [.slice A7160 y7155.length c7161, .int .i64 y7156, .slice A7163 y7157.length c7164, .int .u64 y7158] 51 :: Cl b7152 [.slice A7145 y7140.length c7146, .int .i64 y7141, .slice A7148 y7142.length c7149, .int .u64 y7143] 51 :: l) hf) ?_ (s0 := (0)) h ⟨0, rfl, ha.to ⟨rfl, rfl, rfl, trivial⟩, hS⟩
              rintro G7273 x7263 a w ⟨_, rfl, ha, hS⟩ h
              revert a
              show RC _ _ _ _ _ _
              refine RC.seq ?_
              refine RC.seq ?_
              refine RC.region ?_
              refine RL.s (Vl.move rfl) rfl ?_
              refine RL.s (Vl.fieldAddr (a'' := ⟨b7152, 2, none⟩) Tryd.underlying51 rfl Tryd.sizeOf23 rfl rfl) rfl ?_
              refine RL.s (Vl.load Tryd.isAgg23 rfl (hS.cell 4 rfl rfl)) rfl ?_
              refine RL.s (Vl.lenSl Tryd.underlying23 rfl) rfl ?_
              refine RL.s (Vl.int rfl rfl rfl) rfl ?_
              refine RL.nil ?_
              refine RQ.then_n ?_
              by_cases hc7275 : x7263 < (y7142.length : Int)
              case pos =>
                have h := h.pos hc7275
                refine RC.re 80 rfl (congrArg Value.bool (decide_eq_true hc7275)) ?_
                refine RC.condT rfl ?_
                refine RC.skip ?_
                refine RQ.then_n ?_
                refine RC.seq ?_
                refine RC.block ?_
                refine RC.seq ?_
                refine RC.plan (.cons 0 true (.cons 1 true (.cons 2 true (.cons 3 true (.cons 4 true (.cons 5 true (.cons 6 true (.cons 7 false (.cons 8 false (.cons 9 false (.cons 10 false .nil))))))))))) [] (fun w => St B w (OSf E_api_Instr 34 (.slice A7145 y7140.length c7146) y7140 :: OSf E_api_Link 37 (.slice A7148 y7142.length c7149) y7142 :: OSf E_api_Link 37 (.slice A7163 y7157.length c7164) y7157 :: Cl b7167 [.slice A7160 y7155.length c7161, .int .i64 y7156, .slice A7163 y7157.length c7164, .int .u64 y7158] 51 :: Cl b7152 [.slice A7145 y7140.length c7146, .int .i64 y7141, .slice A7148 y7142.length c7149, .int .u64 y7143] 51 :: l) hf) follows rfl (by kernel_rfl) (NoTmp.then (NoTmp.block (NoTmp.then (NoTmp.then (NoTmp.block (NoTmp.then NoTmp.body)))))) ?_
                have hS := hS.same (w' := { w with drawn := w.drawn + 1 }) rfl rfl
                revert hS
                generalize { w with drawn := w.drawn + 1 } = w
                intro hS
                refine RP.s 0 rfl rfl hS (fun w hS => Vl.fieldAddr (a'' := ⟨b7152, 2, none⟩) Tryd.underlying51 rfl Tryd.sizeOf23 rfl rfl) rfl ?_
                refine RP.s 1 rfl rfl hS (fun w hS => Vl.load Tryd.isAgg23 rfl (hS.cell 4 rfl rfl)) rfl ?_
                refine RP.s 2 rfl rfl hS (fun w hS => Vl.move rfl) rfl ?_
                obtain ⟨hq7279, h⟩ := h.req
                refine RP.s 3 rfl rfl hS (fun w hS => Vl.indexAddr Tryd.underlying23 Tryd.sizeOf37 rfl rfl ((hS.slW 1 rfl).2.2.adr hq7279 hc7275) hq7279 hc7275 rfl) rfl ?_
                refine RP.s 4 rfl rfl hS (fun w hS => Vl.loadA Tryd.isAgg37 Tryd.sizeOf37 rfl rfl ((hS.slW 1 rfl).2.2.cells hq7279 hc7275)) rfl ?_
                refine RP.s 5 rfl rfl hS (fun w hS => Vl.fieldAddr (a'' := ⟨b7167, 2, none⟩) Tryd.underlying51 rfl Tryd.sizeOf23 rfl rfl) rfl ?_
                refine RP.s 6 rfl rfl hS (fun w hS => Vl.load Tryd.isAgg23 rfl (hS.cell 3 rfl rfl)) rfl ?_
                refine RP.v1 7 rfl (fun _ => hS) (Vl.move rfl) rfl rfl ?_
                obtain ⟨hq7280, h⟩ := h.req
                refine RP.v1 8 rfl (fun _ => hS) (Vl.indexAddr Tryd.underlying23 Tryd.sizeOf37 rfl rfl ((hS.slW 2 rfl).2.2.adr hq7279 hq7280) hq7279 hq7280 rfl) rfl rfl ?_
                refine RP.v1 9 rfl (fun _ => hS) (Vl.loadA Tryd.isAgg37 Tryd.sizeOf37 rfl rfl ((hS.slW 2 rfl).2.2.cells hq7279 hq7280)) rfl rfl ?_
                refine RP.v1 10 rfl (fun _ => hS) (Vl.neqS (run_neq_api_Link _ _ (⟨(nth y7142 x7263).From, (nth y7142 x7263).To, (nth y7142 x7263).Look, ((nth y7142 x7263).Loose)⟩ : api_Link) (⟨(nth y7157 x7263).From, (nth y7157 x7263).To, (nth y7157 x7263).Look, ((nth y7157 x7263).Loose)⟩ : api_Link)) rfl rfl) rfl rfl ?_
                refine RP.nil ?_
                refine RQ.then_n ?_
                by_cases hc7281 : (⟨(nth y7142 x7263).From, (nth y7142 x7263).To, (nth y7142 x7263).Look, ((nth y7142 x7263).Loose)⟩ : api_Link) = (⟨(nth y7157 x7263).From, (nth y7157 x7263).To, (nth y7157 x7263).Look, ((nth y7157 x7263).Loose)⟩ : api_Link)
                case pos =>
                  have h := h.pos hc7281
                  refine RC.re 93 rfl (congrArg Value.bool (notdec_pos hc7281)) ?_
                  refine RC.condF rfl ?_
                  refine RC.skip ?_
                  refine RQ.inB_n ?_
                  refine RQ.then_n ?_
                  refine RC.region ?_
                  refine RL.s (Vl.move rfl) rfl ?_
                  refine RL.s (Vl.int rfl rfl rfl) rfl ?_
                  refine RL.s (Vl.assign rfl) rfl ?_
                  refine RL.nil ?_
                  exact fun a ha => ⟨(IntKind.i64.wrap (x7263 + 1)), ⟨(IntKind.i64.wrap (x7263 + 1)), rfl, ha.to ⟨rfl, rfl, rfl, trivial⟩, hS⟩, h.some⟩
                case neg =>
                  have h := h.neg hc7281
                  refine RC.re 93 rfl (congrArg Value.bool (notdec_neg hc7281)) ?_
                  refine RC.condT rfl ?_
                  refine RC.seq ?_
                  refine RC.region ?_
                  refine RL.s (Vl.assign rfl) rfl ?_
                  refine RL.nil ?_
                  refine RQ.then_n ?_
                  refine RC.ret ?_
                  refine RQ.inB_ret ?_
                  refine RQ.ret ?_
                  have h := h.inrS
                  refine RQ.ret ?_
                  refine RQ.inB_ret ?_
                  refine RQ.ret ?_
                  have e := h.some
                  subst e
                  refine RQ.ret0 (vs := [.bool false]) Tryd.results7 ⟨rfl, trivial⟩ ?_
                  exact ⟨rfl, (((((hS.dropAt 0 rfl).dropAt 0 rfl).dropAt 0 rfl).dropAt 0 rfl).dropAt 0 rfl)⟩
              case neg =>
                have h := h.neg hc7275
                refine RC.re 80 rfl (congrArg Value.bool (decide_eq_false hc7275)) ?_
                refine RC.condF rfl ?_
                refine RC.exit ?_
                refine RQ.exitT ?_
                have h := h.inr
                refine RQ.exitT ?_
                refine RQ.inB_hit ?_
                refine RQ.then_n ?_
                refine RC.seq ?_
                refine RC.region ?_
                obtain ⟨t7282, hg7283, h⟩ := h.bind
                refine RL.e (OW.callF (ls := []) rfl Tryd.call11 (isochronlaw13vawake.ok hG0 _ hg7283 hS)) rfl rfl ?_
                rintro _ w ⟨rfl, hS⟩
                have hS : St B w (OSf E_api_Instr 34 (.slice A7145 y7140.length c7146) y7140 :: OSf E_api_Link 37 (.slice A7148 y7142.length c7149) y7142 :: OSf E_api_Link 37 (.slice A7163 y7157.length c7164) y7157 :: Cl b7167 [.slice A7160 y7155.length c7161, .int .i64 y7156, .slice A7163 y7157.length c7164, .int .u64 y7158] 51 :: Cl b7152 [.slice A7145 y7140.length c7146, .int .i64 y7141, .slice A7148 y7142.length c7149, .int .u64 y7143] 51 :: l) hf := hS
                refine RL.s (Vl.assign rfl) rfl ?_
                refine RL.nil ?_
                refine RQ.then_n ?_
                refine RC.ret ?_
                have e := h.some
                subst e
                refine RQ.ret0 (vs := [.bool t7282]) Tryd.results7 ⟨rfl, trivial⟩ ?_
                exact ⟨rfl, (((((hS.dropAt 0 rfl).dropAt 0 rfl).dropAt 0 rfl).dropAt 0 rfl).dropAt 0 rfl)⟩
          case neg =>
            have h := h.neg hc7177
            refine RC.re 57 rfl (congrArg Value.bool (notdec_neg hc7177)) ?_
            refine RC.condT rfl ?_
            refine RC.seq ?_
            refine RC.region ?_
            refine RL.s (Vl.assign rfl) rfl ?_
            refine RL.nil ?_
            refine RQ.then_n ?_
            refine RC.ret ?_
            refine RQ.ret ?_
            have e := h.some
            subst e
            refine RQ.ret0 (vs := [.bool false]) Tryd.results7 ⟨rfl, trivial⟩ ?_
            exact ⟨rfl, ((((((hS.dropAt 0 rfl).dropAt 0 rfl).dropAt 0 rfl).dropAt 0 rfl).dropAt 0 rfl).dropAt 0 rfl)⟩
        case neg =>
          have h := h.neg hc7176
          refine RL.re 49 rfl (congrArg Value.bool (notdec_neg hc7176)) ?_
          refine RL.nn rfl rfl ?_
          refine RL.nn rfl rfl ?_
          refine RL.nn rfl rfl ?_
          refine RL.nn rfl rfl ?_
          refine RL.nn rfl rfl ?_
          refine RL.nn rfl rfl ?_
          refine RL.nn rfl rfl ?_
          refine RL.s (Vl.pickT rfl rfl) rfl ?_
          refine RL.nil ?_
          refine RQ.then_n ?_
          refine RC.condT rfl ?_
          refine RC.seq ?_
          refine RC.region ?_
          refine RL.s (Vl.assign rfl) rfl ?_
          refine RL.nil ?_
          refine RQ.then_n ?_
          refine RC.ret ?_
          refine RQ.ret ?_
          have e := h.some
          subst e
          refine RQ.ret0 (vs := [.bool false]) Tryd.results7 ⟨rfl, trivial⟩ ?_
          exact ⟨rfl, ((((((hS.dropAt 0 rfl).dropAt 0 rfl).dropAt 0 rfl).dropAt 0 rfl).dropAt 0 rfl).dropAt 0 rfl)⟩
      case neg =>
        have h := h.neg hc7175
        refine RL.re 40 rfl (congrArg Value.bool (notdec_neg hc7175)) ?_
        refine RL.nn rfl rfl ?_
        refine RL.nn rfl rfl ?_
        refine RL.nn rfl rfl ?_
        refine RL.nn rfl rfl ?_
        refine RL.nn rfl rfl ?_
        refine RL.nn rfl rfl ?_
        refine RL.nn rfl rfl ?_
        refine RL.s (Vl.pickT rfl rfl) rfl ?_
        refine RL.s (Vl.move rfl) rfl ?_
        refine RL.nn rfl rfl ?_
        refine RL.nn rfl rfl ?_
        refine RL.nn rfl rfl ?_
        refine RL.nn rfl rfl ?_
        refine RL.nn rfl rfl ?_
        refine RL.nn rfl rfl ?_
        refine RL.nn rfl rfl ?_
        refine RL.s (Vl.pickT rfl rfl) rfl ?_
        refine RL.nil ?_
        refine RQ.then_n ?_
        refine RC.condT rfl ?_
        refine RC.seq ?_
        refine RC.region ?_
        refine RL.s (Vl.assign rfl) rfl ?_
        refine RL.nil ?_
        refine RQ.then_n ?_
        refine RC.ret ?_
        refine RQ.ret ?_
        have e := h.some
        subst e
        refine RQ.ret0 (vs := [.bool false]) Tryd.results7 ⟨rfl, trivial⟩ ?_
        exact ⟨rfl, ((((((hS.dropAt 0 rfl).dropAt 0 rfl).dropAt 0 rfl).dropAt 0 rfl).dropAt 0 rfl).dropAt 0 rfl)⟩
    case neg =>
      have h := h.neg hc7174
      refine RL.re 33 rfl (congrArg Value.bool (notdec_neg hc7174)) ?_
      refine RL.nn rfl rfl ?_
      refine RL.nn rfl rfl ?_
      refine RL.nn rfl rfl ?_
      refine RL.nn rfl rfl ?_
      refine RL.nn rfl rfl ?_
      refine RL.s (Vl.pickT rfl rfl) rfl ?_
      refine RL.s (Vl.move rfl) rfl ?_
      refine RL.nn rfl rfl ?_
      refine RL.nn rfl rfl ?_
      refine RL.nn rfl rfl ?_
      refine RL.nn rfl rfl ?_
      refine RL.nn rfl rfl ?_
      refine RL.nn rfl rfl ?_
      refine RL.nn rfl rfl ?_
      refine RL.s (Vl.pickT rfl rfl) rfl ?_
      refine RL.s (Vl.move rfl) rfl ?_
      refine RL.nn rfl rfl ?_
      refine RL.nn rfl rfl ?_
      refine RL.nn rfl rfl ?_
      refine RL.nn rfl rfl ?_
      refine RL.nn rfl rfl ?_
      refine RL.nn rfl rfl ?_
      refine RL.nn rfl rfl ?_
      refine RL.s (Vl.pickT rfl rfl) rfl ?_
      refine RL.nil ?_
      refine RQ.then_n ?_
      refine RC.condT rfl ?_
      refine RC.seq ?_
      refine RC.region ?_
      refine RL.s (Vl.assign rfl) rfl ?_
      refine RL.nil ?_
      refine RQ.then_n ?_
      refine RC.ret ?_
      refine RQ.ret ?_
      have e := h.some
      subst e
      refine RQ.ret0 (vs := [.bool false]) Tryd.results7 ⟨rfl, trivial⟩ ?_
      exact ⟨rfl, ((((((hS.dropAt 0 rfl).dropAt 0 rfl).dropAt 0 rfl).dropAt 0 rfl).dropAt 0 rfl).dropAt 0 rfl)⟩
  case neg =>
    have h := h.neg hc7173
    refine RL.re 26 rfl (congrArg Value.bool (notdec_neg hc7173)) ?_
    refine RL.nn rfl rfl ?_
    refine RL.nn rfl rfl ?_
    refine RL.nn rfl rfl ?_
    refine RL.nn rfl rfl ?_
    refine RL.nn rfl rfl ?_
    refine RL.s (Vl.pickT rfl rfl) rfl ?_
    refine RL.s (Vl.move rfl) rfl ?_
    refine RL.nn rfl rfl ?_
    refine RL.nn rfl rfl ?_
    refine RL.nn rfl rfl ?_
    refine RL.nn rfl rfl ?_
    refine RL.nn rfl rfl ?_
    refine RL.s (Vl.pickT rfl rfl) rfl ?_
    refine RL.s (Vl.move rfl) rfl ?_
    refine RL.nn rfl rfl ?_
    refine RL.nn rfl rfl ?_
    refine RL.nn rfl rfl ?_
    refine RL.nn rfl rfl ?_
    refine RL.nn rfl rfl ?_
    refine RL.nn rfl rfl ?_
    refine RL.nn rfl rfl ?_
    refine RL.s (Vl.pickT rfl rfl) rfl ?_
    refine RL.s (Vl.move rfl) rfl ?_
    refine RL.nn rfl rfl ?_
    refine RL.nn rfl rfl ?_
    refine RL.nn rfl rfl ?_
    refine RL.nn rfl rfl ?_
    refine RL.nn rfl rfl ?_
    refine RL.nn rfl rfl ?_
    refine RL.nn rfl rfl ?_
    refine RL.s (Vl.pickT rfl rfl) rfl ?_
    refine RL.nil ?_
    refine RQ.then_n ?_
    refine RC.condT rfl ?_
    refine RC.seq ?_
    refine RC.region ?_
    refine RL.s (Vl.assign rfl) rfl ?_
    refine RL.nil ?_
    refine RQ.then_n ?_
    refine RC.ret ?_
    refine RQ.ret ?_
    have e := h.some
    subst e
    refine RQ.ret0 (vs := [.bool false]) Tryd.results7 ⟨rfl, trivial⟩ ?_
    exact ⟨rfl, ((((((hS.dropAt 0 rfl).dropAt 0 rfl).dropAt 0 rfl).dropAt 0 rfl).dropAt 0 rfl).dropAt 0 rfl)⟩

/-! ### isochron/vm.lane: function 32 -/
noncomputable def vm_lane.f (a7337 : Int) : Option (Bool) := (if 0 ≤ a7337 then some (decide (a7337 < 16)) else some false)
set_option maxRecDepth 100000 in
set_option maxHeartbeats 4000000 in
theorem vm_lane.ok {B : Base} {w : World} {l : List HProp} {hf : Hp} (a7337 : Int) (r : Bool) (h : vm_lane.f a7337 = some r) (hS : St B w (l) hf) :
    Calls Tryd.prog 32 #[.int .i64 a7337] w (Ret fun v w => v = .bool r ∧ St B w (l) hf) := by
  have h := Holds.of h
  refine enter (args := [.int .i64 a7337]) Tryd.func32 rfl Tryd.ntmps32 (Nat.le_of_ble_eq_true rfl) ?_
  refine RC.seq ?_
  refine RC.region ?_
  refine RL.s (Vl.assign rfl) rfl ?_
  refine RL.nil ?_
  refine RQ.then_n ?_
  refine RC.seq ?_
  refine RC.region ?_
  refine RL.s (Vl.move rfl) rfl ?_
  refine RL.s (Vl.int rfl rfl rfl) rfl ?_
  refine RL.s (Vl.move rfl) rfl ?_
  by_cases hc7339 : 0 ≤ a7337
  case pos =>
    have h := h.pos hc7339
    refine RL.re 5 rfl (congrArg Value.bool (decide_eq_true hc7339)) ?_
    refine RL.sg (Vl.move rfl) rfl rfl ?_
    refine RL.sg (Vl.int rfl rfl rfl) rfl rfl ?_
    refine RL.s (Vl.pickT rfl rfl) rfl ?_
    refine RL.s (Vl.assign rfl) rfl ?_
    refine RL.nil ?_
    refine RQ.then_n ?_
    refine RC.ret ?_
    have e := h.some
    subst e
    refine RQ.ret0 (vs := [.bool (decide (a7337 < 16))]) Tryd.results32 ⟨rfl, trivial⟩ ?_
    exact ⟨rfl, hS⟩
  case neg =>
    have h := h.neg hc7339
    refine RL.re 5 rfl (congrArg Value.bool (decide_eq_false hc7339)) ?_
    refine RL.nn rfl rfl ?_
    refine RL.nn rfl rfl ?_
    refine RL.s (Vl.pickF rfl rfl) rfl ?_
    refine RL.s (Vl.assign rfl) rfl ?_
    refine RL.nil ?_
    refine RQ.then_n ?_
    refine RC.ret ?_
    have e := h.some
    subst e
    refine RQ.ret0 (vs := [.bool false]) Tryd.results32 ⟨rfl, trivial⟩ ?_
    exact ⟨rfl, hS⟩

/-! ### isochron/vm.Check: function 18 -/
noncomputable def vm_Check.l2b (a7322 : api_World) : Int → Option ((Int) ⊕ (Int))
  | (x7453) => (if x7453 < (a7322.Links.length : Int) then (if 0 ≤ x7453 then ((vm_lane.f ((nth a7322.Links x7453).To)).bind fun t7493 => (if t7493 = true then (if (nth a7322.Links x7453).Look < 1 then some (.inr 1) else ((vtime_Valid.f ((nth a7322.Links x7453).Look)).bind fun t7497 => (if t7497 = true then some (.inl (IntKind.i64.wrap (x7453 + 1))) else some (.inr 1)))) else some (.inr 1))) else none) else some (.inr 0))
noncomputable def vm_Check.l2 (a7322 : api_World) (s : Int) : Option (Int) := loopR (vm_Check.l2b a7322) s
noncomputable def vm_Check.f (a7322 : api_World) : Option (Int) := ((code_Check.f a7322.Prog).bind fun t7421 => (if t7421 = 0 then ((vm_lane.f a7322.Self).bind fun t7428 => (if t7428 = true then (if 1024 < (a7322.Links.length : Int) then some 1 else vm_Check.l2 a7322 (0)) else some 1)) else some t7421))
set_option maxRecDepth 100000 in
set_option maxHeartbeats 4000000 in
theorem vm_Check.ok {B : Base} {w : World} {l : List HProp} {hf : Hp} (a7322 : api_World) (A7323 : Option Addr) (c7324 : Nat) (A7326 : Option Addr) (c7327 : Nat) (hr7325 : SlR E_api_Instr.rep hf A7323 c7324 a7322.Prog) (hr7328 : SlR E_api_Link.rep hf A7326 c7327 a7322.Links) (r : Int) (h : vm_Check.f a7322 = some r) (hS : St B w (l) hf) :
    Calls Tryd.prog 18 #[.agg #[.slice A7323 a7322.Prog.length c7324, .int .i64 a7322.Self, .slice A7326 a7322.Links.length c7327, .int .u64 a7322.Seed]] w (Ret fun v w => v = .int .i64 r ∧ St B w (l) hf) := by
  have h := Holds.of h
  refine enter (args := [.agg #[.slice A7323 a7322.Prog.length c7324, .int .i64 a7322.Self, .slice A7326 a7322.Links.length c7327, .int .u64 a7322.Seed]]) Tryd.func18 rfl Tryd.ntmps18 (Nat.le_of_ble_eq_true rfl) ?_
  refine RC.seq ?_
  refine RC.region ?_
  refine RL.e (OW.box (cs := [.slice A7323 a7322.Prog.length c7324, .int .i64 a7322.Self, .slice A7326 a7322.Links.length c7327, .int .u64 a7322.Seed]) hS rfl rfl) rfl rfl ?_
  rintro _ w ⟨b7417, rfl, hS⟩
  have hS : St B w (Cl b7417 [.slice A7323 a7322.Prog.length c7324, .int .i64 a7322.Self, .slice A7326 a7322.Links.length c7327, .int .u64 a7322.Seed] 51 :: l) hf := hS
  refine RL.s (Vl.assign rfl) rfl ?_
  refine RL.nil ?_
  refine RQ.then_n ?_
  refine RC.seq ?_
  refine RC.seq ?_
  refine RC.region ?_
  refine RL.s (Vl.fieldAddr (a'' := ⟨b7417, 0, none⟩) Tryd.underlying51 rfl Tryd.sizeOf35 rfl rfl) rfl ?_
  refine RL.s (Vl.load Tryd.isAgg35 rfl (hS.cell 0 rfl rfl)) rfl ?_
  obtain ⟨t7421, hg7422, h⟩ := h.bind
  refine RL.e (OW.callF (ls := [.tmp 7]) rfl Tryd.call31 (code_Check.ok a7322.Prog A7323 c7324 hr7325 _ hg7422 hS)) rfl rfl ?_
  rintro _ w ⟨rfl, hS⟩
  have hS : St B w (Cl b7417 [.slice A7323 a7322.Prog.length c7324, .int .i64 a7322.Self, .slice A7326 a7322.Links.length c7327, .int .u64 a7322.Seed] 51 :: l) hf := hS
  refine RL.s (Vl.assign rfl) rfl ?_
  refine RL.nil ?_
  refine RQ.then_n ?_
  refine RC.seq ?_
  refine RC.region ?_
  refine RL.s (Vl.move rfl) rfl ?_
  refine RL.s (Vl.int rfl rfl rfl) rfl ?_
  refine RL.nil ?_
  refine RQ.then_n ?_
  by_cases hc7423 : t7421 = 0
  case pos =>
    have h := h.pos hc7423
    refine RC.re 10 rfl (congrArg Value.bool (notdec_pos hc7423)) ?_
    refine RC.condF rfl ?_
    refine RC.skip ?_
    refine RQ.then_n ?_
    refine RC.seq ?_
    refine RC.seq ?_
    refine RC.region ?_
    refine RL.s (Vl.fieldAddr (a'' := ⟨b7417, 1, none⟩) Tryd.underlying51 rfl Tryd.sizeOf3 rfl rfl) rfl ?_
    refine RL.s (Vl.load Tryd.isAgg3 rfl (hS.cell 0 rfl rfl)) rfl ?_
    obtain ⟨t7428, hg7429, h⟩ := h.bind
    refine RL.e (OW.callF (ls := [.tmp 13]) rfl Tryd.call32 (vm_lane.ok a7322.Self _ hg7429 hS)) rfl rfl ?_
    rintro _ w ⟨rfl, hS⟩
    have hS : St B w (Cl b7417 [.slice A7323 a7322.Prog.length c7324, .int .i64 a7322.Self, .slice A7326 a7322.Links.length c7327, .int .u64 a7322.Seed] 51 :: l) hf := hS
    refine RL.s (Vl.not rfl) rfl ?_
    refine RL.s (Vl.move rfl) rfl ?_
    by_cases hc7430 : t7428 = true
    case pos =>
      have h := h.pos hc7430
      refine RL.re 16 rfl (congrArg Value.bool (notb_pos hc7430)) ?_
      refine RL.sg (Vl.fieldAddr (a'' := ⟨b7417, 2, none⟩) Tryd.underlying51 rfl Tryd.sizeOf23 rfl rfl) rfl rfl ?_
      refine RL.sg (Vl.load Tryd.isAgg23 rfl (hS.cell 0 rfl rfl)) rfl rfl ?_
      refine RL.sg (Vl.lenSl Tryd.underlying23 rfl) rfl rfl ?_
      refine RL.sg (Vl.int rfl rfl rfl) rfl rfl ?_
      refine RL.s (Vl.pickF rfl rfl) rfl ?_
      refine RL.nil ?_
      refine RQ.then_n ?_
      by_cases hc7431 : 1024 < (a7322.Links.length : Int)
      case pos =>
        have h := h.pos hc7431
        refine RC.re 21 rfl (congrArg Value.bool (decide_eq_true hc7431)) ?_
        refine RC.condT rfl ?_
        refine RC.seq ?_
        refine RC.region ?_
        refine RL.s (Vl.assign rfl) rfl ?_
        refine RL.nil ?_
        refine RQ.then_n ?_
        refine RC.ret ?_
        refine RQ.ret ?_
        have e := h.some
        subst e
        refine RQ.ret0 (vs := [.int .i64 1]) Tryd.results18 ⟨rfl, trivial⟩ ?_
        exact ⟨rfl, (hS.dropAt 0 rfl)⟩
      case neg =>
        have h := h.neg hc7431
        refine RC.re 21 rfl (congrArg Value.bool (decide_eq_false hc7431)) ?_
        refine RC.condF rfl ?_
        refine RC.skip ?_
        refine RQ.then_n ?_
        refine RC.seq ?_
        refine RC.seq ?_
        refine RC.region ?_
        refine RL.s (Vl.fieldAddr (a'' := ⟨b7417, 2, none⟩) Tryd.underlying51 rfl Tryd.sizeOf23 rfl rfl) rfl ?_
        refine RL.s (Vl.load Tryd.isAgg23 rfl (hS.cell 0 rfl rfl)) rfl ?_
        refine RL.s (Vl.lenSl Tryd.underlying23 rfl) rfl ?_
        refine RL.s (Vl.move rfl) rfl ?_
        refine RL.nil ?_
        refine RQ.then_n ?_
        refine RC.block ?_
        refine fun a ha => RC.loop (N := 45) (body := (vm_Check.l2b a7322)) (φ := (· = r)) (fun (s : Int) a w => ∃ (x7453 : Int), s = (x7453) ∧ Has 45 [(23, .slice A7326 a7322.Links.length c7327), (24, .int .i64 (a7322.Links.length : Int)), (25, .int .i64 x7453)] a ∧ St B w (l) hf) ?_ (s0 := (0)) h ⟨0, rfl, ha.to ⟨rfl, rfl, rfl, trivial⟩, (hS.dropAt 0 rfl)⟩
        rintro G7477 x7453 a w ⟨_, rfl, ha, hS⟩ h
        revert a
        show RC _ _ _ _ _ _
        refine RC.seq ?_
        refine RC.region ?_
        refine RL.s (Vl.int rfl rfl rfl) rfl ?_
        refine RL.nil ?_
        refine RQ.then_n ?_
        refine RC.seq ?_
        by_cases hc7479 : x7453 < (a7322.Links.length : Int)
        case pos =>
          have h := h.pos hc7479
          refine RC.re 26 rfl (congrArg Value.bool (decide_eq_true hc7479)) ?_
          refine RC.condT rfl ?_
          refine RC.skip ?_
          refine RQ.then_n ?_
          refine RC.seq ?_
          refine RC.block ?_
          refine RC.seq ?_
          refine RC.region ?_
          obtain ⟨hq7490, h⟩ := h.req
          refine RL.s (Vl.indexAddr Tryd.underlying23 Tryd.sizeOf37 rfl rfl ((hr7328.2.world hS.sub).adr hq7490 hc7479) hq7490 hc7479 rfl) rfl ?_
          refine RL.s (Vl.loadA Tryd.isAgg37 Tryd.sizeOf37 rfl rfl ((hr7328.2.world hS.sub).cells hq7490 hc7479)) rfl ?_
          refine RL.e (OW.alloc (cs := [.int .i64 0, .int .i64 0, .int .i64 0, .bool false]) hS Tryd.zeroValue37 rfl) rfl rfl ?_
          rintro _ w ⟨b7492, rfl, hS⟩
          have hS : St B w (Cl b7492 [.int .i64 0, .int .i64 0, .int .i64 0, .bool false] 37 :: l) hf := hS
          refine RL.e0 (OW.store (cs := [.int .i64 0, .int .i64 0, .int .i64 0, .bool false]) (vs := [.int .i64 ((nth a7322.Links x7453).From), .int .i64 ((nth a7322.Links x7453).To), .int .i64 ((nth a7322.Links x7453).Look), .bool ((nth a7322.Links x7453).Loose)]) (l' := Cl b7492 [.int .i64 ((nth a7322.Links x7453).From), .int .i64 ((nth a7322.Links x7453).To), .int .i64 ((nth a7322.Links x7453).Look), .bool ((nth a7322.Links x7453).Loose)] 37 :: l) 0 hS rfl rfl rfl rfl Tryd.sizeOf37 rfl rfl rfl rfl) rfl ?_
          rintro _ w ⟨rfl, hS⟩
          have hS : St B w (Cl b7492 [.int .i64 ((nth a7322.Links x7453).From), .int .i64 ((nth a7322.Links x7453).To), .int .i64 ((nth a7322.Links x7453).Look), .bool ((nth a7322.Links x7453).Loose)] 37 :: l) hf := hS
          refine RL.nil ?_
          refine RQ.then_n ?_
          refine RC.seq ?_
          refine RC.region ?_
          refine RL.s (Vl.fieldAddr (a'' := ⟨b7492, 1, none⟩) Tryd.underlying37 rfl Tryd.sizeOf3 rfl rfl) rfl ?_
          refine RL.s (Vl.load Tryd.isAgg3 rfl (hS.cell 0 rfl rfl)) rfl ?_
          obtain ⟨t7493, hg7494, h⟩ := h.bind
          refine RL.e (OW.callF (ls := [.tmp 30]) rfl Tryd.call32 (vm_lane.ok ((nth a7322.Links x7453).To) _ hg7494 hS)) rfl rfl ?_
          rintro _ w ⟨rfl, hS⟩
          have hS : St B w (Cl b7492 [.int .i64 ((nth a7322.Links x7453).From), .int .i64 ((nth a7322.Links x7453).To), .int .i64 ((nth a7322.Links x7453).Look), .bool ((nth a7322.Links x7453).Loose)] 37 :: l) hf := hS
          refine RL.s (Vl.not rfl) rfl ?_
          refine RL.s (Vl.move rfl) rfl ?_
          by_cases hc7495 : t7493 = true
          case pos =>
            have h := h.pos hc7495
            refine RL.re 33 rfl (congrArg Value.bool (notb_pos hc7495)) ?_
            refine RL.sg (Vl.fieldAddr (a'' := ⟨b7492, 2, none⟩) Tryd.underlying37 rfl Tryd.sizeOf2 rfl rfl) rfl rfl ?_
            refine RL.sg (Vl.load Tryd.isAgg2 rfl (hS.cell 0 rfl rfl)) rfl rfl ?_
            refine RL.sg (Vl.int rfl rfl rfl) rfl rfl ?_
            refine RL.s (Vl.pickF rfl rfl) rfl ?_
            refine RL.s (Vl.move rfl) rfl ?_
            by_cases hc7496 : (nth a7322.Links x7453).Look < 1
            case pos =>
              have h := h.pos hc7496
              refine RL.re 38 rfl (congrArg Value.bool (decide_eq_true hc7496)) ?_
              refine RL.nn rfl rfl ?_
              refine RL.nn rfl rfl ?_
              refine RL.nn rfl rfl ?_
              refine RL.nn rfl rfl ?_
              refine RL.s (Vl.pickT rfl rfl) rfl ?_
              refine RL.nil ?_
              refine RQ.then_n ?_
              refine RC.condT rfl ?_
              refine RC.seq ?_
              refine RC.region ?_
              refine RL.s (Vl.assign rfl) rfl ?_
              refine RL.nil ?_
              refine RQ.then_n ?_
              refine RC.ret ?_
              refine RQ.inB_ret ?_
              refine RQ.ret ?_
              have h := h.inrS
              refine RQ.ret ?_
              refine RQ.inB_ret ?_
              refine RQ.ret ?_
              have e := h.some
              subst e
              refine RQ.ret0 (vs := [.int .i64 1]) Tryd.results18 ⟨rfl, trivial⟩ ?_
              exact ⟨rfl, (hS.dropAt 0 rfl)⟩
            case neg =>
              have h := h.neg hc7496
              refine RL.re 38 rfl (congrArg Value.bool (decide_eq_false hc7496)) ?_
              refine RL.sg (Vl.fieldAddr (a'' := ⟨b7492, 2, none⟩) Tryd.underlying37 rfl Tryd.sizeOf2 rfl rfl) rfl rfl ?_
              refine RL.sg (Vl.load Tryd.isAgg2 rfl (hS.cell 0 rfl rfl)) rfl rfl ?_
              obtain ⟨t7497, hg7498, h⟩ := h.bind
              refine RL.e (OW.callF (ls := [.tmp 40]) rfl Tryd.call33 (vtime_Valid.ok ((nth a7322.Links x7453).Look) _ hg7498 hS)) rfl rfl ?_
              rintro _ w ⟨rfl, hS⟩
              have hS : St B w (Cl b7492 [.int .i64 ((nth a7322.Links x7453).From), .int .i64 ((nth a7322.Links x7453).To), .int .i64 ((nth a7322.Links x7453).Look), .bool ((nth a7322.Links x7453).Loose)] 37 :: l) hf := hS
              refine RL.sg (Vl.not rfl) rfl rfl ?_
              refine RL.s (Vl.pickF rfl rfl) rfl ?_
              refine RL.nil ?_
              refine RQ.then_n ?_
              by_cases hc7499 : t7497 = true
              case pos =>
                have h := h.pos hc7499
                refine RC.re 43 rfl (congrArg Value.bool (notb_pos hc7499)) ?_
                refine RC.condF rfl ?_
                refine RC.skip ?_
                refine RQ.inB_n ?_
                refine RQ.then_n ?_
                refine RC.region ?_
                refine RL.s (Vl.int rfl rfl rfl) rfl ?_
                refine RL.s (Vl.move rfl) rfl ?_
                refine RL.nil ?_
                exact fun a ha => ⟨(IntKind.i64.wrap (x7453 + 1)), ⟨(IntKind.i64.wrap (x7453 + 1)), rfl, ha.to ⟨rfl, rfl, rfl, trivial⟩, (hS.dropAt 0 rfl)⟩, h.some⟩
              case neg =>
                have h := h.neg hc7499
                refine RC.re 43 rfl (congrArg Value.bool (notb_neg hc7499)) ?_
                refine RC.condT rfl ?_
                refine RC.seq ?_
                refine RC.region ?_
                refine RL.s (Vl.assign rfl) rfl ?_
                refine RL.nil ?_
                refine RQ.then_n ?_
                refine RC.ret ?_
                refine RQ.inB_ret ?_
                refine RQ.ret ?_
                have h := h.inrS
                refine RQ.ret ?_
                refine RQ.inB_ret ?_
                refine RQ.ret ?_
                have e := h.some
                subst e
                refine RQ.ret0 (vs := [.int .i64 1]) Tryd.results18 ⟨rfl, trivial⟩ ?_
                exact ⟨rfl, (hS.dropAt 0 rfl)⟩
          case neg =>
            have h := h.neg hc7495
            refine RL.re 33 rfl (congrArg Value.bool (notb_neg hc7495)) ?_
            refine RL.nn rfl rfl ?_
            refine RL.nn rfl rfl ?_
            refine RL.nn rfl rfl ?_
            refine RL.s (Vl.pickT rfl rfl) rfl ?_
            refine RL.s (Vl.move rfl) rfl ?_
            refine RL.nn rfl rfl ?_
            refine RL.nn rfl rfl ?_
            refine RL.nn rfl rfl ?_
            refine RL.nn rfl rfl ?_
            refine RL.s (Vl.pickT rfl rfl) rfl ?_
            refine RL.nil ?_
            refine RQ.then_n ?_
            refine RC.condT rfl ?_
            refine RC.seq ?_
            refine RC.region ?_
            refine RL.s (Vl.assign rfl) rfl ?_
            refine RL.nil ?_
            refine RQ.then_n ?_
            refine RC.ret ?_
            refine RQ.inB_ret ?_
            refine RQ.ret ?_
            have h := h.inrS
            refine RQ.ret ?_
            refine RQ.inB_ret ?_
            refine RQ.ret ?_
            have e := h.some
            subst e
            refine RQ.ret0 (vs := [.int .i64 1]) Tryd.results18 ⟨rfl, trivial⟩ ?_
            exact ⟨rfl, (hS.dropAt 0 rfl)⟩
        case neg =>
          have h := h.neg hc7479
          refine RC.re 26 rfl (congrArg Value.bool (decide_eq_false hc7479)) ?_
          refine RC.condF rfl ?_
          refine RC.exit ?_
          refine RQ.exitT ?_
          have h := h.inrS
          refine RQ.exitT ?_
          refine RQ.inB_hit ?_
          refine RQ.then_n ?_
          refine RC.seq ?_
          refine RC.region ?_
          refine RL.s (Vl.assign rfl) rfl ?_
          refine RL.nil ?_
          refine RQ.then_n ?_
          refine RC.ret ?_
          have e := h.some
          subst e
          refine RQ.ret0 (vs := [.int .i64 0]) Tryd.results18 ⟨rfl, trivial⟩ ?_
          exact ⟨rfl, hS⟩
    case neg =>
      have h := h.neg hc7430
      refine RL.re 16 rfl (congrArg Value.bool (notb_neg hc7430)) ?_
      refine RL.nn rfl rfl ?_
      refine RL.nn rfl rfl ?_
      refine RL.nn rfl rfl ?_
      refine RL.nn rfl rfl ?_
      refine RL.s (Vl.pickT rfl rfl) rfl ?_
      refine RL.nil ?_
      refine RQ.then_n ?_
      refine RC.condT rfl ?_
      refine RC.seq ?_
      refine RC.region ?_
      refine RL.s (Vl.assign rfl) rfl ?_
      refine RL.nil ?_
      refine RQ.then_n ?_
      refine RC.ret ?_
      refine RQ.ret ?_
      have e := h.some
      subst e
      refine RQ.ret0 (vs := [.int .i64 1]) Tryd.results18 ⟨rfl, trivial⟩ ?_
      exact ⟨rfl, (hS.dropAt 0 rfl)⟩
  case neg =>
    have h := h.neg hc7423
    refine RC.re 10 rfl (congrArg Value.bool (notdec_neg hc7423)) ?_
    refine RC.condT rfl ?_
    refine RC.seq ?_
    refine RC.region ?_
    refine RL.s (Vl.move rfl) rfl ?_
    refine RL.s (Vl.assign rfl) rfl ?_
    refine RL.nil ?_
    refine RQ.then_n ?_
    refine RC.ret ?_
    refine RQ.ret ?_
    have e := h.some
    subst e
    refine RQ.ret0 (vs := [.int .i64 t7421]) Tryd.results18 ⟨rfl, trivial⟩ ?_
    exact ⟨rfl, (hS.dropAt 0 rfl)⟩

/-! ### isochron/model.Way: function 19 -/
noncomputable def model_Way.l2b (a7540 : api_Model) (a7550 : Int) (a7551 : Int) : Int → Option ((Int) ⊕ (Int))
  | (x7605) => (if x7605 < (a7540.Links.length : Int) then (if 0 ≤ x7605 then (if (nth a7540.Links x7605).From = a7550 then (if (nth a7540.Links x7605).To = a7551 then some (.inr x7605) else some (.inl (IntKind.i64.wrap (x7605 + 1)))) else some (.inl (IntKind.i64.wrap (x7605 + 1)))) else none) else some (.inr (-1)))
noncomputable def model_Way.l2 (a7540 : api_Model) (a7550 : Int) (a7551 : Int) (s : Int) : Option (Int) := loopR (model_Way.l2b a7540 a7550 a7551) s
noncomputable def model_Way.f (a7540 : api_Model) (a7550 : Int) (a7551 : Int) : Option (Int) := model_Way.l2 a7540 a7550 a7551 (0)
set_option maxRecDepth 100000 in
set_option maxHeartbeats 4000000 in
theorem model_Way.ok {B : Base} {w : World} {l : List HProp} {hf : Hp} (a7540 : api_Model) (a7550 : Int) (a7551 : Int) (A7541 : Option Addr) (c7542 : Nat) (A7544 : Option Addr) (c7545 : Nat) (A7547 : Option Addr) (c7548 : Nat) (hr7543 : SlR (Rep.sl E_api_Instr.rep) hf A7541 c7542 a7540.Progs) (hr7546 : SlR E_api_Link.rep hf A7544 c7545 a7540.Links) (hr7549 : SlR E_api_Start.rep hf A7547 c7548 a7540.Starts) (r : Int) (h : model_Way.f a7540 a7550 a7551 = some r) (hS : St B w (l) hf) :
    Calls Tryd.prog 19 #[.agg #[.slice A7541 a7540.Progs.length c7542, .slice A7544 a7540.Links.length c7545, .slice A7547 a7540.Starts.length c7548, .int .u64 a7540.Seed, .int .i64 a7540.End, .int .i64 a7540.Budget], .int .i64 a7550, .int .i64 a7551] w (Ret fun v w => v = .int .i64 r ∧ St B w (l) hf) := by
  have h := Holds.of h
  refine enter (args := [.agg #[.slice A7541 a7540.Progs.length c7542, .slice A7544 a7540.Links.length c7545, .slice A7547 a7540.Starts.length c7548, .int .u64 a7540.Seed, .int .i64 a7540.End, .int .i64 a7540.Budget], .int .i64 a7550, .int .i64 a7551]) Tryd.func19 rfl Tryd.ntmps19 (Nat.le_of_ble_eq_true rfl) ?_
  refine RC.seq ?_
  refine RC.region ?_
  refine RL.e (OW.box (cs := [.slice A7541 a7540.Progs.length c7542, .slice A7544 a7540.Links.length c7545, .slice A7547 a7540.Starts.length c7548, .int .u64 a7540.Seed, .int .i64 a7540.End, .int .i64 a7540.Budget]) hS rfl rfl) rfl rfl ?_
  rintro _ w ⟨b7593, rfl, hS⟩
  have hS : St B w (Cl b7593 [.slice A7541 a7540.Progs.length c7542, .slice A7544 a7540.Links.length c7545, .slice A7547 a7540.Starts.length c7548, .int .u64 a7540.Seed, .int .i64 a7540.End, .int .i64 a7540.Budget] 27 :: l) hf := hS
  refine RL.s (Vl.assign rfl) rfl ?_
  refine RL.nil ?_
  refine RQ.then_n ?_
  refine RC.seq ?_
  refine RC.seq ?_
  refine RC.region ?_
  refine RL.s (Vl.fieldAddr (a'' := ⟨b7593, 1, none⟩) Tryd.underlying27 rfl Tryd.sizeOf23 rfl rfl) rfl ?_
  refine RL.s (Vl.load Tryd.isAgg23 rfl (hS.cell 0 rfl rfl)) rfl ?_
  refine RL.s (Vl.lenSl Tryd.underlying23 rfl) rfl ?_
  refine RL.s (Vl.move rfl) rfl ?_
  refine RL.nil ?_
  refine RQ.then_n ?_
  refine RC.block ?_
  refine fun a ha => RC.loop (N := 29) (body := (model_Way.l2b a7540 a7550 a7551)) (φ := (· = r)) (fun (s : Int) a w => ∃ (x7605 : Int), s = (x7605) ∧ Has 29 [(1, .int .i64 a7550), (2, .int .i64 a7551), (10, .slice A7544 a7540.Links.length c7545), (11, .int .i64 (a7540.Links.length : Int)), (12, .int .i64 x7605)] a ∧ St B w (l) hf) ?_ (s0 := (0)) h ⟨0, rfl, ha.to ⟨rfl, rfl, rfl, rfl, rfl, trivial⟩, (hS.dropAt 0 rfl)⟩
  rintro G7619 x7605 a w ⟨_, rfl, ha, hS⟩ h
  revert a
  show RC _ _ _ _ _ _
  refine RC.seq ?_
  refine RC.region ?_
  refine RL.s (Vl.int rfl rfl rfl) rfl ?_
  refine RL.nil ?_
  refine RQ.then_n ?_
  refine RC.seq ?_
  by_cases hc7621 : x7605 < (a7540.Links.length : Int)
  case pos =>
    have h := h.pos hc7621
    refine RC.re 13 rfl (congrArg Value.bool (decide_eq_true hc7621)) ?_
    refine RC.condT rfl ?_
    refine RC.skip ?_
    refine RQ.then_n ?_
    refine RC.seq ?_
    refine RC.block ?_
    refine RC.seq ?_
    refine RC.region ?_
    refine RL.s (Vl.move rfl) rfl ?_
    obtain ⟨hq7627, h⟩ := h.req
    refine RL.s (Vl.indexAddr Tryd.underlying23 Tryd.sizeOf37 rfl rfl ((hr7546.2.world hS.sub).adr hq7627 hc7621) hq7627 hc7621 rfl) rfl ?_
    refine RL.s (Vl.loadA Tryd.isAgg37 Tryd.sizeOf37 rfl rfl ((hr7546.2.world hS.sub).cells hq7627 hc7621)) rfl ?_
    refine RL.e (OW.alloc (cs := [.int .i64 0, .int .i64 0, .int .i64 0, .bool false]) hS Tryd.zeroValue37 rfl) rfl rfl ?_
    rintro _ w ⟨b7629, rfl, hS⟩
    have hS : St B w (Cl b7629 [.int .i64 0, .int .i64 0, .int .i64 0, .bool false] 37 :: l) hf := hS
    refine RL.s (Vl.assign rfl) rfl ?_
    refine RL.e0 (OW.store (cs := [.int .i64 0, .int .i64 0, .int .i64 0, .bool false]) (vs := [.int .i64 ((nth a7540.Links x7605).From), .int .i64 ((nth a7540.Links x7605).To), .int .i64 ((nth a7540.Links x7605).Look), .bool ((nth a7540.Links x7605).Loose)]) (l' := Cl b7629 [.int .i64 ((nth a7540.Links x7605).From), .int .i64 ((nth a7540.Links x7605).To), .int .i64 ((nth a7540.Links x7605).Look), .bool ((nth a7540.Links x7605).Loose)] 37 :: l) 0 hS rfl rfl rfl rfl Tryd.sizeOf37 rfl rfl rfl rfl) rfl ?_
    rintro _ w ⟨rfl, hS⟩
    have hS : St B w (Cl b7629 [.int .i64 ((nth a7540.Links x7605).From), .int .i64 ((nth a7540.Links x7605).To), .int .i64 ((nth a7540.Links x7605).Look), .bool ((nth a7540.Links x7605).Loose)] 37 :: l) hf := hS
    refine RL.nil ?_
    refine RQ.then_n ?_
    refine RC.seq ?_
    refine RC.region ?_
    refine RL.s (Vl.fieldAddr (a'' := ⟨b7629, 0, none⟩) Tryd.underlying37 rfl Tryd.sizeOf3 rfl rfl) rfl ?_
    refine RL.s (Vl.load Tryd.isAgg3 rfl (hS.cell 0 rfl rfl)) rfl ?_
    refine RL.s (Vl.move rfl) rfl ?_
    refine RL.s (Vl.int rfl rfl rfl) rfl ?_
    refine RL.s (Vl.move rfl) rfl ?_
    by_cases hc7630 : (nth a7540.Links x7605).From = a7550
    case pos =>
      have h := h.pos hc7630
      refine RL.re 21 rfl (congrArg Value.bool (decide_eq_true hc7630)) ?_
      refine RL.sg (Vl.fieldAddr (a'' := ⟨b7629, 1, none⟩) Tryd.underlying37 rfl Tryd.sizeOf3 rfl rfl) rfl rfl ?_
      refine RL.sg (Vl.load Tryd.isAgg3 rfl (hS.cell 0 rfl rfl)) rfl rfl ?_
      refine RL.sg (Vl.move rfl) rfl rfl ?_
      refine RL.sg (Vl.int rfl rfl rfl) rfl rfl ?_
      refine RL.s (Vl.pickT rfl rfl) rfl ?_
      refine RL.nil ?_
      refine RQ.then_n ?_
      by_cases hc7631 : (nth a7540.Links x7605).To = a7551
      case pos =>
        have h := h.pos hc7631
        refine RC.re 26 rfl (congrArg Value.bool (decide_eq_true hc7631)) ?_
        refine RC.condT rfl ?_
        refine RC.seq ?_
        refine RC.region ?_
        refine RL.s (Vl.move rfl) rfl ?_
        refine RL.s (Vl.assign rfl) rfl ?_
        refine RL.nil ?_
        refine RQ.then_n ?_
        refine RC.ret ?_
        refine RQ.inB_ret ?_
        refine RQ.ret ?_
        have h := h.inrS
        refine RQ.ret ?_
        refine RQ.inB_ret ?_
        refine RQ.ret ?_
        have e := h.some
        subst e
        refine RQ.ret0 (vs := [.int .i64 x7605]) Tryd.results19 ⟨rfl, trivial⟩ ?_
        exact ⟨rfl, (hS.dropAt 0 rfl)⟩
      case neg =>
        have h := h.neg hc7631
        refine RC.re 26 rfl (congrArg Value.bool (decide_eq_false hc7631)) ?_
        refine RC.condF rfl ?_
        refine RC.skip ?_
        refine RQ.inB_n ?_
        refine RQ.then_n ?_
        refine RC.region ?_
        refine RL.s (Vl.int rfl rfl rfl) rfl ?_
        refine RL.s (Vl.move rfl) rfl ?_
        refine RL.nil ?_
        exact fun a ha => ⟨(IntKind.i64.wrap (x7605 + 1)), ⟨(IntKind.i64.wrap (x7605 + 1)), rfl, ha.to ⟨rfl, rfl, rfl, rfl, rfl, trivial⟩, (hS.dropAt 0 rfl)⟩, h.some⟩
    case neg =>
      have h := h.neg hc7630
      refine RL.re 21 rfl (congrArg Value.bool (decide_eq_false hc7630)) ?_
      refine RL.nn rfl rfl ?_
      refine RL.nn rfl rfl ?_
      refine RL.nn rfl rfl ?_
      refine RL.nn rfl rfl ?_
      refine RL.s (Vl.pickF rfl rfl) rfl ?_
      refine RL.nil ?_
      refine RQ.then_n ?_
      refine RC.condF rfl ?_
      refine RC.skip ?_
      refine RQ.inB_n ?_
      refine RQ.then_n ?_
      refine RC.region ?_
      refine RL.s (Vl.int rfl rfl rfl) rfl ?_
      refine RL.s (Vl.move rfl) rfl ?_
      refine RL.nil ?_
      exact fun a ha => ⟨(IntKind.i64.wrap (x7605 + 1)), ⟨(IntKind.i64.wrap (x7605 + 1)), rfl, ha.to ⟨rfl, rfl, rfl, rfl, rfl, trivial⟩, (hS.dropAt 0 rfl)⟩, h.some⟩
  case neg =>
    have h := h.neg hc7621
    refine RC.re 13 rfl (congrArg Value.bool (decide_eq_false hc7621)) ?_
    refine RC.condF rfl ?_
    refine RC.exit ?_
    refine RQ.exitT ?_
    have h := h.inrS
    refine RQ.exitT ?_
    refine RQ.inB_hit ?_
    refine RQ.then_n ?_
    refine RC.seq ?_
    refine RC.region ?_
    refine RL.s (Vl.assign rfl) rfl ?_
    refine RL.nil ?_
    refine RQ.then_n ?_
    refine RC.ret ?_
    have e := h.some
    subst e
    refine RQ.ret0 (vs := [.int .i64 (-1)]) Tryd.results19 ⟨rfl, trivial⟩ ?_
    exact ⟨rfl, hS⟩

/-! ### isochron/isochronlaw13.ModelWhole: function 8 -/
noncomputable def isochronlaw13vModelWhole.l28b (a7284 : api_Model) (x9900 : Int) (x9901 : Int) (x9902 : Int) (y10254 : List api_Link) (t10291 : List Int) (t10296 : List Int) : Int → Option ((Int) ⊕ ((Int × Int × Int) ⊕ (Bool)))
  | (x10320) => (if x10320 < (t10291.length : Int) then (if 0 ≤ x10320 then (if 0 ≤ nth t10291 x10320 ∧ nth t10291 x10320 < (a7284.Links.length : Int) then (if (nth a7284.Links (nth t10291 x10320)).From = x9902 then ((model_Way.f a7284 x9902 ((nth a7284.Links (nth t10291 x10320)).To)).bind fun t10358 => (if t10358 = nth t10291 x10320 then (if x10320 < (y10254.length : Int) then (if (⟨(nth y10254 x10320).From, (nth y10254 x10320).To, (nth y10254 x10320).Look, ((nth y10254 x10320).Loose)⟩ : api_Link) = (⟨(nth a7284.Links (nth t10291 x10320)).From, (nth a7284.Links (nth t10291 x10320)).To, (nth a7284.Links (nth t10291 x10320)).Look, ((nth a7284.Links (nth t10291 x10320)).Loose)⟩ : api_Link) then some (.inl (IntKind.i64.wrap (x10320 + 1))) else some (.inr (.inr false))) else none) else some (.inr (.inr false)))) else some (.inr (.inr false))) else none) else none) else some (.inr (.inl (IntKind.i64.wrap (x9900 + (t10291.length : Int)), IntKind.i64.wrap (x9901 + (t10296.length : Int)), IntKind.i64.wrap (x9902 + 1)))))
noncomputable def isochronlaw13vModelWhole.l28 (a7284 : api_Model) (x9900 : Int) (x9901 : Int) (x9902 : Int) (y10254 : List api_Link) (t10291 : List Int) (t10296 : List Int) (s : Int) : Option ((Int × Int × Int) ⊕ (Bool)) := loopR (isochronlaw13vModelWhole.l28b a7284 x9900 x9901 x9902 y10254 t10291 t10296) s
noncomputable def isochronlaw13vModelWhole.l26b (a7284 : api_Model) : Int × Int × Int → Option ((Int × Int × Int) ⊕ (Bool))
  | (x9900, x9901, x9902) => (if x9902 < (a7284.Progs.length : Int) then ((model_World.f a7284 x9902).bind fun (y10252, y10253, y10254, y10255, y10256) => (if y10256 = 0 then ((vm_Check.f (⟨y10252, y10253, y10254, y10255⟩ : api_World)).bind fun t10287 => (if t10287 = 0 then (if y10253 = x9902 then ((model_Ways.f a7284 x9902).bind fun t10291 => ((model_Into.f a7284 x9902).bind fun t10296 => isochronlaw13vModelWhole.l28 a7284 x9900 x9901 x9902 y10254 t10291 t10296 (0))) else some (.inr false)) else some (.inr false))) else some (.inr false))) else (Option.map Sum.inr (if x9900 = (a7284.Links.length : Int) then some (decide (x9901 = (a7284.Links.length : Int))) else some false)))
noncomputable def isochronlaw13vModelWhole.l26 (a7284 : api_Model) (s : Int × Int × Int) : Option (Bool) := loopR (isochronlaw13vModelWhole.l26b a7284) s
noncomputable def isochronlaw13vModelWhole.f (a7284 : api_Model) : Option (Bool) := ((model_Check.f a7284).bind fun t8972 => (if t8972 = 0 then isochronlaw13vModelWhole.l26 a7284 (0, 0, 0) else ((isochronlaw13vawake.f).bind fun t10364 => some t10364)))
set_option maxRecDepth 100000 in
set_option maxHeartbeats 4000000 in
theorem isochronlaw13vModelWhole.ok {B : Base} {w : World} {l : List HProp} {hf : Hp} (a7284 : api_Model) (A7285 : Option Addr) (c7286 : Nat) (A7288 : Option Addr) (c7289 : Nat) (A7291 : Option Addr) (c7292 : Nat) (hr7287 : SlR (Rep.sl E_api_Instr.rep) hf A7285 c7286 a7284.Progs) (hr7290 : SlR E_api_Link.rep hf A7288 c7289 a7284.Links) (hr7293 : SlR E_api_Start.rep hf A7291 c7292 a7284.Starts) (hG0 : GlobAt hf 0 (.iface 96 (.agg #[.pointer (some ⟨1, 66, none⟩)]))) (r : Bool) (h : isochronlaw13vModelWhole.f a7284 = some r) (hS : St B w (l) hf) :
    Calls Tryd.prog 8 #[.agg #[.slice A7285 a7284.Progs.length c7286, .slice A7288 a7284.Links.length c7289, .slice A7291 a7284.Starts.length c7292, .int .u64 a7284.Seed, .int .i64 a7284.End, .int .i64 a7284.Budget]] w (Ret fun v w => v = .bool r ∧ St B w (l) hf) := by
  have h := Holds.of h
  refine enter (args := [.agg #[.slice A7285 a7284.Progs.length c7286, .slice A7288 a7284.Links.length c7289, .slice A7291 a7284.Starts.length c7292, .int .u64 a7284.Seed, .int .i64 a7284.End, .int .i64 a7284.Budget]]) Tryd.func8 rfl Tryd.ntmps8 (Nat.le_of_ble_eq_true rfl) ?_
  refine RC.seq ?_
  refine RC.region ?_
  refine RL.e (OW.box (cs := [.slice A7285 a7284.Progs.length c7286, .slice A7288 a7284.Links.length c7289, .slice A7291 a7284.Starts.length c7292, .int .u64 a7284.Seed, .int .i64 a7284.End, .int .i64 a7284.Budget]) hS rfl rfl) rfl rfl ?_
  rintro _ w ⟨b8966, rfl, hS⟩
  have hS : St B w (Cl b8966 [.slice A7285 a7284.Progs.length c7286, .slice A7288 a7284.Links.length c7289, .slice A7291 a7284.Starts.length c7292, .int .u64 a7284.Seed, .int .i64 a7284.End, .int .i64 a7284.Budget] 27 :: l) hf := hS
  refine RL.s (Vl.assign rfl) rfl ?_
  refine RL.nil ?_
  refine RQ.then_n ?_
  refine RC.seq ?_
  refine RC.seq ?_
  refine RC.region ?_
  refine RL.s (Vl.loadA (vs := [.slice A7285 a7284.Progs.length c7286, .slice A7288 a7284.Links.length c7289, .slice A7291 a7284.Starts.length c7292, .int .u64 a7284.Seed, .int .i64 a7284.End, .int .i64 a7284.Budget]) Tryd.isAgg27 Tryd.sizeOf27 rfl rfl (hS.cellsAt 0 rfl rfl)) rfl ?_
  obtain ⟨t8972, hg8973, h⟩ := h.bind
  refine RL.e (OW.callF (ls := [.tmp 10]) rfl Tryd.call9 (model_Check.ok a7284 A7285 c7286 A7288 c7289 A7291 c7292 hr7287 hr7290 hr7293 hG0 _ hg8973 hS)) rfl rfl ?_
  rintro _ w ⟨rfl, hS⟩
  have hS : St B w (Cl b8966 [.slice A7285 a7284.Progs.length c7286, .slice A7288 a7284.Links.length c7289, .slice A7291 a7284.Starts.length c7292, .int .u64 a7284.Seed, .int .i64 a7284.End, .int .i64 a7284.Budget] 27 :: l) hf := hS
  refine RL.s (Vl.int rfl rfl rfl) rfl ?_
  refine RL.nil ?_
  refine RQ.then_n ?_
  by_cases hc8974 : t8972 = 0
  case pos =>
    have h := h.pos hc8974
    refine RC.re 12 rfl (congrArg Value.bool (notdec_pos hc8974)) ?_
    refine RC.condF rfl ?_
    refine RC.skip ?_
    refine RQ.then_n ?_
    refine RC.seq ?_
    refine RC.region ?_
    refine RL.s (Vl.assign rfl) rfl ?_
    refine RL.nil ?_
    refine RQ.then_n ?_
    refine RC.seq ?_
    refine RC.region ?_
    refine RL.s (Vl.assign rfl) rfl ?_
    refine RL.nil ?_
    refine RQ.then_n ?_
    refine RC.seq ?_
    refine RC.seq ?_
    refine RC.region ?_
    refine RL.s (Vl.assign rfl) rfl ?_
    refine RL.nil ?_
    refine RQ.then_n ?_
    refine RC.block ?_
    refine fun a ha => RC.loop (N := 117) (body := (isochronlaw13vModelWhole.l26b a7284)) (φ := (· = r)) (fun (s : Int × Int × Int) a w => ∃ (x9900 : Int) (x9901 : Int) (x9902 : Int), s = (x9900, x9901, x9902) ∧ Has 117 [(1, .pointer (some ⟨b8966, 0, none⟩)), (3, .int .i64 x9900), (4, .int .i64 x9901), (5, .int .i64 x9902)] a ∧ St B w (Cl b8966 [.slice A7285 a7284.Progs.length c7286, .slice A7288 a7284.Links.length c7289, .slice A7291 a7284.Starts.length c7292, .int .u64 a7284.Seed, .int .i64 a7284.End, .int .i64 a7284.Budget] 27 :: l) hf) ?_ (s0 := (0, 0, 0)) h ⟨0, 0, 0, rfl, ha.to ⟨rfl, rfl, rfl, rfl, trivial⟩, hS⟩
    rintro G10134 _ a w ⟨x9900, x9901, x9902, rfl, ha, hS⟩ h
    revert a
    show RC _ _ _ _ _ _
    refine RC.seq ?_
    refine RC.seq ?_
    refine RC.region ?_
    refine RL.s (Vl.move rfl) rfl ?_
    refine RL.s (Vl.fieldAddr (a'' := ⟨b8966, 0, none⟩) Tryd.underlying27 rfl Tryd.sizeOf22 rfl rfl) rfl ?_
    refine RL.s (Vl.load Tryd.isAgg22 rfl (hS.cell 0 rfl rfl)) rfl ?_
    refine RL.s (Vl.lenSl Tryd.underlying22 rfl) rfl ?_
    refine RL.s (Vl.int rfl rfl rfl) rfl ?_
    refine RL.nil ?_
    refine RQ.then_n ?_
    by_cases hc10136 : x9902 < (a7284.Progs.length : Int)
    case pos =>
      have h := h.pos hc10136
      refine RC.re 18 rfl (congrArg Value.bool (decide_eq_true hc10136)) ?_
      refine RC.condT rfl ?_
      refine RC.skip ?_
      refine RQ.then_n ?_
      refine RC.seq ?_
      refine RC.block ?_
      refine RC.seq ?_
      refine RC.region ?_
      refine RL.s (Vl.loadA (vs := [.slice A7285 a7284.Progs.length c7286, .slice A7288 a7284.Links.length c7289, .slice A7291 a7284.Starts.length c7292, .int .u64 a7284.Seed, .int .i64 a7284.End, .int .i64 a7284.Budget]) Tryd.isAgg27 Tryd.sizeOf27 rfl rfl (hS.cellsAt 0 rfl rfl)) rfl ?_
      refine RL.s (Vl.move rfl) rfl ?_
      obtain ⟨t10250, hg10251, h⟩ := h.bind
      obtain ⟨y10252, y10253, y10254, y10255, y10256⟩ := t10250
      refine RL.e (OW.callF (ls := [.tmp 22, .tmp 23]) rfl Tryd.call16 (model_World.ok a7284 x9902 A7285 c7286 A7288 c7289 A7291 c7292 hr7287 hr7290 hr7293 hG0 _ hg10251 hS)) rfl rfl ?_
      rintro _ w ⟨A10257, c10258, A10260, c10261, rfl, hS⟩
      have hS : St B w (OSf E_api_Instr 34 (.slice A10257 y10252.length c10258) y10252 :: OSf E_api_Link 37 (.slice A10260 y10254.length c10261) y10254 :: Cl b8966 [.slice A7285 a7284.Progs.length c7286, .slice A7288 a7284.Links.length c7289, .slice A7291 a7284.Starts.length c7292, .int .u64 a7284.Seed, .int .i64 a7284.End, .int .i64 a7284.Budget] 27 :: l) hf := hS
      refine RL.s (Vl.move rfl) rfl ?_
      refine RL.s (Vl.extract rfl rfl) rfl ?_
      refine RL.s (Vl.extract rfl rfl) rfl ?_
      refine RL.e (OW.alloc (cs := [.slice none 0 0, .int .i64 0, .slice none 0 0, .int .u64 0]) hS Tryd.zeroValue51 rfl) rfl rfl ?_
      rintro _ w ⟨b10264, rfl, hS⟩
      have hS : St B w (Cl b10264 [.slice none 0 0, .int .i64 0, .slice none 0 0, .int .u64 0] 51 :: OSf E_api_Instr 34 (.slice A10257 y10252.length c10258) y10252 :: OSf E_api_Link 37 (.slice A10260 y10254.length c10261) y10254 :: Cl b8966 [.slice A7285 a7284.Progs.length c7286, .slice A7288 a7284.Links.length c7289, .slice A7291 a7284.Starts.length c7292, .int .u64 a7284.Seed, .int .i64 a7284.End, .int .i64 a7284.Budget] 27 :: l) hf := hS
      refine RL.e0 (OW.store (cs := [.slice none 0 0, .int .i64 0, .slice none 0 0, .int .u64 0]) (vs := [.slice A10257 y10252.length c10258, .int .i64 y10253, .slice A10260 y10254.length c10261, .int .u64 y10255]) (l' := Cl b10264 [.slice A10257 y10252.length c10258, .int .i64 y10253, .slice A10260 y10254.length c10261, .int .u64 y10255] 51 :: OSf E_api_Instr 34 (.slice A10257 y10252.length c10258) y10252 :: OSf E_api_Link 37 (.slice A10260 y10254.length c10261) y10254 :: Cl b8966 [.slice A7285 a7284.Progs.length c7286, .slice A7288 a7284.Links.length c7289, .slice A7291 a7284.Starts.length c7292, .int .u64 a7284.Seed, .int .i64 a7284.End, .int .i64 a7284.Budget] 27 :: l) 0 hS rfl rfl rfl rfl Tryd.sizeOf51 rfl rfl rfl rfl) rfl ?_
      rintro _ w ⟨rfl, hS⟩
      have hS : St B w (Cl b10264 [.slice A10257 y10252.length c10258, .int .i64 y10253, .slice A10260 y10254.length c10261, .int .u64 y10255] 51 :: OSf E_api_Instr 34 (.slice A10257 y10252.length c10258) y10252 :: OSf E_api_Link 37 (.slice A10260 y10254.length c10261) y10254 :: Cl b8966 [.slice A7285 a7284.Progs.length c7286, .slice A7288 a7284.Links.length c7289, .slice A7291 a7284.Starts.length c7292, .int .u64 a7284.Seed, .int .i64 a7284.End, .int .i64 a7284.Budget] 27 :: l) hf := hS
      refine RL.s (Vl.assign rfl) rfl ?_
      refine RL.nil ?_
      refine RQ.then_n ?_
      refine RC.seq ?_
      refine RC.seq ?_
      refine RC.region ?_
      refine RL.s (Vl.move rfl) rfl ?_
      refine RL.s (Vl.int rfl rfl rfl) rfl ?_
      refine RL.s (Vl.move rfl) rfl ?_
      by_cases hc10278 : y10256 = 0
      case pos =>
        have h := h.pos hc10278
        refine RL.re 29 rfl (congrArg Value.bool (notdec_pos hc10278)) ?_
        refine RL.sg (Vl.loadA (vs := [.slice A10257 y10252.length c10258, .int .i64 y10253, .slice A10260 y10254.length c10261, .int .u64 y10255]) Tryd.isAgg51 Tryd.sizeOf51 rfl rfl (hS.cellsAt 0 rfl rfl)) rfl rfl ?_
        obtain ⟨hf10282, hs10280, hS, hr10279, hb10281⟩ := St.lendSl ((((hS.pull 3 rfl rfl).pull 1 rfl rfl).pull 3 rfl rfl).pull 3 rfl rfl)
        obtain ⟨hf10286, hs10284, hS, hr10283, hb10285⟩ := St.lendSl hS
        obtain ⟨t10287, hg10288, h⟩ := h.bind
        refine RL.e (OW.callF (ls := [.tmp 30]) rfl Tryd.call18 (vm_Check.ok (⟨y10252, y10253, y10254, y10255⟩ : api_World) A10257 c10258 A10260 c10261 (hr10279.mono hs10284) hr10283 _ hg10288 hS)) rfl rfl ?_
        rintro _ w ⟨rfl, hS⟩
        have hS := hb10285 _ _ hS
        have hS := hb10281 _ _ hS
        have hS : St B w (OSf E_api_Instr 34 (.slice A10257 y10252.length c10258) y10252 :: OSf E_api_Link 37 (.slice A10260 y10254.length c10261) y10254 :: Cl b10264 [.slice A10257 y10252.length c10258, .int .i64 y10253, .slice A10260 y10254.length c10261, .int .u64 y10255] 51 :: Cl b8966 [.slice A7285 a7284.Progs.length c7286, .slice A7288 a7284.Links.length c7289, .slice A7291 a7284.Starts.length c7292, .int .u64 a7284.Seed, .int .i64 a7284.End, .int .i64 a7284.Budget] 27 :: l) hf := hS
        refine RL.sg (Vl.int rfl rfl rfl) rfl rfl ?_
        refine RL.s (Vl.pickF rfl rfl) rfl ?_
        refine RL.s (Vl.move rfl) rfl ?_
        by_cases hc10289 : t10287 = 0
        case pos =>
          have h := h.pos hc10289
          refine RL.re 34 rfl (congrArg Value.bool (notdec_pos hc10289)) ?_
          refine RL.sg (Vl.fieldAddr (a'' := ⟨b10264, 1, none⟩) Tryd.underlying51 rfl Tryd.sizeOf3 rfl rfl) rfl rfl ?_
          refine RL.sg (Vl.load Tryd.isAgg3 rfl (hS.cell 2 rfl rfl)) rfl rfl ?_
          refine RL.sg (Vl.move rfl) rfl rfl ?_
          refine RL.sg (Vl.int rfl rfl rfl) rfl rfl ?_
          refine RL.s (Vl.pickF rfl rfl) rfl ?_
          refine RL.nil ?_
          refine RQ.then_n ?_
          by_cases hc10290 : y10253 = x9902
          case pos =>
            have h := h.pos hc10290
            refine RC.re 39 rfl (congrArg Value.bool (notdec_pos hc10290)) ?_
            refine RC.condF rfl ?_
            refine RC.skip ?_
            refine RQ.then_n ?_
            refine RC.seq ?_
            refine RC.region ?_
            refine RL.s (Vl.loadA (vs := [.slice A7285 a7284.Progs.length c7286, .slice A7288 a7284.Links.length c7289, .slice A7291 a7284.Starts.length c7292, .int .u64 a7284.Seed, .int .i64 a7284.End, .int .i64 a7284.Budget]) Tryd.isAgg27 Tryd.sizeOf27 rfl rfl (hS.cellsAt 3 rfl rfl)) rfl ?_
            refine RL.s (Vl.move rfl) rfl ?_
            obtain ⟨t10291, hg10292, h⟩ := h.bind
            refine RL.e (OW.callF (ls := [.tmp 40, .tmp 41]) rfl Tryd.call14 (model_Ways.ok a7284 x9902 A7285 c7286 A7288 c7289 A7291 c7292 hr7287 hr7290 hr7293 _ hg10292 hS)) rfl rfl ?_
            rintro _ w ⟨A10293, c10294, rfl, hS⟩
            have hS : St B w (OSf (FI .i64) 3 (.slice A10293 t10291.length c10294) t10291 :: OSf E_api_Instr 34 (.slice A10257 y10252.length c10258) y10252 :: OSf E_api_Link 37 (.slice A10260 y10254.length c10261) y10254 :: Cl b10264 [.slice A10257 y10252.length c10258, .int .i64 y10253, .slice A10260 y10254.length c10261, .int .u64 y10255] 51 :: Cl b8966 [.slice A7285 a7284.Progs.length c7286, .slice A7288 a7284.Links.length c7289, .slice A7291 a7284.Starts.length c7292, .int .u64 a7284.Seed, .int .i64 a7284.End, .int .i64 a7284.Budget] 27 :: l) hf := hS
            refine RL.s (Vl.assign rfl) rfl ?_
            refine RL.nil ?_
            refine RQ.then_n ?_
            refine RC.seq ?_
            refine RC.region ?_
            refine RL.s (Vl.move rfl) rfl ?_
            refine RL.s (Vl.move rfl) rfl ?_
            refine RL.s (Vl.lenSl Tryd.underlying47 rfl) rfl ?_
            refine RL.s (Vl.int rfl rfl rfl) rfl ?_
            refine RL.s (Vl.assign rfl) rfl ?_
            refine RL.nil ?_
            refine RQ.then_n ?_
            refine RC.seq ?_
            refine RC.region ?_
            refine RL.s (Vl.move rfl) rfl ?_
            refine RL.s (Vl.loadA (vs := [.slice A7285 a7284.Progs.length c7286, .slice A7288 a7284.Links.length c7289, .slice A7291 a7284.Starts.length c7292, .int .u64 a7284.Seed, .int .i64 a7284.End, .int .i64 a7284.Budget]) Tryd.isAgg27 Tryd.sizeOf27 rfl rfl (hS.cellsAt 4 rfl rfl)) rfl ?_
            refine RL.s (Vl.move rfl) rfl ?_
            obtain ⟨t10296, hg10297, h⟩ := h.bind
            refine RL.e (OW.callF (ls := [.tmp 48, .tmp 49]) rfl Tryd.call15 (model_Into.ok a7284 x9902 A7285 c7286 A7288 c7289 A7291 c7292 hr7287 hr7290 hr7293 _ hg10297 hS)) rfl rfl ?_
            rintro _ w ⟨A10298, c10299, rfl, hS⟩
            have hS : St B w (OSf (FI .i64) 3 (.slice A10298 t10296.length c10299) t10296 :: OSf (FI .i64) 3 (.slice A10293 t10291.length c10294) t10291 :: OSf E_api_Instr 34 (.slice A10257 y10252.length c10258) y10252 :: OSf E_api_Link 37 (.slice A10260 y10254.length c10261) y10254 :: Cl b10264 [.slice A10257 y10252.length c10258, .int .i64 y10253, .slice A10260 y10254.length c10261, .int .u64 y10255] 51 :: Cl b8966 [.slice A7285 a7284.Progs.length c7286, .slice A7288 a7284.Links.length c7289, .slice A7291 a7284.Starts.length c7292, .int .u64 a7284.Seed, .int .i64 a7284.End, .int .i64 a7284.Budget] 27 :: l) hf := hS
            refine RL.s (Vl.lenSl Tryd.underlying47 rfl) rfl ?_
            refine RL.s (Vl.int rfl rfl rfl) rfl ?_
            refine RL.s (Vl.assign rfl) rfl ?_
            refine RL.nil ?_
            refine RQ.then_n ?_
            refine RC.seq ?_
            refine RC.region ?_
            refine RL.s (Vl.assign rfl) rfl ?_
            refine RL.nil ?_
            refine RQ.then_n ?_
            refine RC.block ?_
            refine fun a ha => RC.loop (N := 117) (body := (isochronlaw13vModelWhole.l28b a7284 x9900 x9901 x9902 y10254 t10291 t10296)) (φ := (Sum.elim G10134 (· = r))) (fun (s : Int) a w => ∃ (x10320 : Int), s = (x10320) ∧ Has 117 [(1, .pointer (some ⟨b8966, 0, none⟩)), (3, .int .i64 (IntKind.i64.wrap (x9900 + (t10291.length : Int)))), (4, .int .i64 (IntKind.i64.wrap (x9901 + (t10296.length : Int)))), (5, .int .i64 x9902), (6, .pointer (some ⟨b10264, 0, none⟩)), (8, .slice A10293 t10291.length c10294), (9, .int .i64 x10320), (30, .agg #[.slice A10257 y10252.length c10258, .int .i64 y10253, .slice A10260 y10254.length c10261, .int .u64 y10255]), (31, .int .i64 t10287), (32, .bool (!decide (t10287 = 0))), (35, .pointer (some ⟨b10264, 1, none⟩)), (36, .int .i64 y10253), (37, .int .i64 x9902), (38, .bool (!decide (y10253 = x9902)))] a ∧ St B w (OSf E_api_Instr 34 (.slice A10257 y10252.length c10258) y10252 :: OSf E_api_Link 37 (.slice A10260 y10254.length c10261) y10254 :: OSf (FI .i64) 3 (.slice A10293 t10291.length c10294) t10291 :: Cl b10264 [.slice A10257 y10252.length c10258, .int .i64 y10253, .slice A10260 y10254.length c10261, .int .u64 y10255] 51 :: Cl b8966 [.slice A7285 a7284.Progs.length c7286, .slice A7288 a7284.Links.length c7289, .slice A7291 a7284.Starts.length c7292, .int .u64 a7284.Seed, .int .i64 a7284.End, .int .i64 a7284.Budget] 27 :: l) hf) ?_ (s0 := (0)) h ⟨0, rfl, ha.to ⟨rfl, rfl, rfl, rfl, rfl, rfl, rfl, rfl, rfl, rfl, rfl, rfl, rfl, rfl, trivial⟩, ((((((hS.dropAt 0 rfl).pull 4 rfl rfl).pull 4 rfl rfl).pull 2 rfl rfl).pull 4 rfl rfl).pull 4 rfl rfl)⟩
            rintro G10342 x10320 a w ⟨_, rfl, ha, hS⟩ h
            revert a
            show RC _ _ _ _ _ _
            refine RC.seq ?_
            refine RC.seq ?_
            refine RC.region ?_
            refine RL.s (Vl.move rfl) rfl ?_
            refine RL.s (Vl.move rfl) rfl ?_
            refine RL.s (Vl.lenSl Tryd.underlying47 rfl) rfl ?_
            refine RL.s (Vl.int rfl rfl rfl) rfl ?_
            refine RL.nil ?_
            refine RQ.then_n ?_
            by_cases hc10344 : x10320 < (t10291.length : Int)
            case pos =>
              have h := h.pos hc10344
              refine RC.re 56 rfl (congrArg Value.bool (decide_eq_true hc10344)) ?_
              refine RC.condT rfl ?_
              refine RC.skip ?_
              refine RQ.then_n ?_
              refine RC.seq ?_
              refine RC.block ?_
              refine RC.seq ?_
              refine RC.plan (.cons 0 true (.cons 1 true (.cons 2 true (.cons 3 true (.cons 4 true (.cons 5 true (.cons 6 true (.cons 7 true (.cons 8 true (.cons 9 true (.cons 10 true (.cons 11 true (.cons 12 true (.cons 13 true (.cons 14 true (.cons 15 true (.cons 16 true (.cons 17 true (.cons 18 true (.cons 19 true (.cons 20 true (.cons 21 true (.cons 22 true (.cons 24 true (.cons 25 true (.cons 26 true (.cons 27 true (.cons 23 false (.cons 28 true (.cons 29 true (.cons 30 true (.cons 31 true (.cons 32 true (.cons 33 true (.cons 34 true (.cons 35 true (.cons 36 true (.cons 37 true (.cons 38 true (.cons 39 false (.cons 40 false (.cons 41 false (.cons 42 false (.cons 43 false (.cons 44 false (.cons 45 false .nil)))))))))))))))))))))))))))))))))))))))))))))) [] (fun w => St B w (OSf E_api_Instr 34 (.slice A10257 y10252.length c10258) y10252 :: OSf E_api_Link 37 (.slice A10260 y10254.length c10261) y10254 :: OSf (FI .i64) 3 (.slice A10293 t10291.length c10294) t10291 :: Cl b10264 [.slice A10257 y10252.length c10258, .int .i64 y10253, .slice A10260 y10254.length c10261, .int .u64 y10255] 51 :: Cl b8966 [.slice A7285 a7284.Progs.length c7286, .slice A7288 a7284.Links.length c7289, .slice A7291 a7284.Starts.length c7292, .int .u64 a7284.Seed, .int .i64 a7284.End, .int .i64 a7284.Budget] 27 :: l) hf) follows rfl (by kernel_rfl) (NoTmp.then (NoTmp.block (NoTmp.then (NoTmp.then (NoTmp.block (NoTmp.block (NoTmp.then (NoTmp.then (NoTmp.block (NoTmp.then NoTmp.body)))))))))) ?_
              have hS := hS.same (w' := { w with drawn := w.drawn + 1 }) rfl rfl
              revert hS
              generalize { w with drawn := w.drawn + 1 } = w
              intro hS
              refine RP.s 0 rfl rfl hS (fun w hS => Vl.fieldAddr (a'' := ⟨b8966, 1, none⟩) Tryd.underlying27 rfl Tryd.sizeOf23 rfl rfl) rfl ?_
              refine RP.s 1 rfl rfl hS (fun w hS => Vl.load Tryd.isAgg23 rfl (hS.cell 4 rfl rfl)) rfl ?_
              refine RP.s 2 rfl rfl hS (fun w hS => Vl.move rfl) rfl ?_
              refine RP.s 3 rfl rfl hS (fun w hS => Vl.move rfl) rfl ?_
              obtain ⟨hq10354, h⟩ := h.req
              refine RP.s 4 rfl rfl hS (fun w hS => Vl.indexAddr Tryd.underlying47 Tryd.sizeOf3 rfl rfl ((hS.slW 2 rfl).2.2.adr hq10354 hc10344) hq10354 hc10344 rfl) rfl ?_
              refine RP.s 5 rfl rfl hS (fun w hS => Vl.load Tryd.isAgg3 rfl ((hS.slW 2 rfl).2.2.cell (j := 0) hq10354 hc10344 rfl)) rfl ?_
              obtain ⟨⟨hq10355, hq10356⟩, h⟩ := h.req
              refine RP.s 6 rfl rfl hS (fun w hS => Vl.indexAddr Tryd.underlying23 Tryd.sizeOf37 rfl rfl ((hr7290.2.world hS.sub).adr hq10355 hq10356) hq10355 hq10356 rfl) rfl ?_
              refine RP.s 7 rfl rfl hS (fun w hS => Vl.fieldAddr (a'' := (ad A7288).add ((nth t10291 x10320).toNat * 4 + 0)) Tryd.underlying37 rfl Tryd.sizeOf3 rfl (add_add _ _ _)) rfl ?_
              refine RP.s 8 rfl rfl hS (fun w hS => Vl.load Tryd.isAgg3 rfl ((hr7290.2.world hS.sub).cell (j := 0) hq10355 hq10356 rfl)) rfl ?_
              refine RP.s 9 rfl rfl hS (fun w hS => Vl.move rfl) rfl ?_
              refine RP.s 10 rfl rfl hS (fun w hS => Vl.int rfl rfl rfl) rfl ?_
              refine RP.s 11 rfl rfl hS (fun w hS => Vl.move rfl) rfl ?_
              by_cases hc10357 : (nth a7284.Links (nth t10291 x10320)).From = x9902
              case pos =>
                have h := h.pos hc10357
                refine RP.re 70 rfl (congrArg Value.bool (notdec_pos hc10357)) ?_
                refine RP.sg 12 rfl rfl hS (fun w hS => Vl.loadA (vs := [.slice A7285 a7284.Progs.length c7286, .slice A7288 a7284.Links.length c7289, .slice A7291 a7284.Starts.length c7292, .int .u64 a7284.Seed, .int .i64 a7284.End, .int .i64 a7284.Budget]) Tryd.isAgg27 Tryd.sizeOf27 rfl rfl (hS.cellsAt 4 rfl rfl)) rfl rfl ?_
                refine RP.sg 13 rfl rfl hS (fun w hS => Vl.move rfl) rfl rfl ?_
                refine RP.sg 14 rfl rfl hS (fun w hS => Vl.fieldAddr (a'' := ⟨b8966, 1, none⟩) Tryd.underlying27 rfl Tryd.sizeOf23 rfl rfl) rfl rfl ?_
                refine RP.sg 15 rfl rfl hS (fun w hS => Vl.load Tryd.isAgg23 rfl (hS.cell 4 rfl rfl)) rfl rfl ?_
                refine RP.sg 16 rfl rfl hS (fun w hS => Vl.move rfl) rfl rfl ?_
                refine RP.sg 17 rfl rfl hS (fun w hS => Vl.move rfl) rfl rfl ?_
                refine RP.sg 18 rfl rfl hS (fun w hS => Vl.indexAddr Tryd.underlying47 Tryd.sizeOf3 rfl rfl ((hS.slW 2 rfl).2.2.adr hq10354 hc10344) hq10354 hc10344 rfl) rfl rfl ?_
                refine RP.sg 19 rfl rfl hS (fun w hS => Vl.load Tryd.isAgg3 rfl ((hS.slW 2 rfl).2.2.cell (j := 0) hq10354 hc10344 rfl)) rfl rfl ?_
                refine RP.sg 20 rfl rfl hS (fun w hS => Vl.indexAddr Tryd.underlying23 Tryd.sizeOf37 rfl rfl ((hr7290.2.world hS.sub).adr hq10355 hq10356) hq10355 hq10356 rfl) rfl rfl ?_
                refine RP.sg 21 rfl rfl hS (fun w hS => Vl.fieldAddr (a'' := (ad A7288).add ((nth t10291 x10320).toNat * 4 + 1)) Tryd.underlying37 rfl Tryd.sizeOf3 rfl (add_add _ _ _)) rfl rfl ?_
                refine RP.sg 22 rfl rfl hS (fun w hS => Vl.load Tryd.isAgg3 rfl ((hr7290.2.world hS.sub).cell (j := 1) hq10355 hq10356 rfl)) rfl rfl ?_
                refine RP.sg 24 rfl rfl hS (fun w hS => Vl.move rfl) rfl rfl ?_
                refine RP.sg 25 rfl rfl hS (fun w hS => Vl.move rfl) rfl rfl ?_
                refine RP.sg 26 rfl rfl hS (fun w hS => Vl.indexAddr Tryd.underlying47 Tryd.sizeOf3 rfl rfl ((hS.slW 2 rfl).2.2.adr hq10354 hc10344) hq10354 hc10344 rfl) rfl rfl ?_
                refine RP.sg 27 rfl rfl hS (fun w hS => Vl.load Tryd.isAgg3 rfl ((hS.slW 2 rfl).2.2.cell (j := 0) hq10354 hc10344 rfl)) rfl rfl ?_
                obtain ⟨t10358, hg10359, h⟩ := h.bind
                refine RP.e 23 rfl (OW.callF (ls := [.tmp 71, .tmp 72, .tmp 81]) rfl Tryd.call19 (model_Way.ok a7284 x9902 ((nth a7284.Links (nth t10291 x10320)).To) A7285 c7286 A7288 c7289 A7291 c7292 hr7287 hr7290 hr7293 _ hg10359 hS)) rfl rfl ?_
                rintro _ w ⟨rfl, hS⟩
                have hS : St B w (OSf E_api_Instr 34 (.slice A10257 y10252.length c10258) y10252 :: OSf E_api_Link 37 (.slice A10260 y10254.length c10261) y10254 :: OSf (FI .i64) 3 (.slice A10293 t10291.length c10294) t10291 :: Cl b10264 [.slice A10257 y10252.length c10258, .int .i64 y10253, .slice A10260 y10254.length c10261, .int .u64 y10255] 51 :: Cl b8966 [.slice A7285 a7284.Progs.length c7286, .slice A7288 a7284.Links.length c7289, .slice A7291 a7284.Starts.length c7292, .int .u64 a7284.Seed, .int .i64 a7284.End, .int .i64 a7284.Budget] 27 :: l) hf := hS
                refine ⟨fun _ => hS, ?_⟩
                refine RP.sg 28 rfl rfl hS (fun w hS => Vl.int rfl rfl rfl) rfl rfl ?_
                refine RP.s 29 rfl rfl hS (fun w hS => Vl.pickF rfl rfl) rfl ?_
                refine RP.s 30 rfl rfl hS (fun w hS => Vl.move rfl) rfl ?_
                by_cases hc10360 : t10358 = nth t10291 x10320
                case pos =>
                  have h := h.pos hc10360
                  refine RP.re 89 rfl (congrArg Value.bool (notdec_pos hc10360)) ?_
                  refine RP.sg 31 rfl rfl hS (fun w hS => Vl.fieldAddr (a'' := ⟨b10264, 2, none⟩) Tryd.underlying51 rfl Tryd.sizeOf23 rfl rfl) rfl rfl ?_
                  refine RP.sg 32 rfl rfl hS (fun w hS => Vl.load Tryd.isAgg23 rfl (hS.cell 3 rfl rfl)) rfl rfl ?_
                  refine RP.sg 33 rfl rfl hS (fun w hS => Vl.move rfl) rfl rfl ?_
                  obtain ⟨hq10361, h⟩ := h.req
                  refine RP.sg 34 rfl rfl hS (fun w hS => Vl.indexAddr Tryd.underlying23 Tryd.sizeOf37 rfl rfl ((hS.slW 1 rfl).2.2.adr hq10354 hq10361) hq10354 hq10361 rfl) rfl rfl ?_
                  refine RP.sg 35 rfl rfl hS (fun w hS => Vl.loadA Tryd.isAgg37 Tryd.sizeOf37 rfl rfl ((hS.slW 1 rfl).2.2.cells hq10354 hq10361)) rfl rfl ?_
                  refine RP.sg 36 rfl rfl hS (fun w hS => Vl.fieldAddr (a'' := ⟨b8966, 1, none⟩) Tryd.underlying27 rfl Tryd.sizeOf23 rfl rfl) rfl rfl ?_
                  refine RP.sg 37 rfl rfl hS (fun w hS => Vl.load Tryd.isAgg23 rfl (hS.cell 4 rfl rfl)) rfl rfl ?_
                  refine RP.sg 38 rfl rfl hS (fun w hS => Vl.move rfl) rfl rfl ?_
                  refine RP.v1 39 rfl (fun _ => hS) (Vl.move rfl) rfl rfl ?_
                  refine RP.v1 40 rfl (fun _ => hS) (Vl.indexAddr Tryd.underlying47 Tryd.sizeOf3 rfl rfl ((hS.slW 2 rfl).2.2.adr hq10354 hc10344) hq10354 hc10344 rfl) rfl rfl ?_
                  refine RP.v1 41 rfl (fun _ => hS) (Vl.load Tryd.isAgg3 rfl ((hS.slW 2 rfl).2.2.cell (j := 0) hq10354 hc10344 rfl)) rfl rfl ?_
                  refine RP.v1 42 rfl (fun _ => hS) (Vl.indexAddr Tryd.underlying23 Tryd.sizeOf37 rfl rfl ((hr7290.2.world hS.sub).adr hq10355 hq10356) hq10355 hq10356 rfl) rfl rfl ?_
                  refine RP.v1 43 rfl (fun _ => hS) (Vl.loadA Tryd.isAgg37 Tryd.sizeOf37 rfl rfl ((hr7290.2.world hS.sub).cells hq10355 hq10356)) rfl rfl ?_
                  refine RP.v1 44 rfl (fun _ => hS) (Vl.neqS (run_neq_api_Link _ _ (⟨(nth y10254 x10320).From, (nth y10254 x10320).To, (nth y10254 x10320).Look, ((nth y10254 x10320).Loose)⟩ : api_Link) (⟨(nth a7284.Links (nth t10291 x10320)).From, (nth a7284.Links (nth t10291 x10320)).To, (nth a7284.Links (nth t10291 x10320)).Look, ((nth a7284.Links (nth t10291 x10320)).Loose)⟩ : api_Link)) rfl rfl) rfl rfl ?_
                  refine RP.v1 45 rfl (fun _ => hS) (Vl.pickF rfl rfl) rfl rfl ?_
                  refine RP.nil ?_
                  refine RQ.then_n ?_
                  by_cases hc10362 : (⟨(nth y10254 x10320).From, (nth y10254 x10320).To, (nth y10254 x10320).Look, ((nth y10254 x10320).Loose)⟩ : api_Link) = (⟨(nth a7284.Links (nth t10291 x10320)).From, (nth a7284.Links (nth t10291 x10320)).To, (nth a7284.Links (nth t10291 x10320)).Look, ((nth a7284.Links (nth t10291 x10320)).Loose)⟩ : api_Link)
                  case pos =>
                    have h := h.pos hc10362
                    refine RC.re 104 rfl (congrArg Value.bool (notdec_pos hc10362)) ?_
                    refine RC.condF rfl ?_
                    refine RC.skip ?_
                    refine RQ.inB_n ?_
                    refine RQ.then_n ?_
                    refine RC.region ?_
                    refine RL.s (Vl.move rfl) rfl ?_
                    refine RL.s (Vl.int rfl rfl rfl) rfl ?_
                    refine RL.s (Vl.assign rfl) rfl ?_
                    refine RL.nil ?_
                    exact fun a ha => ⟨(IntKind.i64.wrap (x10320 + 1)), ⟨(IntKind.i64.wrap (x10320 + 1)), rfl, ha.to ⟨rfl, rfl, rfl, rfl, rfl, rfl, rfl, rfl, rfl, rfl, rfl, rfl, rfl, rfl, trivial⟩, hS⟩, h.some⟩
                  case neg =>
                    have h := h.neg hc10362
                    refine RC.re 104 rfl (congrArg Value.bool (notdec_neg hc10362)) ?_
                    refine RC.condT rfl ?_
                    refine RC.seq ?_
                    refine RC.region ?_
                    refine RL.s (Vl.assign rfl) rfl ?_
                    refine RL.nil ?_
                    refine RQ.then_n ?_
                    refine RC.ret ?_
                    refine RQ.inB_ret ?_
                    refine RQ.ret ?_
                    have h := h.inrS
                    refine RQ.ret ?_
                    refine RQ.inB_ret ?_
                    refine RQ.inB_ret ?_
                    refine RQ.ret ?_
                    have h := h.inrS
                    refine RQ.ret ?_
                    refine RQ.inB_ret ?_
                    refine RQ.ret ?_
                    have e := h.some
                    subst e
                    refine RQ.ret0 (vs := [.bool false]) Tryd.results8 ⟨rfl, trivial⟩ ?_
                    exact ⟨rfl, (((((hS.dropAt 0 rfl).dropAt 0 rfl).dropAt 0 rfl).dropAt 0 rfl).dropAt 0 rfl)⟩
                case neg =>
                  have h := h.neg hc10360
                  refine RP.re 89 rfl (congrArg Value.bool (notdec_neg hc10360)) ?_
                  refine RP.nn 31 rfl rfl hS rfl rfl ?_
                  refine RP.nn 32 rfl rfl hS rfl rfl ?_
                  refine RP.nn 33 rfl rfl hS rfl rfl ?_
                  refine RP.nn 34 rfl rfl hS rfl rfl ?_
                  refine RP.nn 35 rfl rfl hS rfl rfl ?_
                  refine RP.nn 36 rfl rfl hS rfl rfl ?_
                  refine RP.nn 37 rfl rfl hS rfl rfl ?_
                  refine RP.nn 38 rfl rfl hS rfl rfl ?_
                  refine RP.n1 39 rfl (fun _ => hS) rfl rfl ?_
                  refine RP.n1 40 rfl (fun _ => hS) rfl rfl ?_
                  refine RP.n1 41 rfl (fun _ => hS) rfl rfl ?_
                  refine RP.n1 42 rfl (fun _ => hS) rfl rfl ?_
                  refine RP.n1 43 rfl (fun _ => hS) rfl rfl ?_
                  refine RP.n1 44 rfl (fun _ => hS) rfl rfl ?_
                  refine RP.v1 45 rfl (fun _ => hS) (Vl.pickT rfl rfl) rfl rfl ?_
                  refine RP.nil ?_
                  refine RQ.then_n ?_
                  refine RC.condT rfl ?_
                  refine RC.seq ?_
                  refine RC.region ?_
                  refine RL.s (Vl.assign rfl) rfl ?_
                  refine RL.nil ?_
                  refine RQ.then_n ?_
                  refine RC.ret ?_
                  refine RQ.inB_ret ?_
                  refine RQ.ret ?_
                  have h := h.inrS
                  refine RQ.ret ?_
                  refine RQ.inB_ret ?_
                  refine RQ.inB_ret ?_
                  refine RQ.ret ?_
                  have h := h.inrS
                  refine RQ.ret ?_
                  refine RQ.inB_ret ?_
                  refine RQ.ret ?_
                  have e := h.some
                  subst e
                  refine RQ.ret0 (vs := [.bool false]) Tryd.results8 ⟨rfl, trivial⟩ ?_
                  exact ⟨rfl, (((((hS.dropAt 0 rfl).dropAt 0 rfl).dropAt 0 rfl).dropAt 0 rfl).dropAt 0 rfl)⟩
              case neg =>
                have h := h.neg hc10357
                refine RP.re 70 rfl (congrArg Value.bool (notdec_neg hc10357)) ?_
                refine RP.nn 12 rfl rfl hS rfl rfl ?_
                refine RP.nn 13 rfl rfl hS rfl rfl ?_
                refine RP.nn 14 rfl rfl hS rfl rfl ?_
                refine RP.nn 15 rfl rfl hS rfl rfl ?_
                refine RP.nn 16 rfl rfl hS rfl rfl ?_
                refine RP.nn 17 rfl rfl hS rfl rfl ?_
                refine RP.nn 18 rfl rfl hS rfl rfl ?_
                refine RP.nn 19 rfl rfl hS rfl rfl ?_
                refine RP.nn 20 rfl rfl hS rfl rfl ?_
                refine RP.nn 21 rfl rfl hS rfl rfl ?_
                refine RP.nn 22 rfl rfl hS rfl rfl ?_
                refine RP.nn 24 rfl rfl hS rfl rfl ?_
                refine RP.nn 25 rfl rfl hS rfl rfl ?_
                refine RP.nn 26 rfl rfl hS rfl rfl ?_
                refine RP.nn 27 rfl rfl hS rfl rfl ?_
                refine RP.n1 23 rfl (fun _ => hS) rfl rfl ?_
                refine RP.nn 28 rfl rfl hS rfl rfl ?_
                refine RP.s 29 rfl rfl hS (fun w hS => Vl.pickT rfl rfl) rfl ?_
                refine RP.s 30 rfl rfl hS (fun w hS => Vl.move rfl) rfl ?_
                refine RP.nn 31 rfl rfl hS rfl rfl ?_
                refine RP.nn 32 rfl rfl hS rfl rfl ?_
                refine RP.nn 33 rfl rfl hS rfl rfl ?_
                refine RP.nn 34 rfl rfl hS rfl rfl ?_
                refine RP.nn 35 rfl rfl hS rfl rfl ?_
                refine RP.nn 36 rfl rfl hS rfl rfl ?_
                refine RP.nn 37 rfl rfl hS rfl rfl ?_
                refine RP.nn 38 rfl rfl hS rfl rfl ?_
                refine RP.n1 39 rfl (fun _ => hS) rfl rfl ?_
                refine RP.n1 40 rfl (fun _ => hS) rfl rfl ?_
                refine RP.n1 41 rfl (fun _ => hS) rfl rfl ?_
                refine RP.n1 42 rfl (fun _ => hS) rfl rfl ?_
                refine RP.n1 43 rfl (fun _ => hS) rfl rfl ?_
                refine RP.n1 44 rfl (fun _ => hS) rfl rfl ?_
                refine RP.v1 45 rfl (fun _ => hS) (Vl.pickT rfl rfl) rfl rfl ?_
                refine RP.nil ?_
                refine RQ.then_n ?_
                refine RC.condT rfl ?_
                refine RC.seq ?_
                refine RC.region ?_
                refine RL.s (Vl.assign rfl) rfl ?_
                refine RL.nil ?_
                refine RQ.then_n ?_
                refine RC.ret ?_
                refine RQ.inB_ret ?_
                refine RQ.ret ?_
                have h := h.inrS
                refine RQ.ret ?_
                refine RQ.inB_ret ?_
                refine RQ.inB_ret ?_
                refine RQ.ret ?_
                have h := h.inrS
                refine RQ.ret ?_
                refine RQ.inB_ret ?_
                refine RQ.ret ?_
                have e := h.some
                subst e
                refine RQ.ret0 (vs := [.bool false]) Tryd.results8 ⟨rfl, trivial⟩ ?_
                exact ⟨rfl, (((((hS.dropAt 0 rfl).dropAt 0 rfl).dropAt 0 rfl).dropAt 0 rfl).dropAt 0 rfl)⟩
            case neg =>
              have h := h.neg hc10344
              refine RC.re 56 rfl (congrArg Value.bool (decide_eq_false hc10344)) ?_
              refine RC.condF rfl ?_
              refine RC.exit ?_
              refine RQ.exitT ?_
              have h := h.inrS
              refine RQ.exitT ?_
              refine RQ.inB_hit ?_
              refine RQ.inB_n ?_
              refine RQ.then_n ?_
              refine RC.region ?_
              refine RL.s (Vl.move rfl) rfl ?_
              refine RL.s (Vl.int rfl rfl rfl) rfl ?_
              refine RL.s (Vl.assign rfl) rfl ?_
              refine RL.nil ?_
              exact fun a ha => ⟨(IntKind.i64.wrap (x9900 + (t10291.length : Int)), IntKind.i64.wrap (x9901 + (t10296.length : Int)), IntKind.i64.wrap (x9902 + 1)), ⟨(IntKind.i64.wrap (x9900 + (t10291.length : Int))), (IntKind.i64.wrap (x9901 + (t10296.length : Int))), (IntKind.i64.wrap (x9902 + 1)), rfl, ha.to ⟨rfl, rfl, rfl, rfl, trivial⟩, ((((hS.dropAt 0 rfl).dropAt 0 rfl).dropAt 0 rfl).dropAt 0 rfl)⟩, h.some⟩
          case neg =>
            have h := h.neg hc10290
            refine RC.re 39 rfl (congrArg Value.bool (notdec_neg hc10290)) ?_
            refine RC.condT rfl ?_
            refine RC.seq ?_
            refine RC.region ?_
            refine RL.s (Vl.assign rfl) rfl ?_
            refine RL.nil ?_
            refine RQ.then_n ?_
            refine RC.ret ?_
            refine RQ.ret ?_
            refine RQ.inB_ret ?_
            refine RQ.ret ?_
            have h := h.inrS
            refine RQ.ret ?_
            refine RQ.inB_ret ?_
            refine RQ.ret ?_
            have e := h.some
            subst e
            refine RQ.ret0 (vs := [.bool false]) Tryd.results8 ⟨rfl, trivial⟩ ?_
            exact ⟨rfl, ((((hS.dropAt 0 rfl).dropAt 0 rfl).dropAt 0 rfl).dropAt 0 rfl)⟩
        case neg =>
          have h := h.neg hc10289
          refine RL.re 34 rfl (congrArg Value.bool (notdec_neg hc10289)) ?_
          refine RL.nn rfl rfl ?_
          refine RL.nn rfl rfl ?_
          refine RL.nn rfl rfl ?_
          refine RL.nn rfl rfl ?_
          refine RL.s (Vl.pickT rfl rfl) rfl ?_
          refine RL.nil ?_
          refine RQ.then_n ?_
          refine RC.condT rfl ?_
          refine RC.seq ?_
          refine RC.region ?_
          refine RL.s (Vl.assign rfl) rfl ?_
          refine RL.nil ?_
          refine RQ.then_n ?_
          refine RC.ret ?_
          refine RQ.ret ?_
          refine RQ.inB_ret ?_
          refine RQ.ret ?_
          have h := h.inrS
          refine RQ.ret ?_
          refine RQ.inB_ret ?_
          refine RQ.ret ?_
          have e := h.some
          subst e
          refine RQ.ret0 (vs := [.bool false]) Tryd.results8 ⟨rfl, trivial⟩ ?_
          exact ⟨rfl, ((((hS.dropAt 0 rfl).dropAt 0 rfl).dropAt 0 rfl).dropAt 0 rfl)⟩
      case neg =>
        have h := h.neg hc10278
        refine RL.re 29 rfl (congrArg Value.bool (notdec_neg hc10278)) ?_
        refine RL.nn rfl rfl ?_
        refine RL.nn rfl rfl ?_
        refine RL.nn rfl rfl ?_
        refine RL.s (Vl.pickT rfl rfl) rfl ?_
        refine RL.s (Vl.move rfl) rfl ?_
        refine RL.nn rfl rfl ?_
        refine RL.nn rfl rfl ?_
        refine RL.nn rfl rfl ?_
        refine RL.nn rfl rfl ?_
        refine RL.s (Vl.pickT rfl rfl) rfl ?_
        refine RL.nil ?_
        refine RQ.then_n ?_
        refine RC.condT rfl ?_
        refine RC.seq ?_
        refine RC.region ?_
        refine RL.s (Vl.assign rfl) rfl ?_
        refine RL.nil ?_
        refine RQ.then_n ?_
        refine RC.ret ?_
        refine RQ.ret ?_
        refine RQ.inB_ret ?_
        refine RQ.ret ?_
        have h := h.inrS
        refine RQ.ret ?_
        refine RQ.inB_ret ?_
        refine RQ.ret ?_
        have e := h.some
        subst e
        refine RQ.ret0 (vs := [.bool false]) Tryd.results8 ⟨rfl, trivial⟩ ?_
        exact ⟨rfl, ((((hS.dropAt 0 rfl).dropAt 0 rfl).dropAt 0 rfl).dropAt 0 rfl)⟩
    case neg =>
      have h := h.neg hc10136
      refine RC.re 18 rfl (congrArg Value.bool (decide_eq_false hc10136)) ?_
      refine RC.condF rfl ?_
      refine RC.exit ?_
      refine RQ.exitT ?_
      have h := h.inr
      refine RQ.exitT ?_
      refine RQ.inB_hit ?_
      refine RQ.then_n ?_
      refine RC.seq ?_
      refine RC.region ?_
      refine RL.s (Vl.move rfl) rfl ?_
      refine RL.s (Vl.fieldAddr (a'' := ⟨b8966, 1, none⟩) Tryd.underlying27 rfl Tryd.sizeOf23 rfl rfl) rfl ?_
      refine RL.s (Vl.load Tryd.isAgg23 rfl (hS.cell 0 rfl rfl)) rfl ?_
      refine RL.s (Vl.lenSl Tryd.underlying23 rfl) rfl ?_
      refine RL.s (Vl.int rfl rfl rfl) rfl ?_
      refine RL.s (Vl.move rfl) rfl ?_
      by_cases hc10363 : x9900 = (a7284.Links.length : Int)
      case pos =>
        have h := h.pos hc10363
        refine RL.re 110 rfl (congrArg Value.bool (decide_eq_true hc10363)) ?_
        refine RL.sg (Vl.move rfl) rfl rfl ?_
        refine RL.sg (Vl.fieldAddr (a'' := ⟨b8966, 1, none⟩) Tryd.underlying27 rfl Tryd.sizeOf23 rfl rfl) rfl rfl ?_
        refine RL.sg (Vl.load Tryd.isAgg23 rfl (hS.cell 0 rfl rfl)) rfl rfl ?_
        refine RL.sg (Vl.lenSl Tryd.underlying23 rfl) rfl rfl ?_
        refine RL.sg (Vl.int rfl rfl rfl) rfl rfl ?_
        refine RL.s (Vl.pickT rfl rfl) rfl ?_
        refine RL.s (Vl.assign rfl) rfl ?_
        refine RL.nil ?_
        refine RQ.then_n ?_
        refine RC.ret ?_
        have e := h.some
        subst e
        refine RQ.ret0 (vs := [.bool (decide (x9901 = (a7284.Links.length : Int)))]) Tryd.results8 ⟨rfl, trivial⟩ ?_
        exact ⟨rfl, (hS.dropAt 0 rfl)⟩
      case neg =>
        have h := h.neg hc10363
        refine RL.re 110 rfl (congrArg Value.bool (decide_eq_false hc10363)) ?_
        refine RL.nn rfl rfl ?_
        refine RL.nn rfl rfl ?_
        refine RL.nn rfl rfl ?_
        refine RL.nn rfl rfl ?_
        refine RL.nn rfl rfl ?_
        refine RL.s (Vl.pickF rfl rfl) rfl ?_
        refine RL.s (Vl.assign rfl) rfl ?_
        refine RL.nil ?_
        refine RQ.then_n ?_
        refine RC.ret ?_
        have e := h.some
        subst e
        refine RQ.ret0 (vs := [.bool false]) Tryd.results8 ⟨rfl, trivial⟩ ?_
        exact ⟨rfl, (hS.dropAt 0 rfl)⟩
  case neg =>
    have h := h.neg hc8974
    refine RC.re 12 rfl (congrArg Value.bool (notdec_neg hc8974)) ?_
    refine RC.condT rfl ?_
    refine RC.seq ?_
    refine RC.region ?_
    obtain ⟨t10364, hg10365, h⟩ := h.bind
    refine RL.e (OW.callF (ls := []) rfl Tryd.call11 (isochronlaw13vawake.ok hG0 _ hg10365 hS)) rfl rfl ?_
    rintro _ w ⟨rfl, hS⟩
    have hS : St B w (Cl b8966 [.slice A7285 a7284.Progs.length c7286, .slice A7288 a7284.Links.length c7289, .slice A7291 a7284.Starts.length c7292, .int .u64 a7284.Seed, .int .i64 a7284.End, .int .i64 a7284.Budget] 27 :: l) hf := hS
    refine RL.s (Vl.assign rfl) rfl ?_
    refine RL.nil ?_
    refine RQ.then_n ?_
    refine RC.ret ?_
    refine RQ.ret ?_
    have e := h.some
    subst e
    refine RQ.ret0 (vs := [.bool t10364]) Tryd.results8 ⟨rfl, trivial⟩ ?_
    exact ⟨rfl, (hS.dropAt 0 rfl)⟩

end Go.Proofs.Gx
