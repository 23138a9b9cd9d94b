/-
  The walks of functions, each with what it computes: printed by wip/gx.py.
-/
import Derived.Test.YtdiaknplnonddaaDoorW0
import Derived.Test.YtdiaknplnonddaaDoorW1
import Derived.Test.YtdiaknplnonddaaDoorW2
set_option linter.unusedVariables false
namespace Go.Proofs.Gx
open Go.Sl
/-! ### isochron/code.Encode: function 19 -/
noncomputable def code_Encode.j28 (a4137 : List api_Instr) (l4650 : List Int) (x4654 : Int) (x4732 : Int) (x4733 : Int) : Option ((List Int × Int) ⊕ (List Int × Int)) := (if (l4650.length + 2) * 1 ≤ 140737488355328 then (if ((l4650 ++ ([IntKind.u8.wrap ((nth a4137 x4654).Op), IntKind.u8.wrap x4732])).length + 7) * 1 ≤ 140737488355328 then some (.inl (((l4650 ++ ([IntKind.u8.wrap ((nth a4137 x4654).Op), IntKind.u8.wrap x4732])) ++ ([IntKind.u8.wrap (Int.fdiv (IntKind.u32.wrap (IntKind.i32.wrap x4733)) (2 ^ (min (24 : Int).toNat IntKind.u32.bits))), IntKind.u8.wrap (Int.fdiv (IntKind.u32.wrap (IntKind.i32.wrap x4733)) (2 ^ (min (16 : Int).toNat IntKind.u32.bits))), IntKind.u8.wrap (Int.fdiv (IntKind.u32.wrap (IntKind.i32.wrap x4733)) (2 ^ (min (8 : Int).toNat IntKind.u32.bits))), IntKind.u8.wrap (IntKind.u32.wrap (IntKind.i32.wrap x4733)), IntKind.u8.wrap ((nth a4137 x4654).C), 0, 0])), IntKind.i64.wrap (x4654 + 1))) else none) else none)
noncomputable def code_Encode.l26b (a4137 : List api_Instr) : List Int × Int → Option ((List Int × Int) ⊕ (List Int × Int))
  | (l4650, x4654) => (if x4654 < (a4137.length : Int) then (if 0 ≤ x4654 then (if (nth a4137 x4654).Op = 10 then code_Encode.j28 a4137 l4650 x4654 0 ((nth a4137 x4654).A) else code_Encode.j28 a4137 l4650 x4654 ((nth a4137 x4654).A) ((nth a4137 x4654).B)) else none) else some (.inr (l4650, 0)))
noncomputable def code_Encode.l26 (a4137 : List api_Instr) (s : List Int × Int) : Option (List Int × Int) := loopR (code_Encode.l26b a4137) s
noncomputable def code_Encode.f (a4137 : List api_Instr) : Option (List Int × Int) := ((code_Check.f a4137).bind fun t4448 => (if t4448 = 0 then (if 0 ≤ IntKind.i64.wrap (9 * (a4137.length : Int)) ∧ (IntKind.i64.wrap (9 * (a4137.length : Int))) * 1 ≤ 140737488355328 then code_Encode.l26 a4137 (([] : List Int), 0) else none) else some (([] : List Int), t4448)))
set_option maxRecDepth 100000 in
set_option maxHeartbeats 4000000 in
theorem code_Encode.ok {B : Base} {w : World} {l : List HProp} {hf : Hp} (a4137 : List api_Instr) (A4138 : Option Addr) (c4139 : Nat) (hr4140 : SlR E_api_Instr.rep hf A4138 c4139 a4137) (r : List Int × Int) (h : code_Encode.f a4137 = some r) (hS : St B w (l) hf) :
    Calls Tryd.prog 19 #[.slice A4138 a4137.length c4139] w (Ret fun v w => ∃ (A_1 : Option Addr) (c_2 : Nat), v = .tuple #[.slice A_1 r.1.length c_2, .int .i64 r.2] ∧ St B w (OSf (FI .u8) 5 (.slice A_1 r.1.length c_2) r.1 :: l) hf) := by
  have h := Holds.of h
  refine enter (args := [.slice A4138 a4137.length c4139]) Tryd.func19 rfl Tryd.ntmps19 (Nat.le_of_ble_eq_true rfl) ?_
  refine RC.seq ?_
  refine RC.region ?_
  refine RL.s (Vl.assign rfl) rfl ?_
  refine RL.s (Vl.assign rfl) rfl ?_
  refine RL.nil ?_
  refine RQ.then_n ?_
  refine RC.seq ?_
  refine RC.seq ?_
  refine RC.region ?_
  refine RL.s (Vl.move rfl) rfl ?_
  obtain ⟨t4448, hg4449, h⟩ := h.bind
  refine RL.e (OW.callF (ls := [.tmp 9]) rfl Tryd.call17 (code_Check.ok a4137 A4138 c4139 hr4140 _ hg4449 hS)) rfl rfl ?_
  rintro _ w ⟨rfl, hS⟩
  have hS : St B w (l) hf := hS
  refine RL.s (Vl.assign rfl) rfl ?_
  refine RL.nil ?_
  refine RQ.then_n ?_
  refine RC.seq ?_
  refine RC.region ?_
  refine RL.s (Vl.move rfl) rfl ?_
  refine RL.s (Vl.int rfl rfl rfl) rfl ?_
  refine RL.nil ?_
  refine RQ.then_n ?_
  by_cases hc4450 : t4448 = 0
  case pos =>
    have h := h.pos hc4450
    refine RC.re 12 rfl (congrArg Value.bool (notdec_pos hc4450)) ?_
    refine RC.condF rfl ?_
    refine RC.skip ?_
    refine RQ.then_n ?_
    refine RC.seq ?_
    refine RC.region ?_
    refine RL.s (Vl.move rfl) rfl ?_
    refine RL.s (Vl.lenSl Tryd.underlying29 rfl) rfl ?_
    refine RL.s (Vl.int rfl rfl rfl) rfl ?_
    obtain ⟨⟨hq4451, hq4452⟩, h⟩ := h.req
    refine RL.e (OW.make0 (E := (FI .u8)) hS Tryd.underlying28 Tryd.type5 rfl rfl rfl rfl rfl hq4451 (by decide) hq4452) rfl rfl ?_
    rintro v4456 w hS
    obtain ⟨A4453, c4454, rfl, _⟩ := hS.osShape 0 rfl
    have hS : St B w (OSf (FI .u8) 5 (.slice A4453 ([] : List Int).length c4454) ([] : List Int) :: l) hf := hS
    refine RL.s (Vl.assign rfl) rfl ?_
    refine RL.nil ?_
    refine RQ.then_n ?_
    refine RC.seq ?_
    refine RC.seq ?_
    refine RC.region ?_
    refine RL.s (Vl.move rfl) rfl ?_
    refine RL.s (Vl.lenSl Tryd.underlying29 rfl) rfl ?_
    refine RL.s (Vl.move rfl) rfl ?_
    refine RL.nil ?_
    refine RQ.then_n ?_
    refine RC.block ?_
    refine fun a ha => RC.loop (N := 63) (body := (code_Encode.l26b a4137)) (φ := (· = r)) (fun (s : List Int × Int) a w => ∃ (l4650 : List Int) (x4654 : Int), s = (l4650, x4654) ∧ ∃ (A4651 : Option Addr) (c4652 : Nat), Has 63 [(5, .slice A4651 l4650.length c4652), (18, .slice A4138 a4137.length c4139), (19, .int .i64 (a4137.length : Int)), (20, .int .i64 x4654)] a ∧ St B w (OSf (FI .u8) 5 (.slice A4651 l4650.length c4652) l4650 :: l) hf) ?_ (s0 := (([] : List Int), 0)) h ⟨([] : List Int), 0, rfl, A4453, c4454, ha.to ⟨rfl, rfl, rfl, rfl, trivial⟩, hS⟩
    rintro G4704 _ a w ⟨l4650, x4654, rfl, A4651, c4652, ha, hS⟩ h
    revert a
    show RC _ _ _ _ _ _
    refine RC.seq ?_
    refine RC.region ?_
    refine RL.s (Vl.int rfl rfl rfl) rfl ?_
    refine RL.nil ?_
    refine RQ.then_n ?_
    refine RC.seq ?_
    by_cases hc4706 : x4654 < (a4137.length : Int)
    case pos =>
      have h := h.pos hc4706
      refine RC.re 21 rfl (congrArg Value.bool (decide_eq_true hc4706)) ?_
      refine RC.condT rfl ?_
      refine RC.skip ?_
      refine RQ.then_n ?_
      refine RC.seq ?_
      refine RC.block ?_
      refine RC.seq ?_
      refine RC.region ?_
      obtain ⟨hq4728, h⟩ := h.req
      refine RL.s (Vl.indexAddr Tryd.underlying29 Tryd.sizeOf23 rfl rfl ((hr4140.2.world hS.sub).adr hq4728 hc4706) hq4728 hc4706 rfl) rfl ?_
      refine RL.s (Vl.loadA Tryd.isAgg23 Tryd.sizeOf23 rfl rfl ((hr4140.2.world hS.sub).cells hq4728 hc4706)) rfl ?_
      refine RL.e (OW.alloc (cs := [.int .i64 0, .int .i64 0, .int .i64 0, .int .i64 0]) hS Tryd.zeroValue23 rfl) rfl rfl ?_
      rintro _ w ⟨b4730, rfl, hS⟩
      have hS : St B w (Cl b4730 [.int .i64 0, .int .i64 0, .int .i64 0, .int .i64 0] 23 :: OSf (FI .u8) 5 (.slice A4651 l4650.length c4652) l4650 :: l) hf := hS
      refine RL.e0 (OW.store (cs := [.int .i64 0, .int .i64 0, .int .i64 0, .int .i64 0]) (vs := [.int .i64 ((nth a4137 x4654).Op), .int .i64 ((nth a4137 x4654).A), .int .i64 ((nth a4137 x4654).B), .int .i64 ((nth a4137 x4654).C)]) (l' := Cl b4730 [.int .i64 ((nth a4137 x4654).Op), .int .i64 ((nth a4137 x4654).A), .int .i64 ((nth a4137 x4654).B), .int .i64 ((nth a4137 x4654).C)] 23 :: OSf (FI .u8) 5 (.slice A4651 l4650.length c4652) l4650 :: l) 0 hS rfl rfl rfl rfl Tryd.sizeOf23 rfl rfl rfl rfl) rfl ?_
      rintro _ w ⟨rfl, hS⟩
      have hS : St B w (Cl b4730 [.int .i64 ((nth a4137 x4654).Op), .int .i64 ((nth a4137 x4654).A), .int .i64 ((nth a4137 x4654).B), .int .i64 ((nth a4137 x4654).C)] 23 :: OSf (FI .u8) 5 (.slice A4651 l4650.length c4652) l4650 :: l) hf := hS
      refine RL.nil ?_
      refine RQ.then_n ?_
      refine RC.join (fun (s : Int × Int) a w => ∃ (x4732 : Int) (x4733 : Int), s = (x4732, x4733) ∧ Has 63 [(5, .slice A4651 l4650.length c4652), (7, .pointer (some ⟨b4730, 0, none⟩)), (18, .slice A4138 a4137.length c4139), (19, .int .i64 (a4137.length : Int)), (20, .int .i64 x4654)] a ∧ St B w (OSf (FI .u8) 5 (.slice A4651 l4650.length c4652) l4650 :: Cl b4730 [.int .i64 ((nth a4137 x4654).Op), .int .i64 x4732, .int .i64 x4733, .int .i64 ((nth a4137 x4654).C)] 23 :: l) hf ∧ Holds (Sum.elim G4704 (· = r)) (code_Encode.j28 a4137 l4650 x4654 x4732 x4733)) ?_ ?_
      · rintro _ a w ⟨x4732, x4733, rfl, ha, hS, h⟩
        revert a
        show RC _ _ _ _ _ _
        refine RC.seq ?_
        refine RC.region ?_
        refine RL.s (Vl.move rfl) rfl ?_
        refine RL.s (Vl.fieldAddr (a'' := ⟨b4730, 0, none⟩) Tryd.underlying23 rfl Tryd.sizeOf3 rfl rfl) rfl ?_
        refine RL.s (Vl.load Tryd.isAgg3 rfl (hS.cell 1 rfl rfl)) rfl ?_
        refine RL.s (Vl.conv Tryd.underlying3 Tryd.underlying5 rfl) rfl ?_
        refine RL.s (Vl.fieldAddr (a'' := ⟨b4730, 1, none⟩) Tryd.underlying23 rfl Tryd.sizeOf3 rfl rfl) rfl ?_
        refine RL.s (Vl.load Tryd.isAgg3 rfl (hS.cell 1 rfl rfl)) rfl ?_
        refine RL.s (Vl.conv Tryd.underlying3 Tryd.underlying5 rfl) rfl ?_
        refine RL.e (OW.buildSlice (E := (FI .u8)) (xs := [IntKind.u8.wrap ((nth a4137 x4654).Op), IntKind.u8.wrap x4732]) (cs := [.int .u8 (IntKind.u8.wrap ((nth a4137 x4654).Op)), .int .u8 (IntKind.u8.wrap x4732)]) hS Tryd.underlying28 Tryd.zeroValue5 Tryd.sizeOf5 (parts := [(0, .tmp 34), (1, .tmp 37)]) rfl rfl (by decide) (by decide) (by kernel_rfl) rfl) rfl rfl ?_
        rintro _ w ⟨b4735, rfl, hS⟩
        have hS : St B w (OSf (FI .u8) 5 (.slice (some ⟨b4735, 0, none⟩) ([IntKind.u8.wrap ((nth a4137 x4654).Op), IntKind.u8.wrap x4732]).length 2) ([IntKind.u8.wrap ((nth a4137 x4654).Op), IntKind.u8.wrap x4732]) :: OSf (FI .u8) 5 (.slice A4651 l4650.length c4652) l4650 :: Cl b4730 [.int .i64 ((nth a4137 x4654).Op), .int .i64 x4732, .int .i64 x4733, .int .i64 ((nth a4137 x4654).C)] 23 :: l) hf := hS
        obtain ⟨hq4736, h⟩ := h.req
        refine RL.e (OW.append (E := (FI .u8)) (xs := l4650) (ys := [IntKind.u8.wrap ((nth a4137 x4654).Op), IntKind.u8.wrap x4732]) 1 hS rfl Tryd.underlying28 Tryd.type5 rfl rfl rfl rfl (by decide) rfl rfl rfl (hS.slW 0 rfl).2.2.flat (by simp only [maxLen, List.length_cons, List.length_nil] at *; omega) hq4736 rfl) rfl rfl ?_
        rintro v4740 w hS
        obtain ⟨A4737, c4738, rfl, _⟩ := hS.osShape 0 rfl
        have hS : St B w (OSf (FI .u8) 5 (.slice A4737 (l4650 ++ ([IntKind.u8.wrap ((nth a4137 x4654).Op), IntKind.u8.wrap x4732])).length c4738) (l4650 ++ ([IntKind.u8.wrap ((nth a4137 x4654).Op), IntKind.u8.wrap x4732])) :: OSf (FI .u8) 5 (.slice (some ⟨b4735, 0, none⟩) ([IntKind.u8.wrap ((nth a4137 x4654).Op), IntKind.u8.wrap x4732]).length 2) ([IntKind.u8.wrap ((nth a4137 x4654).Op), IntKind.u8.wrap x4732]) :: Cl b4730 [.int .i64 ((nth a4137 x4654).Op), .int .i64 x4732, .int .i64 x4733, .int .i64 ((nth a4137 x4654).C)] 23 :: l) hf := hS
        refine RL.s (Vl.assign rfl) rfl ?_
        refine RL.nil ?_
        refine RQ.then_n ?_
        refine RC.seq ?_
        refine RC.region ?_
        refine RL.s (Vl.fieldAddr (a'' := ⟨b4730, 2, none⟩) Tryd.underlying23 rfl Tryd.sizeOf3 rfl rfl) rfl ?_
        refine RL.s (Vl.load Tryd.isAgg3 rfl (hS.cell 2 rfl rfl)) rfl ?_
        refine RL.s (Vl.conv Tryd.underlying3 Tryd.underlying21 rfl) rfl ?_
        refine RL.s (Vl.conv Tryd.underlying21 Tryd.underlying50 rfl) rfl ?_
        refine RL.s (Vl.assign rfl) rfl ?_
        refine RL.nil ?_
        refine RQ.then_n ?_
        refine RC.region ?_
        refine RL.s (Vl.move rfl) rfl ?_
        refine RL.s (Vl.move rfl) rfl ?_
        refine RL.s (Vl.shr rfl rfl (by decide)) rfl ?_
        refine RL.s (Vl.conv Tryd.underlying50 Tryd.underlying5 rfl) rfl ?_
        refine RL.s (Vl.move rfl) rfl ?_
        refine RL.s (Vl.shr rfl rfl (by decide)) rfl ?_
        refine RL.s (Vl.conv Tryd.underlying50 Tryd.underlying5 rfl) rfl ?_
        refine RL.s (Vl.move rfl) rfl ?_
        refine RL.s (Vl.shr rfl rfl (by decide)) rfl ?_
        refine RL.s (Vl.conv Tryd.underlying50 Tryd.underlying5 rfl) rfl ?_
        refine RL.s (Vl.move rfl) rfl ?_
        refine RL.s (Vl.conv Tryd.underlying50 Tryd.underlying5 rfl) rfl ?_
        refine RL.s (Vl.fieldAddr (a'' := ⟨b4730, 3, none⟩) Tryd.underlying23 rfl Tryd.sizeOf3 rfl rfl) rfl ?_
        refine RL.s (Vl.load Tryd.isAgg3 rfl (hS.cell 2 rfl rfl)) rfl ?_
        refine RL.s (Vl.conv Tryd.underlying3 Tryd.underlying5 rfl) rfl ?_
        refine RL.e (OW.buildSlice (E := (FI .u8)) (xs := [IntKind.u8.wrap (Int.fdiv (IntKind.u32.wrap (IntKind.i32.wrap x4733)) (2 ^ (min (24 : Int).toNat IntKind.u32.bits))), IntKind.u8.wrap (Int.fdiv (IntKind.u32.wrap (IntKind.i32.wrap x4733)) (2 ^ (min (16 : Int).toNat IntKind.u32.bits))), IntKind.u8.wrap (Int.fdiv (IntKind.u32.wrap (IntKind.i32.wrap x4733)) (2 ^ (min (8 : Int).toNat IntKind.u32.bits))), IntKind.u8.wrap (IntKind.u32.wrap (IntKind.i32.wrap x4733)), IntKind.u8.wrap ((nth a4137 x4654).C), 0, 0]) (cs := [.int .u8 (IntKind.u8.wrap (Int.fdiv (IntKind.u32.wrap (IntKind.i32.wrap x4733)) (2 ^ (min (24 : Int).toNat IntKind.u32.bits)))), .int .u8 (IntKind.u8.wrap (Int.fdiv (IntKind.u32.wrap (IntKind.i32.wrap x4733)) (2 ^ (min (16 : Int).toNat IntKind.u32.bits)))), .int .u8 (IntKind.u8.wrap (Int.fdiv (IntKind.u32.wrap (IntKind.i32.wrap x4733)) (2 ^ (min (8 : Int).toNat IntKind.u32.bits)))), .int .u8 (IntKind.u8.wrap (IntKind.u32.wrap (IntKind.i32.wrap x4733))), .int .u8 (IntKind.u8.wrap ((nth a4137 x4654).C)), .int .u8 0, .int .u8 0]) hS Tryd.underlying28 Tryd.zeroValue5 Tryd.sizeOf5 (parts := [(0, .tmp 47), (1, .tmp 50), (2, .tmp 53), (3, .tmp 55), (4, .tmp 58), (5, .const (.int .u8 0)), (6, .const (.int .u8 0))]) rfl rfl (by decide) (by decide) (by kernel_rfl) rfl) rfl rfl ?_
        rintro _ w ⟨b4742, rfl, hS⟩
        have hS : St B w (OSf (FI .u8) 5 (.slice (some ⟨b4742, 0, none⟩) ([IntKind.u8.wrap (Int.fdiv (IntKind.u32.wrap (IntKind.i32.wrap x4733)) (2 ^ (min (24 : Int).toNat IntKind.u32.bits))), IntKind.u8.wrap (Int.fdiv (IntKind.u32.wrap (IntKind.i32.wrap x4733)) (2 ^ (min (16 : Int).toNat IntKind.u32.bits))), IntKind.u8.wrap (Int.fdiv (IntKind.u32.wrap (IntKind.i32.wrap x4733)) (2 ^ (min (8 : Int).toNat IntKind.u32.bits))), IntKind.u8.wrap (IntKind.u32.wrap (IntKind.i32.wrap x4733)), IntKind.u8.wrap ((nth a4137 x4654).C), 0, 0]).length 7) ([IntKind.u8.wrap (Int.fdiv (IntKind.u32.wrap (IntKind.i32.wrap x4733)) (2 ^ (min (24 : Int).toNat IntKind.u32.bits))), IntKind.u8.wrap (Int.fdiv (IntKind.u32.wrap (IntKind.i32.wrap x4733)) (2 ^ (min (16 : Int).toNat IntKind.u32.bits))), IntKind.u8.wrap (Int.fdiv (IntKind.u32.wrap (IntKind.i32.wrap x4733)) (2 ^ (min (8 : Int).toNat IntKind.u32.bits))), IntKind.u8.wrap (IntKind.u32.wrap (IntKind.i32.wrap x4733)), IntKind.u8.wrap ((nth a4137 x4654).C), 0, 0]) :: OSf (FI .u8) 5 (.slice A4737 (l4650 ++ ([IntKind.u8.wrap ((nth a4137 x4654).Op), IntKind.u8.wrap x4732])).length c4738) (l4650 ++ ([IntKind.u8.wrap ((nth a4137 x4654).Op), IntKind.u8.wrap x4732])) :: OSf (FI .u8) 5 (.slice (some ⟨b4735, 0, none⟩) ([IntKind.u8.wrap ((nth a4137 x4654).Op), IntKind.u8.wrap x4732]).length 2) ([IntKind.u8.wrap ((nth a4137 x4654).Op), IntKind.u8.wrap x4732]) :: Cl b4730 [.int .i64 ((nth a4137 x4654).Op), .int .i64 x4732, .int .i64 x4733, .int .i64 ((nth a4137 x4654).C)] 23 :: l) hf := hS
        obtain ⟨hq4743, h⟩ := h.req
        refine RL.e (OW.append (E := (FI .u8)) (xs := (l4650 ++ ([IntKind.u8.wrap ((nth a4137 x4654).Op), IntKind.u8.wrap x4732]))) (ys := [IntKind.u8.wrap (Int.fdiv (IntKind.u32.wrap (IntKind.i32.wrap x4733)) (2 ^ (min (24 : Int).toNat IntKind.u32.bits))), IntKind.u8.wrap (Int.fdiv (IntKind.u32.wrap (IntKind.i32.wrap x4733)) (2 ^ (min (16 : Int).toNat IntKind.u32.bits))), IntKind.u8.wrap (Int.fdiv (IntKind.u32.wrap (IntKind.i32.wrap x4733)) (2 ^ (min (8 : Int).toNat IntKind.u32.bits))), IntKind.u8.wrap (IntKind.u32.wrap (IntKind.i32.wrap x4733)), IntKind.u8.wrap ((nth a4137 x4654).C), 0, 0]) 1 hS rfl Tryd.underlying28 Tryd.type5 rfl rfl rfl rfl (by decide) rfl rfl rfl (hS.slW 0 rfl).2.2.flat (by simp only [maxLen, List.length_cons, List.length_nil] at *; omega) hq4743 rfl) rfl rfl ?_
        rintro v4747 w hS
        obtain ⟨A4744, c4745, rfl, _⟩ := hS.osShape 0 rfl
        have hS : St B w (OSf (FI .u8) 5 (.slice A4744 ((l4650 ++ ([IntKind.u8.wrap ((nth a4137 x4654).Op), IntKind.u8.wrap x4732])) ++ ([IntKind.u8.wrap (Int.fdiv (IntKind.u32.wrap (IntKind.i32.wrap x4733)) (2 ^ (min (24 : Int).toNat IntKind.u32.bits))), IntKind.u8.wrap (Int.fdiv (IntKind.u32.wrap (IntKind.i32.wrap x4733)) (2 ^ (min (16 : Int).toNat IntKind.u32.bits))), IntKind.u8.wrap (Int.fdiv (IntKind.u32.wrap (IntKind.i32.wrap x4733)) (2 ^ (min (8 : Int).toNat IntKind.u32.bits))), IntKind.u8.wrap (IntKind.u32.wrap (IntKind.i32.wrap x4733)), IntKind.u8.wrap ((nth a4137 x4654).C), 0, 0])).length c4745) ((l4650 ++ ([IntKind.u8.wrap ((nth a4137 x4654).Op), IntKind.u8.wrap x4732])) ++ ([IntKind.u8.wrap (Int.fdiv (IntKind.u32.wrap (IntKind.i32.wrap x4733)) (2 ^ (min (24 : Int).toNat IntKind.u32.bits))), IntKind.u8.wrap (Int.fdiv (IntKind.u32.wrap (IntKind.i32.wrap x4733)) (2 ^ (min (16 : Int).toNat IntKind.u32.bits))), IntKind.u8.wrap (Int.fdiv (IntKind.u32.wrap (IntKind.i32.wrap x4733)) (2 ^ (min (8 : Int).toNat IntKind.u32.bits))), IntKind.u8.wrap (IntKind.u32.wrap (IntKind.i32.wrap x4733)), IntKind.u8.wrap ((nth a4137 x4654).C), 0, 0])) :: OSf (FI .u8) 5 (.slice (some ⟨b4742, 0, none⟩) ([IntKind.u8.wrap (Int.fdiv (IntKind.u32.wrap (IntKind.i32.wrap x4733)) (2 ^ (min (24 : Int).toNat IntKind.u32.bits))), IntKind.u8.wrap (Int.fdiv (IntKind.u32.wrap (IntKind.i32.wrap x4733)) (2 ^ (min (16 : Int).toNat IntKind.u32.bits))), IntKind.u8.wrap (Int.fdiv (IntKind.u32.wrap (IntKind.i32.wrap x4733)) (2 ^ (min (8 : Int).toNat IntKind.u32.bits))), IntKind.u8.wrap (IntKind.u32.wrap (IntKind.i32.wrap x4733)), IntKind.u8.wrap ((nth a4137 x4654).C), 0, 0]).length 7) ([IntKind.u8.wrap (Int.fdiv (IntKind.u32.wrap (IntKind.i32.wrap x4733)) (2 ^ (min (24 : Int).toNat IntKind.u32.bits))), IntKind.u8.wrap (Int.fdiv (IntKind.u32.wrap (IntKind.i32.wrap x4733)) (2 ^ (min (16 : Int).toNat IntKind.u32.bits))), IntKind.u8.wrap (Int.fdiv (IntKind.u32.wrap (IntKind.i32.wrap x4733)) (2 ^ (min (8 : Int).toNat IntKind.u32.bits))), IntKind.u8.wrap (IntKind.u32.wrap (IntKind.i32.wrap x4733)), IntKind.u8.wrap ((nth a4137 x4654).C), 0, 0]) :: OSf (FI .u8) 5 (.slice (some ⟨b4735, 0, none⟩) ([IntKind.u8.wrap ((nth a4137 x4654).Op), IntKind.u8.wrap x4732]).length 2) ([IntKind.u8.wrap ((nth a4137 x4654).Op), IntKind.u8.wrap x4732]) :: Cl b4730 [.int .i64 ((nth a4137 x4654).Op), .int .i64 x4732, .int .i64 x4733, .int .i64 ((nth a4137 x4654).C)] 23 :: l) hf := hS
        refine RL.s (Vl.assign rfl) rfl ?_
        refine RL.nil ?_
        refine RQ.inB_n ?_
        refine RQ.then_n ?_
        refine RC.region ?_
        refine RL.s (Vl.int rfl rfl rfl) rfl ?_
        refine RL.s (Vl.move rfl) rfl ?_
        refine RL.nil ?_
        exact fun a ha => ⟨(((l4650 ++ ([IntKind.u8.wrap ((nth a4137 x4654).Op), IntKind.u8.wrap x4732])) ++ ([IntKind.u8.wrap (Int.fdiv (IntKind.u32.wrap (IntKind.i32.wrap x4733)) (2 ^ (min (24 : Int).toNat IntKind.u32.bits))), IntKind.u8.wrap (Int.fdiv (IntKind.u32.wrap (IntKind.i32.wrap x4733)) (2 ^ (min (16 : Int).toNat IntKind.u32.bits))), IntKind.u8.wrap (Int.fdiv (IntKind.u32.wrap (IntKind.i32.wrap x4733)) (2 ^ (min (8 : Int).toNat IntKind.u32.bits))), IntKind.u8.wrap (IntKind.u32.wrap (IntKind.i32.wrap x4733)), IntKind.u8.wrap ((nth a4137 x4654).C), 0, 0])), IntKind.i64.wrap (x4654 + 1)), ⟨((l4650 ++ ([IntKind.u8.wrap ((nth a4137 x4654).Op), IntKind.u8.wrap x4732])) ++ ([IntKind.u8.wrap (Int.fdiv (IntKind.u32.wrap (IntKind.i32.wrap x4733)) (2 ^ (min (24 : Int).toNat IntKind.u32.bits))), IntKind.u8.wrap (Int.fdiv (IntKind.u32.wrap (IntKind.i32.wrap x4733)) (2 ^ (min (16 : Int).toNat IntKind.u32.bits))), IntKind.u8.wrap (Int.fdiv (IntKind.u32.wrap (IntKind.i32.wrap x4733)) (2 ^ (min (8 : Int).toNat IntKind.u32.bits))), IntKind.u8.wrap (IntKind.u32.wrap (IntKind.i32.wrap x4733)), IntKind.u8.wrap ((nth a4137 x4654).C), 0, 0])), (IntKind.i64.wrap (x4654 + 1)), rfl, A4744, c4745, ha.to ⟨rfl, rfl, rfl, rfl, trivial⟩, (((hS.dropAt 1 rfl).dropAt 1 rfl).dropAt 1 rfl)⟩, h.some⟩
      · refine RC.seq ?_
        refine RC.region ?_
        refine RL.s (Vl.fieldAddr (a'' := ⟨b4730, 0, none⟩) Tryd.underlying23 rfl Tryd.sizeOf3 rfl rfl) rfl ?_
        refine RL.s (Vl.load Tryd.isAgg3 rfl (hS.cell 0 rfl rfl)) rfl ?_
        refine RL.s (Vl.int rfl rfl rfl) rfl ?_
        refine RL.nil ?_
        refine RQ.then_n ?_
        by_cases hc4748 : (nth a4137 x4654).Op = 10
        case pos =>
          have h := h.pos hc4748
          refine RC.re 26 rfl (congrArg Value.bool (decide_eq_true hc4748)) ?_
          refine RC.condT rfl ?_
          refine RC.region ?_
          refine RL.s (Vl.fieldAddr (a'' := ⟨b4730, 1, none⟩) Tryd.underlying23 rfl Tryd.sizeOf3 rfl rfl) rfl ?_
          refine RL.s (Vl.load Tryd.isAgg3 rfl (hS.cell 0 rfl rfl)) rfl ?_
          refine RL.s (Vl.fieldAddr (a'' := ⟨b4730, 1, none⟩) Tryd.underlying23 rfl Tryd.sizeOf3 rfl rfl) rfl ?_
          refine RL.e0 (OW.store (cs := [.int .i64 ((nth a4137 x4654).Op), .int .i64 ((nth a4137 x4654).A), .int .i64 ((nth a4137 x4654).B), .int .i64 ((nth a4137 x4654).C)]) (vs := [.int .i64 0]) (l' := Cl b4730 [.int .i64 ((nth a4137 x4654).Op), .int .i64 0, .int .i64 ((nth a4137 x4654).B), .int .i64 ((nth a4137 x4654).C)] 23 :: OSf (FI .u8) 5 (.slice A4651 l4650.length c4652) l4650 :: l) 0 hS rfl rfl rfl rfl Tryd.sizeOf3 rfl rfl rfl rfl) rfl ?_
          rintro _ w ⟨rfl, hS⟩
          have hS : St B w (Cl b4730 [.int .i64 ((nth a4137 x4654).Op), .int .i64 0, .int .i64 ((nth a4137 x4654).B), .int .i64 ((nth a4137 x4654).C)] 23 :: OSf (FI .u8) 5 (.slice A4651 l4650.length c4652) l4650 :: l) hf := hS
          refine RL.s (Vl.fieldAddr (a'' := ⟨b4730, 2, none⟩) Tryd.underlying23 rfl Tryd.sizeOf3 rfl rfl) rfl ?_
          refine RL.e0 (OW.store (cs := [.int .i64 ((nth a4137 x4654).Op), .int .i64 0, .int .i64 ((nth a4137 x4654).B), .int .i64 ((nth a4137 x4654).C)]) (vs := [.int .i64 ((nth a4137 x4654).A)]) (l' := Cl b4730 [.int .i64 ((nth a4137 x4654).Op), .int .i64 0, .int .i64 ((nth a4137 x4654).A), .int .i64 ((nth a4137 x4654).C)] 23 :: OSf (FI .u8) 5 (.slice A4651 l4650.length c4652) l4650 :: l) 0 hS rfl rfl rfl rfl Tryd.sizeOf3 rfl rfl rfl rfl) rfl ?_
          rintro _ w ⟨rfl, hS⟩
          have hS : St B w (Cl b4730 [.int .i64 ((nth a4137 x4654).Op), .int .i64 0, .int .i64 ((nth a4137 x4654).A), .int .i64 ((nth a4137 x4654).C)] 23 :: OSf (FI .u8) 5 (.slice A4651 l4650.length c4652) l4650 :: l) hf := hS
          refine RL.nil ?_
          exact fun a ha => ⟨(0, (nth a4137 x4654).A), 0, ((nth a4137 x4654).A), rfl, ha.to ⟨rfl, rfl, rfl, rfl, rfl, trivial⟩, ((hS.pull 0 rfl rfl).pull 1 rfl rfl), h⟩
        case neg =>
          have h := h.neg hc4748
          refine RC.re 26 rfl (congrArg Value.bool (decide_eq_false hc4748)) ?_
          refine RC.condF rfl ?_
          refine RC.skip ?_
          exact fun a ha => ⟨((nth a4137 x4654).A, (nth a4137 x4654).B), ((nth a4137 x4654).A), ((nth a4137 x4654).B), rfl, ha.to ⟨rfl, rfl, rfl, rfl, rfl, trivial⟩, ((hS.pull 0 rfl rfl).pull 1 rfl rfl), h⟩
    case neg =>
      have h := h.neg hc4706
      refine RC.re 21 rfl (congrArg Value.bool (decide_eq_false hc4706)) ?_
      refine RC.condF rfl ?_
      refine RC.exit ?_
      refine RQ.exitT ?_
      have h := h.inrS
      refine RQ.exitT ?_
      refine RQ.inB_hit ?_
      refine RQ.then_n ?_
      refine RC.seq ?_
      refine RC.region ?_
      refine RL.s (Vl.move rfl) rfl ?_
      refine RL.s (Vl.assign rfl) rfl ?_
      refine RL.s (Vl.assign rfl) rfl ?_
      refine RL.nil ?_
      refine RQ.then_n ?_
      refine RC.ret ?_
      have e := h.some
      subst e
      refine RQ.ret0 (vs := [.slice A4651 l4650.length c4652, .int .i64 0]) Tryd.results19 ⟨rfl, rfl, trivial⟩ ?_
      exact ⟨A4651, c4652, rfl, hS⟩
  case neg =>
    have h := h.neg hc4450
    refine RC.re 12 rfl (congrArg Value.bool (notdec_neg hc4450)) ?_
    refine RC.condT rfl ?_
    refine RC.seq ?_
    refine RC.region ?_
    refine RL.s (Vl.move rfl) rfl ?_
    refine RL.s (Vl.assign rfl) rfl ?_
    refine RL.s (Vl.assign rfl) rfl ?_
    refine RL.nil ?_
    refine RQ.then_n ?_
    refine RC.ret ?_
    refine RQ.ret ?_
    have hS := hS.nilSl (FI .u8) 5
    have e := h.some
    subst e
    refine RQ.ret0 (vs := [.slice none 0 0, .int .i64 t4448]) Tryd.results19 ⟨rfl, rfl, trivial⟩ ?_
    exact ⟨none, 0, rfl, hS⟩

/-! ### isochron/isochronref03.Encode: function 20 -/
noncomputable def isochronref03vEncode.j28 (a4762 : List api_Instr) (l5162 : List Int) (x5166 : Int) (x5233 : Int) (x5234 : Int) : Option ((List Int × Int) ⊕ (List Int × Int)) := (if (l5162.length + 9) * 1 ≤ 140737488355328 then some (.inl ((l5162 ++ ([IntKind.u8.wrap ((nth a4762 x5166).Op), IntKind.u8.wrap x5233, IntKind.u8.wrap (Int.fdiv (IntKind.u32.wrap (IntKind.i32.wrap x5234)) (2 ^ (min (24 : Int).toNat IntKind.u32.bits))), IntKind.u8.wrap (Int.fdiv (IntKind.u32.wrap (IntKind.i32.wrap x5234)) (2 ^ (min (16 : Int).toNat IntKind.u32.bits))), IntKind.u8.wrap (Int.fdiv (IntKind.u32.wrap (IntKind.i32.wrap x5234)) (2 ^ (min (8 : Int).toNat IntKind.u32.bits))), IntKind.u8.wrap (IntKind.u32.wrap (IntKind.i32.wrap x5234)), IntKind.u8.wrap ((nth a4762 x5166).C), 0, 0])), IntKind.i64.wrap (x5166 + 1))) else none)
noncomputable def isochronref03vEncode.l26b (a4762 : List api_Instr) : List Int × Int → Option ((List Int × Int) ⊕ (List Int × Int))
  | (l5162, x5166) => (if x5166 < (a4762.length : Int) then (if 0 ≤ x5166 then (if (nth a4762 x5166).Op = 10 then isochronref03vEncode.j28 a4762 l5162 x5166 0 ((nth a4762 x5166).A) else isochronref03vEncode.j28 a4762 l5162 x5166 ((nth a4762 x5166).A) ((nth a4762 x5166).B)) else none) else some (.inr (l5162, 0)))
noncomputable def isochronref03vEncode.l26 (a4762 : List api_Instr) (s : List Int × Int) : Option (List Int × Int) := loopR (isochronref03vEncode.l26b a4762) s
noncomputable def isochronref03vEncode.f (a4762 : List api_Instr) : Option (List Int × Int) := ((isochronref03vCheck.f a4762).bind fun t5008 => (if t5008 = 0 then isochronref03vEncode.l26 a4762 ([], 0) else some (([] : List Int), t5008)))
set_option maxRecDepth 100000 in
set_option maxHeartbeats 4000000 in
theorem isochronref03vEncode.ok {B : Base} {w : World} {l : List HProp} {hf : Hp} (a4762 : List api_Instr) (A4763 : Option Addr) (c4764 : Nat) (hr4765 : SlR E_api_Instr.rep hf A4763 c4764 a4762) (r : List Int × Int) (h : isochronref03vEncode.f a4762 = some r) (hS : St B w (l) hf) :
    Calls Tryd.prog 20 #[.slice A4763 a4762.length c4764] w (Ret fun v w => ∃ (A_1 : Option Addr) (c_2 : Nat), v = .tuple #[.slice A_1 r.1.length c_2, .int .i64 r.2] ∧ St B w (OSf (FI .u8) 5 (.slice A_1 r.1.length c_2) r.1 :: l) hf) := by
  have h := Holds.of h
  refine enter (args := [.slice A4763 a4762.length c4764]) Tryd.func20 rfl Tryd.ntmps20 (Nat.le_of_ble_eq_true rfl) ?_
  refine RC.seq ?_
  refine RC.region ?_
  refine RL.s (Vl.assign rfl) rfl ?_
  refine RL.s (Vl.assign rfl) rfl ?_
  refine RL.nil ?_
  refine RQ.then_n ?_
  refine RC.seq ?_
  refine RC.region ?_
  refine RL.s (Vl.move rfl) rfl ?_
  obtain ⟨t5008, hg5009, h⟩ := h.bind
  refine RL.e (OW.callF (ls := [.tmp 10]) rfl Tryd.call18 (isochronref03vCheck.ok a4762 A4763 c4764 hr4765 _ hg5009 hS)) rfl rfl ?_
  rintro _ w ⟨rfl, hS⟩
  have hS : St B w (l) hf := hS
  refine RL.s (Vl.assign rfl) rfl ?_
  refine RL.nil ?_
  refine RQ.then_n ?_
  refine RC.seq ?_
  refine RC.seq ?_
  refine RC.region ?_
  refine RL.s (Vl.move rfl) rfl ?_
  refine RL.s (Vl.int rfl rfl rfl) rfl ?_
  refine RL.nil ?_
  refine RQ.then_n ?_
  by_cases hc5011 : t5008 = 0
  case pos =>
    have h := h.pos hc5011
    refine RC.re 13 rfl (congrArg Value.bool (notdec_pos hc5011)) ?_
    refine RC.condF rfl ?_
    refine RC.skip ?_
    refine RQ.then_n ?_
    refine RC.seq ?_
    refine RC.region ?_
    refine RL.s (Vl.assign rfl) rfl ?_
    refine RL.nil ?_
    refine RQ.then_n ?_
    refine RC.seq ?_
    refine RC.seq ?_
    refine RC.region ?_
    refine RL.s (Vl.assign rfl) rfl ?_
    refine RL.nil ?_
    refine RQ.then_n ?_
    refine RC.block ?_
    have hS := hS.nilSl (FI .u8) 5
    refine fun a ha => RC.loop (N := 70) (body := (isochronref03vEncode.l26b a4762)) (φ := (· = r)) (fun (s : List Int × Int) a w => ∃ (l5162 : List Int) (x5166 : Int), s = (l5162, x5166) ∧ ∃ (A5163 : Option Addr) (c5164 : Nat), Has 70 [(0, .slice A4763 a4762.length c4764), (5, .slice A5163 l5162.length c5164), (6, .int .i64 x5166)] a ∧ St B w (OSf (FI .u8) 5 (.slice A5163 l5162.length c5164) l5162 :: l) hf) ?_ (s0 := ([], 0)) h ⟨([]), 0, rfl, none, 0, ha.to ⟨rfl, rfl, rfl, trivial⟩, hS⟩
    rintro G5210 _ a w ⟨l5162, x5166, rfl, A5163, c5164, ha, hS⟩ h
    revert a
    show RC _ _ _ _ _ _
    refine RC.seq ?_
    refine RC.seq ?_
    refine RC.region ?_
    refine RL.s (Vl.move rfl) rfl ?_
    refine RL.s (Vl.move rfl) rfl ?_
    refine RL.s (Vl.lenSl Tryd.underlying29 rfl) rfl ?_
    refine RL.s (Vl.int rfl rfl rfl) rfl ?_
    refine RL.nil ?_
    refine RQ.then_n ?_
    by_cases hc5212 : x5166 < (a4762.length : Int)
    case pos =>
      have h := h.pos hc5212
      refine RC.re 18 rfl (congrArg Value.bool (decide_eq_true hc5212)) ?_
      refine RC.condT rfl ?_
      refine RC.skip ?_
      refine RQ.then_n ?_
      refine RC.seq ?_
      refine RC.block ?_
      refine RC.seq ?_
      refine RC.region ?_
      refine RL.s (Vl.move rfl) rfl ?_
      refine RL.s (Vl.move rfl) rfl ?_
      obtain ⟨hq5231, h⟩ := h.req
      refine RL.s (Vl.indexAddr Tryd.underlying29 Tryd.sizeOf23 rfl rfl ((hr4765.2.world hS.sub).adr hq5231 hc5212) hq5231 hc5212 rfl) rfl ?_
      refine RL.s (Vl.fieldAddr (a'' := (ad A4763).add (x5166.toNat * 4 + 1)) Tryd.underlying23 rfl Tryd.sizeOf3 rfl (add_add _ _ _)) rfl ?_
      refine RL.s (Vl.load Tryd.isAgg3 rfl ((hr4765.2.world hS.sub).cell (j := 1) hq5231 hc5212 rfl)) rfl ?_
      refine RL.s (Vl.assign rfl) rfl ?_
      refine RL.nil ?_
      refine RQ.then_n ?_
      refine RC.seq ?_
      refine RC.region ?_
      refine RL.s (Vl.move rfl) rfl ?_
      refine RL.s (Vl.move rfl) rfl ?_
      refine RL.s (Vl.indexAddr Tryd.underlying29 Tryd.sizeOf23 rfl rfl ((hr4765.2.world hS.sub).adr hq5231 hc5212) hq5231 hc5212 rfl) rfl ?_
      refine RL.s (Vl.fieldAddr (a'' := (ad A4763).add (x5166.toNat * 4 + 2)) Tryd.underlying23 rfl Tryd.sizeOf3 rfl (add_add _ _ _)) rfl ?_
      refine RL.s (Vl.load Tryd.isAgg3 rfl ((hr4765.2.world hS.sub).cell (j := 2) hq5231 hc5212 rfl)) rfl ?_
      refine RL.s (Vl.assign rfl) rfl ?_
      refine RL.nil ?_
      refine RQ.then_n ?_
      refine RC.join (fun (s : Int × Int) a w => ∃ (x5233 : Int) (x5234 : Int), s = (x5233, x5234) ∧ Has 70 [(0, .slice A4763 a4762.length c4764), (5, .slice A5163 l5162.length c5164), (6, .int .i64 x5166), (7, .int .i64 x5233), (8, .int .i64 x5234)] a ∧ St B w (OSf (FI .u8) 5 (.slice A5163 l5162.length c5164) l5162 :: l) hf ∧ Holds (Sum.elim G5210 (· = r)) (isochronref03vEncode.j28 a4762 l5162 x5166 x5233 x5234)) ?_ ?_
      · rintro _ a w ⟨x5233, x5234, rfl, ha, hS, h⟩
        revert a
        show RC _ _ _ _ _ _
        refine RC.seq ?_
        refine RC.region ?_
        refine RL.s (Vl.move rfl) rfl ?_
        refine RL.s (Vl.conv Tryd.underlying3 Tryd.underlying21 rfl) rfl ?_
        refine RL.s (Vl.conv Tryd.underlying21 Tryd.underlying50 rfl) rfl ?_
        refine RL.s (Vl.assign rfl) rfl ?_
        refine RL.nil ?_
        refine RQ.then_n ?_
        refine RC.plan [(0, true), (1, true), (2, true), (3, true), (4, true), (5, true), (6, true), (7, true), (8, true), (9, true), (10, true), (11, true), (12, true), (13, true), (14, true), (15, true), (16, true), (17, true), (18, true), (19, true), (20, true), (21, false), (22, false), (23, false), (24, false), (25, false), (26, false), (27, false), (28, false)] [28] (fun w => St B w (l) hf) follows rfl (by kernel_rfl) (NoTmp.block (NoTmp.then (NoTmp.then (NoTmp.block (NoTmp.then NoTmp.body))))) ?_
        have hS := hS.same (w' := { w with drawn := w.drawn + 1 }) rfl rfl
        revert hS
        generalize { w with drawn := w.drawn + 1 } = w
        intro hS
        refine RP.s 0 rfl rfl (hS.dropAt 0 rfl) (fun w hS => Vl.move rfl) rfl ?_
        refine RP.s 1 rfl rfl (hS.dropAt 0 rfl) (fun w hS => Vl.move rfl) rfl ?_
        refine RP.s 2 rfl rfl (hS.dropAt 0 rfl) (fun w hS => Vl.move rfl) rfl ?_
        refine RP.s 3 rfl rfl (hS.dropAt 0 rfl) (fun w hS => Vl.indexAddr Tryd.underlying29 Tryd.sizeOf23 rfl rfl ((hr4765.2.world hS.sub).adr hq5231 hc5212) hq5231 hc5212 rfl) rfl ?_
        refine RP.s 4 rfl rfl (hS.dropAt 0 rfl) (fun w hS => Vl.fieldAddr (a'' := (ad A4763).add (x5166.toNat * 4 + 0)) Tryd.underlying23 rfl Tryd.sizeOf3 rfl (add_add _ _ _)) rfl ?_
        refine RP.s 5 rfl rfl (hS.dropAt 0 rfl) (fun w hS => Vl.load Tryd.isAgg3 rfl ((hr4765.2.world hS.sub).cell (j := 0) hq5231 hc5212 rfl)) rfl ?_
        refine RP.s 6 rfl rfl (hS.dropAt 0 rfl) (fun w hS => Vl.conv Tryd.underlying3 Tryd.underlying5 rfl) rfl ?_
        refine RP.s 7 rfl rfl (hS.dropAt 0 rfl) (fun w hS => Vl.move rfl) rfl ?_
        refine RP.s 8 rfl rfl (hS.dropAt 0 rfl) (fun w hS => Vl.conv Tryd.underlying3 Tryd.underlying5 rfl) rfl ?_
        refine RP.s 9 rfl rfl (hS.dropAt 0 rfl) (fun w hS => Vl.move rfl) rfl ?_
        refine RP.s 10 rfl rfl (hS.dropAt 0 rfl) (fun w hS => Vl.shr rfl rfl (by decide)) rfl ?_
        refine RP.s 11 rfl rfl (hS.dropAt 0 rfl) (fun w hS => Vl.conv Tryd.underlying50 Tryd.underlying5 rfl) rfl ?_
        refine RP.s 12 rfl rfl (hS.dropAt 0 rfl) (fun w hS => Vl.move rfl) rfl ?_
        refine RP.s 13 rfl rfl (hS.dropAt 0 rfl) (fun w hS => Vl.shr rfl rfl (by decide)) rfl ?_
        refine RP.s 14 rfl rfl (hS.dropAt 0 rfl) (fun w hS => Vl.conv Tryd.underlying50 Tryd.underlying5 rfl) rfl ?_
        refine RP.s 15 rfl rfl (hS.dropAt 0 rfl) (fun w hS => Vl.move rfl) rfl ?_
        refine RP.s 16 rfl rfl (hS.dropAt 0 rfl) (fun w hS => Vl.shr rfl rfl (by decide)) rfl ?_
        refine RP.s 17 rfl rfl (hS.dropAt 0 rfl) (fun w hS => Vl.conv Tryd.underlying50 Tryd.underlying5 rfl) rfl ?_
        refine RP.s 18 rfl rfl (hS.dropAt 0 rfl) (fun w hS => Vl.move rfl) rfl ?_
        refine RP.s 19 rfl rfl (hS.dropAt 0 rfl) (fun w hS => Vl.conv Tryd.underlying50 Tryd.underlying5 rfl) rfl ?_
        refine RP.s 20 rfl rfl (hS.dropAt 0 rfl) (fun w hS => Vl.move rfl) rfl ?_
        refine RP.v1 21 rfl (fun _ => (hS.dropAt 0 rfl)) (Vl.move rfl) rfl rfl ?_
        refine RP.v1 22 rfl (fun _ => (hS.dropAt 0 rfl)) (Vl.indexAddr Tryd.underlying29 Tryd.sizeOf23 rfl rfl ((hr4765.2.world hS.sub).adr hq5231 hc5212) hq5231 hc5212 rfl) rfl rfl ?_
        refine RP.v1 23 rfl (fun _ => (hS.dropAt 0 rfl)) (Vl.fieldAddr (a'' := (ad A4763).add (x5166.toNat * 4 + 3)) Tryd.underlying23 rfl Tryd.sizeOf3 rfl (add_add _ _ _)) rfl rfl ?_
        refine RP.v1 24 rfl (fun _ => (hS.dropAt 0 rfl)) (Vl.load Tryd.isAgg3 rfl ((hr4765.2.world hS.sub).cell (j := 3) hq5231 hc5212 rfl)) rfl rfl ?_
        refine RP.v1 25 rfl (fun _ => (hS.dropAt 0 rfl)) (Vl.conv Tryd.underlying3 Tryd.underlying5 rfl) rfl rfl ?_
        refine RP.e 26 rfl (OW.buildSlice (E := (FI .u8)) (xs := [IntKind.u8.wrap ((nth a4762 x5166).Op), IntKind.u8.wrap x5233, IntKind.u8.wrap (Int.fdiv (IntKind.u32.wrap (IntKind.i32.wrap x5234)) (2 ^ (min (24 : Int).toNat IntKind.u32.bits))), IntKind.u8.wrap (Int.fdiv (IntKind.u32.wrap (IntKind.i32.wrap x5234)) (2 ^ (min (16 : Int).toNat IntKind.u32.bits))), IntKind.u8.wrap (Int.fdiv (IntKind.u32.wrap (IntKind.i32.wrap x5234)) (2 ^ (min (8 : Int).toNat IntKind.u32.bits))), IntKind.u8.wrap (IntKind.u32.wrap (IntKind.i32.wrap x5234)), IntKind.u8.wrap ((nth a4762 x5166).C), 0, 0]) (cs := [.int .u8 (IntKind.u8.wrap ((nth a4762 x5166).Op)), .int .u8 (IntKind.u8.wrap x5233), .int .u8 (IntKind.u8.wrap (Int.fdiv (IntKind.u32.wrap (IntKind.i32.wrap x5234)) (2 ^ (min (24 : Int).toNat IntKind.u32.bits)))), .int .u8 (IntKind.u8.wrap (Int.fdiv (IntKind.u32.wrap (IntKind.i32.wrap x5234)) (2 ^ (min (16 : Int).toNat IntKind.u32.bits)))), .int .u8 (IntKind.u8.wrap (Int.fdiv (IntKind.u32.wrap (IntKind.i32.wrap x5234)) (2 ^ (min (8 : Int).toNat IntKind.u32.bits)))), .int .u8 (IntKind.u8.wrap (IntKind.u32.wrap (IntKind.i32.wrap x5234))), .int .u8 (IntKind.u8.wrap ((nth a4762 x5166).C)), .int .u8 0, .int .u8 0]) hS Tryd.underlying28 Tryd.zeroValue5 Tryd.sizeOf5 (parts := [(0, .tmp 47), (1, .tmp 49), (2, .tmp 52), (3, .tmp 55), (4, .tmp 58), (5, .tmp 60), (6, .tmp 66), (7, .const (.int .u8 0)), (8, .const (.int .u8 0))]) rfl rfl (by decide) (by decide) (by kernel_rfl) rfl) rfl rfl ?_
        rintro _ w ⟨b5242, rfl, hS⟩
        have hS : St B w (OSf (FI .u8) 5 (.slice (some ⟨b5242, 0, none⟩) ([IntKind.u8.wrap ((nth a4762 x5166).Op), IntKind.u8.wrap x5233, IntKind.u8.wrap (Int.fdiv (IntKind.u32.wrap (IntKind.i32.wrap x5234)) (2 ^ (min (24 : Int).toNat IntKind.u32.bits))), IntKind.u8.wrap (Int.fdiv (IntKind.u32.wrap (IntKind.i32.wrap x5234)) (2 ^ (min (16 : Int).toNat IntKind.u32.bits))), IntKind.u8.wrap (Int.fdiv (IntKind.u32.wrap (IntKind.i32.wrap x5234)) (2 ^ (min (8 : Int).toNat IntKind.u32.bits))), IntKind.u8.wrap (IntKind.u32.wrap (IntKind.i32.wrap x5234)), IntKind.u8.wrap ((nth a4762 x5166).C), 0, 0]).length 9) ([IntKind.u8.wrap ((nth a4762 x5166).Op), IntKind.u8.wrap x5233, IntKind.u8.wrap (Int.fdiv (IntKind.u32.wrap (IntKind.i32.wrap x5234)) (2 ^ (min (24 : Int).toNat IntKind.u32.bits))), IntKind.u8.wrap (Int.fdiv (IntKind.u32.wrap (IntKind.i32.wrap x5234)) (2 ^ (min (16 : Int).toNat IntKind.u32.bits))), IntKind.u8.wrap (Int.fdiv (IntKind.u32.wrap (IntKind.i32.wrap x5234)) (2 ^ (min (8 : Int).toNat IntKind.u32.bits))), IntKind.u8.wrap (IntKind.u32.wrap (IntKind.i32.wrap x5234)), IntKind.u8.wrap ((nth a4762 x5166).C), 0, 0]) :: OSf (FI .u8) 5 (.slice A5163 l5162.length c5164) l5162 :: l) hf := hS
        refine ⟨fun _ => ((hS.dropAt 0 rfl).dropAt 0 rfl), ?_⟩
        obtain ⟨hq5243, h⟩ := h.req
        refine RP.e 27 rfl (OW.append (E := (FI .u8)) (xs := l5162) (ys := [IntKind.u8.wrap ((nth a4762 x5166).Op), IntKind.u8.wrap x5233, IntKind.u8.wrap (Int.fdiv (IntKind.u32.wrap (IntKind.i32.wrap x5234)) (2 ^ (min (24 : Int).toNat IntKind.u32.bits))), IntKind.u8.wrap (Int.fdiv (IntKind.u32.wrap (IntKind.i32.wrap x5234)) (2 ^ (min (16 : Int).toNat IntKind.u32.bits))), IntKind.u8.wrap (Int.fdiv (IntKind.u32.wrap (IntKind.i32.wrap x5234)) (2 ^ (min (8 : Int).toNat IntKind.u32.bits))), IntKind.u8.wrap (IntKind.u32.wrap (IntKind.i32.wrap x5234)), IntKind.u8.wrap ((nth a4762 x5166).C), 0, 0]) 1 hS rfl Tryd.underlying28 Tryd.type5 rfl rfl rfl rfl (by decide) rfl rfl rfl (hS.slW 0 rfl).2.2.flat (by simp only [maxLen, List.length_cons, List.length_nil] at *; omega) hq5243 rfl) rfl rfl ?_
        rintro v5247 w hS
        obtain ⟨A5244, c5245, rfl, _⟩ := hS.osShape 0 rfl
        have hS : St B w (OSf (FI .u8) 5 (.slice A5244 (l5162 ++ ([IntKind.u8.wrap ((nth a4762 x5166).Op), IntKind.u8.wrap x5233, IntKind.u8.wrap (Int.fdiv (IntKind.u32.wrap (IntKind.i32.wrap x5234)) (2 ^ (min (24 : Int).toNat IntKind.u32.bits))), IntKind.u8.wrap (Int.fdiv (IntKind.u32.wrap (IntKind.i32.wrap x5234)) (2 ^ (min (16 : Int).toNat IntKind.u32.bits))), IntKind.u8.wrap (Int.fdiv (IntKind.u32.wrap (IntKind.i32.wrap x5234)) (2 ^ (min (8 : Int).toNat IntKind.u32.bits))), IntKind.u8.wrap (IntKind.u32.wrap (IntKind.i32.wrap x5234)), IntKind.u8.wrap ((nth a4762 x5166).C), 0, 0])).length c5245) (l5162 ++ ([IntKind.u8.wrap ((nth a4762 x5166).Op), IntKind.u8.wrap x5233, IntKind.u8.wrap (Int.fdiv (IntKind.u32.wrap (IntKind.i32.wrap x5234)) (2 ^ (min (24 : Int).toNat IntKind.u32.bits))), IntKind.u8.wrap (Int.fdiv (IntKind.u32.wrap (IntKind.i32.wrap x5234)) (2 ^ (min (16 : Int).toNat IntKind.u32.bits))), IntKind.u8.wrap (Int.fdiv (IntKind.u32.wrap (IntKind.i32.wrap x5234)) (2 ^ (min (8 : Int).toNat IntKind.u32.bits))), IntKind.u8.wrap (IntKind.u32.wrap (IntKind.i32.wrap x5234)), IntKind.u8.wrap ((nth a4762 x5166).C), 0, 0])) :: OSf (FI .u8) 5 (.slice (some ⟨b5242, 0, none⟩) ([IntKind.u8.wrap ((nth a4762 x5166).Op), IntKind.u8.wrap x5233, IntKind.u8.wrap (Int.fdiv (IntKind.u32.wrap (IntKind.i32.wrap x5234)) (2 ^ (min (24 : Int).toNat IntKind.u32.bits))), IntKind.u8.wrap (Int.fdiv (IntKind.u32.wrap (IntKind.i32.wrap x5234)) (2 ^ (min (16 : Int).toNat IntKind.u32.bits))), IntKind.u8.wrap (Int.fdiv (IntKind.u32.wrap (IntKind.i32.wrap x5234)) (2 ^ (min (8 : Int).toNat IntKind.u32.bits))), IntKind.u8.wrap (IntKind.u32.wrap (IntKind.i32.wrap x5234)), IntKind.u8.wrap ((nth a4762 x5166).C), 0, 0]).length 9) ([IntKind.u8.wrap ((nth a4762 x5166).Op), IntKind.u8.wrap x5233, IntKind.u8.wrap (Int.fdiv (IntKind.u32.wrap (IntKind.i32.wrap x5234)) (2 ^ (min (24 : Int).toNat IntKind.u32.bits))), IntKind.u8.wrap (Int.fdiv (IntKind.u32.wrap (IntKind.i32.wrap x5234)) (2 ^ (min (16 : Int).toNat IntKind.u32.bits))), IntKind.u8.wrap (Int.fdiv (IntKind.u32.wrap (IntKind.i32.wrap x5234)) (2 ^ (min (8 : Int).toNat IntKind.u32.bits))), IntKind.u8.wrap (IntKind.u32.wrap (IntKind.i32.wrap x5234)), IntKind.u8.wrap ((nth a4762 x5166).C), 0, 0]) :: l) hf := hS
        refine ⟨fun _ => ((hS.dropAt 0 rfl).dropAt 0 rfl), ?_⟩
        refine RP.v1 28 rfl (by intro hx; cases hx) (Vl.assign rfl) rfl rfl ?_
        refine RP.nil ?_
        refine RQ.inB_n ?_
        refine RQ.then_n ?_
        refine RC.region ?_
        refine RL.s (Vl.move rfl) rfl ?_
        refine RL.s (Vl.int rfl rfl rfl) rfl ?_
        refine RL.s (Vl.assign rfl) rfl ?_
        refine RL.nil ?_
        exact fun a ha => ⟨((l5162 ++ ([IntKind.u8.wrap ((nth a4762 x5166).Op), IntKind.u8.wrap x5233, IntKind.u8.wrap (Int.fdiv (IntKind.u32.wrap (IntKind.i32.wrap x5234)) (2 ^ (min (24 : Int).toNat IntKind.u32.bits))), IntKind.u8.wrap (Int.fdiv (IntKind.u32.wrap (IntKind.i32.wrap x5234)) (2 ^ (min (16 : Int).toNat IntKind.u32.bits))), IntKind.u8.wrap (Int.fdiv (IntKind.u32.wrap (IntKind.i32.wrap x5234)) (2 ^ (min (8 : Int).toNat IntKind.u32.bits))), IntKind.u8.wrap (IntKind.u32.wrap (IntKind.i32.wrap x5234)), IntKind.u8.wrap ((nth a4762 x5166).C), 0, 0])), IntKind.i64.wrap (x5166 + 1)), ⟨(l5162 ++ ([IntKind.u8.wrap ((nth a4762 x5166).Op), IntKind.u8.wrap x5233, IntKind.u8.wrap (Int.fdiv (IntKind.u32.wrap (IntKind.i32.wrap x5234)) (2 ^ (min (24 : Int).toNat IntKind.u32.bits))), IntKind.u8.wrap (Int.fdiv (IntKind.u32.wrap (IntKind.i32.wrap x5234)) (2 ^ (min (16 : Int).toNat IntKind.u32.bits))), IntKind.u8.wrap (Int.fdiv (IntKind.u32.wrap (IntKind.i32.wrap x5234)) (2 ^ (min (8 : Int).toNat IntKind.u32.bits))), IntKind.u8.wrap (IntKind.u32.wrap (IntKind.i32.wrap x5234)), IntKind.u8.wrap ((nth a4762 x5166).C), 0, 0])), (IntKind.i64.wrap (x5166 + 1)), rfl, A5244, c5245, ha.to ⟨rfl, rfl, rfl, trivial⟩, (hS.dropAt 1 rfl)⟩, h.some⟩
      · refine RC.seq ?_
        refine RC.region ?_
        refine RL.s (Vl.move rfl) rfl ?_
        refine RL.s (Vl.move rfl) rfl ?_
        refine RL.s (Vl.indexAddr Tryd.underlying29 Tryd.sizeOf23 rfl rfl ((hr4765.2.world hS.sub).adr hq5231 hc5212) hq5231 hc5212 rfl) rfl ?_
        refine RL.s (Vl.fieldAddr (a'' := (ad A4763).add (x5166.toNat * 4 + 0)) Tryd.underlying23 rfl Tryd.sizeOf3 rfl (add_add _ _ _)) rfl ?_
        refine RL.s (Vl.load Tryd.isAgg3 rfl ((hr4765.2.world hS.sub).cell (j := 0) hq5231 hc5212 rfl)) rfl ?_
        refine RL.s (Vl.int rfl rfl rfl) rfl ?_
        refine RL.nil ?_
        refine RQ.then_n ?_
        by_cases hc5248 : (nth a4762 x5166).Op = 10
        case pos =>
          have h := h.pos hc5248
          refine RC.re 36 rfl (congrArg Value.bool (decide_eq_true hc5248)) ?_
          refine RC.condT rfl ?_
          refine RC.seq ?_
          refine RC.region ?_
          refine RL.s (Vl.move rfl) rfl ?_
          refine RL.s (Vl.assign rfl) rfl ?_
          refine RL.nil ?_
          refine RQ.then_n ?_
          refine RC.region ?_
          refine RL.s (Vl.assign rfl) rfl ?_
          refine RL.nil ?_
          exact fun a ha => ⟨(0, (nth a4762 x5166).A), 0, ((nth a4762 x5166).A), rfl, ha.to ⟨rfl, rfl, rfl, rfl, rfl, trivial⟩, hS, h⟩
        case neg =>
          have h := h.neg hc5248
          refine RC.re 36 rfl (congrArg Value.bool (decide_eq_false hc5248)) ?_
          refine RC.condF rfl ?_
          refine RC.skip ?_
          exact fun a ha => ⟨((nth a4762 x5166).A, (nth a4762 x5166).B), ((nth a4762 x5166).A), ((nth a4762 x5166).B), rfl, ha.to ⟨rfl, rfl, rfl, rfl, rfl, trivial⟩, hS, h⟩
    case neg =>
      have h := h.neg hc5212
      refine RC.re 18 rfl (congrArg Value.bool (decide_eq_false hc5212)) ?_
      refine RC.condF rfl ?_
      refine RC.exit ?_
      refine RQ.exitT ?_
      have h := h.inrS
      refine RQ.exitT ?_
      refine RQ.inB_hit ?_
      refine RQ.then_n ?_
      refine RC.seq ?_
      refine RC.region ?_
      refine RL.s (Vl.move rfl) rfl ?_
      refine RL.s (Vl.assign rfl) rfl ?_
      refine RL.s (Vl.assign rfl) rfl ?_
      refine RL.nil ?_
      refine RQ.then_n ?_
      refine RC.ret ?_
      have e := h.some
      subst e
      refine RQ.ret0 (vs := [.slice A5163 l5162.length c5164, .int .i64 0]) Tryd.results20 ⟨rfl, rfl, trivial⟩ ?_
      exact ⟨A5163, c5164, rfl, hS⟩
  case neg =>
    have h := h.neg hc5011
    refine RC.re 13 rfl (congrArg Value.bool (notdec_neg hc5011)) ?_
    refine RC.condT rfl ?_
    refine RC.seq ?_
    refine RC.region ?_
    refine RL.s (Vl.move rfl) rfl ?_
    refine RL.s (Vl.assign rfl) rfl ?_
    refine RL.s (Vl.assign rfl) rfl ?_
    refine RL.nil ?_
    refine RQ.then_n ?_
    refine RC.ret ?_
    refine RQ.ret ?_
    have hS := hS.nilSl (FI .u8) 5
    have e := h.some
    subst e
    refine RQ.ret0 (vs := [.slice none 0 0, .int .i64 t5008]) Tryd.results20 ⟨rfl, rfl, trivial⟩ ?_
    exact ⟨none, 0, rfl, hS⟩

/-! ### isochron/isochronlaw03.CodeEncodes: function 8 -/
noncomputable def isochronlaw03vCodeEncodes.f (a4125 : List api_Instr) : Option (Bool) := (if (([] : List api_Instr).length + a4125.length) * 32 ≤ 140737488355328 then ((code_Encode.f (([] : List api_Instr) ++ a4125)).bind fun (y5277, y5278) => ((isochronref03vEncode.f a4125).bind fun (y5284, y5285) => (if (strOf y5277) = (strOf y5284) then (if y5278 = y5285 then ((isochronlaw03vawake.f).bind fun t5291 => some t5291) else some false) else some false))) else none)
set_option maxRecDepth 100000 in
set_option maxHeartbeats 4000000 in
theorem isochronlaw03vCodeEncodes.ok {B : Base} {w : World} {l : List HProp} {hf : Hp} (a4125 : List api_Instr) (A4126 : Option Addr) (c4127 : Nat) (hr4128 : SlR E_api_Instr.rep hf A4126 c4127 a4125) (hT : TabH Tryd.prog hf) (r : Bool) (h : isochronlaw03vCodeEncodes.f a4125 = some r) (hS : St B w (l) hf) :
    Calls Tryd.prog 8 #[.slice A4126 a4125.length c4127] w (Ret fun v w => v = .bool r ∧ St B w (l) hf) := by
  have h := Holds.of h
  refine enter (args := [.slice A4126 a4125.length c4127]) Tryd.func8 rfl Tryd.ntmps8 (Nat.le_of_ble_eq_true rfl) ?_
  refine RC.seq ?_
  refine RC.region ?_
  refine RL.s (Vl.assign rfl) rfl ?_
  refine RL.nil ?_
  refine RQ.then_n ?_
  refine RC.seq ?_
  refine RC.region ?_
  refine RL.e (OW.build0 (E := E_api_Instr) hS Tryd.underlying29 Tryd.zeroValue23 Tryd.sizeOf23) rfl rfl ?_
  rintro _ w ⟨b5265, rfl, hS⟩
  have hS : St B w (OSf E_api_Instr 23 (.slice (some ⟨b5265, 0, none⟩) ([] : List api_Instr).length 0) ([] : List api_Instr) :: l) hf := hS
  refine RL.s (Vl.move rfl) rfl ?_
  obtain ⟨hq5266, h⟩ := h.req
  refine RL.e (OW.appendV (E := E_api_Instr) (xs := ([] : List api_Instr)) (ys := a4125) 0 hS rfl Tryd.underlying29 Tryd.type23 rfl rfl rfl rfl (by decide) (by decide) rfl rfl (hr4128.2.world hS.sub) hq5266 rfl) rfl rfl ?_
  rintro v5270 w hS
  obtain ⟨A5267, c5268, rfl, _⟩ := hS.osShape 0 rfl
  have hS : St B w (OSf E_api_Instr 23 (.slice A5267 (([] : List api_Instr) ++ a4125).length c5268) (([] : List api_Instr) ++ a4125) :: l) hf := hS
  obtain ⟨hf5274, hs5272, hS, hr5271, hb5273⟩ := St.lendSl hS
  obtain ⟨t5275, hg5276, h⟩ := h.bind
  obtain ⟨y5277, y5278⟩ := t5275
  refine RL.e (OW.callF (ls := [.tmp 10]) rfl Tryd.call19 (code_Encode.ok (([] : List api_Instr) ++ a4125) A5267 c5268 hr5271 _ hg5276 hS)) rfl rfl ?_
  rintro _ w ⟨A5279, c5280, rfl, hS⟩
  have hS := hb5273 _ _ hS
  have hS : St B w (OSf E_api_Instr 23 (.slice A5267 (([] : List api_Instr) ++ a4125).length c5268) (([] : List api_Instr) ++ a4125) :: OSf (FI .u8) 5 (.slice A5279 y5277.length c5280) y5277 :: l) hf := hS
  refine RL.s (Vl.move rfl) rfl ?_
  refine RL.s (Vl.extract rfl rfl) rfl ?_
  refine RL.s (Vl.extract rfl rfl) rfl ?_
  refine RL.s (Vl.assign rfl) rfl ?_
  refine RL.s (Vl.assign rfl) rfl ?_
  refine RL.nil ?_
  refine RQ.then_n ?_
  refine RC.seq ?_
  refine RC.region ?_
  refine RL.s (Vl.move rfl) rfl ?_
  obtain ⟨t5282, hg5283, h⟩ := h.bind
  obtain ⟨y5284, y5285⟩ := t5282
  refine RL.e (OW.callF (ls := [.tmp 15]) rfl Tryd.call20 (isochronref03vEncode.ok a4125 A4126 c4127 hr4128 _ hg5283 hS)) rfl rfl ?_
  rintro _ w ⟨A5286, c5287, rfl, hS⟩
  have hS : St B w (OSf (FI .u8) 5 (.slice A5286 y5284.length c5287) y5284 :: OSf E_api_Instr 23 (.slice A5267 (([] : List api_Instr) ++ a4125).length c5268) (([] : List api_Instr) ++ a4125) :: OSf (FI .u8) 5 (.slice A5279 y5277.length c5280) y5277 :: l) hf := hS
  refine RL.s (Vl.move rfl) rfl ?_
  refine RL.s (Vl.extract rfl rfl) rfl ?_
  refine RL.s (Vl.extract rfl rfl) rfl ?_
  refine RL.s (Vl.assign rfl) rfl ?_
  refine RL.s (Vl.assign rfl) rfl ?_
  refine RL.nil ?_
  refine RQ.then_n ?_
  refine RC.seq ?_
  refine RC.region ?_
  refine RL.s (Vl.move rfl) rfl ?_
  refine RL.s (Vl.bytesStr Tryd.underlying28 Tryd.underlying5 Tryd.underlying9 rfl (hS.slW 2 rfl).2.2) rfl ?_
  refine RL.s (Vl.move rfl) rfl ?_
  refine RL.s (Vl.bytesStr Tryd.underlying28 Tryd.underlying5 Tryd.underlying9 rfl (hS.slW 0 rfl).2.2) rfl ?_
  refine RL.s (Vl.strEq rfl rfl) rfl ?_
  refine RL.s (Vl.move rfl) rfl ?_
  by_cases hc5289 : (strOf y5277) = (strOf y5284)
  case pos =>
    have h := h.pos hc5289
    refine RL.re 24 rfl (congrArg Value.bool (decide_eq_true hc5289)) ?_
    refine RL.sg (Vl.move rfl) rfl rfl ?_
    refine RL.sg (Vl.move rfl) rfl rfl ?_
    refine RL.sg (Vl.int rfl rfl rfl) rfl rfl ?_
    refine RL.s (Vl.pickT rfl rfl) rfl ?_
    refine RL.s (Vl.move rfl) rfl ?_
    by_cases hc5290 : y5278 = y5285
    case pos =>
      have h := h.pos hc5290
      refine RL.re 29 rfl (congrArg Value.bool (decide_eq_true hc5290)) ?_
      obtain ⟨t5291, hg5292, h⟩ := h.bind
      refine RL.e (OW.callF (ls := []) rfl Tryd.call13 (isochronlaw03vawake.ok hT _ hg5292 hS)) rfl rfl ?_
      rintro _ w ⟨rfl, hS⟩
      have hS : St B w (OSf (FI .u8) 5 (.slice A5286 y5284.length c5287) y5284 :: OSf E_api_Instr 23 (.slice A5267 (([] : List api_Instr) ++ a4125).length c5268) (([] : List api_Instr) ++ a4125) :: OSf (FI .u8) 5 (.slice A5279 y5277.length c5280) y5277 :: l) hf := hS
      refine RL.s (Vl.pickT rfl rfl) rfl ?_
      refine RL.s (Vl.assign rfl) rfl ?_
      refine RL.nil ?_
      refine RQ.then_n ?_
      refine RC.ret ?_
      have e := h.some
      subst e
      refine RQ.ret0 (vs := [.bool t5291]) Tryd.results8 ⟨rfl, trivial⟩ ?_
      exact ⟨rfl, (((hS.dropAt 0 rfl).dropAt 0 rfl).dropAt 0 rfl)⟩
    case neg =>
      have h := h.neg hc5290
      refine RL.re 29 rfl (congrArg Value.bool (decide_eq_false hc5290)) ?_
      refine RL.nn rfl rfl ?_
      refine RL.s (Vl.pickF rfl rfl) rfl ?_
      refine RL.s (Vl.assign rfl) rfl ?_
      refine RL.nil ?_
      refine RQ.then_n ?_
      refine RC.ret ?_
      have e := h.some
      subst e
      refine RQ.ret0 (vs := [.bool false]) Tryd.results8 ⟨rfl, trivial⟩ ?_
      exact ⟨rfl, (((hS.dropAt 0 rfl).dropAt 0 rfl).dropAt 0 rfl)⟩
  case neg =>
    have h := h.neg hc5289
    refine RL.re 24 rfl (congrArg Value.bool (decide_eq_false hc5289)) ?_
    refine RL.nn rfl rfl ?_
    refine RL.nn rfl rfl ?_
    refine RL.nn rfl rfl ?_
    refine RL.s (Vl.pickF rfl rfl) rfl ?_
    refine RL.s (Vl.move rfl) rfl ?_
    refine RL.nn rfl rfl ?_
    refine RL.s (Vl.pickF rfl rfl) rfl ?_
    refine RL.s (Vl.assign rfl) rfl ?_
    refine RL.nil ?_
    refine RQ.then_n ?_
    refine RC.ret ?_
    have e := h.some
    subst e
    refine RQ.ret0 (vs := [.bool false]) Tryd.results8 ⟨rfl, trivial⟩ ?_
    exact ⟨rfl, (((hS.dropAt 0 rfl).dropAt 0 rfl).dropAt 0 rfl)⟩

/-! ### isochron/isochronlaw03.CodeLengths: function 9 -/
noncomputable def isochronlaw03vCodeLengths.j30 (x5711 : Int) (x5767 : Int) : Option ((Int) ⊕ (Bool)) := (if x5767 = 10 then ((isochronlaw03vawake.f).bind fun t5769 => some (.inr t5769)) else (if x5767 = 11 then ((isochronlaw03vawake.f).bind fun t5772 => some (.inr t5772)) else some (.inl (IntKind.i64.wrap (x5711 + 1)))))
noncomputable def isochronlaw03vCodeLengths.l28b (a5293 : List api_Instr) (a5297 : List api_Instr) (y5571 : List Int) (y5572 : Int) (y5578 : List Int) (y5579 : Int) : Int → Option ((Int) ⊕ (Bool))
  | (x5711) => (if x5711 < IntKind.i64.wrap ((a5293.length : Int) + (a5297.length : Int)) then (if x5711 < (a5293.length : Int) then (if 0 ≤ x5711 then isochronlaw03vCodeLengths.j30 x5711 ((nth a5293 x5711).Op) else none) else (if 0 ≤ IntKind.i64.wrap (x5711 - (a5293.length : Int)) ∧ IntKind.i64.wrap (x5711 - (a5293.length : Int)) < (a5297.length : Int) then isochronlaw03vCodeLengths.j30 x5711 ((nth a5297 (IntKind.i64.wrap (x5711 - (a5293.length : Int)))).Op) else none)) else (Option.map Sum.inr (if (([] : List api_Instr).length + a5293.length) * 32 ≤ 140737488355328 then (if ((([] : List api_Instr) ++ a5293).length + a5297.length) * 32 ≤ 140737488355328 then ((code_Encode.f ((([] : List api_Instr) ++ a5293) ++ a5297)).bind fun (y5797, y5798) => (if y5572 = 0 then (if y5579 = 0 then (if 256 < IntKind.i64.wrap ((a5293.length : Int) + (a5297.length : Int)) then (if y5798 = 0 then some false else (if (y5797.length : Int) = 0 then ((isochronlaw03vawake.f).bind fun t5822 => some t5822) else some false)) else (if y5798 = 0 then (if (strOf y5571).size + (strOf y5578).size ≤ 9223372036854775807 then some (decide ((strOf y5797) = (strOf y5571) ++ (strOf y5578))) else none) else some false)) else (if y5798 = 0 then some false else (if (y5797.length : Int) = 0 then ((isochronlaw03vawake.f).bind fun t5828 => some t5828) else some false))) else (if y5798 = 0 then some false else (if (y5797.length : Int) = 0 then ((isochronlaw03vawake.f).bind fun t5832 => some t5832) else some false)))) else none) else none)))
noncomputable def isochronlaw03vCodeLengths.l28 (a5293 : List api_Instr) (a5297 : List api_Instr) (y5571 : List Int) (y5572 : Int) (y5578 : List Int) (y5579 : Int) (s : Int) : Option (Bool) := loopR (isochronlaw03vCodeLengths.l28b a5293 a5297 y5571 y5572 y5578 y5579) s
noncomputable def isochronlaw03vCodeLengths.j16 (a5293 : List api_Instr) (a5297 : List api_Instr) (y5571 : List Int) (y5572 : Int) (y5578 : List Int) (y5579 : Int) : Option (Bool) := isochronlaw03vCodeLengths.l28 a5293 a5297 y5571 y5572 y5578 y5579 (0)
noncomputable def isochronlaw03vCodeLengths.f (a5293 : List api_Instr) (a5297 : List api_Instr) : Option (Bool) := ((code_Encode.f a5293).bind fun (y5571, y5572) => ((code_Encode.f a5297).bind fun (y5578, y5579) => (if y5572 = 0 then (if (y5571.length : Int) = IntKind.i64.wrap (9 * (a5293.length : Int)) then isochronlaw03vCodeLengths.j16 a5293 a5297 y5571 y5572 y5578 y5579 else some false) else (if (y5571.length : Int) = 0 then isochronlaw03vCodeLengths.j16 a5293 a5297 y5571 y5572 y5578 y5579 else some false))))
set_option maxRecDepth 100000 in
set_option maxHeartbeats 4000000 in
theorem isochronlaw03vCodeLengths.ok {B : Base} {w : World} {l : List HProp} {hf : Hp} (a5293 : List api_Instr) (a5297 : List api_Instr) (A5294 : Option Addr) (c5295 : Nat) (A5298 : Option Addr) (c5299 : Nat) (hr5296 : SlR E_api_Instr.rep hf A5294 c5295 a5293) (hr5300 : SlR E_api_Instr.rep hf A5298 c5299 a5297) (hT : TabH Tryd.prog hf) (r : Bool) (h : isochronlaw03vCodeLengths.f a5293 a5297 = some r) (hS : St B w (l) hf) :
    Calls Tryd.prog 9 #[.slice A5294 a5293.length c5295, .slice A5298 a5297.length c5299] w (Ret fun v w => v = .bool r ∧ St B w (l) hf) := by
  have h := Holds.of h
  refine enter (args := [.slice A5294 a5293.length c5295, .slice A5298 a5297.length c5299]) Tryd.func9 rfl Tryd.ntmps9 (Nat.le_of_ble_eq_true rfl) ?_
  refine RC.seq ?_
  refine RC.region ?_
  refine RL.s (Vl.assign rfl) rfl ?_
  refine RL.nil ?_
  refine RQ.then_n ?_
  refine RC.seq ?_
  refine RC.region ?_
  refine RL.s (Vl.move rfl) rfl ?_
  obtain ⟨t5569, hg5570, h⟩ := h.bind
  obtain ⟨y5571, y5572⟩ := t5569
  refine RL.e (OW.callF (ls := [.tmp 14]) rfl Tryd.call19 (code_Encode.ok a5293 A5294 c5295 hr5296 _ hg5570 hS)) rfl rfl ?_
  rintro _ w ⟨A5573, c5574, rfl, hS⟩
  have hS : St B w (OSf (FI .u8) 5 (.slice A5573 y5571.length c5574) y5571 :: l) hf := hS
  refine RL.s (Vl.move rfl) rfl ?_
  refine RL.s (Vl.extract rfl rfl) rfl ?_
  refine RL.s (Vl.extract rfl rfl) rfl ?_
  refine RL.s (Vl.assign rfl) rfl ?_
  refine RL.s (Vl.assign rfl) rfl ?_
  refine RL.nil ?_
  refine RQ.then_n ?_
  refine RC.seq ?_
  refine RC.region ?_
  refine RL.s (Vl.move rfl) rfl ?_
  obtain ⟨t5576, hg5577, h⟩ := h.bind
  obtain ⟨y5578, y5579⟩ := t5576
  refine RL.e (OW.callF (ls := [.tmp 19]) rfl Tryd.call19 (code_Encode.ok a5297 A5298 c5299 hr5300 _ hg5577 hS)) rfl rfl ?_
  rintro _ w ⟨A5580, c5581, rfl, hS⟩
  have hS : St B w (OSf (FI .u8) 5 (.slice A5580 y5578.length c5581) y5578 :: OSf (FI .u8) 5 (.slice A5573 y5571.length c5574) y5571 :: l) hf := hS
  refine RL.s (Vl.move rfl) rfl ?_
  refine RL.s (Vl.extract rfl rfl) rfl ?_
  refine RL.s (Vl.extract rfl rfl) rfl ?_
  refine RL.s (Vl.assign rfl) rfl ?_
  refine RL.s (Vl.assign rfl) rfl ?_
  refine RL.nil ?_
  refine RQ.then_n ?_
  refine RC.join (fun (s : Unit) a w => s = () ∧ Has 120 [(0, .slice A5294 a5293.length c5295), (1, .slice A5298 a5297.length c5299), (5, .slice A5573 y5571.length c5574), (6, .int .i64 y5572), (7, .slice A5580 y5578.length c5581), (8, .int .i64 y5579)] a ∧ St B w (OSf (FI .u8) 5 (.slice A5573 y5571.length c5574) y5571 :: OSf (FI .u8) 5 (.slice A5580 y5578.length c5581) y5578 :: l) hf ∧ Holds (· = r) (isochronlaw03vCodeLengths.j16 a5293 a5297 y5571 y5572 y5578 y5579)) ?_ ?_
  · rintro _ a w ⟨rfl, ha, hS, h⟩
    revert a
    show RC _ _ _ _ _ _
    refine RC.seq ?_
    refine RC.seq ?_
    refine RC.region ?_
    refine RL.s (Vl.assign rfl) rfl ?_
    refine RL.nil ?_
    refine RQ.then_n ?_
    refine RC.block ?_
    refine fun a ha => RC.loop (N := 120) (body := (isochronlaw03vCodeLengths.l28b a5293 a5297 y5571 y5572 y5578 y5579)) (φ := (· = r)) (fun (s : Int) a w => ∃ (x5711 : Int), s = (x5711) ∧ Has 120 [(0, .slice A5294 a5293.length c5295), (1, .slice A5298 a5297.length c5299), (5, .slice A5573 y5571.length c5574), (6, .int .i64 y5572), (7, .slice A5580 y5578.length c5581), (8, .int .i64 y5579), (9, .int .i64 x5711)] a ∧ St B w (OSf (FI .u8) 5 (.slice A5573 y5571.length c5574) y5571 :: OSf (FI .u8) 5 (.slice A5580 y5578.length c5581) y5578 :: l) hf) ?_ (s0 := (0)) h ⟨0, rfl, ha.to ⟨rfl, rfl, rfl, rfl, rfl, rfl, rfl, trivial⟩, hS⟩
    rintro G5745 x5711 a w ⟨_, rfl, ha, hS⟩ h
    revert a
    show RC _ _ _ _ _ _
    refine RC.seq ?_
    refine RC.seq ?_
    refine RC.region ?_
    refine RL.s (Vl.move rfl) rfl ?_
    refine RL.s (Vl.move rfl) rfl ?_
    refine RL.s (Vl.lenSl Tryd.underlying29 rfl) rfl ?_
    refine RL.s (Vl.move rfl) rfl ?_
    refine RL.s (Vl.lenSl Tryd.underlying29 rfl) rfl ?_
    refine RL.s (Vl.int rfl rfl rfl) rfl ?_
    refine RL.s (Vl.int rfl rfl rfl) rfl ?_
    refine RL.nil ?_
    refine RQ.then_n ?_
    by_cases hc5747 : x5711 < IntKind.i64.wrap ((a5293.length : Int) + (a5297.length : Int))
    case pos =>
      have h := h.pos hc5747
      refine RC.re 48 rfl (congrArg Value.bool (decide_eq_true hc5747)) ?_
      refine RC.condT rfl ?_
      refine RC.skip ?_
      refine RQ.then_n ?_
      refine RC.seq ?_
      refine RC.block ?_
      refine RC.seq ?_
      refine RC.region ?_
      refine RL.s (Vl.assign rfl) rfl ?_
      refine RL.nil ?_
      refine RQ.then_n ?_
      refine RC.join (fun (s : Int) a w => ∃ (x5767 : Int), s = (x5767) ∧ Has 120 [(0, .slice A5294 a5293.length c5295), (1, .slice A5298 a5297.length c5299), (5, .slice A5573 y5571.length c5574), (6, .int .i64 y5572), (7, .slice A5580 y5578.length c5581), (8, .int .i64 y5579), (9, .int .i64 x5711), (10, .int .i64 x5767)] a ∧ St B w (OSf (FI .u8) 5 (.slice A5573 y5571.length c5574) y5571 :: OSf (FI .u8) 5 (.slice A5580 y5578.length c5581) y5578 :: l) hf ∧ Holds (Sum.elim G5745 (· = r)) (isochronlaw03vCodeLengths.j30 x5711 x5767)) ?_ ?_
      · rintro x5767 a w ⟨_, rfl, ha, hS, h⟩
        revert a
        show RC _ _ _ _ _ _
        refine RC.seq ?_
        refine RC.region ?_
        refine RL.s (Vl.move rfl) rfl ?_
        refine RL.s (Vl.int rfl rfl rfl) rfl ?_
        refine RL.s (Vl.move rfl) rfl ?_
        by_cases hc5768 : x5767 = 10
        case pos =>
          have h := h.pos hc5768
          refine RL.re 70 rfl (congrArg Value.bool (decide_eq_true hc5768)) ?_
          refine RL.nn rfl rfl ?_
          refine RL.nn rfl rfl ?_
          refine RL.s (Vl.pickT rfl rfl) rfl ?_
          refine RL.nil ?_
          refine RQ.then_n ?_
          refine RC.condT rfl ?_
          refine RC.seq ?_
          refine RC.region ?_
          obtain ⟨t5769, hg5770, h⟩ := h.bind
          refine RL.e (OW.callF (ls := []) rfl Tryd.call13 (isochronlaw03vawake.ok hT _ hg5770 hS)) rfl rfl ?_
          rintro _ w ⟨rfl, hS⟩
          have hS : St B w (OSf (FI .u8) 5 (.slice A5573 y5571.length c5574) y5571 :: OSf (FI .u8) 5 (.slice A5580 y5578.length c5581) y5578 :: l) hf := hS
          refine RL.s (Vl.assign rfl) rfl ?_
          refine RL.nil ?_
          refine RQ.then_n ?_
          refine RC.ret ?_
          refine RQ.inB_ret ?_
          refine RQ.ret ?_
          have h := h.inrS
          refine RQ.ret ?_
          refine RQ.inB_ret ?_
          refine RQ.ret ?_
          have e := h.some
          subst e
          refine RQ.ret0 (vs := [.bool t5769]) Tryd.results9 ⟨rfl, trivial⟩ ?_
          exact ⟨rfl, ((hS.dropAt 0 rfl).dropAt 0 rfl)⟩
        case neg =>
          have h := h.neg hc5768
          refine RL.re 70 rfl (congrArg Value.bool (decide_eq_false hc5768)) ?_
          refine RL.sg (Vl.move rfl) rfl rfl ?_
          refine RL.sg (Vl.int rfl rfl rfl) rfl rfl ?_
          refine RL.s (Vl.pickF rfl rfl) rfl ?_
          refine RL.nil ?_
          refine RQ.then_n ?_
          by_cases hc5771 : x5767 = 11
          case pos =>
            have h := h.pos hc5771
            refine RC.re 73 rfl (congrArg Value.bool (decide_eq_true hc5771)) ?_
            refine RC.condT rfl ?_
            refine RC.seq ?_
            refine RC.region ?_
            obtain ⟨t5772, hg5773, h⟩ := h.bind
            refine RL.e (OW.callF (ls := []) rfl Tryd.call13 (isochronlaw03vawake.ok hT _ hg5773 hS)) rfl rfl ?_
            rintro _ w ⟨rfl, hS⟩
            have hS : St B w (OSf (FI .u8) 5 (.slice A5573 y5571.length c5574) y5571 :: OSf (FI .u8) 5 (.slice A5580 y5578.length c5581) y5578 :: l) hf := hS
            refine RL.s (Vl.assign rfl) rfl ?_
            refine RL.nil ?_
            refine RQ.then_n ?_
            refine RC.ret ?_
            refine RQ.inB_ret ?_
            refine RQ.ret ?_
            have h := h.inrS
            refine RQ.ret ?_
            refine RQ.inB_ret ?_
            refine RQ.ret ?_
            have e := h.some
            subst e
            refine RQ.ret0 (vs := [.bool t5772]) Tryd.results9 ⟨rfl, trivial⟩ ?_
            exact ⟨rfl, ((hS.dropAt 0 rfl).dropAt 0 rfl)⟩
          case neg =>
            have h := h.neg hc5771
            refine RC.re 73 rfl (congrArg Value.bool (decide_eq_false hc5771)) ?_
            refine RC.condF rfl ?_
            refine RC.skip ?_
            refine RQ.inB_n ?_
            refine RQ.then_n ?_
            refine RC.region ?_
            refine RL.s (Vl.move rfl) rfl ?_
            refine RL.s (Vl.int rfl rfl rfl) rfl ?_
            refine RL.s (Vl.assign rfl) rfl ?_
            refine RL.nil ?_
            exact fun a ha => ⟨(IntKind.i64.wrap (x5711 + 1)), ⟨(IntKind.i64.wrap (x5711 + 1)), rfl, ha.to ⟨rfl, rfl, rfl, rfl, rfl, rfl, rfl, trivial⟩, hS⟩, h.some⟩
      · refine RC.seq ?_
        refine RC.region ?_
        refine RL.s (Vl.move rfl) rfl ?_
        refine RL.s (Vl.move rfl) rfl ?_
        refine RL.s (Vl.lenSl Tryd.underlying29 rfl) rfl ?_
        refine RL.s (Vl.int rfl rfl rfl) rfl ?_
        refine RL.nil ?_
        refine RQ.then_n ?_
        by_cases hc5774 : x5711 < (a5293.length : Int)
        case pos =>
          have h := h.pos hc5774
          refine RC.re 54 rfl (congrArg Value.bool (decide_eq_true hc5774)) ?_
          refine RC.condT rfl ?_
          refine RC.region ?_
          refine RL.s (Vl.move rfl) rfl ?_
          refine RL.s (Vl.move rfl) rfl ?_
          obtain ⟨hq5775, h⟩ := h.req
          refine RL.s (Vl.indexAddr Tryd.underlying29 Tryd.sizeOf23 rfl rfl ((hr5296.2.world hS.sub).adr hq5775 hc5774) hq5775 hc5774 rfl) rfl ?_
          refine RL.s (Vl.fieldAddr (a'' := (ad A5294).add (x5711.toNat * 4 + 0)) Tryd.underlying23 rfl Tryd.sizeOf3 rfl (add_add _ _ _)) rfl ?_
          refine RL.s (Vl.load Tryd.isAgg3 rfl ((hr5296.2.world hS.sub).cell (j := 0) hq5775 hc5774 rfl)) rfl ?_
          refine RL.s (Vl.assign rfl) rfl ?_
          refine RL.nil ?_
          exact fun a ha => ⟨((nth a5293 x5711).Op), ((nth a5293 x5711).Op), rfl, ha.to ⟨rfl, rfl, rfl, rfl, rfl, rfl, rfl, rfl, trivial⟩, hS, h⟩
        case neg =>
          have h := h.neg hc5774
          refine RC.re 54 rfl (congrArg Value.bool (decide_eq_false hc5774)) ?_
          refine RC.condF rfl ?_
          refine RC.region ?_
          refine RL.s (Vl.move rfl) rfl ?_
          refine RL.s (Vl.move rfl) rfl ?_
          refine RL.s (Vl.move rfl) rfl ?_
          refine RL.s (Vl.lenSl Tryd.underlying29 rfl) rfl ?_
          refine RL.s (Vl.int rfl rfl rfl) rfl ?_
          obtain ⟨⟨hq5776, hq5777⟩, h⟩ := h.req
          refine RL.s (Vl.indexAddr Tryd.underlying29 Tryd.sizeOf23 rfl rfl ((hr5300.2.world hS.sub).adr hq5776 hq5777) hq5776 hq5777 rfl) rfl ?_
          refine RL.s (Vl.fieldAddr (a'' := (ad A5298).add ((IntKind.i64.wrap (x5711 - (a5293.length : Int))).toNat * 4 + 0)) Tryd.underlying23 rfl Tryd.sizeOf3 rfl (add_add _ _ _)) rfl ?_
          refine RL.s (Vl.load Tryd.isAgg3 rfl ((hr5300.2.world hS.sub).cell (j := 0) hq5776 hq5777 rfl)) rfl ?_
          refine RL.s (Vl.assign rfl) rfl ?_
          refine RL.nil ?_
          exact fun a ha => ⟨((nth a5297 (IntKind.i64.wrap (x5711 - (a5293.length : Int)))).Op), ((nth a5297 (IntKind.i64.wrap (x5711 - (a5293.length : Int)))).Op), rfl, ha.to ⟨rfl, rfl, rfl, rfl, rfl, rfl, rfl, rfl, trivial⟩, hS, h⟩
    case neg =>
      have h := h.neg hc5747
      refine RC.re 48 rfl (congrArg Value.bool (decide_eq_false hc5747)) ?_
      refine RC.condF rfl ?_
      refine RC.exit ?_
      refine RQ.exitT ?_
      have h := h.inr
      refine RQ.exitT ?_
      refine RQ.inB_hit ?_
      refine RQ.then_n ?_
      refine RC.seq ?_
      refine RC.region ?_
      refine RL.e (OW.build0 (E := E_api_Instr) hS Tryd.underlying29 Tryd.zeroValue23 Tryd.sizeOf23) rfl rfl ?_
      rintro _ w ⟨b5780, rfl, hS⟩
      have hS : St B w (OSf E_api_Instr 23 (.slice (some ⟨b5780, 0, none⟩) ([] : List api_Instr).length 0) ([] : List api_Instr) :: OSf (FI .u8) 5 (.slice A5573 y5571.length c5574) y5571 :: OSf (FI .u8) 5 (.slice A5580 y5578.length c5581) y5578 :: l) hf := hS
      refine RL.s (Vl.move rfl) rfl ?_
      obtain ⟨hq5781, h⟩ := h.req
      refine RL.e (OW.appendV (E := E_api_Instr) (xs := ([] : List api_Instr)) (ys := a5293) 0 hS rfl Tryd.underlying29 Tryd.type23 rfl rfl rfl rfl (by decide) (by decide) rfl rfl (hr5296.2.world hS.sub) hq5781 rfl) rfl rfl ?_
      rintro v5785 w hS
      obtain ⟨A5782, c5783, rfl, _⟩ := hS.osShape 0 rfl
      have hS : St B w (OSf E_api_Instr 23 (.slice A5782 (([] : List api_Instr) ++ a5293).length c5783) (([] : List api_Instr) ++ a5293) :: OSf (FI .u8) 5 (.slice A5573 y5571.length c5574) y5571 :: OSf (FI .u8) 5 (.slice A5580 y5578.length c5581) y5578 :: l) hf := hS
      refine RL.s (Vl.move rfl) rfl ?_
      obtain ⟨hq5786, h⟩ := h.req
      refine RL.e (OW.appendV (E := E_api_Instr) (xs := (([] : List api_Instr) ++ a5293)) (ys := a5297) 0 hS rfl Tryd.underlying29 Tryd.type23 rfl rfl rfl rfl (by decide) (by decide) rfl rfl (hr5300.2.world hS.sub) hq5786 rfl) rfl rfl ?_
      rintro v5790 w hS
      obtain ⟨A5787, c5788, rfl, _⟩ := hS.osShape 0 rfl
      have hS : St B w (OSf E_api_Instr 23 (.slice A5787 ((([] : List api_Instr) ++ a5293) ++ a5297).length c5788) ((([] : List api_Instr) ++ a5293) ++ a5297) :: OSf (FI .u8) 5 (.slice A5573 y5571.length c5574) y5571 :: OSf (FI .u8) 5 (.slice A5580 y5578.length c5581) y5578 :: l) hf := hS
      obtain ⟨hf5794, hs5792, hS, hr5791, hb5793⟩ := St.lendSl hS
      obtain ⟨t5795, hg5796, h⟩ := h.bind
      obtain ⟨y5797, y5798⟩ := t5795
      refine RL.e (OW.callF (ls := [.tmp 80]) rfl Tryd.call19 (code_Encode.ok ((([] : List api_Instr) ++ a5293) ++ a5297) A5787 c5788 hr5791 _ hg5796 hS)) rfl rfl ?_
      rintro _ w ⟨A5799, c5800, rfl, hS⟩
      have hS := hb5793 _ _ hS
      have hS : St B w (OSf E_api_Instr 23 (.slice A5787 ((([] : List api_Instr) ++ a5293) ++ a5297).length c5788) ((([] : List api_Instr) ++ a5293) ++ a5297) :: OSf (FI .u8) 5 (.slice A5799 y5797.length c5800) y5797 :: OSf (FI .u8) 5 (.slice A5573 y5571.length c5574) y5571 :: OSf (FI .u8) 5 (.slice A5580 y5578.length c5581) y5578 :: l) hf := hS
      refine RL.s (Vl.move rfl) rfl ?_
      refine RL.s (Vl.extract rfl rfl) rfl ?_
      refine RL.s (Vl.extract rfl rfl) rfl ?_
      refine RL.s (Vl.assign rfl) rfl ?_
      refine RL.s (Vl.assign rfl) rfl ?_
      refine RL.nil ?_
      refine RQ.then_n ?_
      refine RC.seq ?_
      refine RC.seq ?_
      refine RC.region ?_
      refine RL.s (Vl.move rfl) rfl ?_
      refine RL.s (Vl.int rfl rfl rfl) rfl ?_
      refine RL.s (Vl.move rfl) rfl ?_
      by_cases hc5817 : y5572 = 0
      case pos =>
        have h := h.pos hc5817
        refine RL.re 86 rfl (congrArg Value.bool (notdec_pos hc5817)) ?_
        refine RL.sg (Vl.move rfl) rfl rfl ?_
        refine RL.sg (Vl.int rfl rfl rfl) rfl rfl ?_
        refine RL.s (Vl.pickF rfl rfl) rfl ?_
        refine RL.s (Vl.move rfl) rfl ?_
        by_cases hc5818 : y5579 = 0
        case pos =>
          have h := h.pos hc5818
          refine RL.re 90 rfl (congrArg Value.bool (notdec_pos hc5818)) ?_
          refine RL.sg (Vl.move rfl) rfl rfl ?_
          refine RL.sg (Vl.lenSl Tryd.underlying29 rfl) rfl rfl ?_
          refine RL.sg (Vl.move rfl) rfl rfl ?_
          refine RL.sg (Vl.lenSl Tryd.underlying29 rfl) rfl rfl ?_
          refine RL.sg (Vl.int rfl rfl rfl) rfl rfl ?_
          refine RL.sg (Vl.int rfl rfl rfl) rfl rfl ?_
          refine RL.s (Vl.pickF rfl rfl) rfl ?_
          refine RL.nil ?_
          refine RQ.then_n ?_
          by_cases hc5819 : 256 < IntKind.i64.wrap ((a5293.length : Int) + (a5297.length : Int))
          case pos =>
            have h := h.pos hc5819
            refine RC.re 97 rfl (congrArg Value.bool (decide_eq_true hc5819)) ?_
            refine RC.condT rfl ?_
            refine RC.seq ?_
            refine RC.region ?_
            refine RL.s (Vl.move rfl) rfl ?_
            refine RL.s (Vl.int rfl rfl rfl) rfl ?_
            refine RL.s (Vl.move rfl) rfl ?_
            by_cases hc5820 : y5798 = 0
            case pos =>
              have h := h.pos hc5820
              refine RL.re 100 rfl (congrArg Value.bool (notdec_pos hc5820)) ?_
              refine RL.nn rfl rfl ?_
              refine RL.nn rfl rfl ?_
              refine RL.nn rfl rfl ?_
              refine RL.s (Vl.pickF rfl rfl) rfl ?_
              refine RL.s (Vl.move rfl) rfl ?_
              refine RL.nn rfl rfl ?_
              refine RL.s (Vl.pickF rfl rfl) rfl ?_
              refine RL.s (Vl.assign rfl) rfl ?_
              refine RL.nil ?_
              refine RQ.then_n ?_
              refine RC.ret ?_
              refine RQ.ret ?_
              have e := h.some
              subst e
              refine RQ.ret0 (vs := [.bool false]) Tryd.results9 ⟨rfl, trivial⟩ ?_
              exact ⟨rfl, ((((hS.dropAt 0 rfl).dropAt 0 rfl).dropAt 0 rfl).dropAt 0 rfl)⟩
            case neg =>
              have h := h.neg hc5820
              refine RL.re 100 rfl (congrArg Value.bool (notdec_neg hc5820)) ?_
              refine RL.sg (Vl.move rfl) rfl rfl ?_
              refine RL.sg (Vl.lenSl Tryd.underlying28 rfl) rfl rfl ?_
              refine RL.sg (Vl.int rfl rfl rfl) rfl rfl ?_
              refine RL.s (Vl.pickT rfl rfl) rfl ?_
              refine RL.s (Vl.move rfl) rfl ?_
              by_cases hc5821 : (y5797.length : Int) = 0
              case pos =>
                have h := h.pos hc5821
                refine RL.re 105 rfl (congrArg Value.bool (decide_eq_true hc5821)) ?_
                obtain ⟨t5822, hg5823, h⟩ := h.bind
                refine RL.e (OW.callF (ls := []) rfl Tryd.call13 (isochronlaw03vawake.ok hT _ hg5823 hS)) rfl rfl ?_
                rintro _ w ⟨rfl, hS⟩
                have hS : St B w (OSf E_api_Instr 23 (.slice A5787 ((([] : List api_Instr) ++ a5293) ++ a5297).length c5788) ((([] : List api_Instr) ++ a5293) ++ a5297) :: OSf (FI .u8) 5 (.slice A5799 y5797.length c5800) y5797 :: OSf (FI .u8) 5 (.slice A5573 y5571.length c5574) y5571 :: OSf (FI .u8) 5 (.slice A5580 y5578.length c5581) y5578 :: l) hf := hS
                refine RL.s (Vl.pickT rfl rfl) rfl ?_
                refine RL.s (Vl.assign rfl) rfl ?_
                refine RL.nil ?_
                refine RQ.then_n ?_
                refine RC.ret ?_
                refine RQ.ret ?_
                have e := h.some
                subst e
                refine RQ.ret0 (vs := [.bool t5822]) Tryd.results9 ⟨rfl, trivial⟩ ?_
                exact ⟨rfl, ((((hS.dropAt 0 rfl).dropAt 0 rfl).dropAt 0 rfl).dropAt 0 rfl)⟩
              case neg =>
                have h := h.neg hc5821
                refine RL.re 105 rfl (congrArg Value.bool (decide_eq_false hc5821)) ?_
                refine RL.nn rfl rfl ?_
                refine RL.s (Vl.pickF rfl rfl) rfl ?_
                refine RL.s (Vl.assign rfl) rfl ?_
                refine RL.nil ?_
                refine RQ.then_n ?_
                refine RC.ret ?_
                refine RQ.ret ?_
                have e := h.some
                subst e
                refine RQ.ret0 (vs := [.bool false]) Tryd.results9 ⟨rfl, trivial⟩ ?_
                exact ⟨rfl, ((((hS.dropAt 0 rfl).dropAt 0 rfl).dropAt 0 rfl).dropAt 0 rfl)⟩
          case neg =>
            have h := h.neg hc5819
            refine RC.re 97 rfl (congrArg Value.bool (decide_eq_false hc5819)) ?_
            refine RC.condF rfl ?_
            refine RC.skip ?_
            refine RQ.then_n ?_
            refine RC.seq ?_
            refine RC.region ?_
            refine RL.s (Vl.move rfl) rfl ?_
            refine RL.s (Vl.int rfl rfl rfl) rfl ?_
            refine RL.s (Vl.move rfl) rfl ?_
            by_cases hc5824 : y5798 = 0
            case pos =>
              have h := h.pos hc5824
              refine RL.re 110 rfl (congrArg Value.bool (decide_eq_true hc5824)) ?_
              refine RL.sg (Vl.move rfl) rfl rfl ?_
              refine RL.sg (Vl.bytesStr Tryd.underlying28 Tryd.underlying5 Tryd.underlying9 rfl (hS.slW 1 rfl).2.2) rfl rfl ?_
              refine RL.sg (Vl.move rfl) rfl rfl ?_
              refine RL.sg (Vl.bytesStr Tryd.underlying28 Tryd.underlying5 Tryd.underlying9 rfl (hS.slW 2 rfl).2.2) rfl rfl ?_
              refine RL.sg (Vl.move rfl) rfl rfl ?_
              refine RL.sg (Vl.bytesStr Tryd.underlying28 Tryd.underlying5 Tryd.underlying9 rfl (hS.slW 3 rfl).2.2) rfl rfl ?_
              obtain ⟨hq5825, h⟩ := h.req
              refine RL.sg (Vl.strAdd hq5825 rfl rfl) rfl rfl ?_
              refine RL.sg (Vl.strEq rfl rfl) rfl rfl ?_
              refine RL.s (Vl.pickT rfl rfl) rfl ?_
              refine RL.s (Vl.assign rfl) rfl ?_
              refine RL.nil ?_
              refine RQ.then_n ?_
              refine RC.ret ?_
              have e := h.some
              subst e
              refine RQ.ret0 (vs := [.bool (decide ((strOf y5797) = (strOf y5571) ++ (strOf y5578)))]) Tryd.results9 ⟨rfl, trivial⟩ ?_
              exact ⟨rfl, ((((hS.dropAt 0 rfl).dropAt 0 rfl).dropAt 0 rfl).dropAt 0 rfl)⟩
            case neg =>
              have h := h.neg hc5824
              refine RL.re 110 rfl (congrArg Value.bool (decide_eq_false hc5824)) ?_
              refine RL.nn rfl rfl ?_
              refine RL.nn rfl rfl ?_
              refine RL.nn rfl rfl ?_
              refine RL.nn rfl rfl ?_
              refine RL.nn rfl rfl ?_
              refine RL.nn rfl rfl ?_
              refine RL.nn rfl rfl ?_
              refine RL.nn rfl rfl ?_
              refine RL.s (Vl.pickF rfl rfl) rfl ?_
              refine RL.s (Vl.assign rfl) rfl ?_
              refine RL.nil ?_
              refine RQ.then_n ?_
              refine RC.ret ?_
              have e := h.some
              subst e
              refine RQ.ret0 (vs := [.bool false]) Tryd.results9 ⟨rfl, trivial⟩ ?_
              exact ⟨rfl, ((((hS.dropAt 0 rfl).dropAt 0 rfl).dropAt 0 rfl).dropAt 0 rfl)⟩
        case neg =>
          have h := h.neg hc5818
          refine RL.re 90 rfl (congrArg Value.bool (notdec_neg hc5818)) ?_
          refine RL.nn rfl rfl ?_
          refine RL.nn rfl rfl ?_
          refine RL.nn rfl rfl ?_
          refine RL.nn rfl rfl ?_
          refine RL.nn rfl rfl ?_
          refine RL.nn rfl rfl ?_
          refine RL.s (Vl.pickT rfl rfl) rfl ?_
          refine RL.nil ?_
          refine RQ.then_n ?_
          refine RC.condT rfl ?_
          refine RC.seq ?_
          refine RC.region ?_
          refine RL.s (Vl.move rfl) rfl ?_
          refine RL.s (Vl.int rfl rfl rfl) rfl ?_
          refine RL.s (Vl.move rfl) rfl ?_
          by_cases hc5826 : y5798 = 0
          case pos =>
            have h := h.pos hc5826
            refine RL.re 100 rfl (congrArg Value.bool (notdec_pos hc5826)) ?_
            refine RL.nn rfl rfl ?_
            refine RL.nn rfl rfl ?_
            refine RL.nn rfl rfl ?_
            refine RL.s (Vl.pickF rfl rfl) rfl ?_
            refine RL.s (Vl.move rfl) rfl ?_
            refine RL.nn rfl rfl ?_
            refine RL.s (Vl.pickF rfl rfl) rfl ?_
            refine RL.s (Vl.assign rfl) rfl ?_
            refine RL.nil ?_
            refine RQ.then_n ?_
            refine RC.ret ?_
            refine RQ.ret ?_
            have e := h.some
            subst e
            refine RQ.ret0 (vs := [.bool false]) Tryd.results9 ⟨rfl, trivial⟩ ?_
            exact ⟨rfl, ((((hS.dropAt 0 rfl).dropAt 0 rfl).dropAt 0 rfl).dropAt 0 rfl)⟩
          case neg =>
            have h := h.neg hc5826
            refine RL.re 100 rfl (congrArg Value.bool (notdec_neg hc5826)) ?_
            refine RL.sg (Vl.move rfl) rfl rfl ?_
            refine RL.sg (Vl.lenSl Tryd.underlying28 rfl) rfl rfl ?_
            refine RL.sg (Vl.int rfl rfl rfl) rfl rfl ?_
            refine RL.s (Vl.pickT rfl rfl) rfl ?_
            refine RL.s (Vl.move rfl) rfl ?_
            by_cases hc5827 : (y5797.length : Int) = 0
            case pos =>
              have h := h.pos hc5827
              refine RL.re 105 rfl (congrArg Value.bool (decide_eq_true hc5827)) ?_
              obtain ⟨t5828, hg5829, h⟩ := h.bind
              refine RL.e (OW.callF (ls := []) rfl Tryd.call13 (isochronlaw03vawake.ok hT _ hg5829 hS)) rfl rfl ?_
              rintro _ w ⟨rfl, hS⟩
              have hS : St B w (OSf E_api_Instr 23 (.slice A5787 ((([] : List api_Instr) ++ a5293) ++ a5297).length c5788) ((([] : List api_Instr) ++ a5293) ++ a5297) :: OSf (FI .u8) 5 (.slice A5799 y5797.length c5800) y5797 :: OSf (FI .u8) 5 (.slice A5573 y5571.length c5574) y5571 :: OSf (FI .u8) 5 (.slice A5580 y5578.length c5581) y5578 :: l) hf := hS
              refine RL.s (Vl.pickT rfl rfl) rfl ?_
              refine RL.s (Vl.assign rfl) rfl ?_
              refine RL.nil ?_
              refine RQ.then_n ?_
              refine RC.ret ?_
              refine RQ.ret ?_
              have e := h.some
              subst e
              refine RQ.ret0 (vs := [.bool t5828]) Tryd.results9 ⟨rfl, trivial⟩ ?_
              exact ⟨rfl, ((((hS.dropAt 0 rfl).dropAt 0 rfl).dropAt 0 rfl).dropAt 0 rfl)⟩
            case neg =>
              have h := h.neg hc5827
              refine RL.re 105 rfl (congrArg Value.bool (decide_eq_false hc5827)) ?_
              refine RL.nn rfl rfl ?_
              refine RL.s (Vl.pickF rfl rfl) rfl ?_
              refine RL.s (Vl.assign rfl) rfl ?_
              refine RL.nil ?_
              refine RQ.then_n ?_
              refine RC.ret ?_
              refine RQ.ret ?_
              have e := h.some
              subst e
              refine RQ.ret0 (vs := [.bool false]) Tryd.results9 ⟨rfl, trivial⟩ ?_
              exact ⟨rfl, ((((hS.dropAt 0 rfl).dropAt 0 rfl).dropAt 0 rfl).dropAt 0 rfl)⟩
      case neg =>
        have h := h.neg hc5817
        refine RL.re 86 rfl (congrArg Value.bool (notdec_neg hc5817)) ?_
        refine RL.nn rfl rfl ?_
        refine RL.nn rfl rfl ?_
        refine RL.s (Vl.pickT rfl rfl) rfl ?_
        refine RL.s (Vl.move rfl) rfl ?_
        refine RL.nn rfl rfl ?_
        refine RL.nn rfl rfl ?_
        refine RL.nn rfl rfl ?_
        refine RL.nn rfl rfl ?_
        refine RL.nn rfl rfl ?_
        refine RL.nn rfl rfl ?_
        refine RL.s (Vl.pickT rfl rfl) rfl ?_
        refine RL.nil ?_
        refine RQ.then_n ?_
        refine RC.condT rfl ?_
        refine RC.seq ?_
        refine RC.region ?_
        refine RL.s (Vl.move rfl) rfl ?_
        refine RL.s (Vl.int rfl rfl rfl) rfl ?_
        refine RL.s (Vl.move rfl) rfl ?_
        by_cases hc5830 : y5798 = 0
        case pos =>
          have h := h.pos hc5830
          refine RL.re 100 rfl (congrArg Value.bool (notdec_pos hc5830)) ?_
          refine RL.nn rfl rfl ?_
          refine RL.nn rfl rfl ?_
          refine RL.nn rfl rfl ?_
          refine RL.s (Vl.pickF rfl rfl) rfl ?_
          refine RL.s (Vl.move rfl) rfl ?_
          refine RL.nn rfl rfl ?_
          refine RL.s (Vl.pickF rfl rfl) rfl ?_
          refine RL.s (Vl.assign rfl) rfl ?_
          refine RL.nil ?_
          refine RQ.then_n ?_
          refine RC.ret ?_
          refine RQ.ret ?_
          have e := h.some
          subst e
          refine RQ.ret0 (vs := [.bool false]) Tryd.results9 ⟨rfl, trivial⟩ ?_
          exact ⟨rfl, ((((hS.dropAt 0 rfl).dropAt 0 rfl).dropAt 0 rfl).dropAt 0 rfl)⟩
        case neg =>
          have h := h.neg hc5830
          refine RL.re 100 rfl (congrArg Value.bool (notdec_neg hc5830)) ?_
          refine RL.sg (Vl.move rfl) rfl rfl ?_
          refine RL.sg (Vl.lenSl Tryd.underlying28 rfl) rfl rfl ?_
          refine RL.sg (Vl.int rfl rfl rfl) rfl rfl ?_
          refine RL.s (Vl.pickT rfl rfl) rfl ?_
          refine RL.s (Vl.move rfl) rfl ?_
          by_cases hc5831 : (y5797.length : Int) = 0
          case pos =>
            have h := h.pos hc5831
            refine RL.re 105 rfl (congrArg Value.bool (decide_eq_true hc5831)) ?_
            obtain ⟨t5832, hg5833, h⟩ := h.bind
            refine RL.e (OW.callF (ls := []) rfl Tryd.call13 (isochronlaw03vawake.ok hT _ hg5833 hS)) rfl rfl ?_
            rintro _ w ⟨rfl, hS⟩
            have hS : St B w (OSf E_api_Instr 23 (.slice A5787 ((([] : List api_Instr) ++ a5293) ++ a5297).length c5788) ((([] : List api_Instr) ++ a5293) ++ a5297) :: OSf (FI .u8) 5 (.slice A5799 y5797.length c5800) y5797 :: OSf (FI .u8) 5 (.slice A5573 y5571.length c5574) y5571 :: OSf (FI .u8) 5 (.slice A5580 y5578.length c5581) y5578 :: l) hf := hS
            refine RL.s (Vl.pickT rfl rfl) rfl ?_
            refine RL.s (Vl.assign rfl) rfl ?_
            refine RL.nil ?_
            refine RQ.then_n ?_
            refine RC.ret ?_
            refine RQ.ret ?_
            have e := h.some
            subst e
            refine RQ.ret0 (vs := [.bool t5832]) Tryd.results9 ⟨rfl, trivial⟩ ?_
            exact ⟨rfl, ((((hS.dropAt 0 rfl).dropAt 0 rfl).dropAt 0 rfl).dropAt 0 rfl)⟩
          case neg =>
            have h := h.neg hc5831
            refine RL.re 105 rfl (congrArg Value.bool (decide_eq_false hc5831)) ?_
            refine RL.nn rfl rfl ?_
            refine RL.s (Vl.pickF rfl rfl) rfl ?_
            refine RL.s (Vl.assign rfl) rfl ?_
            refine RL.nil ?_
            refine RQ.then_n ?_
            refine RC.ret ?_
            refine RQ.ret ?_
            have e := h.some
            subst e
            refine RQ.ret0 (vs := [.bool false]) Tryd.results9 ⟨rfl, trivial⟩ ?_
            exact ⟨rfl, ((((hS.dropAt 0 rfl).dropAt 0 rfl).dropAt 0 rfl).dropAt 0 rfl)⟩
  · refine RC.seq ?_
    refine RC.region ?_
    refine RL.s (Vl.move rfl) rfl ?_
    refine RL.s (Vl.int rfl rfl rfl) rfl ?_
    refine RL.s (Vl.move rfl) rfl ?_
    by_cases hc5834 : y5572 = 0
    case pos =>
      have h := h.pos hc5834
      refine RL.re 25 rfl (congrArg Value.bool (decide_eq_true hc5834)) ?_
      refine RL.sg (Vl.move rfl) rfl rfl ?_
      refine RL.sg (Vl.lenSl Tryd.underlying28 rfl) rfl rfl ?_
      refine RL.sg (Vl.move rfl) rfl rfl ?_
      refine RL.sg (Vl.lenSl Tryd.underlying29 rfl) rfl rfl ?_
      refine RL.sg (Vl.int rfl rfl rfl) rfl rfl ?_
      refine RL.sg (Vl.int rfl rfl rfl) rfl rfl ?_
      refine RL.s (Vl.pickT rfl rfl) rfl ?_
      refine RL.s (Vl.move rfl) rfl ?_
      by_cases hc5835 : (y5571.length : Int) = IntKind.i64.wrap (9 * (a5293.length : Int))
      case pos =>
        have h := h.pos hc5835
        refine RL.re 33 rfl (congrArg Value.bool (notdec_pos hc5835)) ?_
        refine RL.sg (Vl.move rfl) rfl rfl ?_
        refine RL.sg (Vl.int rfl rfl rfl) rfl rfl ?_
        refine RL.sg (Vl.move rfl) rfl rfl ?_
        refine RL.re 36 rfl (congrArg Value.bool (notdec_pos hc5834)) ?_
        refine RL.nn rfl rfl ?_
        refine RL.nn rfl rfl ?_
        refine RL.nn rfl rfl ?_
        refine RL.sg (Vl.pickF rfl rfl) rfl rfl ?_
        refine RL.s (Vl.pickF rfl rfl) rfl ?_
        refine RL.nil ?_
        refine RQ.then_n ?_
        refine RC.condF rfl ?_
        refine RC.skip ?_
        exact fun a ha => ⟨(), rfl, ha.to ⟨rfl, rfl, rfl, rfl, rfl, rfl, trivial⟩, ((hS.pull 0 rfl rfl).pull 1 rfl rfl), h⟩
      case neg =>
        have h := h.neg hc5835
        refine RL.re 33 rfl (congrArg Value.bool (notdec_neg hc5835)) ?_
        refine RL.nn rfl rfl ?_
        refine RL.nn rfl rfl ?_
        refine RL.nn rfl rfl ?_
        refine RL.nn rfl rfl ?_
        refine RL.nn rfl rfl ?_
        refine RL.nn rfl rfl ?_
        refine RL.nn rfl rfl ?_
        refine RL.s (Vl.pickT rfl rfl) rfl ?_
        refine RL.nil ?_
        refine RQ.then_n ?_
        refine RC.condT rfl ?_
        refine RC.seq ?_
        refine RC.region ?_
        refine RL.s (Vl.assign rfl) rfl ?_
        refine RL.nil ?_
        refine RQ.then_n ?_
        refine RC.ret ?_
        refine RQ.ret ?_
        have e := h.some
        subst e
        refine RQ.ret0 (vs := [.bool false]) Tryd.results9 ⟨rfl, trivial⟩ ?_
        exact ⟨rfl, ((hS.dropAt 0 rfl).dropAt 0 rfl)⟩
    case neg =>
      have h := h.neg hc5834
      refine RL.re 25 rfl (congrArg Value.bool (decide_eq_false hc5834)) ?_
      refine RL.nn rfl rfl ?_
      refine RL.nn rfl rfl ?_
      refine RL.nn rfl rfl ?_
      refine RL.nn rfl rfl ?_
      refine RL.nn rfl rfl ?_
      refine RL.nn rfl rfl ?_
      refine RL.s (Vl.pickF rfl rfl) rfl ?_
      refine RL.s (Vl.move rfl) rfl ?_
      refine RL.sg (Vl.move rfl) rfl rfl ?_
      refine RL.sg (Vl.int rfl rfl rfl) rfl rfl ?_
      refine RL.sg (Vl.move rfl) rfl rfl ?_
      refine RL.re 36 rfl (congrArg Value.bool (notdec_neg hc5834)) ?_
      refine RL.sg (Vl.move rfl) rfl rfl ?_
      refine RL.sg (Vl.lenSl Tryd.underlying28 rfl) rfl rfl ?_
      refine RL.sg (Vl.int rfl rfl rfl) rfl rfl ?_
      refine RL.sg (Vl.pickT rfl rfl) rfl rfl ?_
      refine RL.s (Vl.pickF rfl rfl) rfl ?_
      refine RL.nil ?_
      refine RQ.then_n ?_
      by_cases hc5836 : (y5571.length : Int) = 0
      case pos =>
        have h := h.pos hc5836
        refine RC.re 41 rfl (congrArg Value.bool (notdec_pos hc5836)) ?_
        refine RC.condF rfl ?_
        refine RC.skip ?_
        exact fun a ha => ⟨(), rfl, ha.to ⟨rfl, rfl, rfl, rfl, rfl, rfl, trivial⟩, ((hS.pull 0 rfl rfl).pull 1 rfl rfl), h⟩
      case neg =>
        have h := h.neg hc5836
        refine RC.re 41 rfl (congrArg Value.bool (notdec_neg hc5836)) ?_
        refine RC.condT rfl ?_
        refine RC.seq ?_
        refine RC.region ?_
        refine RL.s (Vl.assign rfl) rfl ?_
        refine RL.nil ?_
        refine RQ.then_n ?_
        refine RC.ret ?_
        refine RQ.ret ?_
        have e := h.some
        subst e
        refine RQ.ret0 (vs := [.bool false]) Tryd.results9 ⟨rfl, trivial⟩ ?_
        exact ⟨rfl, ((hS.dropAt 0 rfl).dropAt 0 rfl)⟩

/-! ### isochron/isochronlaw03.CodeBack: function 10 -/
noncomputable def isochronlaw03vCodeBack.j2 (a5841 : List Int) : Option (Bool) := ((code_Decode.f a5841).bind fun (y5956, y5957, y5958) => (if y5958 = 0 then ((code_Encode.f y5956).bind fun (y5972, y5973) => (if y5973 = 0 then some (decide ((strOf y5972) = (strOf a5841))) else some false)) else ((isochronlaw03vawake.f).bind fun t5978 => some t5978)))
noncomputable def isochronlaw03vCodeBack.f (a5837 : List api_Instr) (a5841 : List Int) : Option (Bool) := ((code_Encode.f a5837).bind fun (y5926, y5927) => (if y5927 = 0 then ((code_Decode.f y5926).bind fun (y5987, y5988, y5989) => (if y5989 = 0 then (if y5988 = (y5926.length : Int) then ((isochronlaw03vsame.f y5987 a5837).bind fun t5999 => (if t5999 = true then (if (y5926.length : Int) = IntKind.i64.wrap (9 * (a5837.length : Int)) then isochronlaw03vCodeBack.j2 a5841 else some false) else some false)) else some false) else some false)) else isochronlaw03vCodeBack.j2 a5841))
set_option maxRecDepth 100000 in
set_option maxHeartbeats 4000000 in
theorem isochronlaw03vCodeBack.ok {B : Base} {w : World} {l : List HProp} {hf : Hp} (a5837 : List api_Instr) (a5841 : List Int) (A5838 : Option Addr) (c5839 : Nat) (A5842 : Option Addr) (c5843 : Nat) (hr5840 : SlR E_api_Instr.rep hf A5838 c5839 a5837) (hr5844 : SlR ((FI .u8).rep) hf A5842 c5843 a5841) (hT : TabH Tryd.prog hf) (r : Bool) (h : isochronlaw03vCodeBack.f a5837 a5841 = some r) (hS : St B w (l) hf) :
    Calls Tryd.prog 10 #[.slice A5838 a5837.length c5839, .slice A5842 a5841.length c5843] w (Ret fun v w => v = .bool r ∧ St B w (l) hf) := by
  have h := Holds.of h
  refine enter (args := [.slice A5838 a5837.length c5839, .slice A5842 a5841.length c5843]) Tryd.func10 rfl Tryd.ntmps10 (Nat.le_of_ble_eq_true rfl) ?_
  refine RC.seq ?_
  refine RC.region ?_
  refine RL.s (Vl.assign rfl) rfl ?_
  refine RL.nil ?_
  refine RQ.then_n ?_
  refine RC.seq ?_
  refine RC.region ?_
  refine RL.s (Vl.move rfl) rfl ?_
  obtain ⟨t5924, hg5925, h⟩ := h.bind
  obtain ⟨y5926, y5927⟩ := t5924
  refine RL.e (OW.callF (ls := [.tmp 16]) rfl Tryd.call19 (code_Encode.ok a5837 A5838 c5839 hr5840 _ hg5925 hS)) rfl rfl ?_
  rintro _ w ⟨A5928, c5929, rfl, hS⟩
  have hS : St B w (OSf (FI .u8) 5 (.slice A5928 y5926.length c5929) y5926 :: l) hf := hS
  refine RL.s (Vl.move rfl) rfl ?_
  refine RL.s (Vl.extract rfl rfl) rfl ?_
  refine RL.s (Vl.extract rfl rfl) rfl ?_
  refine RL.s (Vl.assign rfl) rfl ?_
  refine RL.s (Vl.assign rfl) rfl ?_
  refine RL.nil ?_
  refine RQ.then_n ?_
  refine RC.join (fun (s : Unit) a w => s = () ∧ Has 73 [(1, .slice A5842 a5841.length c5843)] a ∧ St B w (l) hf ∧ Holds (· = r) (isochronlaw03vCodeBack.j2 a5841)) ?_ ?_
  · rintro _ a w ⟨rfl, ha, hS, h⟩
    revert a
    show RC _ _ _ _ _ _
    refine RC.seq ?_
    refine RC.region ?_
    refine RL.s (Vl.move rfl) rfl ?_
    obtain ⟨t5954, hg5955, h⟩ := h.bind
    obtain ⟨y5956, y5957, y5958⟩ := t5954
    refine RL.e (OW.callF (ls := [.tmp 51]) rfl Tryd.call14 (code_Decode.ok a5841 A5842 c5843 hr5844 _ hg5955 hS)) rfl rfl ?_
    rintro _ w ⟨A5959, c5960, rfl, hS⟩
    have hS : St B w (OSf E_api_Instr 23 (.slice A5959 y5956.length c5960) y5956 :: l) hf := hS
    refine RL.s (Vl.move rfl) rfl ?_
    refine RL.s (Vl.extract rfl rfl) rfl ?_
    refine RL.s (Vl.extract rfl rfl) rfl ?_
    refine RL.s (Vl.extract rfl rfl) rfl ?_
    refine RL.s (Vl.assign rfl) rfl ?_
    refine RL.s (Vl.assign rfl) rfl ?_
    refine RL.s (Vl.assign rfl) rfl ?_
    refine RL.nil ?_
    refine RQ.then_n ?_
    refine RC.seq ?_
    refine RC.seq ?_
    refine RC.region ?_
    refine RL.s (Vl.move rfl) rfl ?_
    refine RL.s (Vl.int rfl rfl rfl) rfl ?_
    refine RL.nil ?_
    refine RQ.then_n ?_
    by_cases hc5965 : y5958 = 0
    case pos =>
      have h := h.pos hc5965
      refine RC.re 57 rfl (congrArg Value.bool (notdec_pos hc5965)) ?_
      refine RC.condF rfl ?_
      refine RC.skip ?_
      refine RQ.then_n ?_
      refine RC.seq ?_
      refine RC.region ?_
      refine RL.s (Vl.move rfl) rfl ?_
      obtain ⟨hf5969, hs5967, hS, hr5966, hb5968⟩ := St.lendSl hS
      obtain ⟨t5970, hg5971, h⟩ := h.bind
      obtain ⟨y5972, y5973⟩ := t5970
      refine RL.e (OW.callF (ls := [.tmp 60]) rfl Tryd.call19 (code_Encode.ok y5956 A5959 c5960 hr5966 _ hg5971 hS)) rfl rfl ?_
      rintro _ w ⟨A5974, c5975, rfl, hS⟩
      have hS := hb5968 _ _ hS
      have hS : St B w (OSf E_api_Instr 23 (.slice A5959 y5956.length c5960) y5956 :: OSf (FI .u8) 5 (.slice A5974 y5972.length c5975) y5972 :: l) hf := hS
      refine RL.s (Vl.move rfl) rfl ?_
      refine RL.s (Vl.extract rfl rfl) rfl ?_
      refine RL.s (Vl.extract rfl rfl) rfl ?_
      refine RL.s (Vl.assign rfl) rfl ?_
      refine RL.s (Vl.assign rfl) rfl ?_
      refine RL.nil ?_
      refine RQ.then_n ?_
      refine RC.seq ?_
      refine RC.region ?_
      refine RL.s (Vl.move rfl) rfl ?_
      refine RL.s (Vl.int rfl rfl rfl) rfl ?_
      refine RL.s (Vl.move rfl) rfl ?_
      by_cases hc5977 : y5973 = 0
      case pos =>
        have h := h.pos hc5977
        refine RL.re 66 rfl (congrArg Value.bool (decide_eq_true hc5977)) ?_
        refine RL.sg (Vl.move rfl) rfl rfl ?_
        refine RL.sg (Vl.bytesStr Tryd.underlying28 Tryd.underlying5 Tryd.underlying9 rfl (hS.slW 1 rfl).2.2) rfl rfl ?_
        refine RL.sg (Vl.move rfl) rfl rfl ?_
        refine RL.sg (Vl.bytesStr Tryd.underlying28 Tryd.underlying5 Tryd.underlying9 rfl (hr5844.2.world hS.sub)) rfl rfl ?_
        refine RL.sg (Vl.strEq rfl rfl) rfl rfl ?_
        refine RL.s (Vl.pickT rfl rfl) rfl ?_
        refine RL.s (Vl.assign rfl) rfl ?_
        refine RL.nil ?_
        refine RQ.then_n ?_
        refine RC.ret ?_
        have e := h.some
        subst e
        refine RQ.ret0 (vs := [.bool (decide ((strOf y5972) = (strOf a5841)))]) Tryd.results10 ⟨rfl, trivial⟩ ?_
        exact ⟨rfl, ((hS.dropAt 0 rfl).dropAt 0 rfl)⟩
      case neg =>
        have h := h.neg hc5977
        refine RL.re 66 rfl (congrArg Value.bool (decide_eq_false hc5977)) ?_
        refine RL.nn rfl rfl ?_
        refine RL.nn rfl rfl ?_
        refine RL.nn rfl rfl ?_
        refine RL.nn rfl rfl ?_
        refine RL.nn rfl rfl ?_
        refine RL.s (Vl.pickF rfl rfl) rfl ?_
        refine RL.s (Vl.assign rfl) rfl ?_
        refine RL.nil ?_
        refine RQ.then_n ?_
        refine RC.ret ?_
        have e := h.some
        subst e
        refine RQ.ret0 (vs := [.bool false]) Tryd.results10 ⟨rfl, trivial⟩ ?_
        exact ⟨rfl, ((hS.dropAt 0 rfl).dropAt 0 rfl)⟩
    case neg =>
      have h := h.neg hc5965
      refine RC.re 57 rfl (congrArg Value.bool (notdec_neg hc5965)) ?_
      refine RC.condT rfl ?_
      refine RC.seq ?_
      refine RC.region ?_
      obtain ⟨t5978, hg5979, h⟩ := h.bind
      refine RL.e (OW.callF (ls := []) rfl Tryd.call13 (isochronlaw03vawake.ok hT _ hg5979 hS)) rfl rfl ?_
      rintro _ w ⟨rfl, hS⟩
      have hS : St B w (OSf E_api_Instr 23 (.slice A5959 y5956.length c5960) y5956 :: l) hf := hS
      refine RL.s (Vl.assign rfl) rfl ?_
      refine RL.nil ?_
      refine RQ.then_n ?_
      refine RC.ret ?_
      refine RQ.ret ?_
      have e := h.some
      subst e
      refine RQ.ret0 (vs := [.bool t5978]) Tryd.results10 ⟨rfl, trivial⟩ ?_
      exact ⟨rfl, (hS.dropAt 0 rfl)⟩
  · refine RC.seq ?_
    refine RC.region ?_
    refine RL.s (Vl.move rfl) rfl ?_
    refine RL.s (Vl.int rfl rfl rfl) rfl ?_
    refine RL.nil ?_
    refine RQ.then_n ?_
    by_cases hc5980 : y5927 = 0
    case pos =>
      have h := h.pos hc5980
      refine RC.re 21 rfl (congrArg Value.bool (decide_eq_true hc5980)) ?_
      refine RC.condT rfl ?_
      refine RC.seq ?_
      refine RC.region ?_
      refine RL.s (Vl.move rfl) rfl ?_
      obtain ⟨hf5984, hs5982, hS, hr5981, hb5983⟩ := St.lendSl hS
      obtain ⟨t5985, hg5986, h⟩ := h.bind
      obtain ⟨y5987, y5988, y5989⟩ := t5985
      refine RL.e (OW.callF (ls := [.tmp 23]) rfl Tryd.call14 (code_Decode.ok y5926 A5928 c5929 hr5981 _ hg5986 hS)) rfl rfl ?_
      rintro _ w ⟨A5990, c5991, rfl, hS⟩
      have hS := hb5983 _ _ hS
      have hS : St B w (OSf (FI .u8) 5 (.slice A5928 y5926.length c5929) y5926 :: OSf E_api_Instr 23 (.slice A5990 y5987.length c5991) y5987 :: l) hf := hS
      refine RL.s (Vl.move rfl) rfl ?_
      refine RL.s (Vl.extract rfl rfl) rfl ?_
      refine RL.s (Vl.extract rfl rfl) rfl ?_
      refine RL.s (Vl.extract rfl rfl) rfl ?_
      refine RL.s (Vl.assign rfl) rfl ?_
      refine RL.s (Vl.assign rfl) rfl ?_
      refine RL.s (Vl.assign rfl) rfl ?_
      refine RL.nil ?_
      refine RQ.then_n ?_
      refine RC.seq ?_
      refine RC.region ?_
      refine RL.s (Vl.move rfl) rfl ?_
      refine RL.s (Vl.int rfl rfl rfl) rfl ?_
      refine RL.s (Vl.move rfl) rfl ?_
      by_cases hc5993 : y5989 = 0
      case pos =>
        have h := h.pos hc5993
        refine RL.re 30 rfl (congrArg Value.bool (notdec_pos hc5993)) ?_
        refine RL.sg (Vl.move rfl) rfl rfl ?_
        refine RL.sg (Vl.move rfl) rfl rfl ?_
        refine RL.sg (Vl.lenSl Tryd.underlying28 rfl) rfl rfl ?_
        refine RL.sg (Vl.int rfl rfl rfl) rfl rfl ?_
        refine RL.s (Vl.pickF rfl rfl) rfl ?_
        refine RL.s (Vl.move rfl) rfl ?_
        by_cases hc5994 : y5988 = (y5926.length : Int)
        case pos =>
          have h := h.pos hc5994
          refine RL.re 36 rfl (congrArg Value.bool (notdec_pos hc5994)) ?_
          refine RL.sg (Vl.move rfl) rfl rfl ?_
          refine RL.sg (Vl.move rfl) rfl rfl ?_
          obtain ⟨hf5998, hs5996, hS, hr5995, hb5997⟩ := St.lendSl ((hS.pull 0 rfl rfl).pull 1 rfl rfl)
          obtain ⟨t5999, hg6000, h⟩ := h.bind
          refine RL.e (OW.callF (ls := [.tmp 37, .tmp 38]) rfl Tryd.call16 (isochronlaw03vsame.ok y5987 a5837 A5990 c5991 A5838 c5839 hr5995 (hr5840.mono hs5996) _ hg6000 hS)) rfl rfl ?_
          rintro _ w ⟨rfl, hS⟩
          have hS := hb5997 _ _ hS
          have hS : St B w (OSf E_api_Instr 23 (.slice A5990 y5987.length c5991) y5987 :: OSf (FI .u8) 5 (.slice A5928 y5926.length c5929) y5926 :: l) hf := hS
          refine RL.sg (Vl.not rfl) rfl rfl ?_
          refine RL.s (Vl.pickF rfl rfl) rfl ?_
          refine RL.s (Vl.move rfl) rfl ?_
          by_cases hc6001 : t5999 = true
          case pos =>
            have h := h.pos hc6001
            refine RL.re 42 rfl (congrArg Value.bool (notb_pos hc6001)) ?_
            refine RL.sg (Vl.move rfl) rfl rfl ?_
            refine RL.sg (Vl.lenSl Tryd.underlying28 rfl) rfl rfl ?_
            refine RL.sg (Vl.move rfl) rfl rfl ?_
            refine RL.sg (Vl.lenSl Tryd.underlying29 rfl) rfl rfl ?_
            refine RL.sg (Vl.int rfl rfl rfl) rfl rfl ?_
            refine RL.sg (Vl.int rfl rfl rfl) rfl rfl ?_
            refine RL.s (Vl.pickF rfl rfl) rfl ?_
            refine RL.nil ?_
            refine RQ.then_n ?_
            by_cases hc6002 : (y5926.length : Int) = IntKind.i64.wrap (9 * (a5837.length : Int))
            case pos =>
              have h := h.pos hc6002
              refine RC.re 49 rfl (congrArg Value.bool (notdec_pos hc6002)) ?_
              refine RC.condF rfl ?_
              refine RC.skip ?_
              exact fun a ha => ⟨(), rfl, ha.to ⟨rfl, trivial⟩, ((hS.dropAt 0 rfl).dropAt 0 rfl), h⟩
            case neg =>
              have h := h.neg hc6002
              refine RC.re 49 rfl (congrArg Value.bool (notdec_neg hc6002)) ?_
              refine RC.condT rfl ?_
              refine RC.seq ?_
              refine RC.region ?_
              refine RL.s (Vl.assign rfl) rfl ?_
              refine RL.nil ?_
              refine RQ.then_n ?_
              refine RC.ret ?_
              refine RQ.ret ?_
              have e := h.some
              subst e
              refine RQ.ret0 (vs := [.bool false]) Tryd.results10 ⟨rfl, trivial⟩ ?_
              exact ⟨rfl, ((hS.dropAt 0 rfl).dropAt 0 rfl)⟩
          case neg =>
            have h := h.neg hc6001
            refine RL.re 42 rfl (congrArg Value.bool (notb_neg hc6001)) ?_
            refine RL.nn rfl rfl ?_
            refine RL.nn rfl rfl ?_
            refine RL.nn rfl rfl ?_
            refine RL.nn rfl rfl ?_
            refine RL.nn rfl rfl ?_
            refine RL.nn rfl rfl ?_
            refine RL.s (Vl.pickT rfl rfl) rfl ?_
            refine RL.nil ?_
            refine RQ.then_n ?_
            refine RC.condT rfl ?_
            refine RC.seq ?_
            refine RC.region ?_
            refine RL.s (Vl.assign rfl) rfl ?_
            refine RL.nil ?_
            refine RQ.then_n ?_
            refine RC.ret ?_
            refine RQ.ret ?_
            have e := h.some
            subst e
            refine RQ.ret0 (vs := [.bool false]) Tryd.results10 ⟨rfl, trivial⟩ ?_
            exact ⟨rfl, ((hS.dropAt 0 rfl).dropAt 0 rfl)⟩
        case neg =>
          have h := h.neg hc5994
          refine RL.re 36 rfl (congrArg Value.bool (notdec_neg hc5994)) ?_
          refine RL.nn rfl rfl ?_
          refine RL.nn rfl rfl ?_
          refine RL.nn rfl rfl ?_
          refine RL.nn rfl rfl ?_
          refine RL.s (Vl.pickT rfl rfl) rfl ?_
          refine RL.s (Vl.move rfl) rfl ?_
          refine RL.nn rfl rfl ?_
          refine RL.nn rfl rfl ?_
          refine RL.nn rfl rfl ?_
          refine RL.nn rfl rfl ?_
          refine RL.nn rfl rfl ?_
          refine RL.nn rfl rfl ?_
          refine RL.s (Vl.pickT rfl rfl) rfl ?_
          refine RL.nil ?_
          refine RQ.then_n ?_
          refine RC.condT rfl ?_
          refine RC.seq ?_
          refine RC.region ?_
          refine RL.s (Vl.assign rfl) rfl ?_
          refine RL.nil ?_
          refine RQ.then_n ?_
          refine RC.ret ?_
          refine RQ.ret ?_
          have e := h.some
          subst e
          refine RQ.ret0 (vs := [.bool false]) Tryd.results10 ⟨rfl, trivial⟩ ?_
          exact ⟨rfl, ((hS.dropAt 0 rfl).dropAt 0 rfl)⟩
      case neg =>
        have h := h.neg hc5993
        refine RL.re 30 rfl (congrArg Value.bool (notdec_neg hc5993)) ?_
        refine RL.nn rfl rfl ?_
        refine RL.nn rfl rfl ?_
        refine RL.nn rfl rfl ?_
        refine RL.nn rfl rfl ?_
        refine RL.s (Vl.pickT rfl rfl) rfl ?_
        refine RL.s (Vl.move rfl) rfl ?_
        refine RL.nn rfl rfl ?_
        refine RL.nn rfl rfl ?_
        refine RL.nn rfl rfl ?_
        refine RL.nn rfl rfl ?_
        refine RL.s (Vl.pickT rfl rfl) rfl ?_
        refine RL.s (Vl.move rfl) rfl ?_
        refine RL.nn rfl rfl ?_
        refine RL.nn rfl rfl ?_
        refine RL.nn rfl rfl ?_
        refine RL.nn rfl rfl ?_
        refine RL.nn rfl rfl ?_
        refine RL.nn rfl rfl ?_
        refine RL.s (Vl.pickT rfl rfl) rfl ?_
        refine RL.nil ?_
        refine RQ.then_n ?_
        refine RC.condT rfl ?_
        refine RC.seq ?_
        refine RC.region ?_
        refine RL.s (Vl.assign rfl) rfl ?_
        refine RL.nil ?_
        refine RQ.then_n ?_
        refine RC.ret ?_
        refine RQ.ret ?_
        have e := h.some
        subst e
        refine RQ.ret0 (vs := [.bool false]) Tryd.results10 ⟨rfl, trivial⟩ ?_
        exact ⟨rfl, ((hS.dropAt 0 rfl).dropAt 0 rfl)⟩
    case neg =>
      have h := h.neg hc5980
      refine RC.re 21 rfl (congrArg Value.bool (decide_eq_false hc5980)) ?_
      refine RC.condF rfl ?_
      refine RC.skip ?_
      exact fun a ha => ⟨(), rfl, ha.to ⟨rfl, trivial⟩, (hS.dropAt 0 rfl), h⟩

end Go.Proofs.Gx
