/-
  The walks of functions, each with what it computes: printed by wip/gx.py.
-/
import Derived.Test.YtnhbcleiibogmaaGreatDoorW0
import Derived.Test.YtnhbcleiibogmaaGreatDoorW2
import Derived.Test.YtnhbcleiibogmaaGreatDoorW3
set_option linter.unusedVariables false
set_option linter.unusedSimpArgs false
set_option maxRecDepth 100000
set_option maxHeartbeats 4000000
namespace Go.Proofs.Gx
open Go.Sl Tryz
variable {B : Base} {w : World} {l : List HProp} {hf : Hp}
noncomputable section
def model_Into.f (a1 : api_Model) (a11 : Int) : Option (List Int) := ((model_places_2.f a1 a11).bind fun t20 => some t20)
theorem model_Into.ok {a1 : api_Model} {a11 : Int} {A2 A5 A8 : Option Addr} {c3 c6 c9 : Nat} (hr4 : SlR (Rep.sl E_api_Instr.rep) hf A2 c3 a1.Progs) (hr7 : SlR E_api_Link.rep hf A5 c6 a1.Links) (hr10 : SlR E_api_Start.rep hf A8 c9 a1.Starts) {r : List Int} (h : model_Into.f a1 a11 = some r) (hS : St B w (l) hf) :
    Calls prog 54 #[.agg (C_api_Model a1 A2 c3 A5 c6 A8 c9).toArray, iV a11] w (Ret fun v w => ∃ (A_1 : Option Addr) (c_2 : Nat), v = sV A_1 r c_2 ∧ St B w (OSf (FI .i64) 3 (sV A_1 r c_2) r :: l) hf) := by
  have h := Holds.of h
  refine en func54 rfl ntmps54 rfl (sr (rr [0, 0, 0] hS ?_))
  refine fun b18 b19 => it fun w hS => lnsr (rr [2] hS ?_)
  refine it fun w hS => RL.s (Vl.makeFunc (fi := []) (ca := [.tmp 3]) rfl rfl) rfl (cF (fun _ hg => model_places_2.ok hr4 hr7 hr10 hg hS) call91 h rfl rfl rfl ?_)
  rintro t20 h _ w ⟨A22, c23, rfl, hS⟩
  refine pn 1 rfl (lr ?_)
  obtain rfl := h.some
  exact rt results54 rfl ⟨A22, c23, rfl, hS.d1.d1⟩
def clock_New.f (a1 : Int) : Option ((Int) ⊕ (clock_Clocks × Int)) := (if a1 < 0 then some (.inl 1) else (if 1024 < a1 then some (.inl 1) else (if 0 ≤ a1 ∧ a1 * 8 ≤ 140737488355328 then some (.inr (((⟨true, (List.replicate (a1 : Int).toNat 0)⟩ : clock_Clocks), 0))) else none)))
theorem clock_New.ok {a1 : Int} {r : (Int) ⊕ (clock_Clocks × Int)} (h : clock_New.f a1 = some r) (hS : St B w (l) hf) :
    Calls prog 55 #[iV a1] w (Ret fun v w => match (generalizing := false) r with | .inl r_ => v = .tuple #[.pointer none, iV r_] ∧ St B w (l) hf | .inr (r_) => ∃ (b_1 : Nat), v = .tuple #[pV b_1, iV r_.2] ∧ St B w (O_clock_Clocks hf r_.1 b_1 :: l) hf) := by
  have h := Holds.of h
  refine en func55 rfl ntmps55 rfl (sr (pn 2 rfl (ln (RC.seq (sr (pn 3 rfl ?_))))))
  refine RL.iteP 6 rfl h (fun hc12 h => ?_) fun hc12 h => ?_
  next =>
   refine pn 3 rfl (ln (jtr (pn 2 rfl (lr (RQ.ret ?_)))))
   cases h.some
   exact rt results55 rfl ⟨rfl, hS⟩
  refine pn 3 rfl (ln ?_)
  refine RC.iteP 9 rfl h (fun hc13 h => ?_) fun hc13 h => ?_
  next =>
   refine jtr (pn 2 rfl (lr (RQ.ret ?_)))
   cases h.some
   exact rt results55 rfl ⟨rfl, hS⟩
  refine jfs (sr (pn 1 rfl ?_))
  obtain ⟨⟨hq14, hq15⟩, h⟩ := h.req
  refine RL.e (OW.makeN (E := (FI .i64)) (x0 := 0) hS underlying142 type2 rfl rfl rfl rfl (by decide) rfl rfl hq14 (by decide) hq15) rfl rfl ?_
  rintro _ w ⟨b16, rfl, hS⟩
  refine rr [0, 0, 0, 0] hS ?_
  refine fun b17 => it fun w hS => lr ?_
  have hS := O_clock_Clocks.c (x := (⟨true, (List.replicate (a1 : Int).toNat 0)⟩ : clock_Clocks)) hS
  cases h.some
  exact rt results55 rfl ⟨b17, rfl, hS⟩
def link_lane.f (a1 : Int) : Option (Bool) := (if 0 ≤ a1 then some (decide (a1 < 16)) else some false)
theorem link_lane.ok {a1 : Int} {r : Bool} (h : link_lane.f a1 = some r) (hS : St B w (l) hf) :
    Calls prog 94 #[iV a1] w (Ret fun v w => v = .bool r ∧ St B w (l) hf) := by
  have h := Holds.of h
  refine en func94 rfl ntmps94 rfl (sr (pn 1 rfl (lnsr (pn 3 rfl ?_))))
  refine RL.iteP 5 rfl h (fun hc3 h => ?_) fun hc3 h => ?_
  next =>
   refine pn 4 rfl (lr ?_)
   cases h.some
   exact rt results94 rfl ⟨rfl, hS⟩
  refine pn 4 rfl (lr ?_)
  obtain rfl := h.some
  exact rt results94 rfl ⟨rfl, hS⟩
def link_New.f (a1 : api_Link) (a2 : Int) : Option ((Int) ⊕ (link_Way × Int)) := ((link_lane.f a1.From).bind fun t32 => (if t32 = true then ((link_lane.f a1.To).bind fun t35 => (if t35 = true then (if a2 < 1 then some (.inl 1) else (if 1024 < a2 then some (.inl 1) else some (.inr (((⟨a1, a2, ([] : List api_Parcel)⟩ : link_Way), 0))))) else some (.inl 1))) else some (.inl 1)))
theorem link_New.ok {a1 : api_Link} {a2 : Int} {r : (Int) ⊕ (link_Way × Int)} (h : link_New.f a1 a2 = some r) (hS : St B w (l) hf) :
    Calls prog 56 #[.agg (C_api_Link a1).toArray, iV a2] w (Ret fun v w => match (generalizing := false) r with | .inl r_ => v = .tuple #[.pointer none, iV r_] ∧ St B w (l) hf | .inr (r_) => ∃ (b_1 : Nat), v = .tuple #[pV b_1, iV r_.2] ∧ St B w (O_link_Way hf r_.1 b_1 :: l) hf) := by
  have h := Holds.of h
  refine en func56 rfl ntmps56 rfl (sr (rr [0, 0, 0] hS ?_))
  refine fun b23 => it fun w hS => ln (RC.seq (sr (rr [0, 1] hS ?_)))
  refine it fun w hS => cF (fun _ hg => link_lane.ok hg hS) call94 h rfl rfl rfl ?_
  rintro t32 h _ w ⟨rfl, hS⟩
  refine pn 2 rfl ?_
  refine RL.iteM 10 rfl h (fun hc34 h => ?_) fun hc34 h => ?_
  next =>
   refine rr [0, 1] hS ?_
   refine it fun w hS => cF (fun _ hg => link_lane.ok hg hS) call94 h rfl rfl rfl ?_
   rintro t35 h _ w ⟨rfl, hS⟩
   refine pn 3 rfl ?_
   refine RL.iteM 16 rfl h (fun hc37 h => ?_) fun hc37 h => ?_
   next =>
    refine pn 4 rfl ?_
    refine RL.iteP 20 rfl h (fun hc38 h => ?_) fun hc38 h => ?_
    next =>
     refine pn 3 rfl (ln (jtr (pn 2 rfl (lr (RQ.ret ?_)))))
     cases h.some
     exact rt results56 rfl ⟨rfl, hS.d0⟩
    refine pn 3 rfl (ln ?_)
    refine RC.iteP 23 rfl h (fun hc39 h => ?_) fun hc39 h => ?_
    next =>
     refine jtr (pn 2 rfl (lr (RQ.ret ?_)))
     cases h.some
     exact rt results56 rfl ⟨rfl, hS.d0⟩
    refine jfs (sr (rr [1, 0, 0, 0, 0, 0] hS ?_))
    refine fun b40 => it fun w hS => lr ?_
    have hS := hS.nilSl E_api_Parcel 90
    have hS := O_link_Way.c (x := (⟨a1, a2, ([] : List api_Parcel)⟩ : link_Way)) hS.p1
    cases h.some
    exact rt results56 rfl ⟨b40, rfl, hS.d1⟩
   refine pn 7 rfl (ln (jtr (pn 2 rfl (lr (RQ.ret ?_)))))
   cases h.some
   exact rt results56 rfl ⟨rfl, hS.d0⟩
  refine pn 13 rfl (ln (jtr (pn 2 rfl (lr (RQ.ret ?_)))))
  cases h.some
  exact rt results56 rfl ⟨rfl, hS.d0⟩
def colour_NewToken.f (a1 : Int) : Option ((Int) ⊕ (colour_Token × Int)) := (if a1 < 1 then some (.inl 1) else (if 16 < a1 then some (.inl 1) else some (.inr (((⟨a1, 0, false, 0, 4611686018427387904⟩ : colour_Token), 0)))))
theorem colour_NewToken.ok {a1 : Int} {r : (Int) ⊕ (colour_Token × Int)} (h : colour_NewToken.f a1 = some r) (hS : St B w (l) hf) :
    Calls prog 57 #[iV a1] w (Ret fun v w => match (generalizing := false) r with | .inl r_ => v = .tuple #[.pointer none, iV r_] ∧ St B w (l) hf | .inr (r_) => ∃ (b_1 : Nat), v = .tuple #[pV b_1, iV r_.2] ∧ St B w (O_colour_Token hf r_.1 b_1 :: l) hf) := by
  have h := Holds.of h
  refine en func57 rfl ntmps57 rfl (sr (pn 2 rfl (ln (RC.seq (sr (pn 3 rfl ?_))))))
  refine RL.iteP 6 rfl h (fun hc9 h => ?_) fun hc9 h => ?_
  next =>
   refine pn 3 rfl (ln (jtr (pn 2 rfl (lr (RQ.ret ?_)))))
   cases h.some
   exact rt results57 rfl ⟨rfl, hS⟩
  refine pn 3 rfl (ln ?_)
  refine RC.iteP 9 rfl h (fun hc10 h => ?_) fun hc10 h => ?_
  next =>
   refine jtr (pn 2 rfl (lr (RQ.ret ?_)))
   cases h.some
   exact rt results57 rfl ⟨rfl, hS⟩
  refine jfs (sr (rr [0, 0, 0, 0, 0] hS ?_))
  refine fun b11 => it fun w hS => lr ?_
  have hS := O_colour_Token.c (x := (⟨a1, 0, false, 0, 4611686018427387904⟩ : colour_Token)) hS
  cases h.some
  exact rt results57 rfl ⟨b11, rfl, hS⟩
def kernel_New.l134b (l5909 : List kernel_place) (x5914 : Int) (y6523 : lane_Lane) (y6606 : colour_Tally) (l6607 t6641 : List Int) : List (Int × Int) × Int → Option ((List (Int × Int) × Int) ⊕ ((List kernel_place × Int) ⊕ ((Int) ⊕ (kernel_Kernel × Int))))
  | (l6649, x6650) => (if x6650 < (t6641.length : Int) then (if 0 ≤ x6650 then some (.inl ((mset l6649 (nth t6641 x6650) x6650), IntKind.i64.wrap (x6650 + 1))) else none) else (Option.map Sum.inr ((clock_New.f (l6649.length : Int)).bind fun t6670 => match t6670 with | .inl _ => none | .inr ((y6672, y6673)) => (if (l5909.length + 1) * 8 ≤ 140737488355328 then some (.inl ((l5909 ++ [(⟨y6523, y6606, y6672, l6607, l6649⟩ : kernel_place)]), IntKind.i64.wrap (x5914 + 1))) else none))))
def kernel_New.l134 (l5909 : List kernel_place) (x5914 : Int) (y6523 : lane_Lane) (y6606 : colour_Tally) (l6607 t6641 : List Int) (s : List (Int × Int) × Int) : Option ((List kernel_place × Int) ⊕ ((Int) ⊕ (kernel_Kernel × Int))) := loopR (kernel_New.l134b l5909 x5914 y6523 y6606 l6607 t6641) s
def kernel_New.j132 (a1 : api_Model) (l5909 : List kernel_place) (x5914 : Int) (y6523 : lane_Lane) (y6606 : colour_Tally) (l6607 : List Int) : Option ((List kernel_place × Int) ⊕ ((Int) ⊕ (kernel_Kernel × Int))) := ((model_Into.f a1 x5914).bind fun t6641 => kernel_New.l134 l5909 x5914 y6523 y6606 l6607 t6641 (([] : List (Int × Int)), 0))
def kernel_New.l136b (a1 : api_Model) (a11 : api_Caps) (l5909 : List kernel_place) : List link_Way × Int → Option ((List link_Way × Int) ⊕ ((Int) ⊕ (kernel_Kernel × Int)))
  | (l6894, x6899) => (if x6899 < (a1.Links.length : Int) then (if 0 ≤ x6899 then ((link_New.f (nth a1.Links x6899) a11.Link).bind fun t6980 => match t6980 with | .inl _ => none | .inr ((y6982, y6983)) => (if (l6894.length + 1) * 8 ≤ 140737488355328 then some (.inl ((l6894 ++ [y6982]), IntKind.i64.wrap (x6899 + 1))) else none)) else none) else (Option.map Sum.inr ((colour_NewToken.f (a1.Progs.length : Int)).bind fun t6991 => match t6991 with | .inl _ => none | .inr ((y6993, y6994)) => some (.inr (((⟨({ a1 with Links := (([] : List api_Link) ++ a1.Links) } : api_Model), l5909, l6894, y6993, 0, 64, 64, ([] : List api_Done), 0⟩ : kernel_Kernel), 0))))))
def kernel_New.l136 (a1 : api_Model) (a11 : api_Caps) (l5909 : List kernel_place) (s : List link_Way × Int) : Option ((Int) ⊕ (kernel_Kernel × Int)) := loopR (kernel_New.l136b a1 a11 l5909) s
def kernel_New.l126b (a1 : api_Model) (a11 : api_Caps) : List kernel_place × Int → Option ((List kernel_place × Int) ⊕ ((Int) ⊕ (kernel_Kernel × Int)))
  | (l5909, x5914) => (if x5914 < (a1.Progs.length : Int) then ((lane_New.f a1 x5914 a11).bind fun t6519 => match t6519 with | .inl y6521 => (if ¬ y6521 = 0 then some (.inr (.inl y6521)) else none) | .inr ((y6523, y6524)) => (if y6524 = 0 then ((colour_New.f).bind fun t6683 => ((model_Ways.f a1 x5914).bind fun t6686 => kernel_New.j132 a1 l5909 x5914 y6523 t6683 t6686)) else some (.inr (.inl y6524)))) else (Option.map Sum.inr (kernel_New.l136 a1 a11 l5909 (([] : List link_Way), 0))))
def kernel_New.l126 (a1 : api_Model) (a11 : api_Caps) (s : List kernel_place × Int) : Option ((Int) ⊕ (kernel_Kernel × Int)) := loopR (kernel_New.l126b a1 a11) s
def kernel_New.f (a1 : api_Model) (a11 : api_Caps) : Option ((Int) ⊕ (kernel_Kernel × Int)) := ((model_Check.f a1).bind fun t3515 => (if t3515 = 0 then (if (([] : List api_Link).length + a1.Links.length) * 32 ≤ 140737488355328 then kernel_New.l126 a1 a11 (([] : List kernel_place), 0) else none) else some (.inl t3515)))
theorem kernel_New.ok {a1 : api_Model} {a11 : api_Caps} {A2 A5 A8 : Option Addr} {c3 c6 c9 : Nat} (hr4 : SlR (Rep.sl E_api_Instr.rep) hf A2 c3 a1.Progs) (hr7 : SlR E_api_Link.rep hf A5 c6 a1.Links) (hr10 : SlR E_api_Start.rep hf A8 c9 a1.Starts) (hG0 : GlobAt hf 0 (.iface 255 (.agg #[.pointer (some ⟨1, 138, none⟩)]))) {r : (Int) ⊕ (kernel_Kernel × Int)} (h : kernel_New.f a1 a11 = some r) (hS : St B w (l) hf) :
    Calls prog 29 #[.agg (C_api_Model a1 A2 c3 A5 c6 A8 c9).toArray, .agg (C_api_Caps a11).toArray] w (Ret fun v w => match (generalizing := false) r with | .inl r_ => v = .tuple #[.pointer none, iV r_] ∧ St B w (l) hf | .inr (r_) => ∃ hf_ : Hp, Sub hf hf_ ∧ ∃ (b_1 : Nat), v = .tuple #[pV b_1, iV r_.2] ∧ St B w (O_kernel_Kernel hf_ r_.1 b_1 :: l) hf_) := by
  have h := Holds.of h
  refine en func29 rfl ntmps29 rfl (sr (rr [0, 0, 0, 0] hS ?_))
  refine fun b3508 b3509 => it fun w hS => lnsr (rr [0, 0, 0] hS ?_)
  refine fun b3511 => it fun w hS => ln (RC.seq (sr (rr [3] hS ?_)))
  refine it fun w hS => cF (fun _ hg => model_Check.ok hr4 hr7 hr10 hG0 hg hS) call33 h rfl rfl rfl ?_
  rintro t3515 h _ w ⟨rfl, hS⟩
  refine pn 1 rfl (lnsr (pn 2 rfl (ln ?_)))
  refine RC.iteN 23 rfl h (fun hc3517 h => ?_) fun hc3517 h => ?_
  next =>
   refine jfs (sr (rr [0, 3, 0, 0, 1] hS ?_))
   refine it fun w hS => lnsr (rr [0, 0, 3] hS ?_)
   refine it fun w hS => ?_
   obtain ⟨hq3522, h⟩ := h.req
   have hS := hS.nilSl E_api_Link 125
   refine RL.e (OW.appendV (E := E_api_Link) (xs := ([] : List api_Link)) (ys := a1.Links) 0 hS rfl underlying26 type125 rfl rfl rfl rfl (by decide) (by decide) rfl rfl (hr7.2.world hS.sub) hq3522 rfl) rfl rfl ?_
   rintro v3525 w hS
   obtain ⟨A3523, c3524, rfl, _⟩ := hS.osShape 0 rfl
   have hS : St B w (_ :: _ :: _ :: _ :: l) hf := hS
   refine rr [0, 0, 0, 2] hS ?_
   refine it fun w hS => ln (RC.seq (sr (rr [0, 4, 0, 0] hS ?_)))
   refine it fun w hS => ln (RC.block ?_)
   have hS := hS.nilSl FP 95
   have hS := hS.sepNil (O := O_kernel_place hf)
   have hl6999 := hS.sepLen
   refine fun a ha => lp h (fun (s : List kernel_place × Int) a w => ∃ l5909 x5914, s = (l5909, x5914) ∧ ∃ hf_, Sub hf hf_ ∧ ∃ A5910 c5911 bs5912, Has 135 [(2, pV b3508), (3, pV b3509), (6, pV b3511), (38, iV (a1.Progs.length : Int)), (39, iV x5914)] a ∧ St B w (OSf E_api_Link 125 (.slice A3523 (([] : List api_Link) ++ a1.Links).length c3524) (([] : List api_Link) ++ a1.Links) :: OSf FP 95 (sV A5910 bs5912 c5911) bs5912 :: SepL (O_kernel_place hf_) l5909 bs5912 :: Cl b3511 [sV A2 a1.Progs c3, .slice A3523 (([] : List api_Link) ++ a1.Links).length c3524, sV A8 a1.Starts c9, .int .u64 a1.Seed, iV a1.End, iV a1.Budget, sV A5910 bs5912 c5911, .slice none 0 0, .pointer none, iV 0, iV 64, iV 64, .slice none 0 0, iV 0] 36 :: Cl b3509 (C_api_Caps a11) 62 :: Cl b3508 (C_api_Model a1 A2 c3 A5 c6 A8 c9) 30 :: l) hf_) ⟨_, _, rfl, _, (Sub.refl _), _, _, _, ha.tE rfl, hS.p1.p2⟩ ?_
   rintro G6312 _ a w ⟨l5909, x5914, rfl, hf, hs5509, A5910, c5911, bs5912, ha, hS⟩ h
   refine ro ha ?_
   have hl5913 := hS.p2.sepLen
   refine sr (pn 1 rfl (ln (RC.seq ?_)))
   refine RC.iteP 40 rfl h (fun hc6314 h => ?_) fun hc6314 h => ?_
   next =>
    refine jt (sk (RC.seq (RC.block (sr (pn 2 rfl (lnsr (rr [6, 0, 5] hS ?_)))))))
    refine it fun w hS => ?_
    obtain ⟨t6519, hg6520, h⟩ := h.bind
    have hc := lane_New.ok (hr4.mono hs5509) (hr7.mono hs5509) (hr10.mono hs5509) (hG0.mono hs5509) hg6520 hS
    rcases t6519 with y6521 | ⟨y6523, y6524⟩
    · obtain ⟨hc6522, h⟩ := h.req
      refine RL.e (OW.callF (ls := [.tmp 43, .tmp 44, .tmp 45]) rfl call51 hc) rfl rfl ?_
      rintro _ w ⟨rfl, hS⟩
      refine pn 5 rfl (ln (RC.seq (sr (pn 2 rfl (ln (RC.re 50 rfl (congrArg Value.bool (notdec_neg hc6522)) (jtr (pn 3 rfl (ln ?_)))))))))
      refine RC.ret (RQ.ret (ir ?_))
      have h := h.inrS
      refine RQ.ret (ir ?_)
      cases h.some
      exact rt results29 rfl ⟨rfl, (hS.d0.d0.d0.d0.d0.d0).down hs5509⟩
    refine RL.e (OW.callF (ls := [.tmp 43, .tmp 44, .tmp 45]) rfl call51 hc) rfl rfl ?_
    rintro _ w ⟨hf, hs6526, b6525, rfl, hS⟩
    have hS := hS.p3.imp fun _ h => SepL.m (fun _ _ => O_kernel_place.m hs6526) h
    have hS : St B w (_ :: _ :: _ :: _ :: _ :: _ :: _ :: l) hf := hS
    refine pn 5 rfl (ln (RC.seq (sr (pn 2 rfl (ln ?_)))))
    refine RC.iteN 50 rfl h (fun hc6528 h => ?_) fun hc6528 h => ?_
    next =>
     refine jfs (RC.seq (RC.planS (.pure 0 (.early 2 0 (.pure 3 (.fork 1 5 (.fork 4 5 (.last 5 (.last 6 (.last 7 (.last 8 .nil)))) (.last 4 (.last 6 (.last 7 (.last 8 .nil))))) (.last 1 (.last 4 (.last 6 (.last 7 (.last 8 .nil))))))))) [6, 7, 8] hS (fun w hS => hS) follows rfl (by kernel_rfl) (NoTmp.then (NoTmp.block (NoTmp.then (NoTmp.then (NoTmp.block (NoTmp.then NoTmp.body)))))) fun w hS => rq [0, 7, 0] hS ?_))
     refine it ?_
     refine RP.fj (fun (s : colour_Tally × List Int) env w => ∃ y6606 l6607, s = (y6606, l6607) ∧ Holds (Sum.elim G6312 (· = r)) (kernel_New.j132 a1 l5909 x5914 y6523 y6606 l6607) ∧ ∃ b6605 A6608 c6609 b6610, Ev env [(2, pV b3508), (3, pV b3509), (6, pV b3511), (8, iV x5914), (38, iV (a1.Progs.length : Int)), (39, iV x5914), (52, pV b6525), (53, pV b6605), (56, sV A6608 l6607 c6609), (57, .map (some b6610))] ∧ St B w (OSf E_api_Link 125 (.slice A3523 (([] : List api_Link) ++ a1.Links).length c3524) (([] : List api_Link) ++ a1.Links) :: OSf FP 95 (sV A5910 bs5912 c5911) bs5912 :: OSf (FI .i64) 3 (sV A6608 l6607 c6609) l6607 :: SepL (O_kernel_place hf) l5909 bs5912 :: O_lane_Lane hf y6523 b6525 :: Cl b3511 [sV A2 a1.Progs c3, .slice A3523 (([] : List api_Link) ++ a1.Links).length c3524, sV A8 a1.Starts c9, .int .u64 a1.Seed, iV a1.End, iV a1.Budget, sV A5910 bs5912 c5911, .slice none 0 0, .pointer none, iV 0, iV 64, iV 64, .slice none 0 0, iV 0] 36 :: Cl b3509 (C_api_Caps a11) 62 :: Cl b3508 (C_api_Model a1 A2 c3 A5 c6 A8 c9) 30 :: O_colour_Tally hf y6606 b6605 :: MapF (Value.int .i64) (Value.int .i64) b6610 ([] : List (Int × Int)) :: l) hf) (.last 6 (.last 7 (.last 8 .nil))) ?_ fun hk => ?_
     · rintro _ env w ⟨y6606, l6607, rfl, h, b6605, A6608, c6609, b6610, ha, hS⟩
       refine RP.to ha (rq [0] hS.d2.d7.d7.p3.p3 ?_)
       refine it (RP.e 7 rfl (OW.box (cs := [pV b6525, pV b6605, .pointer none, sV A6608 l6607 c6609, .map (some b6610)]) hS rfl rfl) rfl rfl ?_)
       rintro _ w ⟨b6611, rfl, hS⟩
       refine ⟨kp ⟨(by intro hx; cases hx), trivial⟩, ?_⟩
       refine rq [0] hS.d0.d2.d7.d7.p3.p3 ?_
       refine it (RP.nil (RQ.then_n (RC.seq (sr (rr [9, 0] hS ?_)))))
       refine it fun w hS => cF (fun _ hg => model_Into.ok ((hr4.mono hs5509).mono hs6526) ((hr7.mono hs5509).mono hs6526) ((hr10.mono hs5509).mono hs6526) hg hS) call54 h rfl rfl rfl ?_
       rintro t6641 h _ w ⟨A6643, c6644, rfl, hS⟩
       refine r0 2 rfl (ln (RC.block (fun a ha => lp h (fun (s : List (Int × Int) × Int) a w => ∃ l6649 x6650, s = (l6649, x6650) ∧ Has 135 [(2, pV b3508), (3, pV b3509), (6, pV b3511), (11, pV b6611), (38, iV (a1.Progs.length : Int)), (39, iV x5914), (62, sV A6643 t6641 c6644), (63, iV (t6641.length : Int)), (64, iV x6650)] a ∧ St B w (OSf E_api_Link 125 (.slice A3523 (([] : List api_Link) ++ a1.Links).length c3524) (([] : List api_Link) ++ a1.Links) :: OSf FP 95 (sV A5910 bs5912 c5911) bs5912 :: OSf (FI .i64) 3 (sV A6608 l6607 c6609) l6607 :: OSf (FI .i64) 3 (sV A6643 t6641 c6644) t6641 :: Cl b6611 [pV b6525, pV b6605, .pointer none, sV A6608 l6607 c6609, .map (some b6610)] 102 :: SepL (O_kernel_place hf) l5909 bs5912 :: O_lane_Lane hf y6523 b6525 :: Cl b3511 [sV A2 a1.Progs c3, .slice A3523 (([] : List api_Link) ++ a1.Links).length c3524, sV A8 a1.Starts c9, .int .u64 a1.Seed, iV a1.End, iV a1.Budget, sV A5910 bs5912 c5911, .slice none 0 0, .pointer none, iV 0, iV 64, iV 64, .slice none 0 0, iV 0] 36 :: Cl b3509 (C_api_Caps a11) 62 :: Cl b3508 (C_api_Model a1 A2 c3 A5 c6 A8 c9) 30 :: O_colour_Tally hf y6606 b6605 :: MapF (Value.int .i64) (Value.int .i64) b6610 l6649 :: l) hf) ⟨_, _, rfl, ha.tE rfl, hS.p4.p4.p4⟩ ?_)))
       rintro G6657 _ a w ⟨l6649, x6650, rfl, ha, hS⟩ h
       refine ro ha (sr (pn 1 rfl (ln (RC.seq ?_))))
       refine RC.iteP 65 rfl h (fun hc6659 h => ?_) fun hc6659 h => ?_
       next =>
        refine jt (sk (RC.seq (RC.block (sr (pn 1 rfl ?_)))))
        obtain ⟨hq6661, h⟩ := h.req
        refine RL.s (Vl.indexOwn 3 hS rfl underlying99 sizeOf3 rfl rfl hq6661 hc6659) rfl (RL.s (Vl.load isAgg3 rfl ((hS.slW 3 rfl).2.2.cell (j := 0) hq6661 hc6659 rfl)) rfl (pn 2 rfl (ln (RC.region (rr [0, 0, 0, 5, 0, 0] hS ?_)))))
        refine it fun w hS => RL.e0 (OW.mapUpdF (k := nth t6641 x6650) (v := x6650) 11 hS rfl (KeyOK.int underlying3) underlying100 rfl rfl rfl rfl) rfl ?_
        rintro _ w ⟨rfl, hS⟩
        have hS : St B w (_ :: _ :: _ :: _ :: _ :: _ :: _ :: _ :: _ :: _ :: _ :: _ :: l) hf := hS
        refine RL.nil (RQ.inB_n (RQ.then_n (RC.region (pn 2 rfl (RL.nil ?_)))))
        exact fun a ha => ⟨_, h.some, _, _, rfl, ha.tE rfl, hS.p11.p11.p11.p11.p11.p11.p11.p11.p11.p11.p11⟩
       refine jf (RC.exit (RQ.exitT ?_))
       have h := h.inr
       refine RQ.exitT (RQ.inB_hit (tsr (rr [0, 0, 0, 0, 5] hS ?_)))
       refine it fun w hS => RL.s (Vl.lenMapF 11 hS rfl underlying100 rfl) rfl ?_
       obtain ⟨t6670, hg6671, h⟩ := h.bind
       have hc := clock_New.ok hg6671 hS
       rcases t6670 with _ | ⟨y6672, y6673⟩
       · exact h.none
       refine RL.e (OW.callF (ls := [.tmp 82]) rfl call55 hc) rfl rfl ?_
       rintro _ w ⟨b6674, rfl, hS⟩
       refine rr [0, 0, 0, 0, 0, 6] hS ?_
       refine it fun w hS => ln (RC.region (rr [0, 0, 0, 0, 9, 0] hS ?_))
       refine it fun w hS => RL.e (OW.buildSlice (E := FP) (xs := [b6611]) (cs := [pV b6611]) hS underlying31 zeroValue95 sizeOf95 (parts := [(0, .tmp 93)]) rfl rfl (by decide) (by decide) (by kernel_rfl) rfl) rfl rfl ?_
       rintro _ w ⟨b6675, rfl, hS⟩
       obtain ⟨hq6679, h⟩ := h.req
       obtain ⟨hf, hs6676, hS, hr6677⟩ := St.promote hS.p4
       have hS := O_clock_Clocks.l hs6676 hS.p1
       have hS := hS.p6.imp fun _ h => SepL.m (fun _ _ => O_kernel_place.m hs6676) h
       have hS := O_lane_Lane.l hs6676 hS.p7
       have hS := O_colour_Tally.l hs6676 hS.p11
       have hS := O_kernel_place.c (x := (⟨y6523, y6606, y6672, l6607, l6649⟩ : kernel_place)) hr6677 hS.p12.p4.p2.p3.p9
       have hS := hS.p1.sepSnoc
       have hl6678 := hS.sepLen
       refine RL.e (OW.append (E := FP) (xs := bs5912) (ys := [b6611]) 3 hS rfl underlying31 type95 rfl rfl rfl rfl (by decide) rfl rfl rfl (hS.slW 1 rfl).2.2.flat (by simp only [maxLen, List.length_cons, List.length_nil] at *; omega) (le_app hl5913 hq6679) rfl) rfl rfl ?_
       rintro v6682 w hS
       obtain ⟨A6680, c6681, rfl, _⟩ := hS.osShape 0 rfl
       have hS : St B w (_ :: _ :: _ :: _ :: _ :: _ :: _ :: _ :: l) hf := hS
       refine rr [0, 0, 6] hS ?_
       refine it fun w hS => RL.nil (RQ.inB_n (RQ.then_n (RC.region (pn 2 rfl (RL.nil ?_)))))
       exact fun a ha => ⟨_, h.some, _, _, rfl, _, ((hs5509.trans hs6526).trans hs6676), _, _, _, ha.tE rfl, hS.d2.d3.p2⟩
     refine RP.fork ?_ ?_
     · obtain ⟨t6683, hg6684, h⟩ := h.bind
       have hc := colour_New.ok hg6684 hS
       refine RPW.e 1 rfl (OW.callF (ls := []) rfl call52 hc) rfl rfl ?_
       rintro _ w ⟨b6685, rfl, hS⟩
       refine ⟨kp ⟨fun _ => hS.d0, trivial⟩, ?_⟩
       refine RP.fork ?_ ?_
       · obtain ⟨t6686, hg6687, h⟩ := h.bind
         have hc := model_Ways.ok ((hr4.mono hs5509).mono hs6526) ((hr7.mono hs5509).mono hs6526) ((hr10.mono hs5509).mono hs6526) hg6687 hS
         refine RPW.e 4 rfl (OW.callF (ls := [.tmp 54, .tmp 55]) rfl call53 hc) rfl rfl ?_
         rintro _ w ⟨A6688, c6689, rfl, hS⟩
         refine ⟨kp ⟨fun _ => hS.d0.d0, trivial⟩, ?_⟩
         refine RP.e 5 rfl (OW.makeMapF (kv := (Value.int .i64)) (vv := (Value.int .i64)) hS) rfl rfl ?_
         rintro _ w ⟨b6690, rfl, hS⟩
         refine ⟨kp ⟨fun _ => hS.d0.d0.d0, trivial⟩, ?_⟩
         exact hk _ _ _ ⟨_, _, rfl, h, _, _, _, _, ⟨rfl, rfl, rfl, rfl, rfl, rfl, rfl, rfl, rfl, rfl, trivial⟩, hS.p2.p9.p9.p9.p7.p7.p7.p9.p9⟩
       · refine RPW.e 5 rfl (OW.makeMapF (kv := (Value.int .i64)) (vv := (Value.int .i64)) hS) rfl rfl ?_
         rintro _ w ⟨b6691, rfl, hS⟩
         refine ⟨kp ⟨fun _ => hS.d0.d0, trivial⟩, ?_⟩
         obtain ⟨t6692, hg6693, h⟩ := h.bind
         have hc := model_Ways.ok ((hr4.mono hs5509).mono hs6526) ((hr7.mono hs5509).mono hs6526) ((hr10.mono hs5509).mono hs6526) hg6693 hS
         refine RP.e 4 rfl (OW.callF (ls := [.tmp 54, .tmp 55]) rfl call53 hc) rfl rfl ?_
         rintro _ w ⟨A6694, c6695, rfl, hS⟩
         refine ⟨kp ⟨fun _ => hS.d0.d0.d0, trivial⟩, ?_⟩
         exact hk _ _ _ ⟨_, _, rfl, h, _, _, _, _, ⟨rfl, rfl, rfl, rfl, rfl, rfl, rfl, rfl, rfl, rfl, trivial⟩, hS.p2.p9.p9.p9.p7.p7.p6.p9.p9⟩
     · refine RPW.e 5 rfl (OW.makeMapF (kv := (Value.int .i64)) (vv := (Value.int .i64)) hS) rfl rfl ?_
       rintro _ w ⟨b6696, rfl, hS⟩
       refine ⟨kp ⟨fun _ => hS.d0, trivial⟩, ?_⟩
       obtain ⟨t6697, hg6698, h⟩ := h.bind
       have hc := colour_New.ok hg6698 hS
       refine RP.e 1 rfl (OW.callF (ls := []) rfl call52 hc) rfl rfl ?_
       rintro _ w ⟨b6699, rfl, hS⟩
       refine ⟨kp ⟨fun _ => hS.d0.d0, trivial⟩, ?_⟩
       obtain ⟨t6700, hg6701, h⟩ := h.bind
       have hc := model_Ways.ok ((hr4.mono hs5509).mono hs6526) ((hr7.mono hs5509).mono hs6526) ((hr10.mono hs5509).mono hs6526) hg6701 hS
       refine RP.e 4 rfl (OW.callF (ls := [.tmp 54, .tmp 55]) rfl call53 hc) rfl rfl ?_
       rintro _ w ⟨A6702, c6703, rfl, hS⟩
       refine ⟨kp ⟨fun _ => hS.d0.d0.d0, trivial⟩, ?_⟩
       exact hk _ _ _ ⟨_, _, rfl, h, _, _, _, _, ⟨rfl, rfl, rfl, rfl, rfl, rfl, rfl, rfl, rfl, rfl, trivial⟩, hS.p9.p9.p9.p7.p7.p5.p9.p9⟩
    refine jtr (pn 3 rfl (lr (RQ.ret (ir ?_))))
    have h := h.inrS
    refine RQ.ret (ir ?_)
    cases h.some
    exact rt results29 rfl ⟨rfl, (hS.d0.d0.d0.d0.d0.d0.d0).down (hs5509.trans hs6526)⟩
   refine jf (RC.exit (RQ.exitT ?_))
   have h := h.inr
   refine RQ.exitT (RQ.inB_hit (RQ.then_n (RC.seq (sr (rr [0, 6, 0, 0] hS ?_)))))
   refine it fun w hS => ln (RC.block ?_)
   have hS := hS.nilSl FP 103
   have hS := hS.sepNil (O := O_link_Way hf)
   have hl6998 := hS.sepLen
   refine fun a ha => lp h (fun (s : List link_Way × Int) a w => ∃ l6894 x6899, s = (l6894, x6899) ∧ ∃ A6895 c6896 bs6897, Has 135 [(2, pV b3508), (3, pV b3509), (6, pV b3511), (100, sV A5 a1.Links c6), (101, iV (a1.Links.length : Int)), (102, iV x6899)] a ∧ St B w (OSf E_api_Link 125 (.slice A3523 (([] : List api_Link) ++ a1.Links).length c3524) (([] : List api_Link) ++ a1.Links) :: OSf FP 95 (sV A5910 bs5912 c5911) bs5912 :: OSf FP 103 (sV A6895 bs6897 c6896) bs6897 :: SepL (O_link_Way hf) l6894 bs6897 :: SepL (O_kernel_place hf) l5909 bs5912 :: Cl b3511 [sV A2 a1.Progs c3, .slice A3523 (([] : List api_Link) ++ a1.Links).length c3524, sV A8 a1.Starts c9, .int .u64 a1.Seed, iV a1.End, iV a1.Budget, sV A5910 bs5912 c5911, sV A6895 bs6897 c6896, .pointer none, iV 0, iV 64, iV 64, .slice none 0 0, iV 0] 36 :: Cl b3509 (C_api_Caps a11) 62 :: Cl b3508 (C_api_Model a1 A2 c3 A5 c6 A8 c9) 30 :: l) hf) ⟨_, _, rfl, _, _, _, ha.tE rfl, hS.p1.p3.p3⟩ ?_
   rintro G6948 _ a w ⟨l6894, x6899, rfl, A6895, c6896, bs6897, ha, hS⟩ h
   refine ro ha ?_
   have hl6898 := hS.p3.sepLen
   refine sr (pn 1 rfl (ln (RC.seq ?_)))
   refine RC.iteP 103 rfl h (fun hc6950 h => ?_) fun hc6950 h => ?_
   next =>
    refine jt (sk (RC.seq (RC.block (sr ?_))))
    obtain ⟨hq6973, h⟩ := h.req
    refine RL.s (Vl.indexAddr underlying26 sizeOf125 rfl rfl (((hr7.mono hs5509).2.world hS.sub).adr hq6973 hc6950) hq6973 hc6950 rfl) rfl (RL.s (Vl.loadA isAgg125 sizeOf125 rfl rfl (((hr7.mono hs5509).2.world hS.sub).cells hq6973 hc6950)) rfl (rr [0, 1] hS ?_))
    refine fun b6974 => it fun w hS => lnsr (rr [1, 0, 8] hS ?_)
    refine it fun w hS => ?_
    obtain ⟨t6980, hg6981, h⟩ := h.bind
    have hc := link_New.ok hg6981 hS
    rcases t6980 with _ | ⟨y6982, y6983⟩
    · exact h.none
    refine RL.e (OW.callF (ls := [.tmp 107, .tmp 109]) rfl call56 hc) rfl rfl ?_
    rintro _ w ⟨b6984, rfl, hS⟩
    refine pn 5 rfl (ln (RC.region (rr [0, 0, 0, 0, 8, 0] hS ?_)))
    refine it fun w hS => RL.e (OW.buildSlice (E := FP) (xs := [b6984]) (cs := [pV b6984]) hS underlying32 zeroValue103 sizeOf103 (parts := [(0, .tmp 118)]) rfl rfl (by decide) (by decide) (by kernel_rfl) rfl) rfl rfl ?_
    rintro _ w ⟨b6985, rfl, hS⟩
    obtain ⟨hq6987, h⟩ := h.req
    have hS := hS.p1.p6.sepSnoc
    have hl6986 := hS.sepLen
    refine RL.e (OW.append (E := FP) (xs := bs6897) (ys := [b6984]) 5 hS rfl underlying32 type103 rfl rfl rfl rfl (by decide) rfl rfl rfl (hS.slW 1 rfl).2.2.flat (by simp only [maxLen, List.length_cons, List.length_nil] at *; omega) (le_app hl6898 hq6987) rfl) rfl rfl ?_
    rintro v6990 w hS
    obtain ⟨A6988, c6989, rfl, _⟩ := hS.osShape 0 rfl
    have hS : St B w (_ :: _ :: _ :: _ :: _ :: _ :: _ :: _ :: _ :: _ :: l) hf := hS
    refine rr [0, 0, 8] hS ?_
    refine it fun w hS => RL.nil (RQ.inB_n (RQ.then_n (RC.region (pn 2 rfl (RL.nil ?_)))))
    exact fun a ha => ⟨_, h.some, _, _, rfl, _, _, _, ha.tE rfl, hS.d2.d2.p3.p3⟩
   refine jf (RC.exit (RQ.exitT ?_))
   have h := h.inr
   refine RQ.exitT (RQ.inB_hit (tsr (rr [0, 0, 8, 0] hS ?_)))
   refine it fun w hS => ?_
   obtain ⟨t6991, hg6992, h⟩ := h.bind
   have hc := colour_NewToken.ok hg6992 hS
   rcases t6991 with _ | ⟨y6993, y6994⟩
   · exact h.none
   refine RL.e (OW.callF (ls := [.tmp 128]) rfl call57 hc) rfl rfl ?_
   rintro _ w ⟨b6995, rfl, hS⟩
   refine rr [0, 0, 0, 0, 0, 7] hS ?_
   refine it fun w hS => lnsr (pn 3 rfl (lr ?_))
   obtain ⟨hf, hs6996, hS, hr6997⟩ := St.promote hS.p1
   have hS := O_colour_Token.l hs6996 hS
   have hS := hS.p3.imp fun _ h => SepL.m (fun _ _ => O_link_Way.m hs6996) h
   have hS := hS.p4.imp fun _ h => SepL.m (fun _ _ => O_kernel_place.m hs6996) h
   have hS := hS.nilSl E_api_Done 82
   have hS := O_kernel_Kernel.c (x := (⟨({ a1 with Links := (([] : List api_Link) ++ a1.Links) } : api_Model), l5909, l6894, y6993, 0, 64, 64, ([] : List api_Done), 0⟩ : kernel_Kernel)) ((hr4.mono hs5509).mono hs6996) hr6997 ((hr10.mono hs5509).mono hs6996) hS.p3.p3.p5.p4.p5.p6
   cases h.some
   exact rt results29 rfl ⟨_, (hs5509.trans hs6996), b3511, rfl, hS.d1.d1⟩
  refine jtr (pn 3 rfl (lr (RQ.ret ?_)))
  cases h.some
  exact rt results29 rfl ⟨rfl, hS.d0.d0.d0⟩
def kernel_Kernel_none.f (a2 : kernel_Kernel) : Option (Unit) := some ()
theorem kernel_Kernel_none.ok {a2 : kernel_Kernel} {b1 : Nat} {r : Unit} (h : kernel_Kernel_none.f a2 = some r) (hS : St B w (O_kernel_Kernel hf a2 b1 :: l) hf) :
    Calls prog 35 #[pV b1] w (Ret fun v w => v = .bool false ∧ St B w (O_kernel_Kernel hf a2 b1 :: l) hf) := by
  have h := Holds.of h
  refine en func35 rfl ntmps35 rfl (sr (pn 1 rfl (lnsr (pn 1 rfl (RL.s (Vl.bn false rfl rfl) rfl (r0 4 rfl ?_))))))
  obtain ⟨A23, c24, A26, c27, A29, c30, A32, c33, bs34, A36, c37, bs38, b40, A41, c42, hr25, hr28, hr31, hS⟩ := O_kernel_Kernel.o hS
  have hl35 := hS.p2.sepLen
  have hl39 := hS.p4.sepLen
  refine rr [1] hS ?_
  refine it fun w hS => RL.sg (Vl.bn false rfl rfl) rfl rfl (pn 2 rfl (lr ?_))
  have hS := O_kernel_Kernel.c (x := a2) hr25 hr28 hr31 hS
  exact rt results35 rfl ⟨rfl, hS⟩
def kernel_Kernel_picks.f (a2 : kernel_Kernel) : Option (Unit) := some ()
theorem kernel_Kernel_picks.ok {a2 : kernel_Kernel} {b1 : Nat} {r : Unit} (h : kernel_Kernel_picks.f a2 = some r) (hS : St B w (O_kernel_Kernel hf a2 b1 :: l) hf) :
    Calls prog 36 #[pV b1] w (Ret fun v w => ∃ (b_1 : Nat), v = .map (some b_1) ∧ St B w (MapL b_1 [({ key := iV 0, val := .func (.func 61) #[pV b1] #[], born := 0 } : MapEntry), ({ key := iV 1, val := .func (.func 62) #[pV b1] #[], born := 1 } : MapEntry), ({ key := iV 2, val := .func (.func 63) #[pV b1] #[], born := 2 } : MapEntry), ({ key := iV 3, val := .func (.func 64) #[pV b1] #[], born := 3 } : MapEntry), ({ key := iV 4, val := .func (.func 65) #[pV b1] #[], born := 4 } : MapEntry), ({ key := iV 10, val := .func (.func 66) #[pV b1] #[], born := 5 } : MapEntry), ({ key := iV 5, val := .func (.func 67) #[pV b1] #[], born := 6 } : MapEntry), ({ key := iV 6, val := .func (.func 67) #[pV b1] #[], born := 7 } : MapEntry), ({ key := iV 7, val := .func (.func 67) #[pV b1] #[], born := 8 } : MapEntry), ({ key := iV 8, val := .func (.func 67) #[pV b1] #[], born := 9 } : MapEntry), ({ key := iV 9, val := .func (.func 67) #[pV b1] #[], born := 10 } : MapEntry), ({ key := iV 11, val := .func (.func 67) #[pV b1] #[], born := 11 } : MapEntry)] 12 :: O_kernel_Kernel hf a2 b1 :: l) hf) := by
  have h := Holds.of h
  refine en func36 rfl ntmps36 rfl (sr (pn 1 rfl (lnsr (RL.e (OW.makeMapL hS) rfl rfl ?_))))
  rintro _ w ⟨b4, rfl, hS⟩
  refine pn 1 rfl (RL.s (Vl.makeFunc (fi := [.tmp 4]) (ca := []) rfl rfl) rfl (RL.e0 (OW.insertL 0 hS rfl underlying92 underlying3 rfl rfl rfl rfl rfl rfl rfl) rfl ?_))
  rintro _ w ⟨rfl, hS⟩
  have hS : St B w (_ :: _ :: l) hf := hS
  refine pn 1 rfl (RL.s (Vl.makeFunc (fi := [.tmp 6]) (ca := []) rfl rfl) rfl (RL.e0 (OW.insertL 0 hS rfl underlying92 underlying3 rfl rfl rfl rfl rfl rfl rfl) rfl ?_))
  rintro _ w ⟨rfl, hS⟩
  have hS : St B w (_ :: _ :: l) hf := hS
  refine pn 1 rfl (RL.s (Vl.makeFunc (fi := [.tmp 8]) (ca := []) rfl rfl) rfl (RL.e0 (OW.insertL 0 hS rfl underlying92 underlying3 rfl rfl rfl rfl rfl rfl rfl) rfl ?_))
  rintro _ w ⟨rfl, hS⟩
  have hS : St B w (_ :: _ :: l) hf := hS
  refine pn 1 rfl (RL.s (Vl.makeFunc (fi := [.tmp 10]) (ca := []) rfl rfl) rfl (RL.e0 (OW.insertL 0 hS rfl underlying92 underlying3 rfl rfl rfl rfl rfl rfl rfl) rfl ?_))
  rintro _ w ⟨rfl, hS⟩
  have hS : St B w (_ :: _ :: l) hf := hS
  refine pn 1 rfl (RL.s (Vl.makeFunc (fi := [.tmp 12]) (ca := []) rfl rfl) rfl (RL.e0 (OW.insertL 0 hS rfl underlying92 underlying3 rfl rfl rfl rfl rfl rfl rfl) rfl ?_))
  rintro _ w ⟨rfl, hS⟩
  have hS : St B w (_ :: _ :: l) hf := hS
  refine pn 1 rfl (RL.s (Vl.makeFunc (fi := [.tmp 14]) (ca := []) rfl rfl) rfl (RL.e0 (OW.insertL 0 hS rfl underlying92 underlying3 rfl rfl rfl rfl rfl rfl rfl) rfl ?_))
  rintro _ w ⟨rfl, hS⟩
  have hS : St B w (_ :: _ :: l) hf := hS
  refine pn 1 rfl (RL.s (Vl.makeFunc (fi := [.tmp 16]) (ca := []) rfl rfl) rfl (RL.e0 (OW.insertL 0 hS rfl underlying92 underlying3 rfl rfl rfl rfl rfl rfl rfl) rfl ?_))
  rintro _ w ⟨rfl, hS⟩
  have hS : St B w (_ :: _ :: l) hf := hS
  refine pn 1 rfl (RL.s (Vl.makeFunc (fi := [.tmp 18]) (ca := []) rfl rfl) rfl (RL.e0 (OW.insertL 0 hS rfl underlying92 underlying3 rfl rfl rfl rfl rfl rfl rfl) rfl ?_))
  rintro _ w ⟨rfl, hS⟩
  have hS : St B w (_ :: _ :: l) hf := hS
  refine pn 1 rfl (RL.s (Vl.makeFunc (fi := [.tmp 20]) (ca := []) rfl rfl) rfl (RL.e0 (OW.insertL 0 hS rfl underlying92 underlying3 rfl rfl rfl rfl rfl rfl rfl) rfl ?_))
  rintro _ w ⟨rfl, hS⟩
  have hS : St B w (_ :: _ :: l) hf := hS
  refine pn 1 rfl (RL.s (Vl.makeFunc (fi := [.tmp 22]) (ca := []) rfl rfl) rfl (RL.e0 (OW.insertL 0 hS rfl underlying92 underlying3 rfl rfl rfl rfl rfl rfl rfl) rfl ?_))
  rintro _ w ⟨rfl, hS⟩
  have hS : St B w (_ :: _ :: l) hf := hS
  refine pn 1 rfl (RL.s (Vl.makeFunc (fi := [.tmp 24]) (ca := []) rfl rfl) rfl (RL.e0 (OW.insertL 0 hS rfl underlying92 underlying3 rfl rfl rfl rfl rfl rfl rfl) rfl ?_))
  rintro _ w ⟨rfl, hS⟩
  have hS : St B w (_ :: _ :: l) hf := hS
  refine pn 1 rfl (RL.s (Vl.makeFunc (fi := [.tmp 26]) (ca := []) rfl rfl) rfl (RL.e0 (OW.insertL 0 hS rfl underlying92 underlying3 rfl rfl rfl rfl rfl rfl rfl) rfl ?_))
  rintro _ w ⟨rfl, hS⟩
  have hS : St B w (_ :: _ :: l) hf := hS
  refine pn 2 rfl (lr ?_)
  exact rt results36 rfl ⟨b4, rfl, hS⟩
def kernel_Kernel_who.f (a2 : kernel_Kernel) (a3 : Int) : Option (Int) := (if a3 < 0 then some 1 else (if (a2.at_.length : Int) ≤ a3 then some 1 else (if 0 ≤ a3 ∧ a3 < (a2.at_.length : Int) then none else none)))
theorem kernel_Kernel_who.ok {a2 : kernel_Kernel} {a3 r : Int} {b1 : Nat} (h : kernel_Kernel_who.f a2 a3 = some r) (hS : St B w (O_kernel_Kernel hf a2 b1 :: l) hf) :
    Calls prog 105 #[pV b1, iV a3] w (Ret fun v w => v = .tuple #[.pointer none, iV r] ∧ St B w (O_kernel_Kernel hf a2 b1 :: l) hf) := by
  have h := Holds.of h
  refine en func105 rfl ntmps105 rfl (sr (pn 2 rfl (ln (RC.seq (sr (pn 3 rfl ?_))))))
  refine RL.iteP 8 rfl h (fun hc72 h => ?_) fun hc72 h => ?_
  next =>
   refine pn 8 rfl (ln (jtr (pn 2 rfl (lr (RQ.ret ?_)))))
   obtain rfl := h.some
   exact rt results105 rfl ⟨rfl, hS⟩
  refine r0 4 rfl ?_
  obtain ⟨A73, c74, A76, c77, A79, c80, A82, c83, bs84, A86, c87, bs88, b90, A91, c92, hr75, hr78, hr81, hS⟩ := O_kernel_Kernel.o hS
  have hl85 := hS.p2.sepLen
  have hl89 := hS.p4.sepLen
  refine rr [1] hS ?_
  refine it fun w hS => RL.sg (Vl.lenO hl85 underlying31 rfl) rfl rfl (pn 2 rfl (ln ?_))
  refine RC.iteP 16 rfl h (fun hc93 h => ?_) fun hc93 h => ?_
  next =>
   refine jtr (pn 2 rfl (lr (RQ.ret ?_)))
   have hS := O_kernel_Kernel.c (x := a2) hr75 hr78 hr81 hS
   obtain rfl := h.some
   exact rt results105 rfl ⟨rfl, hS⟩
  refine jfs (sr (rr [0, 0, 0, 1, 0] hS ?_))
  refine it fun w hS => ?_
  obtain ⟨⟨hq94, hq95⟩, h⟩ := h.req
  refine RL.s (Vl.indexOwn 1 hS rfl underlying31 sizeOf95 rfl rfl hq94 (lt_len hl85 hq95)) rfl (RL.s (Vl.load isAgg95 rfl ((hS.slW 1 rfl).2.2.cell (j := 0) hq94 (lt_len hl85 hq95) rfl)) rfl (pn 2 rfl (lr ?_)))
  exact h.none
def kernel_Kernel_step.f (a2 : kernel_Kernel) (a3 : api_Pick) : Option (Int) := ((kernel_Kernel_who.f a2 a3.A).bind fun t16 => (if t16 = 0 then none else some t16))
theorem kernel_Kernel_step.ok {a2 : kernel_Kernel} {a3 : api_Pick} {b1 : Nat} {r : Int} (h : kernel_Kernel_step.f a2 a3 = some r) (hS : St B w (O_kernel_Kernel hf a2 b1 :: l) hf) :
    Calls prog 61 #[pV b1, .agg (C_api_Pick a3).toArray] w (Ret fun v w => v = iV r ∧ St B w (O_kernel_Kernel hf a2 b1 :: l) hf) := by
  have h := Holds.of h
  refine en func61 rfl ntmps61 rfl (sr (rr [0, 0] hS ?_))
  refine fun b13 => it fun w hS => lnsr (rr [0, 0, 1] hS ?_)
  refine it fun w hS => cF (fun _ hg => kernel_Kernel_who.ok hg hS.p1) call105 h rfl rfl rfl ?_
  rintro t16 h _ w ⟨rfl, hS⟩
  refine pn 5 rfl (ln (RC.seq (sr (pn 2 rfl (ln ?_)))))
  refine RC.iteN 19 rfl h (fun hc19 h => ?_) fun hc19 h => ?_
  next =>
   refine jfs (sr (pn 2 rfl ?_))
   exact h.none
  refine jtr (pn 2 rfl (lr (RQ.ret ?_)))
  obtain rfl := h.some
  exact rt results61 rfl ⟨rfl, hS.d1⟩
def kernel_Kernel_deliver.f (a2 : kernel_Kernel) (a3 : api_Pick) : Option (Int) := (if a3.A < 0 then some 1 else (if (a2.ways.length : Int) ≤ a3.A then some 1 else (if 0 ≤ a3.A ∧ a3.A < (a2.ways.length : Int) then (if a3.A < (a2.m.Links.length : Int) then (if 0 ≤ (nth a2.m.Links a3.A).To ∧ (nth a2.m.Links a3.A).To < (a2.at_.length : Int) then none else none) else none) else none)))
theorem kernel_Kernel_deliver.ok {a2 : kernel_Kernel} {a3 : api_Pick} {b1 : Nat} {r : Int} (h : kernel_Kernel_deliver.f a2 a3 = some r) (hS : St B w (O_kernel_Kernel hf a2 b1 :: l) hf) :
    Calls prog 62 #[pV b1, .agg (C_api_Pick a3).toArray] w (Ret fun v w => v = iV r ∧ St B w (O_kernel_Kernel hf a2 b1 :: l) hf) := by
  have h := Holds.of h
  refine en func62 rfl ntmps62 rfl (sr (rr [0, 0] hS ?_))
  refine fun b63 => it fun w hS => ln (RC.seq (RC.seq ?_))
  obtain ⟨A88, c89, A91, c92, A94, c95, A97, c98, bs99, A101, c102, bs103, b105, A106, c107, hr90, hr93, hr96, hS⟩ := O_kernel_Kernel.o hS.p1
  have hl100 := hS.p2.sepLen
  have hl104 := hS.p4.sepLen
  refine dr [0, 4, 6, 9, 12, 16, 20, 23, 26, 29, 32, 35, 38] [11, 12] hS fun w hS => rq [0, 8, 0, 0] hS ?_
  refine it ?_
  refine RP.iteP 13 rfl h (fun hc108 h => ?_) fun hc108 h => ?_
  next =>
   refine rq [0, 0, 0, 0, 0, 0, 0, 0, 0] hS ?_
   refine it (RP.nil (RQ.then_n (jtr (pn 1 rfl (lr (RQ.ret ?_))))))
   have hS := O_kernel_Kernel.c (x := a2) hr90 hr93 hr96 hS
   obtain rfl := h.some
   exact rt results62 rfl ⟨rfl, hS.d1⟩
  refine rq [0, 8, 0, 0, 0, 1] hS ?_
  refine it (RP.v1 10 rfl (Vl.lenO hl104 underlying32 rfl) rfl rfl (rq [0, 0] hS ?_))
  refine it (RP.nil (RQ.then_n ?_))
  refine RC.iteP 22 rfl h (fun hc109 h => ?_) fun hc109 h => ?_
  next =>
   refine jtr (pn 1 rfl (lr (RQ.ret ?_)))
   have hS := O_kernel_Kernel.c (x := a2) hr90 hr93 hr96 hS
   obtain rfl := h.some
   exact rt results62 rfl ⟨rfl, hS.d1⟩
  refine jfs (RC.seq (dr [0, 3, 6, 10, 12, 16, 19, 22, 24, 27, 30, 34, 36, 39, 42, 45, 49, 51, 55, 58, 60, 64, 67, 70, 74, 77] [25] hS fun w hS => rq [0, 0, 0, 1, 0, 8] hS ?_))
  refine it ?_
  obtain ⟨⟨hq115, hq116⟩, h⟩ := h.req
  refine RP.s 0 6 rfl rfl hS (fun w hS => Vl.indexOwn 3 hS rfl underlying32 sizeOf103 rfl rfl hq115 (lt_len hl104 hq116)) rfl (RP.s 0 7 rfl rfl hS (fun w hS => Vl.load isAgg103 rfl ((hS.slW 3 rfl).2.2.cell (j := 0) hq115 (lt_len hl104 hq116) rfl)) rfl (rq [0, 0, 0, 1, 0, 0, 0, 0, 1, 0, 8] hS ?_))
  refine it ?_
  obtain ⟨hq117, h⟩ := h.req
  refine RP.s 0 19 rfl rfl hS (fun w hS => Vl.indexAddr underlying26 sizeOf125 rfl rfl ((hr93.2.world hS.sub).adr hq115 hq117) hq115 hq117 rfl) rfl (RP.s0 20 rfl (fun w => Vl.fieldAddr (a'' := (ad A91).add (a3.A.toNat * 4 + 1)) underlying125 rfl sizeOf3 rfl (add_add _ _ _)) rfl (RP.s 0 21 rfl rfl hS (fun w hS => Vl.load isAgg3 rfl ((hr93.2.world hS.sub).cell (j := 1) hq115 hq117 rfl)) rfl ?_))
  obtain ⟨⟨hq118, hq119⟩, h⟩ := h.req
  refine RP.s 0 22 rfl rfl hS (fun w hS => Vl.indexOwn 1 hS rfl underlying31 sizeOf95 rfl rfl hq118 (lt_len hl100 hq119)) rfl (RP.s 0 23 rfl rfl hS (fun w hS => Vl.load isAgg95 rfl ((hS.slW 1 rfl).2.2.cell (j := 0) hq118 (lt_len hl100 hq119) rfl)) rfl (rq [0, 0] hS ?_))
  refine it (RP.nil (tsr (rr [0, 0, 8] hS ?_)))
  refine it fun w hS => ?_
  exact h.none
def colour_Token_none.f (a2 : colour_Token) : Option (Bool) := some (decide (a2.n = 0))
theorem colour_Token_none.ok {a2 : colour_Token} {b1 : Nat} {r : Bool} (h : colour_Token_none.f a2 = some r) (hS : St B w (O_colour_Token hf a2 b1 :: l) hf) :
    Calls prog 166 #[pV b1] w (Ret fun v w => v = .bool r ∧ St B w (O_colour_Token hf a2 b1 :: l) hf) := by
  have h := Holds.of h
  refine en func166 rfl ntmps166 rfl (sr (pn 1 rfl (lnsr (pn 1 rfl (RL.s (Vl.bn false rfl rfl) rfl (r0 4 rfl ?_))))))
  have hS := O_colour_Token.o hS
  refine rr [1, 0, 0, 0] hS ?_
  refine it fun w hS => lr ?_
  have hS := O_colour_Token.c (x := a2) hS
  cases h.some
  exact rt results166 rfl ⟨rfl, hS⟩
def colour_Token_At.f (a2 : colour_Token) : Option (Int) := ((colour_Token_none.f a2).bind fun t12 => (if t12 = true then some 0 else some a2.at_))
theorem colour_Token_At.ok {a2 : colour_Token} {b1 : Nat} {r : Int} (h : colour_Token_At.f a2 = some r) (hS : St B w (O_colour_Token hf a2 b1 :: l) hf) :
    Calls prog 115 #[pV b1] w (Ret fun v w => v = iV r ∧ St B w (O_colour_Token hf a2 b1 :: l) hf) := by
  have h := Holds.of h
  refine en func115 rfl ntmps115 rfl (sr (pn 1 rfl (ln (RC.seq (sr (pn 1 rfl (cF (fun _ hg => colour_Token_none.ok hg hS) call166 h rfl rfl rfl ?_)))))))
  rintro t12 h _ w ⟨rfl, hS⟩
  refine ln ?_
  refine RC.iteB 4 rfl h (fun hc14 h => ?_) fun hc14 h => ?_
  next =>
   refine jtr (pn 1 rfl (lr (RQ.ret ?_)))
   obtain rfl := h.some
   exact rt results115 rfl ⟨rfl, hS⟩
  refine jfs (sr (r0 3 rfl ?_))
  have hS := O_colour_Token.o hS
  refine rr [1, 0] hS ?_
  refine it fun w hS => lr ?_
  have hS := O_colour_Token.c (x := a2) hS
  cases h.some
  exact rt results115 rfl ⟨rfl, hS⟩
def vtime_Least.l2b (a1 : List Int) : Int × Int → Option ((Int × Int) ⊕ (Int))
  | (x26, x27) => (if x27 < (a1.length : Int) then (if 0 ≤ x27 then some (.inl ((if nth a1 x27 < x26 then nth a1 x27 else x26), IntKind.i64.wrap (x27 + 1))) else none) else some (.inr x26))
def vtime_Least.l2 (a1 : List Int) (s : Int × Int) : Option (Int) := loopR (vtime_Least.l2b a1) s
def vtime_Least.f (a1 : List Int) : Option (Int) := vtime_Least.l2 a1 (4611686018427387904, 0)
theorem vtime_Least.ok {a1 : List Int} {A2 : Option Addr} {c3 : Nat} (hr4 : SlR ((FI .i64).rep) hf A2 c3 a1) {r : Int} (h : vtime_Least.f a1 = some r) (hS : St B w (l) hf) :
    Calls prog 37 #[sV A2 a1 c3] w (Ret fun v w => v = iV r ∧ St B w (l) hf) := by
  have h := Holds.of h
  refine en func37 rfl ntmps37 rfl (sr (pn 1 rfl (lnsr (pn 1 rfl (ln (RC.seq (sr (r0 3 rfl (RL.nil ?_)))))))))
  refine RQ.then_n (RC.block (fun a ha => lp h (fun (s : Int × Int) a w => ∃ x26 x27, s = (x26, x27) ∧ Has 17 [(3, iV x26), (6, sV A2 a1 c3), (7, iV (a1.length : Int)), (8, iV x27)] a ∧ St B w (l) hf) ⟨_, _, rfl, ha.tE rfl, hS⟩ ?_))
  rintro G34 _ a w ⟨x26, x27, rfl, ha, hS⟩ h
  refine ro ha (sr (pn 1 rfl (ln (RC.seq ?_))))
  refine RC.iteP 9 rfl h (fun hc36 h => ?_) fun hc36 h => ?_
  next =>
   refine jt (sk (RC.seq (RC.block (sr ?_))))
   obtain ⟨hq38, h⟩ := h.req
   refine RL.s (Vl.indexAddr underlying142 sizeOf2 rfl rfl ((hr4.2.world hS.sub).adr hq38 hc36) hq38 hc36 rfl) rfl (RL.s (Vl.load isAgg2 rfl ((hr4.2.world hS.sub).cell (j := 0) hq38 hc36 rfl)) rfl (pn 1 rfl (ln (RC.region (pn 2 rfl (RL.s (Vl.min2 rfl rfl) rfl (pn 1 rfl (RL.nil (RQ.inB_n (RQ.then_n (RC.region (pn 2 rfl (RL.nil ?_)))))))))))))
   exact fun a ha => ⟨_, h.some, _, _, rfl, ha.tE rfl, hS⟩
  refine jf (RC.exit (RQ.exitT ?_))
  have h := h.inrS
  refine RQ.exitT (RQ.inB_hit (tsr (pn 2 rfl (lr ?_))))
  obtain rfl := h.some
  exact rt results37 rfl ⟨rfl, hS⟩
def lane_Lane_none.f (a2 : lane_Lane) : Option (Unit) := some ()
theorem lane_Lane_none.ok {a2 : lane_Lane} {b1 : Nat} {r : Unit} (h : lane_Lane_none.f a2 = some r) (hS : St B w (O_lane_Lane hf a2 b1 :: l) hf) :
    Calls prog 68 #[pV b1] w (Ret fun v w => v = .bool false ∧ St B w (O_lane_Lane hf a2 b1 :: l) hf) := by
  have h := Holds.of h
  refine en func68 rfl ntmps68 rfl (sr (pn 1 rfl (lnsr (pn 1 rfl (RL.s (Vl.bn false rfl rfl) rfl (r0 4 rfl ?_))))))
  obtain ⟨A23, c24, A26, c27, A29, c30, A32, c33, b35, b36, A37, c38, A39, c40, b41, b42, hr25, hr28, hr31, hr34, hS⟩ := O_lane_Lane.o hS
  refine rr [1] hS ?_
  refine it fun w hS => RL.sg (Vl.bn false rfl rfl) rfl rfl (pn 2 rfl (lr ?_))
  have hS := O_lane_Lane.c (x := a2) hr25 hr28 hr31 hr34 hS
  exact rt results68 rfl ⟨rfl, hS⟩
def heap_Heap_First.f (a2 : heap_Heap) : Option (api_Message × Int) := ((heap_Heap_none.f a2).bind fun _ => (if (a2.p_l.length : Int) = 0 then some ((⟨(⟨0, 0, 0⟩ : api_Key), 0, 0, 0, false⟩ : api_Message), 6) else (if 0 < (a2.p_l.length : Int) then some (nth a2.p_l 0, 0) else none)))
theorem heap_Heap_First.ok {a2 : heap_Heap} {b1 : Nat} {r : api_Message × Int} (h : heap_Heap_First.f a2 = some r) (hS : St B w (O_heap_Heap hf a2 b1 :: l) hf) :
    Calls prog 307 #[pV b1] w (Ret fun v w => v = .tuple #[.agg (C_api_Message r.1).toArray, iV r.2] ∧ St B w (O_heap_Heap hf a2 b1 :: l) hf) := by
  have h := Holds.of h
  refine en func307 rfl ntmps307 rfl (sr (rr [0, 0] hS ?_))
  refine fun b21 => it fun w hS => ln (RC.seq (RC.block (sr (pn 1 rfl (cF (fun _ hg => heap_Heap_none.ok hg hS.p1) call311 h rfl rfl rfl ?_)))))
  rintro _ h _ w ⟨rfl, hS⟩
  refine pn 1 rfl (ln (jf (sr (r0 4 rfl ?_))))
  obtain ⟨A33, c34, hS⟩ := O_heap_Heap.o hS
  refine rr [1, 0, 0, 0] hS ?_
  refine it fun w hS => ln ?_
  refine RC.iteP 8 rfl h (fun hc35 h => ?_) fun hc35 h => ?_
  next =>
   refine jtr (rr [0, 3, 0] hS ?_)
   refine it fun w hS => lr (ir ?_)
   have hS := O_heap_Heap.c (x := a2) hS
   cases h.some
   refine rz [1] results307 hS ?_
   exact it ⟨rfl, hS.d1⟩
  refine jf (RC.skip (RQ.inB_n (tsr (rr [0, 0, 0, 0, 1] hS ?_))))
  refine it fun w hS => ?_
  obtain ⟨hq36, h⟩ := h.req
  refine RL.s (Vl.indexOwn 1 hS rfl underlying52 sizeOf84 rfl rfl (by decide) hq36) rfl (RL.s (Vl.loadA isAgg84 sizeOf84 rfl rfl ((hS.slW 1 rfl).2.2.cells (by decide) hq36)) rfl (rr [3, 0] hS ?_))
  refine it fun w hS => lr ?_
  have hS := O_heap_Heap.c (x := a2) hS
  cases h.some
  refine rz [1] results307 hS ?_
  exact it ⟨rfl, hS.d1⟩
def pend_Pend_First.f (a2 : pend_Pend) : Option (api_Message × Int) := ((pend_Pend_none.f a2).bind fun _ => ((heap_Heap_First.f a2.q).bind fun (y23, y24) => some (y23, y24)))
theorem pend_Pend_First.ok {a2 : pend_Pend} {b1 : Nat} {r : api_Message × Int} (h : pend_Pend_First.f a2 = some r) (hS : St B w (O_pend_Pend hf a2 b1 :: l) hf) :
    Calls prog 69 #[pV b1] w (Ret fun v w => v = .tuple #[.agg (C_api_Message r.1).toArray, iV r.2] ∧ St B w (O_pend_Pend hf a2 b1 :: l) hf) := by
  have h := Holds.of h
  refine en func69 rfl ntmps69 rfl (sr (rr [0, 0] hS ?_))
  refine fun b15 => it fun w hS => ln (RC.seq (sr (pn 1 rfl (cF (fun _ hg => pend_Pend_none.ok hg hS.p1) call123 h rfl rfl rfl ?_))))
  rintro _ h _ w ⟨rfl, hS⟩
  refine ln (jfs (sr (r0 3 rfl ?_)))
  obtain ⟨b20, hS⟩ := O_pend_Pend.o hS
  refine rr [1] hS ?_
  refine it fun w hS => ?_
  obtain ⟨t21, hg22, h⟩ := h.bind
  have hc := heap_Heap_First.ok hg22 hS.p1
  obtain ⟨y23, y24⟩ := t21
  refine RL.e (OW.invoke (F := 307) (u' := pV b20) (ls := []) rfl rfl (fun w => by kernel_rfl) call307 rfl hc) rfl rfl ?_
  rintro _ w ⟨rfl, hS⟩
  refine rr [0, 0, 3, 0] hS ?_
  refine it fun w hS => lr ?_
  have hS := O_pend_Pend.c (x := a2) hS.p1
  cases h.some
  refine rz [1] results69 hS ?_
  exact it ⟨rfl, hS.d1⟩
def log_Log_none.f (a2 : log_Log) : Option (Bool) := some (!a2.made)
theorem log_Log_none.ok {a2 : log_Log} {b1 : Nat} {r : Bool} (h : log_Log_none.f a2 = some r) (hS : St B w (O_log_Log hf a2 b1 :: l) hf) :
    Calls prog 124 #[pV b1] w (Ret fun v w => v = .bool r ∧ St B w (O_log_Log hf a2 b1 :: l) hf) := by
  have h := Holds.of h
  refine en func124 rfl ntmps124 rfl (sr (pn 1 rfl (lnsr (pn 1 rfl (RL.s (Vl.bn false rfl rfl) rfl (r0 4 rfl ?_))))))
  obtain ⟨A13, c14, A16, c17, A19, c20, cs21, hr15, hr18, hx22, hS⟩ := O_log_Log.o hS
  refine rr [1, 0, 0, 0] hS ?_
  refine it fun w hS => lr ?_
  have hS := O_log_Log.c (x := a2) hr15 hr18 hx22 hS
  cases h.some
  exact rt results124 rfl ⟨rfl, hS⟩
def log_Log_Stuck.f (a2 : log_Log) : Option (Bool) := ((log_Log_none.f a2).bind fun t16 => (if t16 = true then some false else some a2.stuck))
theorem log_Log_Stuck.ok {a2 : log_Log} {b1 : Nat} {r : Bool} (h : log_Log_Stuck.f a2 = some r) (hS : St B w (O_log_Log hf a2 b1 :: l) hf) :
    Calls prog 70 #[pV b1] w (Ret fun v w => v = .bool r ∧ St B w (O_log_Log hf a2 b1 :: l) hf) := by
  have h := Holds.of h
  refine en func70 rfl ntmps70 rfl (sr (pn 1 rfl (lnsr (pn 1 rfl (cF (fun _ hg => log_Log_none.ok hg hS) call124 h rfl rfl rfl ?_)))))
  rintro t16 h _ w ⟨rfl, hS⟩
  refine pn 2 rfl ?_
  refine RL.iteM 6 rfl h (fun hc18 h => ?_) fun hc18 h => ?_
  next =>
   refine pn 6 rfl (lr ?_)
   obtain rfl := h.some
   exact rt results70 rfl ⟨rfl, hS⟩
  refine r0 3 rfl ?_
  obtain ⟨A19, c20, A22, c23, A25, c26, cs27, hr21, hr24, hx28, hS⟩ := O_log_Log.o hS
  refine rr [1, 0, 0] hS ?_
  refine it fun w hS => lr ?_
  have hS := O_log_Log.c (x := a2) hr21 hr24 hx28 hS
  cases h.some
  exact rt results70 rfl ⟨rfl, hS⟩
def lane_Lane_Local.l4b (a2 : lane_Lane) : Int × Int → Option ((Int × Int) ⊕ (Int))
  | (x381, x382) => (if x382 < (a2.open_.length : Int) then (if 0 ≤ x382 then ((vtime_Least.f ([x381, (((nth a2.open_ x382).m).Key).Time] : List Int)).bind fun t432 => some (.inl (t432, IntKind.i64.wrap (x382 + 1)))) else none) else some (.inr x381))
def lane_Lane_Local.l4 (a2 : lane_Lane) (s : Int × Int) : Option (Int) := loopR (lane_Lane_Local.l4b a2) s
def lane_Lane_Local.j3 (a2 : lane_Lane) (x318 : Int) : Option (Int) := lane_Lane_Local.l4 a2 (x318, 0)
def lane_Lane_Local.f (a2 : lane_Lane) : Option (Int) := ((vtime_Least.f ([])).bind fun t251 => ((lane_Lane_none.f a2).bind fun _ => ((pend_Pend_First.f a2.wait).bind fun (y481, y482) => (if y482 = 0 then ((log_Log_Stuck.f a2.log).bind fun t485 => (if t485 = true then lane_Lane_Local.j3 a2 t251 else ((vtime_Least.f ([y481.Key.Time] : List Int)).bind fun t493 => lane_Lane_Local.j3 a2 t493))) else lane_Lane_Local.j3 a2 t251))))
theorem lane_Lane_Local.ok {a2 : lane_Lane} {b1 : Nat} {r : Int} (h : lane_Lane_Local.f a2 = some r) (hS : St B w (O_lane_Lane hf a2 b1 :: l) hf) :
    Calls prog 38 #[pV b1] w (Ret fun v w => v = iV r ∧ St B w (O_lane_Lane hf a2 b1 :: l) hf) := by
  have h := Holds.of h
  refine en func38 rfl ntmps38 rfl (sr (pn 1 rfl (lnsr (cF (fun _ hg => vtime_Least.ok (SlR.nil (A := none) (c := 0)) hg hS) call37 h rfl rfl rfl ?_))))
  rintro t251 h _ w ⟨rfl, hS⟩
  refine pn 1 rfl (ln (RC.seq (sr (pn 1 rfl (cF (fun _ hg => lane_Lane_none.ok hg hS) call68 h rfl rfl rfl ?_)))))
  rintro _ h _ w ⟨rfl, hS⟩
  refine ln (jfs ?_)
  refine RC.join (fun (s : Int) a w => ∃ x318, s = (x318) ∧ Holds (· = r) (lane_Lane_Local.j3 a2 x318) ∧ Has 53 [(0, pV b1), (3, iV x318)] a ∧ St B w (O_lane_Lane hf a2 b1 :: l) hf) ?_ ?_
  · rintro x318 a w ⟨_, rfl, h, ha, hS⟩
    refine ro ha (RC.seq (sr (r0 3 rfl ?_)))
    obtain ⟨A339, c340, A342, c343, A345, c346, A348, c349, b351, b352, A353, c354, A355, c356, b357, b358, hr341, hr344, hr347, hr350, hS⟩ := O_lane_Lane.o hS
    refine rr [1, 0, 0] hS ?_
    refine it fun w hS => ln (RC.block (fun a ha => lp h (fun (s : Int × Int) a w => ∃ x381 x382, s = (x381, x382) ∧ Has 53 [(3, iV x381), (38, sV A353 a2.open_ c354), (39, iV (a2.open_.length : Int)), (40, iV x382)] a ∧ St B w (OSf E_lane_open 153 (sV A353 a2.open_ c354) a2.open_ :: OSf E_api_Message 84 (sV A355 a2.orphans c356) a2.orphans :: Cl b1 (C_lane_Lane a2 A339 c340 A342 c343 A345 c346 A348 c349 b351 b352 A353 c354 A355 c356 b357 b358) 150 :: O_log_Log hf a2.log b351 :: O_pend_Pend hf a2.wait b352 :: MapF kv_lane_sending (Value.int .i64) b357 a2.early :: MapF kv_lane_sending Value.bool b358 a2.held :: l) hf) ⟨_, _, rfl, ha.tE rfl, hS.p4.p4⟩ ?_))
    rintro G409 _ a w ⟨x381, x382, rfl, ha, hS⟩ h
    refine ro ha (sr (pn 1 rfl (ln (RC.seq ?_))))
    refine RC.iteP 41 rfl h (fun hc411 h => ?_) fun hc411 h => ?_
    next =>
     refine jt (sk (RC.seq (RC.block (sr ?_))))
     obtain ⟨hq425, h⟩ := h.req
     refine RL.s (Vl.indexOwn 0 hS rfl underlying146 sizeOf153 rfl rfl hq425 hc411) rfl (RL.s (Vl.loadA isAgg153 sizeOf153 rfl rfl ((hS.slW 0 rfl).2.2.cells hq425 hc411)) rfl (rr [0, 1] hS ?_))
     refine fun b426 => it fun w hS => ln (RC.region (rr [0, 0, 0, 0, 1] hS ?_))
     refine it fun w hS => RL.e (OW.buildSlice (E := (FI .i64)) (xs := ([x381, (((nth a2.open_ x382).m).Key).Time] : List Int)) (cs := [iV x381, iV ((((nth a2.open_ x382).m).Key).Time)]) hS underlying142 zeroValue2 sizeOf2 (parts := [(0, .tmp 44), (1, .tmp 48)]) rfl rfl (by decide) (by decide) (by kernel_rfl) rfl) rfl rfl ?_
     rintro _ w ⟨b427, rfl, hS⟩
     obtain ⟨hf431, hs429, hS, hr428, hb430⟩ := St.lendSl hS
     obtain ⟨t432, hg433, h⟩ := h.bind
     have hc := vtime_Least.ok hr428 hg433 hS
     refine RL.e (OW.callF (ls := [.tmp 49]) rfl call37 hc) rfl rfl ?_
     rintro _ w ⟨rfl, hS⟩
     have hS := hb430 _ _ hS
     have hS : St B w (_ :: _ :: _ :: _ :: _ :: _ :: _ :: _ :: _ :: l) hf := hS
     refine pn 1 rfl (RL.nil (RQ.inB_n (RQ.then_n (RC.region (pn 2 rfl (RL.nil ?_))))))
     exact fun a ha => ⟨_, h.some, _, _, rfl, ha.tE rfl, hS.d0.d0⟩
    refine jf (RC.exit (RQ.exitT ?_))
    have h := h.inrS
    refine RQ.exitT (RQ.inB_hit (tsr (pn 2 rfl (lr ?_))))
    have hS := O_lane_Lane.c (x := a2) hr341 hr344 hr347 hr350 hS.p4.p4.p4
    obtain rfl := h.some
    exact rt results38 rfl ⟨rfl, hS⟩
  refine sr (r0 3 rfl ?_)
  obtain ⟨A459, c460, A462, c463, A465, c466, A468, c469, b471, b472, A473, c474, A475, c476, b477, b478, hr461, hr464, hr467, hr470, hS⟩ := O_lane_Lane.o hS
  refine rr [1] hS ?_
  refine it fun w hS => cF (fun _ hg => pend_Pend_First.ok hg hS.p2) call69 h rfl rfl rfl ?_
  rintro ⟨y481, y482⟩ h _ w ⟨rfl, hS⟩
  refine rr [0, 0, 0, 0, 1, 0] hS ?_
  refine fun b483 => it fun w hS => lnsr (pn 3 rfl ?_)
  refine RL.iteP 22 rfl h (fun hc484 h => ?_) fun hc484 h => ?_
  next =>
   refine rr [0, 0, 0, 3] hS ?_
   refine it fun w hS => cF (fun _ hg => log_Log_Stuck.ok hg hS.p3) call70 h rfl rfl rfl ?_
   rintro t485 h _ w ⟨rfl, hS⟩
   refine pn 2 rfl (ln ?_)
   refine RC.iteM 29 rfl h (fun hc487 h => ?_) fun hc487 h => ?_
   next =>
    refine jf (RC.skip ?_)
    have hS := O_lane_Lane.c (x := a2) hr461 hr464 hr467 hr470 hS.p7.p7.p7.p7.p6.p5.p7
    exact fun a ha => ⟨_, _, rfl, h, ha.tE rfl, hS.d1⟩
   refine jt (RC.region (rr [0, 0, 2] hS ?_))
   refine it fun w hS => RL.e (OW.buildSlice (E := (FI .i64)) (xs := ([y481.Key.Time] : List Int)) (cs := [iV y481.Key.Time]) hS underlying142 zeroValue2 sizeOf2 (parts := [(0, .tmp 32)]) rfl rfl (by decide) (by decide) (by kernel_rfl) rfl) rfl rfl ?_
   rintro _ w ⟨b488, rfl, hS⟩
   obtain ⟨hf492, hs490, hS, hr489, hb491⟩ := St.lendSl hS
   obtain ⟨t493, hg494, h⟩ := h.bind
   have hc := vtime_Least.ok hr489 hg494 hS
   refine RL.e (OW.callF (ls := [.tmp 33]) rfl call37 hc) rfl rfl ?_
   rintro _ w ⟨rfl, hS⟩
   have hS := hb491 _ _ hS
   have hS : St B w (_ :: _ :: _ :: _ :: _ :: _ :: _ :: _ :: _ :: l) hf := hS
   refine pn 1 rfl (RL.nil ?_)
   have hS := O_lane_Lane.c (x := a2) hr461 hr464 hr467 hr470 hS.p8.p8.p8.p8.p7.p6.p8
   exact fun a ha => ⟨_, _, rfl, h, ha.tE rfl, hS.d1.d1⟩
  refine pn 7 rfl (ln (jf (RC.skip ?_)))
  have hS := O_lane_Lane.c (x := a2) hr461 hr464 hr467 hr470 hS.p7.p7.p7.p7.p5.p7.p7
  exact fun a ha => ⟨_, _, rfl, h, ha.tE rfl, hS.d1⟩
def colour_Tally_none.f (a2 : colour_Tally) : Option (Bool) := some (!a2.made)
theorem colour_Tally_none.ok {a2 : colour_Tally} {b1 : Nat} {r : Bool} (h : colour_Tally_none.f a2 = some r) (hS : St B w (O_colour_Tally hf a2 b1 :: l) hf) :
    Calls prog 165 #[pV b1] w (Ret fun v w => v = .bool r ∧ St B w (O_colour_Tally hf a2 b1 :: l) hf) := by
  have h := Holds.of h
  refine en func165 rfl ntmps165 rfl (sr (pn 1 rfl (lnsr (pn 1 rfl (RL.s (Vl.bn false rfl rfl) rfl (r0 4 rfl ?_))))))
  have hS := O_colour_Tally.o hS
  refine rr [1, 0, 0, 0] hS ?_
  refine it fun w hS => lr ?_
  have hS := O_colour_Tally.c (x := a2) hS
  cases h.some
  exact rt results165 rfl ⟨rfl, hS⟩
def colour_Token_count.f (a2 : colour_Token) (a4 : colour_Tally) (a5 : Int) : Option (colour_Token) := (if 0 ≤ IntKind.i64.wrap (BitVec.ofInt IntKind.i64.bits a4.colour ^^^ BitVec.ofInt IntKind.i64.bits 1).toNat ∧ IntKind.i64.wrap (BitVec.ofInt IntKind.i64.bits a4.colour ^^^ BitVec.ofInt IntKind.i64.bits 1).toNat < 2 then ((vtime_Least.f ([a2.least, a5, a4.least] : List Int)).bind fun t26 => some ({ a2 with sum := IntKind.i64.wrap (a2.sum + (nth ([a4.net.c0, a4.net.c1] : List Int) (IntKind.i64.wrap (BitVec.ofInt IntKind.i64.bits a4.colour ^^^ BitVec.ofInt IntKind.i64.bits 1).toNat))), least := t26 } : colour_Token)) else none)
theorem colour_Token_count.ok {a2 r : colour_Token} {a4 : colour_Tally} {a5 : Int} {b1 b3 : Nat} (h : colour_Token_count.f a2 a4 a5 = some r) (hS : St B w (O_colour_Token hf a2 b1 :: O_colour_Tally hf a4 b3 :: l) hf) :
    Calls prog 168 #[pV b1, pV b3, iV a5] w (Ret fun v w => v = .tuple #[] ∧ St B w (O_colour_Token hf r b1 :: O_colour_Tally hf a4 b3 :: l) hf) := by
  have h := Holds.of h
  refine en func168 rfl ntmps168 rfl (RC.seq ?_)
  have hS := O_colour_Token.o hS
  have hS := O_colour_Tally.o hS.p1
  refine dr [0, 3, 6, 10, 12, 15, 18, 21, 25, 27, 32, 35, 38, 41, 44, 47, 50, 53] [14, 15, 16, 17] hS fun w hS => rq [0, 0, 0, 2, 0, 0, 0, 0, 1, 0, 0, 0] hS ?_
  refine it ?_
  obtain ⟨⟨hq19, hq20⟩, h⟩ := h.req
  refine RP.v1 12 rfl (Vl.indexAddrA (a'' := ⟨b3, 2 + (IntKind.i64.wrap (BitVec.ofInt IntKind.i64.bits a4.colour ^^^ BitVec.ofInt IntKind.i64.bits 1).toNat).toNat * 1, none⟩) underlying177 sizeOf3 rfl rfl hq19 hq20 (add_mk _ _ _)) rfl rfl (RP.v1 13 rfl (Vl.load isAgg3 rfl (hS.cell (off := 2 + (IntKind.i64.wrap (BitVec.ofInt IntKind.i64.bits a4.colour ^^^ BitVec.ofInt IntKind.i64.bits 1).toNat).toNat * 1) (cs := [.bool a4.made, iV a4.colour] ++ (([a4.net.c0, a4.net.c1] : List Int).map (Value.int .i64) ++ [iV a4.least])) 0 rfl (mapseg_get rfl hq19 hq20))) rfl rfl (rq [0, 0, 0] hS ?_))
  refine it (RP.e0 17 rfl (OW.store (vs := [iV (IntKind.i64.wrap (a2.sum + (nth ([a4.net.c0, a4.net.c1] : List Int) (IntKind.i64.wrap (BitVec.ofInt IntKind.i64.bits a4.colour ^^^ BitVec.ofInt IntKind.i64.bits 1).toNat))))]) 1 hS rfl rfl rfl rfl sizeOf3 rfl rfl rfl rfl) rfl ?_)
  rintro _ w ⟨rfl, hS⟩
  have hS : St B w (_ :: Cl _ [_, _, _, _, _] _ :: l) hf := hS
  refine ⟨kp ⟨(by intro hx; cases hx), trivial⟩, ?_⟩
  refine RP.nil (RQ.then_n (dr [0, 3, 6, 9, 13, 15, 20, 23, 26, 29, 32, 35, 38, 41, 44] [10, 11, 12, 13, 14] hS fun w hS => rq [0, 0, 0, 0, 2, 0, 0, 0, 0, 1] hS ?_))
  refine it (RP.e 10 rfl (OW.buildSlice (E := (FI .i64)) (xs := ([a2.least, a5, a4.least] : List Int)) (cs := [iV a2.least, iV a5, iV a4.least]) hS underlying142 zeroValue2 sizeOf2 (parts := [(0, .tmp 27), (1, .tmp 28), (2, .tmp 32)]) rfl rfl (by decide) (by decide) (by kernel_rfl) rfl) rfl rfl ?_)
  rintro _ w ⟨b21, rfl, hS⟩
  refine ⟨kp ⟨(by intro hx; cases hx), trivial⟩, ?_⟩
  obtain ⟨hf25, hs23, hS, hr22, hb24⟩ := St.lendSl hS
  obtain ⟨t26, hg27, h⟩ := h.bind
  have hc := vtime_Least.ok hr22 hg27 hS
  refine RP.e 11 rfl (OW.callF (ls := [.tmp 33]) rfl call37 hc) rfl rfl ?_
  rintro _ w ⟨rfl, hS⟩
  have hS := hb24 _ _ hS
  have hS : St B w (_ :: _ :: _ :: l) hf := hS
  refine ⟨kp ⟨(by intro hx; cases hx), trivial⟩, ?_⟩
  refine rq [0, 0] hS.d0 ?_
  refine it (RP.e0 14 rfl (OW.store (vs := [iV t26]) 2 hS rfl rfl rfl rfl sizeOf2 rfl rfl rfl rfl) rfl ?_)
  rintro _ w ⟨rfl, hS⟩
  have hS : St B w (_ :: _ :: Cl _ [_, _, _, _, _] _ :: l) hf := hS
  refine ⟨kp ⟨(by intro hx; cases hx), trivial⟩, ?_⟩
  refine RP.nil ?_
  have hS := O_colour_Tally.c (x := a4) hS.p1
  have hS := O_colour_Token.c (x := ({ a2 with sum := IntKind.i64.wrap (a2.sum + (nth ([a4.net.c0, a4.net.c1] : List Int) (IntKind.i64.wrap (BitVec.ofInt IntKind.i64.bits a4.colour ^^^ BitVec.ofInt IntKind.i64.bits 1).toNat))), least := t26 } : colour_Token)) hS.p2
  cases h.some
  exact rtE results168 rfl ⟨rfl, hS.d2⟩
def colour_Tally_Flip.f (a2 : colour_Tally) : Option (Int × colour_Tally) := ((colour_Tally_none.f a2).bind fun t12 => (if t12 = true then some (7, a2) else some (0, ({ a2 with colour := IntKind.i64.wrap (BitVec.ofInt IntKind.i64.bits a2.colour ^^^ BitVec.ofInt IntKind.i64.bits 1).toNat, least := 4611686018427387904 } : colour_Tally))))
theorem colour_Tally_Flip.ok {a2 : colour_Tally} {b1 : Nat} {r : Int × colour_Tally} (h : colour_Tally_Flip.f a2 = some r) (hS : St B w (O_colour_Tally hf a2 b1 :: l) hf) :
    Calls prog 202 #[pV b1] w (Ret fun v w => v = iV r.1 ∧ St B w (O_colour_Tally hf r.2 b1 :: l) hf) := by
  have h := Holds.of h
  refine en func202 rfl ntmps202 rfl (sr (pn 1 rfl (ln (RC.seq (sr (pn 1 rfl (cF (fun _ hg => colour_Tally_none.ok hg hS) call165 h rfl rfl rfl ?_)))))))
  rintro t12 h _ w ⟨rfl, hS⟩
  refine ln ?_
  refine RC.iteB 4 rfl h (fun hc14 h => ?_) fun hc14 h => ?_
  next =>
   refine jtr (pn 1 rfl (lr (RQ.ret ?_)))
   cases h.some
   exact rt results202 rfl ⟨rfl, hS⟩
  refine jfs (sr (r0 5 rfl ?_))
  have hS := O_colour_Tally.o hS
  refine rr [1, 0, 0, 0, 1, 0, 0, 1] hS ?_
  refine it fun w hS => lnsr (pn 1 rfl (lr ?_))
  have hS := O_colour_Tally.c (x := ({ a2 with colour := IntKind.i64.wrap (BitVec.ofInt IntKind.i64.bits a2.colour ^^^ BitVec.ofInt IntKind.i64.bits 1).toNat, least := 4611686018427387904 } : colour_Tally)) hS
  cases h.some
  exact rt results202 rfl ⟨rfl, hS⟩
def colour_Token_turn.f (a2 : colour_Token) (a4 : colour_Tally) (a5 : Int) : Option (colour_Tally) := ((colour_Tally_Flip.f a4).bind fun (y12, y13) => some y13)
theorem colour_Token_turn.ok {a2 : colour_Token} {a4 r : colour_Tally} {a5 : Int} {b1 b3 : Nat} (h : colour_Token_turn.f a2 a4 a5 = some r) (hS : St B w (O_colour_Token hf a2 b1 :: O_colour_Tally hf a4 b3 :: l) hf) :
    Calls prog 167 #[pV b1, pV b3, iV a5] w (Ret fun v w => v = .tuple #[] ∧ St B w (O_colour_Token hf a2 b1 :: O_colour_Tally hf r b3 :: l) hf) := by
  have h := Holds.of h
  refine en func167 rfl ntmps167 rfl (RC.region (pn 1 rfl (cF (fun _ hg => colour_Tally_Flip.ok hg hS.p1) call202 h rfl rfl rfl ?_)))
  rintro ⟨y12, y13⟩ h _ w ⟨rfl, hS⟩
  refine RL.nil ?_
  obtain rfl := h.some
  exact rtE results167 rfl ⟨rfl, hS.p1⟩
end
end Go.Proofs.Gx
