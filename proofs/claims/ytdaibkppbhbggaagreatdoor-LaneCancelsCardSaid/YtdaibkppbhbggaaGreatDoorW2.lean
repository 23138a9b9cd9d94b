/-
 The walks of functions, each with what it computes: printed by wip/gx.py.
-/
import Derived.Test.YtdaibkppbhbggaaGreatDoorW1
set_option linter.unusedVariables false
set_option linter.unusedSimpArgs false
set_option maxRecDepth 100000
set_option maxHeartbeats 4000000
namespace Go.Proofs.Gx
open Go.Sl Tryz
variable {B : Base} {w : World} {l : List HProp} {hf : Hp}
noncomputable section
def slices_symMergeCmpFunc_api_Message.l23b (a3 : List api_Message) (x772 : Int) : List api_Message × Int → Option ((List api_Message × Int) ⊕ (List api_Message))
 | (l813, x814) => (if x814 < IntKind.i64.wrap (x772 - 1) then (if 0 ≤ IntKind.i64.wrap (x814 + 1) ∧ IntKind.i64.wrap (x814 + 1) < (l813.length : Int) then (if 0 ≤ x814 ∧ x814 < (l813.length : Int) then (if IntKind.i64.wrap (x814 + 1) < ((setL l813 x814 (nth l813 (IntKind.i64.wrap (x814 + 1)))).length : Int) then some (.inl ((setL (setL l813 x814 (nth l813 (IntKind.i64.wrap (x814 + 1)))) (IntKind.i64.wrap (x814 + 1)) (nth l813 x814)), IntKind.i64.wrap (x814 + 1))) else none) else none) else none) else (Option.map Sum.inr (if l813.length = a3.length then some l813 else none)))
def slices_symMergeCmpFunc_api_Message.l23 (a3 : List api_Message) (x772 : Int) (s : List api_Message × Int) : Option (List api_Message) := loopR (slices_symMergeCmpFunc_api_Message.l23b a3 x772) s
def slices_symMergeCmpFunc_api_Message.l22b (a3 : List api_Message) (a4 : Int) : Int × Int → Option ((Int × Int) ⊕ (List api_Message))
 | (x772, x773) => (if x772 < x773 then (if 0 ≤ IntKind.i64.wrap (Int.fdiv (IntKind.u64.wrap (IntKind.i64.wrap (x772 + x773))) (2 ^ (min (1 : Int).toNat IntKind.u64.bits))) ∧ IntKind.i64.wrap (Int.fdiv (IntKind.u64.wrap (IntKind.i64.wrap (x772 + x773))) (2 ^ (min (1 : Int).toNat IntKind.u64.bits))) < (a3.length : Int) then (if 0 ≤ a4 ∧ a4 < (a3.length : Int) then ((event_order.f (nth a3 (IntKind.i64.wrap (Int.fdiv (IntKind.u64.wrap (IntKind.i64.wrap (x772 + x773))) (2 ^ (min (1 : Int).toNat IntKind.u64.bits))))) (nth a3 a4)).bind fun t792 => (if t792 < 0 then some (.inl (IntKind.i64.wrap ((IntKind.i64.wrap (Int.fdiv (IntKind.u64.wrap (IntKind.i64.wrap (x772 + x773))) (2 ^ (min (1 : Int).toNat IntKind.u64.bits)))) + 1), x773)) else some (.inl (x772, IntKind.i64.wrap (Int.fdiv (IntKind.u64.wrap (IntKind.i64.wrap (x772 + x773))) (2 ^ (min (1 : Int).toNat IntKind.u64.bits))))))) else none) else none) else (Option.map Sum.inr (slices_symMergeCmpFunc_api_Message.l23 a3 x772 (a3, a4))))
def slices_symMergeCmpFunc_api_Message.l22 (a3 : List api_Message) (a4 : Int) (s : Int × Int) : Option (List api_Message) := loopR (slices_symMergeCmpFunc_api_Message.l22b a3 a4) s
def slices_symMergeCmpFunc_api_Message.l29b (a3 : List api_Message) (x1021 : Int) : List api_Message × Int → Option ((List api_Message × Int) ⊕ (List api_Message))
 | (l1062, x1063) => (if x1021 < x1063 then (if 0 ≤ IntKind.i64.wrap (x1063 - 1) ∧ IntKind.i64.wrap (x1063 - 1) < (l1062.length : Int) then (if 0 ≤ x1063 ∧ x1063 < (l1062.length : Int) then (if IntKind.i64.wrap (x1063 - 1) < ((setL l1062 x1063 (nth l1062 (IntKind.i64.wrap (x1063 - 1)))).length : Int) then some (.inl ((setL (setL l1062 x1063 (nth l1062 (IntKind.i64.wrap (x1063 - 1)))) (IntKind.i64.wrap (x1063 - 1)) (nth l1062 x1063)), IntKind.i64.wrap (x1063 - 1))) else none) else none) else none) else (Option.map Sum.inr (if l1062.length = a3.length then some l1062 else none)))
def slices_symMergeCmpFunc_api_Message.l29 (a3 : List api_Message) (x1021 : Int) (s : List api_Message × Int) : Option (List api_Message) := loopR (slices_symMergeCmpFunc_api_Message.l29b a3 x1021) s
def slices_symMergeCmpFunc_api_Message.l28b (a3 : List api_Message) (a5 : Int) : Int × Int → Option ((Int × Int) ⊕ (List api_Message))
 | (x1021, x1022) => (if x1021 < x1022 then (if 0 ≤ a5 ∧ a5 < (a3.length : Int) then (if 0 ≤ IntKind.i64.wrap (Int.fdiv (IntKind.u64.wrap (IntKind.i64.wrap (x1021 + x1022))) (2 ^ (min (1 : Int).toNat IntKind.u64.bits))) ∧ IntKind.i64.wrap (Int.fdiv (IntKind.u64.wrap (IntKind.i64.wrap (x1021 + x1022))) (2 ^ (min (1 : Int).toNat IntKind.u64.bits))) < (a3.length : Int) then ((event_order.f (nth a3 a5) (nth a3 (IntKind.i64.wrap (Int.fdiv (IntKind.u64.wrap (IntKind.i64.wrap (x1021 + x1022))) (2 ^ (min (1 : Int).toNat IntKind.u64.bits)))))).bind fun t1041 => (if t1041 < 0 then some (.inl (x1021, IntKind.i64.wrap (Int.fdiv (IntKind.u64.wrap (IntKind.i64.wrap (x1021 + x1022))) (2 ^ (min (1 : Int).toNat IntKind.u64.bits))))) else some (.inl (IntKind.i64.wrap ((IntKind.i64.wrap (Int.fdiv (IntKind.u64.wrap (IntKind.i64.wrap (x1021 + x1022))) (2 ^ (min (1 : Int).toNat IntKind.u64.bits)))) + 1), x1022)))) else none) else none) else (Option.map Sum.inr (slices_symMergeCmpFunc_api_Message.l29 a3 x1021 (a3, a5))))
def slices_symMergeCmpFunc_api_Message.l28 (a3 : List api_Message) (a5 : Int) (s : Int × Int) : Option (List api_Message) := loopR (slices_symMergeCmpFunc_api_Message.l28b a3 a5) s
def slices_symMergeCmpFunc_api_Message.j34 (rec_ : (List api_Message) → Int → Int → Int → Option (List api_Message)) (a3 : List api_Message) (a4 a5 a6 x1148 : Int) (l1182 : List api_Message) : Option (List api_Message) := (if IntKind.i64.wrap (Int.fdiv (IntKind.u64.wrap (IntKind.i64.wrap (a4 + a6))) (2 ^ (min (1 : Int).toNat IntKind.u64.bits))) < IntKind.i64.wrap ((IntKind.i64.wrap ((IntKind.i64.wrap (Int.fdiv (IntKind.u64.wrap (IntKind.i64.wrap (a4 + a6))) (2 ^ (min (1 : Int).toNat IntKind.u64.bits)))) + a5)) - x1148) then (if IntKind.i64.wrap ((IntKind.i64.wrap ((IntKind.i64.wrap (Int.fdiv (IntKind.u64.wrap (IntKind.i64.wrap (a4 + a6))) (2 ^ (min (1 : Int).toNat IntKind.u64.bits)))) + a5)) - x1148) < a6 then ((rec_ l1182 (IntKind.i64.wrap (Int.fdiv (IntKind.u64.wrap (IntKind.i64.wrap (a4 + a6))) (2 ^ (min (1 : Int).toNat IntKind.u64.bits)))) (IntKind.i64.wrap ((IntKind.i64.wrap ((IntKind.i64.wrap (Int.fdiv (IntKind.u64.wrap (IntKind.i64.wrap (a4 + a6))) (2 ^ (min (1 : Int).toNat IntKind.u64.bits)))) + a5)) - x1148)) a6).bind fun t1185 => (if t1185.length = a3.length then some t1185 else none)) else (if l1182.length = a3.length then some l1182 else none)) else (if l1182.length = a3.length then some l1182 else none))
def slices_symMergeCmpFunc_api_Message.j33 (rec_ : (List api_Message) → Int → Int → Int → Option (List api_Message)) (a3 : List api_Message) (a4 a5 a6 x1148 : Int) (l1176 : List api_Message) : Option (List api_Message) := (if a4 < x1148 then (if x1148 < IntKind.i64.wrap (Int.fdiv (IntKind.u64.wrap (IntKind.i64.wrap (a4 + a6))) (2 ^ (min (1 : Int).toNat IntKind.u64.bits))) then ((rec_ l1176 a4 x1148 (IntKind.i64.wrap (Int.fdiv (IntKind.u64.wrap (IntKind.i64.wrap (a4 + a6))) (2 ^ (min (1 : Int).toNat IntKind.u64.bits))))).bind fun t1193 => slices_symMergeCmpFunc_api_Message.j34 rec_ a3 a4 a5 a6 x1148 t1193) else slices_symMergeCmpFunc_api_Message.j34 rec_ a3 a4 a5 a6 x1148 l1176) else slices_symMergeCmpFunc_api_Message.j34 rec_ a3 a4 a5 a6 x1148 l1176)
def slices_symMergeCmpFunc_api_Message.l32b (rec_ : (List api_Message) → Int → Int → Int → Option (List api_Message)) (a3 : List api_Message) (a4 a5 a6 : Int) : Int × Int → Option ((Int × Int) ⊕ (List api_Message))
 | (x1148, x1149) => (if x1148 < x1149 then (if 0 ≤ IntKind.i64.wrap ((IntKind.i64.wrap ((IntKind.i64.wrap ((IntKind.i64.wrap (Int.fdiv (IntKind.u64.wrap (IntKind.i64.wrap (a4 + a6))) (2 ^ (min (1 : Int).toNat IntKind.u64.bits)))) + a5)) - 1)) - (IntKind.i64.wrap (Int.fdiv (IntKind.u64.wrap (IntKind.i64.wrap (x1148 + x1149))) (2 ^ (min (1 : Int).toNat IntKind.u64.bits))))) ∧ IntKind.i64.wrap ((IntKind.i64.wrap ((IntKind.i64.wrap ((IntKind.i64.wrap (Int.fdiv (IntKind.u64.wrap (IntKind.i64.wrap (a4 + a6))) (2 ^ (min (1 : Int).toNat IntKind.u64.bits)))) + a5)) - 1)) - (IntKind.i64.wrap (Int.fdiv (IntKind.u64.wrap (IntKind.i64.wrap (x1148 + x1149))) (2 ^ (min (1 : Int).toNat IntKind.u64.bits))))) < (a3.length : Int) then (if 0 ≤ IntKind.i64.wrap (Int.fdiv (IntKind.u64.wrap (IntKind.i64.wrap (x1148 + x1149))) (2 ^ (min (1 : Int).toNat IntKind.u64.bits))) ∧ IntKind.i64.wrap (Int.fdiv (IntKind.u64.wrap (IntKind.i64.wrap (x1148 + x1149))) (2 ^ (min (1 : Int).toNat IntKind.u64.bits))) < (a3.length : Int) then ((event_order.f (nth a3 (IntKind.i64.wrap ((IntKind.i64.wrap ((IntKind.i64.wrap ((IntKind.i64.wrap (Int.fdiv (IntKind.u64.wrap (IntKind.i64.wrap (a4 + a6))) (2 ^ (min (1 : Int).toNat IntKind.u64.bits)))) + a5)) - 1)) - (IntKind.i64.wrap (Int.fdiv (IntKind.u64.wrap (IntKind.i64.wrap (x1148 + x1149))) (2 ^ (min (1 : Int).toNat IntKind.u64.bits))))))) (nth a3 (IntKind.i64.wrap (Int.fdiv (IntKind.u64.wrap (IntKind.i64.wrap (x1148 + x1149))) (2 ^ (min (1 : Int).toNat IntKind.u64.bits)))))).bind fun t1168 => (if t1168 < 0 then some (.inl (x1148, IntKind.i64.wrap (Int.fdiv (IntKind.u64.wrap (IntKind.i64.wrap (x1148 + x1149))) (2 ^ (min (1 : Int).toNat IntKind.u64.bits))))) else some (.inl (IntKind.i64.wrap ((IntKind.i64.wrap (Int.fdiv (IntKind.u64.wrap (IntKind.i64.wrap (x1148 + x1149))) (2 ^ (min (1 : Int).toNat IntKind.u64.bits)))) + 1), x1149)))) else none) else none) else (Option.map Sum.inr (if x1148 < a5 then (if a5 < IntKind.i64.wrap ((IntKind.i64.wrap ((IntKind.i64.wrap (Int.fdiv (IntKind.u64.wrap (IntKind.i64.wrap (a4 + a6))) (2 ^ (min (1 : Int).toNat IntKind.u64.bits)))) + a5)) - x1148) then ((slices_rotateCmpFunc_api_Message.f a3 x1148 a5 (IntKind.i64.wrap ((IntKind.i64.wrap ((IntKind.i64.wrap (Int.fdiv (IntKind.u64.wrap (IntKind.i64.wrap (a4 + a6))) (2 ^ (min (1 : Int).toNat IntKind.u64.bits)))) + a5)) - x1148))).bind fun t1198 => slices_symMergeCmpFunc_api_Message.j33 rec_ a3 a4 a5 a6 x1148 t1198) else slices_symMergeCmpFunc_api_Message.j33 rec_ a3 a4 a5 a6 x1148 a3) else slices_symMergeCmpFunc_api_Message.j33 rec_ a3 a4 a5 a6 x1148 a3)))
def slices_symMergeCmpFunc_api_Message.l32 (rec_ : (List api_Message) → Int → Int → Int → Option (List api_Message)) (a3 : List api_Message) (a4 a5 a6 : Int) (s : Int × Int) : Option (List api_Message) := loopR (slices_symMergeCmpFunc_api_Message.l32b rec_ a3 a4 a5 a6) s
def slices_symMergeCmpFunc_api_Message.j30 (rec_ : (List api_Message) → Int → Int → Int → Option (List api_Message)) (a3 : List api_Message) (a4 a5 a6 x1101 x1102 : Int) : Option (List api_Message) := slices_symMergeCmpFunc_api_Message.l32 rec_ a3 a4 a5 a6 (x1101, x1102)
def slices_symMergeCmpFunc_api_Message.f0 (rec_ : (List api_Message) → Int → Int → Int → Option (List api_Message)) (a3 : List api_Message) (a4 a5 a6 : Int) : Option (List api_Message) := (if IntKind.i64.wrap (a5 - a4) = 1 then slices_symMergeCmpFunc_api_Message.l22 a3 a4 (a5, a6) else (if IntKind.i64.wrap (a6 - a5) = 1 then slices_symMergeCmpFunc_api_Message.l28 a3 a5 (a4, a5) else (if IntKind.i64.wrap (Int.fdiv (IntKind.u64.wrap (IntKind.i64.wrap (a4 + a6))) (2 ^ (min (1 : Int).toNat IntKind.u64.bits))) < a5 then slices_symMergeCmpFunc_api_Message.j30 rec_ a3 a4 a5 a6 (IntKind.i64.wrap ((IntKind.i64.wrap ((IntKind.i64.wrap (Int.fdiv (IntKind.u64.wrap (IntKind.i64.wrap (a4 + a6))) (2 ^ (min (1 : Int).toNat IntKind.u64.bits)))) + a5)) - a6)) (IntKind.i64.wrap (Int.fdiv (IntKind.u64.wrap (IntKind.i64.wrap (a4 + a6))) (2 ^ (min (1 : Int).toNat IntKind.u64.bits)))) else slices_symMergeCmpFunc_api_Message.j30 rec_ a3 a4 a5 a6 a4 a5)))
theorem slices_symMergeCmpFunc_api_Message.ok0 {rec_ : (List api_Message) → Int → Int → Int → Option (List api_Message)} (ih_ : ∀ {a3 : List api_Message} {a4 a5 a6 : Int} {A1 : Option Addr} {c2 : Nat} {r : List api_Message} {B : Base} {w : World} {l : List HProp} {hf : Hp}, rec_ a3 a4 a5 a6 = some r → St B w (OSf E_api_Message 48 (sV A1 a3 c2) a3 :: l) hf → Calls prog 131 #[sV A1 a3 c2, iV a4, iV a5, iV a6, .func (.func 76) #[] #[]] w (Ret fun v w => v = .tuple #[] ∧ St B w (OSf E_api_Message 48 (sV A1 a3 c2) r :: l) hf)) {a3 : List api_Message} {a4 a5 a6 : Int} {A1 : Option Addr} {c2 : Nat} {r : List api_Message} (h : slices_symMergeCmpFunc_api_Message.f0 rec_ a3 a4 a5 a6 = some r) (hS : St B w (OSf E_api_Message 48 (sV A1 a3 c2) a3 :: l) hf) :
   Calls prog 131 #[sV A1 a3 c2, iV a4, iV a5, iV a6, .func (.func 76) #[] #[]] w (Ret fun v w => v = .tuple #[] ∧ St B w (OSf E_api_Message 48 (sV A1 a3 c2) r :: l) hf) := by
 have h := Holds.of h
 refine en func131 rfl ntmps131 rfl (RC.seq (sr (pn 4 rfl (ln ?_))))
 refine RC.iteP 28 rfl h (fun hc726 h => ?_) fun hc726 h => ?_
 next =>
  refine jtr (pn 2 rfl (lnsr (pn 2 rfl (ln (RC.seq (RC.block (fun a ha => lp h (fun (s : Int × Int) a w => ∃ x772 x773, s = (x772, x773) ∧ Has 220 [(0, sV A1 a3 c2), (1, iV a4), (4, .func (.func 76) #[] #[]), (10, iV x772), (11, iV x773)] a ∧ St B w (OSf E_api_Message 48 (sV A1 a3 c2) a3 :: l) hf) ⟨_, _, rfl, ha.tE rfl, hS⟩ ?_)))))))
  rintro G785 _ a w ⟨x772, x773, rfl, ha, hS⟩ h
  refine ro ha (RC.seq (sr (pn 3 rfl (ln ?_))))
  refine RC.iteP 33 rfl h (fun hc787 h => ?_) fun hc787 h => ?_
  next =>
   refine jt (sk (RC.block (sr (r0 4 rfl (RL.s (Vl.shr rfl rfl (by decide)) rfl (r0 2 rfl (ln (RC.seq (dr [0, 3, 6, 10, 13, 15, 20, 23, 26, 29, 32] [9, 10] hS fun w hS => pp 3 rfl ?_)))))))))
   obtain ⟨⟨hq788, hq789⟩, h⟩ := h.req
   refine RP.s 0 3 rfl rfl hS (fun w hS => Vl.indexOwn 0 hS rfl underlying39 sizeOf48 rfl rfl hq788 hq789) rfl (RP.s 0 4 rfl rfl hS (fun w hS => Vl.loadA isAgg48 sizeOf48 rfl rfl ((hS.slW 0 rfl).2.2.cells hq788 hq789)) rfl (rq [0, 0] hS ?_))
   refine it ?_
   obtain ⟨⟨hq790, hq791⟩, h⟩ := h.req
   refine RP.v1 7 rfl (Vl.indexOwn 0 hS rfl underlying39 sizeOf48 rfl rfl hq790 hq791) rfl rfl (RP.v1 8 rfl (Vl.loadA isAgg48 sizeOf48 rfl rfl ((hS.slW 0 rfl).2.2.cells hq790 hq791)) rfl rfl ?_)
   obtain ⟨t792, hg793, h⟩ := h.bind
   have hc := event_order.ok hg793 hS
   refine RP.e 9 rfl (OW.call (ls := [.tmp 44, .tmp 48]) rfl rfl call76 rfl hc) rfl rfl ?_
   rintro _ w ⟨rfl, hS⟩
   refine ⟨kp ⟨(by intro hx; cases hx), trivial⟩, ?_⟩
   refine rq [0] hS ?_
   refine it (RP.nil (RQ.then_n ?_))
   refine RC.iteP 50 rfl h (fun hc794 h => ?_) fun hc794 h => ?_
   next =>
    refine jt (RC.region (pn 3 rfl (RL.nil (RQ.inB_n ?_))))
    exact fun a ha => ⟨_, h.some, _, _, rfl, ha.tE rfl, hS⟩
   refine jf (RC.region (pn 2 rfl (RL.nil (RQ.inB_n ?_))))
   exact fun a ha => ⟨_, h.some, _, _, rfl, ha.tE rfl, hS⟩
  refine jf (RC.exit (RQ.exitT ?_))
  have h := h.inr
  refine RQ.exitT (RQ.inB_hit (RQ.then_n (RC.seq (sr (pn 2 rfl (ln (RC.block (fun a ha => lp h (fun (s : List api_Message × Int) a w => ∃ l813 x814, s = (l813, x814) ∧ Has 220 [(0, sV A1 l813 c2), (10, iV x772), (13, iV x814)] a ∧ St B w (OSf E_api_Message 48 (sV A1 l813 c2) l813 :: l) hf) ⟨_, _, rfl, ha.tE rfl, hS⟩ ?_))))))))
  rintro G833 _ a w ⟨l813, x814, rfl, ha, hS⟩ h
  refine ro ha (RC.seq (sr (pn 4 rfl (ln ?_))))
  refine RC.iteP 58 rfl h (fun hc835 h => ?_) fun hc835 h => ?_
  next =>
   refine jt (sk (RC.seq (RC.block (dr [0, 3, 6, 9, 12, 15, 18, 21, 25, 28, 30, 35, 38, 41, 44, 47, 50, 53] [14, 15, 16, 17] hS fun w hS => pp 8 rfl ?_))))
   obtain ⟨⟨hq843, hq844⟩, h⟩ := h.req
   refine RP.s 0 8 rfl rfl hS (fun w hS => Vl.indexOwn 0 hS rfl underlying39 sizeOf48 rfl rfl hq843 hq844) rfl (RP.s 0 9 rfl rfl hS (fun w hS => Vl.loadA isAgg48 sizeOf48 rfl rfl ((hS.slW 0 rfl).2.2.cells hq843 hq844)) rfl (rq [0, 0] hS ?_))
   refine it ?_
   obtain ⟨⟨hq845, hq846⟩, h⟩ := h.req
   refine RP.v1 12 rfl (Vl.indexOwn 0 hS rfl underlying39 sizeOf48 rfl rfl hq845 hq846) rfl rfl (RP.v1 13 rfl (Vl.loadA isAgg48 sizeOf48 rfl rfl ((hS.slW 0 rfl).2.2.cells hq845 hq846)) rfl rfl (RP.v1 14 rfl (Vl.indexOwn 0 hS rfl underlying39 sizeOf48 rfl rfl hq845 hq846) rfl rfl (RP.e0 15 rfl (OW.storeOwn (E := E_api_Message) (off := 0) (j := x814) (x' := nth l813 (IntKind.i64.wrap (x814 + 1))) (vs := (C_api_Message (nth l813 (IntKind.i64.wrap (x814 + 1))))) 0 hS rfl rfl rfl rfl sizeOf48 rfl (Nat.succ_pos _) hq845 hq846 (Nat.le_of_ble_eq_true rfl) rfl rfl) rfl ?_)))
   rintro _ w ⟨rfl, hS⟩
   have he847 := (hS.osN 0 rfl).1
   have hS : St B w (_ :: l) hf := (congrArg (fun k_ : Nat => St B w (OSf E_api_Message 48 (.slice A1 k_ c2) (setL l813 x814 (nth l813 (IntKind.i64.wrap (x814 + 1)))) :: l) hf) he847).mp hS
   refine ⟨kp ⟨(by intro hx; cases hx), trivial⟩, ?_⟩
   refine RP.re 0 rfl (congrArg (fun k_ : Nat => (.slice A1 k_ c2 : Value)) he847) (RP.re 61 rfl (congrArg (fun k_ : Nat => (.slice A1 k_ c2 : Value)) he847) (RP.re 63 rfl (congrArg (fun k_ : Nat => (.slice A1 k_ c2 : Value)) he847) (RP.re 66 rfl (congrArg (fun k_ : Nat => (.slice A1 k_ c2 : Value)) he847) (RP.re 71 rfl (congrArg (fun k_ : Nat => (.slice A1 k_ c2 : Value)) he847) ?_))))
   obtain ⟨hq848, h⟩ := h.req
   refine RP.v1 16 rfl (Vl.indexOwn 0 hS rfl underlying39 sizeOf48 rfl rfl hq843 hq848) rfl rfl (RP.e0 17 rfl (OW.storeOwn (E := E_api_Message) (off := 0) (j := IntKind.i64.wrap (x814 + 1)) (x' := nth l813 x814) (vs := (C_api_Message (nth l813 x814))) 0 hS rfl rfl rfl rfl sizeOf48 rfl (Nat.succ_pos _) hq843 hq848 (Nat.le_of_ble_eq_true rfl) rfl rfl) rfl ?_)
   rintro _ w ⟨rfl, hS⟩
   have he849 := (hS.osN 0 rfl).1
   have hS : St B w (_ :: l) hf := (congrArg (fun k_ : Nat => St B w (OSf E_api_Message 48 (.slice A1 k_ c2) (setL (setL l813 x814 (nth l813 (IntKind.i64.wrap (x814 + 1)))) (IntKind.i64.wrap (x814 + 1)) (nth l813 x814)) :: l) hf) he849).mp hS
   refine ⟨kp ⟨(by intro hx; cases hx), trivial⟩, ?_⟩
   refine RP.re 0 rfl (congrArg (fun k_ : Nat => (.slice A1 k_ c2 : Value)) he849) (RP.re 61 rfl (congrArg (fun k_ : Nat => (.slice A1 k_ c2 : Value)) he849) (RP.re 63 rfl (congrArg (fun k_ : Nat => (.slice A1 k_ c2 : Value)) he849) (RP.re 66 rfl (congrArg (fun k_ : Nat => (.slice A1 k_ c2 : Value)) he849) (RP.re 71 rfl (congrArg (fun k_ : Nat => (.slice A1 k_ c2 : Value)) he849) (RP.nil (RQ.inB_n (RQ.then_n (RC.region (pn 3 rfl (RL.nil ?_))))))))))
   exact fun a ha => ⟨_, h.some, _, _, rfl, ha.tE rfl, hS⟩
  refine jf (RC.exit (RQ.exitT ?_))
  have h := h.inr
  refine RQ.exitT (RQ.inB_hit (tr (RQ.ret ?_)))
  obtain ⟨hq850, h⟩ := h.req
  have hS : St B w (_ :: l) hf := (congrArg (fun k_ : Nat => St B w (OSf E_api_Message 48 (.slice A1 k_ c2) l813 :: l) hf) hq850).mp hS
  obtain rfl := h.some
  exact rt results131 rfl ⟨rfl, hS⟩
 refine jfs (RC.seq (sr (pn 4 rfl (ln ?_))))
 refine RC.iteP 80 rfl h (fun hc975 h => ?_) fun hc975 h => ?_
 next =>
  refine jtr (pn 2 rfl (lnsr (pn 2 rfl (ln (RC.seq (RC.block (fun a ha => lp h (fun (s : Int × Int) a w => ∃ x1021 x1022, s = (x1021, x1022) ∧ Has 220 [(0, sV A1 a3 c2), (2, iV a5), (4, .func (.func 76) #[] #[]), (14, iV x1021), (15, iV x1022)] a ∧ St B w (OSf E_api_Message 48 (sV A1 a3 c2) a3 :: l) hf) ⟨_, _, rfl, ha.tE rfl, hS⟩ ?_)))))))
  rintro G1034 _ a w ⟨x1021, x1022, rfl, ha, hS⟩ h
  refine ro ha (RC.seq (sr (pn 3 rfl (ln ?_))))
  refine RC.iteP 85 rfl h (fun hc1036 h => ?_) fun hc1036 h => ?_
  next =>
   refine jt (sk (RC.block (sr (r0 4 rfl (RL.s (Vl.shr rfl rfl (by decide)) rfl (r0 2 rfl (ln (RC.seq (dr [0, 3, 6, 10, 13, 15, 20, 23, 26, 29, 32, 35] [9, 10, 11] hS fun w hS => pp 3 rfl ?_)))))))))
   obtain ⟨⟨hq1037, hq1038⟩, h⟩ := h.req
   refine RP.s 0 3 rfl rfl hS (fun w hS => Vl.indexOwn 0 hS rfl underlying39 sizeOf48 rfl rfl hq1037 hq1038) rfl (RP.s 0 4 rfl rfl hS (fun w hS => Vl.loadA isAgg48 sizeOf48 rfl rfl ((hS.slW 0 rfl).2.2.cells hq1037 hq1038)) rfl (rq [0, 0] hS ?_))
   refine it ?_
   obtain ⟨⟨hq1039, hq1040⟩, h⟩ := h.req
   refine RP.v1 7 rfl (Vl.indexOwn 0 hS rfl underlying39 sizeOf48 rfl rfl hq1039 hq1040) rfl rfl (RP.v1 8 rfl (Vl.loadA isAgg48 sizeOf48 rfl rfl ((hS.slW 0 rfl).2.2.cells hq1039 hq1040)) rfl rfl ?_)
   obtain ⟨t1041, hg1042, h⟩ := h.bind
   have hc := event_order.ok hg1042 hS
   refine RP.e 9 rfl (OW.call (ls := [.tmp 96, .tmp 100]) rfl rfl call76 rfl hc) rfl rfl ?_
   rintro _ w ⟨rfl, hS⟩
   refine ⟨kp ⟨(by intro hx; cases hx), trivial⟩, ?_⟩
   refine rq [0, 0] hS ?_
   refine it (RP.nil (RQ.then_n ?_))
   refine RC.iteN 103 rfl h (fun hc1043 h => ?_) fun hc1043 h => ?_
   next =>
    refine jf (RC.region (pn 2 rfl (RL.nil (RQ.inB_n ?_))))
    exact fun a ha => ⟨_, h.some, _, _, rfl, ha.tE rfl, hS⟩
   refine jt (RC.region (pn 3 rfl (RL.nil (RQ.inB_n ?_))))
   exact fun a ha => ⟨_, h.some, _, _, rfl, ha.tE rfl, hS⟩
  refine jf (RC.exit (RQ.exitT ?_))
  have h := h.inr
  refine RQ.exitT (RQ.inB_hit (RQ.then_n (RC.seq (sr (pn 2 rfl (ln (RC.block (fun a ha => lp h (fun (s : List api_Message × Int) a w => ∃ l1062 x1063, s = (l1062, x1063) ∧ Has 220 [(0, sV A1 l1062 c2), (14, iV x1021), (17, iV x1063)] a ∧ St B w (OSf E_api_Message 48 (sV A1 l1062 c2) l1062 :: l) hf) ⟨_, _, rfl, ha.tE rfl, hS⟩ ?_))))))))
  rintro G1082 _ a w ⟨l1062, x1063, rfl, ha, hS⟩ h
  refine ro ha (RC.seq (sr (pn 3 rfl (ln ?_))))
  refine RC.iteP 110 rfl h (fun hc1084 h => ?_) fun hc1084 h => ?_
  next =>
   refine jt (sk (RC.seq (RC.block (dr [0, 3, 6, 9, 12, 15, 18, 21, 25, 28, 30, 35, 38, 41, 44, 47, 50, 53] [14, 15, 16, 17] hS fun w hS => pp 8 rfl ?_))))
   obtain ⟨⟨hq1092, hq1093⟩, h⟩ := h.req
   refine RP.s 0 8 rfl rfl hS (fun w hS => Vl.indexOwn 0 hS rfl underlying39 sizeOf48 rfl rfl hq1092 hq1093) rfl (RP.s 0 9 rfl rfl hS (fun w hS => Vl.loadA isAgg48 sizeOf48 rfl rfl ((hS.slW 0 rfl).2.2.cells hq1092 hq1093)) rfl (rq [0, 0] hS ?_))
   refine it ?_
   obtain ⟨⟨hq1094, hq1095⟩, h⟩ := h.req
   refine RP.v1 12 rfl (Vl.indexOwn 0 hS rfl underlying39 sizeOf48 rfl rfl hq1094 hq1095) rfl rfl (RP.v1 13 rfl (Vl.loadA isAgg48 sizeOf48 rfl rfl ((hS.slW 0 rfl).2.2.cells hq1094 hq1095)) rfl rfl (RP.v1 14 rfl (Vl.indexOwn 0 hS rfl underlying39 sizeOf48 rfl rfl hq1094 hq1095) rfl rfl (RP.e0 15 rfl (OW.storeOwn (E := E_api_Message) (off := 0) (j := x1063) (x' := nth l1062 (IntKind.i64.wrap (x1063 - 1))) (vs := (C_api_Message (nth l1062 (IntKind.i64.wrap (x1063 - 1))))) 0 hS rfl rfl rfl rfl sizeOf48 rfl (Nat.succ_pos _) hq1094 hq1095 (Nat.le_of_ble_eq_true rfl) rfl rfl) rfl ?_)))
   rintro _ w ⟨rfl, hS⟩
   have he1096 := (hS.osN 0 rfl).1
   have hS : St B w (_ :: l) hf := (congrArg (fun k_ : Nat => St B w (OSf E_api_Message 48 (.slice A1 k_ c2) (setL l1062 x1063 (nth l1062 (IntKind.i64.wrap (x1063 - 1)))) :: l) hf) he1096).mp hS
   refine ⟨kp ⟨(by intro hx; cases hx), trivial⟩, ?_⟩
   refine RP.re 0 rfl (congrArg (fun k_ : Nat => (.slice A1 k_ c2 : Value)) he1096) (RP.re 113 rfl (congrArg (fun k_ : Nat => (.slice A1 k_ c2 : Value)) he1096) (RP.re 115 rfl (congrArg (fun k_ : Nat => (.slice A1 k_ c2 : Value)) he1096) (RP.re 118 rfl (congrArg (fun k_ : Nat => (.slice A1 k_ c2 : Value)) he1096) (RP.re 123 rfl (congrArg (fun k_ : Nat => (.slice A1 k_ c2 : Value)) he1096) ?_))))
   obtain ⟨hq1097, h⟩ := h.req
   refine RP.v1 16 rfl (Vl.indexOwn 0 hS rfl underlying39 sizeOf48 rfl rfl hq1092 hq1097) rfl rfl (RP.e0 17 rfl (OW.storeOwn (E := E_api_Message) (off := 0) (j := IntKind.i64.wrap (x1063 - 1)) (x' := nth l1062 x1063) (vs := (C_api_Message (nth l1062 x1063))) 0 hS rfl rfl rfl rfl sizeOf48 rfl (Nat.succ_pos _) hq1092 hq1097 (Nat.le_of_ble_eq_true rfl) rfl rfl) rfl ?_)
   rintro _ w ⟨rfl, hS⟩
   have he1098 := (hS.osN 0 rfl).1
   have hS : St B w (_ :: l) hf := (congrArg (fun k_ : Nat => St B w (OSf E_api_Message 48 (.slice A1 k_ c2) (setL (setL l1062 x1063 (nth l1062 (IntKind.i64.wrap (x1063 - 1)))) (IntKind.i64.wrap (x1063 - 1)) (nth l1062 x1063)) :: l) hf) he1098).mp hS
   refine ⟨kp ⟨(by intro hx; cases hx), trivial⟩, ?_⟩
   refine RP.re 0 rfl (congrArg (fun k_ : Nat => (.slice A1 k_ c2 : Value)) he1098) (RP.re 113 rfl (congrArg (fun k_ : Nat => (.slice A1 k_ c2 : Value)) he1098) (RP.re 115 rfl (congrArg (fun k_ : Nat => (.slice A1 k_ c2 : Value)) he1098) (RP.re 118 rfl (congrArg (fun k_ : Nat => (.slice A1 k_ c2 : Value)) he1098) (RP.re 123 rfl (congrArg (fun k_ : Nat => (.slice A1 k_ c2 : Value)) he1098) (RP.nil (RQ.inB_n (RQ.then_n (RC.region (pn 3 rfl (RL.nil ?_))))))))))
   exact fun a ha => ⟨_, h.some, _, _, rfl, ha.tE rfl, hS⟩
  refine jf (RC.exit (RQ.exitT ?_))
  have h := h.inr
  refine RQ.exitT (RQ.inB_hit (tr (RQ.ret ?_)))
  obtain ⟨hq1099, h⟩ := h.req
  have hS : St B w (_ :: l) hf := (congrArg (fun k_ : Nat => St B w (OSf E_api_Message 48 (.slice A1 k_ c2) l1062 :: l) hf) hq1099).mp hS
  obtain rfl := h.some
  exact rt results131 rfl ⟨rfl, hS⟩
 refine jfs (sr (r0 4 rfl (RL.s (Vl.shr rfl rfl (by decide)) rfl (r0 2 rfl (lnsr (pn 4 rfl (ln (RC.seq ?_))))))))
 refine RC.region (pn 2 rfl (ln ?_))
 refine RC.join (fun (s : Int × Int) a w => ∃ x1101 x1102, s = (x1101, x1102) ∧ Holds (· = r) (slices_symMergeCmpFunc_api_Message.j30 rec_ a3 a4 a5 a6 x1101 x1102) ∧ Has 220 [(0, sV A1 a3 c2), (1, iV a4), (2, iV a5), (3, iV a6), (4, .func (.func 76) #[] #[]), (18, iV (IntKind.i64.wrap (Int.fdiv (IntKind.u64.wrap (IntKind.i64.wrap (a4 + a6))) (2 ^ (min (1 : Int).toNat IntKind.u64.bits))))), (19, iV (IntKind.i64.wrap ((IntKind.i64.wrap (Int.fdiv (IntKind.u64.wrap (IntKind.i64.wrap (a4 + a6))) (2 ^ (min (1 : Int).toNat IntKind.u64.bits)))) + a5))), (20, iV x1101), (21, iV x1102)] a ∧ St B w (OSf E_api_Message 48 (sV A1 a3 c2) a3 :: l) hf) ?_ ?_
 · rintro _ a w ⟨x1101, x1102, rfl, h, ha, hS⟩
   refine ro ha (sr (pn 3 rfl (ln (RC.seq (RC.block (fun a ha => lp h (fun (s : Int × Int) a w => ∃ x1148 x1149, s = (x1148, x1149) ∧ Has 220 [(0, sV A1 a3 c2), (1, iV a4), (2, iV a5), (3, iV a6), (4, .func (.func 76) #[] #[]), (18, iV (IntKind.i64.wrap (Int.fdiv (IntKind.u64.wrap (IntKind.i64.wrap (a4 + a6))) (2 ^ (min (1 : Int).toNat IntKind.u64.bits))))), (19, iV (IntKind.i64.wrap ((IntKind.i64.wrap (Int.fdiv (IntKind.u64.wrap (IntKind.i64.wrap (a4 + a6))) (2 ^ (min (1 : Int).toNat IntKind.u64.bits)))) + a5))), (20, iV x1148), (21, iV x1149), (22, iV (IntKind.i64.wrap ((IntKind.i64.wrap ((IntKind.i64.wrap (Int.fdiv (IntKind.u64.wrap (IntKind.i64.wrap (a4 + a6))) (2 ^ (min (1 : Int).toNat IntKind.u64.bits)))) + a5)) - 1)))] a ∧ St B w (OSf E_api_Message 48 (sV A1 a3 c2) a3 :: l) hf) ⟨_, _, rfl, ha.tE rfl, hS⟩ ?_))))))
   rintro G1161 _ a w ⟨x1148, x1149, rfl, ha, hS⟩ h
   refine ro ha (RC.seq (sr (pn 3 rfl (ln ?_))))
   refine RC.iteP 151 rfl h (fun hc1163 h => ?_) fun hc1163 h => ?_
   next =>
    refine jt (sk (RC.block (sr (r0 4 rfl (RL.s (Vl.shr rfl rfl (by decide)) rfl (r0 2 rfl (ln (RC.seq (dr [0, 3, 6, 9, 12, 16, 19, 21, 26, 29, 32, 35, 38, 41] [11, 12, 13] hS fun w hS => pp 5 rfl ?_)))))))))
    obtain ⟨⟨hq1164, hq1165⟩, h⟩ := h.req
    refine RP.s 0 5 rfl rfl hS (fun w hS => Vl.indexOwn 0 hS rfl underlying39 sizeOf48 rfl rfl hq1164 hq1165) rfl (RP.s 0 6 rfl rfl hS (fun w hS => Vl.loadA isAgg48 sizeOf48 rfl rfl ((hS.slW 0 rfl).2.2.cells hq1164 hq1165)) rfl (rq [0, 0] hS ?_))
    refine it ?_
    obtain ⟨⟨hq1166, hq1167⟩, h⟩ := h.req
    refine RP.v1 9 rfl (Vl.indexOwn 0 hS rfl underlying39 sizeOf48 rfl rfl hq1166 hq1167) rfl rfl (RP.v1 10 rfl (Vl.loadA isAgg48 sizeOf48 rfl rfl ((hS.slW 0 rfl).2.2.cells hq1166 hq1167)) rfl rfl ?_)
    obtain ⟨t1168, hg1169, h⟩ := h.bind
    have hc := event_order.ok hg1169 hS
    refine RP.e 11 rfl (OW.call (ls := [.tmp 164, .tmp 168]) rfl rfl call76 rfl hc) rfl rfl ?_
    rintro _ w ⟨rfl, hS⟩
    refine ⟨kp ⟨(by intro hx; cases hx), trivial⟩, ?_⟩
    refine rq [0, 0] hS ?_
    refine it (RP.nil (RQ.then_n ?_))
    refine RC.iteN 171 rfl h (fun hc1170 h => ?_) fun hc1170 h => ?_
    next =>
     refine jf (RC.region (pn 2 rfl (RL.nil (RQ.inB_n ?_))))
     exact fun a ha => ⟨_, h.some, _, _, rfl, ha.tE rfl, hS⟩
    refine jt (RC.region (pn 3 rfl (RL.nil (RQ.inB_n ?_))))
    exact fun a ha => ⟨_, h.some, _, _, rfl, ha.tE rfl, hS⟩
   refine jf (RC.exit (RQ.exitT ?_))
   have h := h.inr
   refine RQ.exitT (RQ.inB_hit (tsr (pn 4 rfl (ln ?_))))
   refine RC.join (fun (s : List api_Message) a w => ∃ l1176, s = (l1176) ∧ Holds (· = r) (slices_symMergeCmpFunc_api_Message.j33 rec_ a3 a4 a5 a6 x1148 l1176) ∧ Has 220 [(0, sV A1 l1176 c2), (1, iV a4), (3, iV a6), (4, .func (.func 76) #[] #[]), (18, iV (IntKind.i64.wrap (Int.fdiv (IntKind.u64.wrap (IntKind.i64.wrap (a4 + a6))) (2 ^ (min (1 : Int).toNat IntKind.u64.bits))))), (20, iV x1148), (24, iV (IntKind.i64.wrap ((IntKind.i64.wrap ((IntKind.i64.wrap (Int.fdiv (IntKind.u64.wrap (IntKind.i64.wrap (a4 + a6))) (2 ^ (min (1 : Int).toNat IntKind.u64.bits)))) + a5)) - x1148)))] a ∧ St B w (OSf E_api_Message 48 (sV A1 l1176 c2) l1176 :: l) hf) ?_ ?_
   · rintro l1176 a w ⟨_, rfl, h, ha, hS⟩
     refine ro ha ?_
     refine RC.join (fun (s : List api_Message) a w => ∃ l1182, s = (l1182) ∧ Holds (· = r) (slices_symMergeCmpFunc_api_Message.j34 rec_ a3 a4 a5 a6 x1148 l1182) ∧ Has 220 [(0, sV A1 l1182 c2), (3, iV a6), (4, .func (.func 76) #[] #[]), (18, iV (IntKind.i64.wrap (Int.fdiv (IntKind.u64.wrap (IntKind.i64.wrap (a4 + a6))) (2 ^ (min (1 : Int).toNat IntKind.u64.bits))))), (24, iV (IntKind.i64.wrap ((IntKind.i64.wrap ((IntKind.i64.wrap (Int.fdiv (IntKind.u64.wrap (IntKind.i64.wrap (a4 + a6))) (2 ^ (min (1 : Int).toNat IntKind.u64.bits)))) + a5)) - x1148)))] a ∧ St B w (OSf E_api_Message 48 (sV A1 l1182 c2) l1182 :: l) hf) ?_ ?_
     · rintro l1182 a w ⟨_, rfl, h, ha, hS⟩
       refine ro ha (sr (pn 4 rfl ?_))
       refine RL.iteP 209 rfl h (fun hc1183 h => ?_) fun hc1183 h => ?_
       next =>
        refine pn 4 rfl (ln ?_)
        refine RC.iteP 213 rfl h (fun hc1184 h => ?_) fun hc1184 h => ?_
        next =>
         refine jt (RC.region (pn 5 rfl ?_))
         obtain ⟨t1185, hg1186, h⟩ := h.bind
         have hc := ih_ hg1186 hS
         refine RL.e (OW.callF (ls := [.tmp 214, .tmp 215, .tmp 216, .tmp 217, .tmp 218]) rfl call131 hc) rfl rfl ?_
         rintro _ w ⟨rfl, hS⟩
         have he1187 := (hS.osN 0 rfl).1
         have hS : St B w (_ :: l) hf := (congrArg (fun k_ : Nat => St B w (OSf E_api_Message 48 (.slice A1 k_ c2) t1185 :: l) hf) he1187).mp hS
         refine RL.re 0 rfl (congrArg (fun k_ : Nat => (.slice A1 k_ c2 : Value)) he1187) (RL.re 214 rfl (congrArg (fun k_ : Nat => (.slice A1 k_ c2 : Value)) he1187) (RL.nil ?_))
         obtain ⟨hq1188, h⟩ := h.req
         have hS : St B w (_ :: l) hf := (congrArg (fun k_ : Nat => St B w (OSf E_api_Message 48 (.slice A1 k_ c2) t1185 :: l) hf) hq1188).mp hS
         obtain rfl := h.some
         exact rtE results131 rfl ⟨rfl, hS⟩
        refine jf (RC.skip ?_)
        obtain ⟨hq1189, h⟩ := h.req
        have hS : St B w (_ :: l) hf := (congrArg (fun k_ : Nat => St B w (OSf E_api_Message 48 (.slice A1 k_ c2) l1182 :: l) hf) hq1189).mp hS
        obtain rfl := h.some
        exact rtE results131 rfl ⟨rfl, hS⟩
       refine pn 4 rfl (ln (jf (RC.skip ?_)))
       obtain ⟨hq1190, h⟩ := h.req
       have hS : St B w (_ :: l) hf := (congrArg (fun k_ : Nat => St B w (OSf E_api_Message 48 (.slice A1 k_ c2) l1182 :: l) hf) hq1190).mp hS
       obtain rfl := h.some
       exact rtE results131 rfl ⟨rfl, hS⟩
     refine sr (pn 4 rfl ?_)
     refine RL.iteP 195 rfl h (fun hc1191 h => ?_) fun hc1191 h => ?_
     next =>
      refine pn 4 rfl (ln ?_)
      refine RC.iteP 199 rfl h (fun hc1192 h => ?_) fun hc1192 h => ?_
      next =>
       refine jt (RC.region (pn 5 rfl ?_))
       obtain ⟨t1193, hg1194, h⟩ := h.bind
       have hc := ih_ hg1194 hS
       refine RL.e (OW.callF (ls := [.tmp 200, .tmp 201, .tmp 202, .tmp 203, .tmp 204]) rfl call131 hc) rfl rfl ?_
       rintro _ w ⟨rfl, hS⟩
       have he1195 := (hS.osN 0 rfl).1
       have hS : St B w (_ :: l) hf := (congrArg (fun k_ : Nat => St B w (OSf E_api_Message 48 (.slice A1 k_ c2) t1193 :: l) hf) he1195).mp hS
       refine RL.re 0 rfl (congrArg (fun k_ : Nat => (.slice A1 k_ c2 : Value)) he1195) (RL.re 200 rfl (congrArg (fun k_ : Nat => (.slice A1 k_ c2 : Value)) he1195) (RL.nil ?_))
       exact fun a ha => ⟨_, _, rfl, h, ha.tE rfl, hS⟩
      refine jf (RC.skip ?_)
      exact fun a ha => ⟨_, _, rfl, h, ha.tE rfl, hS⟩
     refine pn 4 rfl (ln (jf (RC.skip ?_)))
     exact fun a ha => ⟨_, _, rfl, h, ha.tE rfl, hS⟩
   refine sr (pn 4 rfl ?_)
   refine RL.iteP 181 rfl h (fun hc1196 h => ?_) fun hc1196 h => ?_
   next =>
    refine pn 4 rfl (ln ?_)
    refine RC.iteP 185 rfl h (fun hc1197 h => ?_) fun hc1197 h => ?_
    next =>
     refine jt (RC.region (pn 5 rfl ?_))
     obtain ⟨t1198, hg1199, h⟩ := h.bind
     have hc := slices_rotateCmpFunc_api_Message.ok hg1199 hS
     refine RL.e (OW.callF (ls := [.tmp 186, .tmp 187, .tmp 188, .tmp 189, .tmp 190]) rfl call136 hc) rfl rfl ?_
     rintro _ w ⟨rfl, hS⟩
     have he1200 := (hS.osN 0 rfl).1
     have hS : St B w (_ :: l) hf := (congrArg (fun k_ : Nat => St B w (OSf E_api_Message 48 (.slice A1 k_ c2) t1198 :: l) hf) he1200).mp hS
     refine RL.re 0 rfl (congrArg (fun k_ : Nat => (.slice A1 k_ c2 : Value)) he1200) (RL.re 186 rfl (congrArg (fun k_ : Nat => (.slice A1 k_ c2 : Value)) he1200) (RL.nil ?_))
     exact fun a ha => ⟨_, _, rfl, h, ha.tE rfl, hS⟩
    refine jf (RC.skip ?_)
    exact fun a ha => ⟨_, _, rfl, h, ha.tE rfl, hS⟩
   refine pn 4 rfl (ln (jf (RC.skip ?_)))
   exact fun a ha => ⟨_, _, rfl, h, ha.tE rfl, hS⟩
 refine sr (pn 3 rfl (ln ?_))
 refine RC.iteP 140 rfl h (fun hc1201 h => ?_) fun hc1201 h => ?_
 next =>
  refine jtr (pn 4 rfl (ln (RC.region (pn 2 rfl (RL.nil ?_)))))
  exact fun a ha => ⟨_, _, _, rfl, h, ha.tE rfl, hS⟩
 refine jf (sr (pn 2 rfl (ln (RC.region (pn 2 rfl (RL.nil ?_))))))
 exact fun a ha => ⟨_, _, _, rfl, h, ha.tE rfl, hS⟩
def slices_symMergeCmpFunc_api_Message.F : Nat → (List api_Message) → Int → Int → Int → Option (List api_Message)
 | 0, _, _, _, _ => none
 | n + 1, a3, a4, a5, a6 => slices_symMergeCmpFunc_api_Message.f0 (slices_symMergeCmpFunc_api_Message.F n) a3 a4 a5 a6
theorem slices_symMergeCmpFunc_api_Message.okF : ∀ (n : Nat) {a3 : List api_Message} {a4 a5 a6 : Int} {A1 : Option Addr} {c2 : Nat} {r : List api_Message} {B : Base} {w : World} {l : List HProp} {hf : Hp}, slices_symMergeCmpFunc_api_Message.F n a3 a4 a5 a6 = some r → St B w (OSf E_api_Message 48 (sV A1 a3 c2) a3 :: l) hf → Calls prog 131 #[sV A1 a3 c2, iV a4, iV a5, iV a6, .func (.func 76) #[] #[]] w (Ret fun v w => v = .tuple #[] ∧ St B w (OSf E_api_Message 48 (sV A1 a3 c2) r :: l) hf) := by
 intro n
 induction n with
 | zero => intro _ _ _ _ _ _ _ _ _ _ _ h; cases h
 | succ n ih => intro _ _ _ _ _ _ _ _ _ _ _ h hS; exact slices_symMergeCmpFunc_api_Message.ok0 ih h hS
def slices_symMergeCmpFunc_api_Message.f (a3 : List api_Message) (a4 a5 a6 : Int) : Option (List api_Message) := slices_symMergeCmpFunc_api_Message.F (a3.length + 1) a3 a4 a5 a6
theorem slices_symMergeCmpFunc_api_Message.ok {a3 r : List api_Message} {a4 a5 a6 : Int} {A1 : Option Addr} {c2 : Nat} (h : slices_symMergeCmpFunc_api_Message.f a3 a4 a5 a6 = some r) (hS : St B w (OSf E_api_Message 48 (sV A1 a3 c2) a3 :: l) hf) :
   Calls prog 131 #[sV A1 a3 c2, iV a4, iV a5, iV a6, .func (.func 76) #[] #[]] w (Ret fun v w => v = .tuple #[] ∧ St B w (OSf E_api_Message 48 (sV A1 a3 c2) r :: l) hf) := slices_symMergeCmpFunc_api_Message.okF _ h hS
def slices_stableCmpFunc_api_Message.j24 (x365 : Int) (l486 : List api_Message) : Option ((List api_Message × Int) ⊕ (List api_Message)) := some (.inl (l486, IntKind.i64.wrap (x365 * 2)))
def slices_stableCmpFunc_api_Message.l23b (a4 x365 : Int) : List api_Message × Int × Int → Option ((List api_Message × Int × Int) ⊕ ((List api_Message × Int) ⊕ (List api_Message)))
 | (l465, x466, x467) => (if x467 ≤ a4 then ((slices_symMergeCmpFunc_api_Message.f l465 x466 (IntKind.i64.wrap (x466 + x365)) x467).bind fun t479 => some (.inl (t479, x467, IntKind.i64.wrap (x467 + (IntKind.i64.wrap (2 * x365)))))) else (Option.map Sum.inr (if IntKind.i64.wrap (x466 + x365) < a4 then ((slices_symMergeCmpFunc_api_Message.f l465 x466 (IntKind.i64.wrap (x466 + x365)) a4).bind fun t488 => slices_stableCmpFunc_api_Message.j24 x365 t488) else slices_stableCmpFunc_api_Message.j24 x365 l465)))
def slices_stableCmpFunc_api_Message.l23 (a4 x365 : Int) (s : List api_Message × Int × Int) : Option ((List api_Message × Int) ⊕ (List api_Message)) := loopR (slices_stableCmpFunc_api_Message.l23b a4 x365) s
def slices_stableCmpFunc_api_Message.l21b (a3 : List api_Message) (a4 : Int) : List api_Message × Int → Option ((List api_Message × Int) ⊕ (List api_Message))
 | (l364, x365) => (if x365 < a4 then slices_stableCmpFunc_api_Message.l23 a4 x365 (l364, 0, IntKind.i64.wrap (2 * x365)) else (Option.map Sum.inr (if l364.length = a3.length then some l364 else none)))
def slices_stableCmpFunc_api_Message.l21 (a3 : List api_Message) (a4 : Int) (s : List api_Message × Int) : Option (List api_Message) := loopR (slices_stableCmpFunc_api_Message.l21b a3 a4) s
def slices_stableCmpFunc_api_Message.l14b (a3 : List api_Message) (a4 : Int) : List api_Message × Int × Int → Option ((List api_Message × Int × Int) ⊕ (List api_Message))
 | (l281, x282, x283) => (if x283 ≤ a4 then ((slices_insertionSortCmpFunc_api_Message.f l281 x282 x283).bind fun t295 => some (.inl (t295, x283, IntKind.i64.wrap (x283 + 20)))) else (Option.map Sum.inr ((slices_insertionSortCmpFunc_api_Message.f l281 x282 a4).bind fun t298 => slices_stableCmpFunc_api_Message.l21 a3 a4 (t298, 20))))
def slices_stableCmpFunc_api_Message.l14 (a3 : List api_Message) (a4 : Int) (s : List api_Message × Int × Int) : Option (List api_Message) := loopR (slices_stableCmpFunc_api_Message.l14b a3 a4) s
def slices_stableCmpFunc_api_Message.f (a3 : List api_Message) (a4 : Int) : Option (List api_Message) := slices_stableCmpFunc_api_Message.l14 a3 a4 (a3, 0, 20)
theorem slices_stableCmpFunc_api_Message.ok {a3 r : List api_Message} {a4 : Int} {A1 : Option Addr} {c2 : Nat} (h : slices_stableCmpFunc_api_Message.f a3 a4 = some r) (hS : St B w (OSf E_api_Message 48 (sV A1 a3 c2) a3 :: l) hf) :
   Calls prog 125 #[sV A1 a3 c2, iV a4, .func (.func 76) #[] #[]] w (Ret fun v w => v = .tuple #[] ∧ St B w (OSf E_api_Message 48 (sV A1 a3 c2) r :: l) hf) := by
 have h := Holds.of h
 refine en func125 rfl ntmps125 rfl (sr (pn 1 rfl (lnsr (pn 3 rfl (ln (RC.seq (RC.block (fun a ha => lp h (fun (s : List api_Message × Int × Int) a w => ∃ l281 x282 x283, s = (l281, x282, x283) ∧ Has 63 [(0, sV A1 l281 c2), (1, iV a4), (2, .func (.func 76) #[] #[]), (6, iV 20), (7, iV x282), (8, iV x283)] a ∧ St B w (OSf E_api_Message 48 (sV A1 l281 c2) l281 :: l) hf) ⟨_, _, _, rfl, ha.tE rfl, hS⟩ ?_))))))))
 rintro G292 _ a w ⟨l281, x282, x283, rfl, ha, hS⟩ h
 refine ro ha (RC.seq (sr (pn 3 rfl (ln ?_))))
 refine RC.iteP 13 rfl h (fun hc294 h => ?_) fun hc294 h => ?_
 next =>
  refine jt (sk (RC.block (sr (pn 4 rfl ?_))))
  obtain ⟨t295, hg296, h⟩ := h.bind
  have hc := slices_insertionSortCmpFunc_api_Message.ok hg296 hS
  refine RL.e (OW.callF (ls := [.tmp 14, .tmp 15, .tmp 16, .tmp 17]) rfl call130 hc) rfl rfl ?_
  rintro _ w ⟨rfl, hS⟩
  have he297 := (hS.osN 0 rfl).1
  have hS : St B w (_ :: l) hf := (congrArg (fun k_ : Nat => St B w (OSf E_api_Message 48 (.slice A1 k_ c2) t295 :: l) hf) he297).mp hS
  refine RL.re 0 rfl (congrArg (fun k_ : Nat => (.slice A1 k_ c2 : Value)) he297) (RL.re 14 rfl (congrArg (fun k_ : Nat => (.slice A1 k_ c2 : Value)) he297) (lnsr (pn 2 rfl (ln (RC.region (pn 4 rfl (RL.nil (RQ.inB_n ?_))))))))
  exact fun a ha => ⟨_, h.some, _, _, _, rfl, ha.tE rfl, hS⟩
 refine jf (RC.exit (RQ.exitT ?_))
 have h := h.inr
 refine RQ.exitT (RQ.inB_hit (tsr (pn 4 rfl ?_)))
 obtain ⟨t298, hg299, h⟩ := h.bind
 have hc := slices_insertionSortCmpFunc_api_Message.ok hg299 hS
 refine RL.e (OW.callF (ls := [.tmp 23, .tmp 24, .tmp 25, .tmp 26]) rfl call130 hc) rfl rfl ?_
 rintro _ w ⟨rfl, hS⟩
 have he300 := (hS.osN 0 rfl).1
 have hS : St B w (_ :: l) hf := (congrArg (fun k_ : Nat => St B w (OSf E_api_Message 48 (.slice A1 k_ c2) t298 :: l) hf) he300).mp hS
 refine RL.re 0 rfl (congrArg (fun k_ : Nat => (.slice A1 k_ c2 : Value)) he300) (RL.re 23 rfl (congrArg (fun k_ : Nat => (.slice A1 k_ c2 : Value)) he300) (ln (RC.block (fun a ha => lp h (fun (s : List api_Message × Int) a w => ∃ l364 x365, s = (l364, x365) ∧ Has 63 [(0, sV A1 l364 c2), (1, iV a4), (2, .func (.func 76) #[] #[]), (6, iV x365)] a ∧ St B w (OSf E_api_Message 48 (sV A1 l364 c2) l364 :: l) hf) ⟨_, _, rfl, ha.tE rfl, hS⟩ ?_))))
 rintro G429 _ a w ⟨l364, x365, rfl, ha, hS⟩ h
 refine ro ha (RC.seq (sr (pn 3 rfl (ln ?_))))
 refine RC.iteP 30 rfl h (fun hc431 h => ?_) fun hc431 h => ?_
 next =>
  refine jt (sk (RC.block (sr (pn 4 rfl (ln (RC.seq (RC.block (fun a ha => lp h (fun (s : List api_Message × Int × Int) a w => ∃ l465 x466 x467, s = (l465, x466, x467) ∧ Has 63 [(0, sV A1 l465 c2), (1, iV a4), (2, .func (.func 76) #[] #[]), (6, iV x365), (7, iV x466), (8, iV x467)] a ∧ St B w (OSf E_api_Message 48 (sV A1 l465 c2) l465 :: l) hf) ⟨_, _, _, rfl, ha.tE rfl, hS⟩ ?_))))))))
  rintro G476 _ a w ⟨l465, x466, x467, rfl, ha, hS⟩ h
  refine ro ha (RC.seq (sr (pn 3 rfl (ln ?_))))
  refine RC.iteP 35 rfl h (fun hc478 h => ?_) fun hc478 h => ?_
  next =>
   refine jt (sk (RC.block (sr (pn 7 rfl ?_))))
   obtain ⟨t479, hg480, h⟩ := h.bind
   have hc := slices_symMergeCmpFunc_api_Message.ok hg480 hS
   refine RL.e (OW.callF (ls := [.tmp 36, .tmp 37, .tmp 40, .tmp 41, .tmp 42]) rfl call131 hc) rfl rfl ?_
   rintro _ w ⟨rfl, hS⟩
   have he481 := (hS.osN 0 rfl).1
   have hS : St B w (_ :: l) hf := (congrArg (fun k_ : Nat => St B w (OSf E_api_Message 48 (.slice A1 k_ c2) t479 :: l) hf) he481).mp hS
   refine RL.re 0 rfl (congrArg (fun k_ : Nat => (.slice A1 k_ c2 : Value)) he481) (RL.re 36 rfl (congrArg (fun k_ : Nat => (.slice A1 k_ c2 : Value)) he481) (lnsr (pn 2 rfl (ln (RC.region (pn 5 rfl (RL.nil (RQ.inB_n ?_))))))))
   exact fun a ha => ⟨_, h.some, _, _, _, rfl, ha.tE rfl, hS⟩
  refine jf (RC.exit (RQ.exitT ?_))
  have h := h.inr
  refine RQ.exitT (RQ.inB_hit (RQ.then_n ?_))
  refine RC.join (fun (s : List api_Message) a w => ∃ l486, s = (l486) ∧ Holds (Sum.elim G429 (· = r)) (slices_stableCmpFunc_api_Message.j24 x365 l486) ∧ Has 63 [(0, sV A1 l486 c2), (1, iV a4), (2, .func (.func 76) #[] #[]), (6, iV x365)] a ∧ St B w (OSf E_api_Message 48 (sV A1 l486 c2) l486 :: l) hf) ?_ ?_
  · rintro l486 a w ⟨_, rfl, h, ha, hS⟩
    refine ro ha (RC.region (pn 3 rfl (RL.nil (RQ.inB_n ?_))))
    exact fun a ha => ⟨_, h.some, _, _, rfl, ha.tE rfl, hS⟩
  refine sr (pn 4 rfl (lnsr (pn 3 rfl (ln ?_))))
  refine RC.iteP 54 rfl h (fun hc487 h => ?_) fun hc487 h => ?_
  next =>
   refine jt (RC.region (pn 5 rfl ?_))
   obtain ⟨t488, hg489, h⟩ := h.bind
   have hc := slices_symMergeCmpFunc_api_Message.ok hg489 hS
   refine RL.e (OW.callF (ls := [.tmp 55, .tmp 56, .tmp 57, .tmp 58, .tmp 59]) rfl call131 hc) rfl rfl ?_
   rintro _ w ⟨rfl, hS⟩
   have he490 := (hS.osN 0 rfl).1
   have hS : St B w (_ :: l) hf := (congrArg (fun k_ : Nat => St B w (OSf E_api_Message 48 (.slice A1 k_ c2) t488 :: l) hf) he490).mp hS
   refine RL.re 0 rfl (congrArg (fun k_ : Nat => (.slice A1 k_ c2 : Value)) he490) (RL.re 55 rfl (congrArg (fun k_ : Nat => (.slice A1 k_ c2 : Value)) he490) (RL.nil ?_))
   exact fun a ha => ⟨_, _, rfl, h, ha.tE rfl, hS⟩
  refine jf (RC.skip ?_)
  exact fun a ha => ⟨_, _, rfl, h, ha.tE rfl, hS⟩
 refine jf (RC.exit (RQ.exitT ?_))
 have h := h.inr
 refine RQ.exitT (RQ.inB_hit ?_)
 obtain ⟨hq491, h⟩ := h.req
 have hS : St B w (_ :: l) hf := (congrArg (fun k_ : Nat => St B w (OSf E_api_Message 48 (.slice A1 k_ c2) l364 :: l) hf) hq491).mp hS
 obtain rfl := h.some
 exact rtE results125 rfl ⟨rfl, hS⟩
def slices_SortStableFunc_api_Message_api_Message.f (a3 : List api_Message) : Option (List api_Message) := ((slices_stableCmpFunc_api_Message.f a3 (a3.length : Int)).bind fun t7 => (if t7.length = a3.length then some t7 else none))
theorem slices_SortStableFunc_api_Message_api_Message.ok {a3 r : List api_Message} {A1 : Option Addr} {c2 : Nat} (h : slices_SortStableFunc_api_Message_api_Message.f a3 = some r) (hS : St B w (OSf E_api_Message 48 (sV A1 a3 c2) a3 :: l) hf) :
   Calls prog 109 #[sV A1 a3 c2, .func (.func 76) #[] #[]] w (Ret fun v w => v = .tuple #[] ∧ St B w (OSf E_api_Message 48 (sV A1 a3 c2) r :: l) hf) := by
 have h := Holds.of h
 refine en func109 rfl ntmps109 rfl (RC.region (r0 4 rfl ?_))
 obtain ⟨t7, hg8, h⟩ := h.bind
 have hc := slices_stableCmpFunc_api_Message.ok hg8 hS
 refine RL.e (OW.callF (ls := [.tmp 4, .tmp 6, .tmp 7]) rfl call125 hc) rfl rfl ?_
 rintro _ w ⟨rfl, hS⟩
 have he9 := (hS.osN 0 rfl).1
 have hS : St B w (_ :: l) hf := (congrArg (fun k_ : Nat => St B w (OSf E_api_Message 48 (.slice A1 k_ c2) t7 :: l) hf) he9).mp hS
 refine RL.re 0 rfl (congrArg (fun k_ : Nat => (.slice A1 k_ c2 : Value)) he9) (RL.re 4 rfl (congrArg (fun k_ : Nat => (.slice A1 k_ c2 : Value)) he9) (RL.re 5 rfl (congrArg (fun k_ : Nat => (.slice A1 k_ c2 : Value)) he9) (RL.nil ?_)))
 obtain ⟨hq10, h⟩ := h.req
 have hS : St B w (_ :: l) hf := (congrArg (fun k_ : Nat => St B w (OSf E_api_Message 48 (.slice A1 k_ c2) t7 :: l) hf) hq10).mp hS
 obtain rfl := h.some
 exact rtE results109 rfl ⟨rfl, hS⟩
def event_sorted_api_Message.f (a1 : List api_Message) : Option (List api_Message) := ((slices_Clone_api_Message_api_Message.f a1).bind fun t16 => ((slices_SortStableFunc_api_Message_api_Message.f t16).bind fun t20 => some t20))
theorem event_sorted_api_Message.ok {a1 : List api_Message} {A2 : Option Addr} {c3 : Nat} (hr4 : SlR E_api_Message.rep hf A2 c3 a1) {r : List api_Message} (h : event_sorted_api_Message.f a1 = some r) (hS : St B w (l) hf) :
   Calls prog 75 #[sV A2 a1 c3, .func (.func 76) #[] #[]] w (Ret fun v w => ∃ (A_1 : Option Addr) (c_2 : Nat), v = sV A_1 r c_2 ∧ St B w (OSf E_api_Message 48 (sV A_1 r c_2) r :: l) hf) := by
 have h := Holds.of h
 refine en func75 rfl ntmps75 rfl (sr (pn 1 rfl (lnsr (pn 1 rfl (cF (fun _ hg => slices_Clone_api_Message_api_Message.ok hr4 hg hS) call108 h rfl rfl rfl ?_)))))
 rintro t16 h _ w ⟨A18, c19, rfl, hS⟩
 refine pn 1 rfl (lnsr (pn 2 rfl ?_))
 obtain ⟨t20, hg21, h⟩ := h.bind
 have hc := slices_SortStableFunc_api_Message_api_Message.ok hg21 hS
 refine RL.e (OW.callF (ls := [.tmp 8, .tmp 9]) rfl call109 hc) rfl rfl ?_
 rintro _ w ⟨rfl, hS⟩
 have he22 := (hS.osN 0 rfl).1
 have hS : St B w (_ :: l) hf := (congrArg (fun k_ : Nat => St B w (OSf E_api_Message 48 (.slice A18 k_ c19) t20 :: l) hf) he22).mp hS
 refine RL.re 7 rfl (congrArg (fun k_ : Nat => (.slice A18 k_ c19 : Value)) he22) (RL.re 5 rfl (congrArg (fun k_ : Nat => (.slice A18 k_ c19 : Value)) he22) (RL.re 8 rfl (congrArg (fun k_ : Nat => (.slice A18 k_ c19 : Value)) he22) (lnsr (pn 2 rfl (lr ?_)))))
 obtain rfl := h.some
 exact rt results75 rfl ⟨A18, c19, rfl, hS⟩
def event_Sorted.f (a1 : List api_Message) : Option (List api_Message) := ((event_sorted_api_Message.f a1).bind fun t9 => some t9)
theorem event_Sorted.ok {a1 : List api_Message} {A2 : Option Addr} {c3 : Nat} (hr4 : SlR E_api_Message.rep hf A2 c3 a1) {r : List api_Message} (h : event_Sorted.f a1 = some r) (hS : St B w (l) hf) :
   Calls prog 34 #[sV A2 a1 c3] w (Ret fun v w => ∃ (A_1 : Option Addr) (c_2 : Nat), v = sV A_1 r c_2 ∧ St B w (OSf E_api_Message 48 (sV A_1 r c_2) r :: l) hf) := by
 have h := Holds.of h
 refine en func34 rfl ntmps34 rfl (sr (pn 1 rfl (lnsr (pn 1 rfl (cF (fun _ hg => event_sorted_api_Message.ok hr4 hg hS) call75 h rfl rfl rfl ?_)))))
 rintro t9 h _ w ⟨A11, c12, rfl, hS⟩
 refine pn 1 rfl (lr ?_)
 obtain rfl := h.some
 exact rt results34 rfl ⟨A11, c12, rfl, hS⟩
def heap_Heap_All.f (a2 : heap_Heap) : Option (List api_Message) := ((heap_Heap_none.f a2).bind fun _ => ((event_Sorted.f a2.p_l).bind fun t27 => some t27))
theorem heap_Heap_All.ok {a2 : heap_Heap} {b1 : Nat} {r : List api_Message} (h : heap_Heap_All.f a2 = some r) (hS : St B w (O_heap_Heap hf a2 b1 :: l) hf) :
   Calls prog 192 #[pV b1] w (Ret fun v w => ∃ (A_1 : Option Addr) (c_2 : Nat), v = sV A_1 r c_2 ∧ St B w (OSf E_api_Message 48 (sV A_1 r c_2) r :: O_heap_Heap hf a2 b1 :: l) hf) := by
 have h := Holds.of h
 refine en func192 rfl ntmps192 rfl (sr (pn 1 rfl (ln (RC.seq (sr (pn 1 rfl (cF (fun _ hg => heap_Heap_none.ok hg hS) call198 h rfl rfl rfl ?_)))))))
 rintro _ h _ w ⟨rfl, hS⟩
 refine ln (jfs (sr (r0 4 rfl ?_)))
 obtain ⟨A21, c22, hS⟩ := O_heap_Heap.o hS
 refine rr [1] hS ?_
 refine it fun w hS => ?_
 obtain ⟨hf26, hs24, hS, hr23, hb25⟩ := St.lendSl hS.p1
 obtain ⟨t27, hg28, h⟩ := h.bind
 have hc := event_Sorted.ok hr23 hg28 hS
 refine RL.e (OW.callF (ls := [.tmp 9]) rfl call34 hc) rfl rfl ?_
 rintro _ w ⟨A29, c30, rfl, hS⟩
 have hS := hb25 _ _ hS
 have hS : St B w (_ :: _ :: _ :: l) hf := hS
 refine pn 1 rfl (lr ?_)
 have hS := O_heap_Heap.c (x := a2) hS.p2
 obtain rfl := h.some
 exact rt results192 rfl ⟨A29, c30, rfl, hS.p1⟩
def pend_Pend_All.f (a2 : pend_Pend) : Option (List api_Message) := ((pend_Pend_none.f a2).bind fun _ => ((heap_Heap_All.f a2.q).bind fun t17 => some t17))
theorem pend_Pend_All.ok {a2 : pend_Pend} {b1 : Nat} {r : List api_Message} (h : pend_Pend_All.f a2 = some r) (hS : St B w (O_pend_Pend hf a2 b1 :: l) hf) :
   Calls prog 46 #[pV b1] w (Ret fun v w => ∃ (A_1 : Option Addr) (c_2 : Nat), v = sV A_1 r c_2 ∧ St B w (OSf E_api_Message 48 (sV A_1 r c_2) r :: O_pend_Pend hf a2 b1 :: l) hf) := by
 have h := Holds.of h
 refine en func46 rfl ntmps46 rfl (sr (pn 1 rfl (ln (RC.seq (sr (pn 1 rfl (cF (fun _ hg => pend_Pend_none.ok hg hS) call93 h rfl rfl rfl ?_)))))))
 rintro _ h _ w ⟨rfl, hS⟩
 refine ln (jfs (sr (r0 3 rfl ?_)))
 obtain ⟨b16, hS⟩ := O_pend_Pend.o hS
 refine rr [1] hS ?_
 refine it fun w hS => ?_
 obtain ⟨t17, hg18, h⟩ := h.bind
 have hc := heap_Heap_All.ok hg18 hS.p1
 refine RL.e (OW.invoke (F := 192) (u' := pV b16) (ls := []) rfl rfl (fun w => by kernel_rfl) call192 rfl hc) rfl rfl ?_
 rintro _ w ⟨A19, c20, rfl, hS⟩
 refine pn 1 rfl (lr ?_)
 have hS := O_pend_Pend.c (x := a2) hS.p1.p2
 obtain rfl := h.some
 exact rt results46 rfl ⟨A19, c20, rfl, hS.p1⟩
def lane_Lane_Waiting.f (a2 : lane_Lane) : Option (List api_Message) := ((lane_Lane_none.f a2).bind fun _ => ((pend_Pend_All.f a2.wait).bind fun t55 => some t55))
theorem lane_Lane_Waiting.ok {a2 : lane_Lane} {b1 : Nat} {r : List api_Message} (h : lane_Lane_Waiting.f a2 = some r) (hS : St B w (O_lane_Lane hf a2 b1 :: l) hf) :
   Calls prog 13 #[pV b1] w (Ret fun v w => ∃ (A_1 : Option Addr) (c_2 : Nat), v = sV A_1 r c_2 ∧ St B w (OSf E_api_Message 48 (sV A_1 r c_2) r :: O_lane_Lane hf a2 b1 :: l) hf) := by
 have h := Holds.of h
 refine en func13 rfl ntmps13 rfl (sr (pn 1 rfl (ln (RC.seq (sr (pn 1 rfl (cF (fun _ hg => lane_Lane_none.ok hg hS) call45 h rfl rfl rfl ?_)))))))
 rintro _ h _ w ⟨rfl, hS⟩
 refine ln (jfs (sr (r0 3 rfl ?_)))
 obtain ⟨A35, c36, A38, c39, A41, c42, A44, c45, b47, b48, A49, c50, A51, c52, b53, b54, hr37, hr40, hr43, hr46, hS⟩ := O_lane_Lane.o hS
 refine rr [1] hS ?_
 refine it fun w hS => cF (fun _ hg => pend_Pend_All.ok hg hS.p2) call46 h rfl rfl rfl ?_
 rintro t55 h _ w ⟨A57, c58, rfl, hS⟩
 refine pn 1 rfl (lr ?_)
 have hS := O_lane_Lane.c (x := a2) hr37 hr40 hr43 hr46 hS.p7.p7.p7.p7.p5.p7.p7
 obtain rfl := h.some
 exact rt results13 rfl ⟨A57, c58, rfl, hS.p1⟩
def log_Log_Find.l4b (a2 : log_Log) (a3 a4 : Int) : Int → Option ((Int) ⊕ (api_Message × Bool))
 | (x284) => (if x284 < (a2.l.length : Int) then (if 0 ≤ x284 then (if (((nth a2.l x284).event).Key).From = a3 then (if ((nth a2.l x284).event).Uid = a4 then some (.inr ((nth a2.l x284).event, true)) else some (.inl (IntKind.i64.wrap (x284 + 1)))) else some (.inl (IntKind.i64.wrap (x284 + 1)))) else none) else some (.inr ((⟨(⟨0, 0, 0⟩ : api_Key), 0, 0, 0, false⟩ : api_Message), false)))
def log_Log_Find.l4 (a2 : log_Log) (a3 a4 : Int) (s : Int) : Option (api_Message × Bool) := loopR (log_Log_Find.l4b a2 a3 a4) s
def log_Log_Find.f (a2 : log_Log) (a3 a4 : Int) : Option (api_Message × Bool) := ((log_Log_none.f a2).bind fun t172 => (if t172 = true then some ((⟨(⟨0, 0, 0⟩ : api_Key), 0, 0, 0, false⟩ : api_Message), false) else log_Log_Find.l4 a2 a3 a4 (0)))
theorem log_Log_Find.ok {a2 : log_Log} {a3 a4 : Int} {b1 : Nat} {r : api_Message × Bool} (h : log_Log_Find.f a2 a3 a4 = some r) (hS : St B w (O_log_Log hf a2 b1 :: l) hf) :
   Calls prog 57 #[pV b1, iV a3, iV a4] w (Ret fun v w => v = .tuple #[.agg (C_api_Message r.1).toArray, .bool r.2] ∧ St B w (O_log_Log hf a2 b1 :: l) hf) := by
 have h := Holds.of h
 refine en func57 rfl ntmps57 rfl (sr (rr [0, 0] hS ?_))
 refine fun b168 => it fun w hS => ln (RC.seq (sr (pn 1 rfl (cF (fun _ hg => log_Log_none.ok hg hS.p1) call94 h rfl rfl rfl ?_))))
 rintro t172 h _ w ⟨rfl, hS⟩
 refine ln ?_
 refine RC.iteB 11 rfl h (fun hc174 h => ?_) fun hc174 h => ?_
 next =>
  refine jtr (rr [0, 2, 0] hS ?_)
  refine it fun w hS => lr (RQ.ret ?_)
  cases h.some
  refine rz [1] results57 hS ?_
  exact it ⟨rfl, hS.d1⟩
 refine jfs (RC.seq (sr (r0 3 rfl ?_)))
 obtain ⟨A253, c254, A256, c257, A259, c260, cs261, hr255, hr258, hx262, hS⟩ := O_log_Log.o hS
 refine rr [1, 0, 0] hS ?_
 refine it fun w hS => ln (RC.block (fun a ha => lp h (fun (s : Int) a w => ∃ x284, s = (x284) ∧ Has 39 [(1, iV a3), (2, iV a4), (6, pV b168), (16, sV A259 a2.l c260), (17, iV (a2.l.length : Int)), (18, iV x284)] a ∧ St B w (OSl 176 10 (sV A259 a2.l c260) a2.l.length cs261 :: Cl b1 (C_log_Log a2 A253 c254 A256 c257 A259 c260) 150 :: Cl b168 [iV 0, iV 0, iV 0, iV 0, iV 0, iV 0, .bool false] 48 :: l) hf) ⟨_, rfl, ha.tE rfl, hS.p1⟩ ?_))
 rintro G308 x284 a w ⟨_, rfl, ha, hS⟩ h
 refine ro ha (sr (pn 1 rfl (ln (RC.seq ?_))))
 refine RC.iteP 19 rfl h (fun hc310 h => ?_) fun hc310 h => ?_
 next =>
  refine jt (sk (RC.seq (RC.block (sr ?_))))
  obtain ⟨hq321, h⟩ := h.req
  refine RL.s (Vl.indexOwn 0 hS rfl underlying148 sizeOf176 rfl rfl hq321 hc310) rfl ?_
  obtain ⟨_, ⟨A323, c324, b326, rfl, hr325, hr327⟩, hl322⟩ := RepL.elem R_log_done_ok hx262 hq321 hc310
  refine RL.s (Vl.loadA (vs := (C_log_done (nth a2.l x284) A323 c324 b326)) isAgg176 sizeOf176 rfl rfl (hS.elemCells 0 rfl hl322 (off := 0) rfl)) rfl (rr [0, 1] hS ?_)
  refine fun b328 => it fun w hS => lnsr (rr [0, 0, 0, 1, 0, 0, 0] hS ?_)
  refine it fun w hS => RL.iteP 28 rfl h (fun hc329 h => ?_) fun hc329 h => ?_
  next =>
   refine rr [0, 0, 1, 0, 0, 0] hS ?_
   refine it fun w hS => ln ?_
   refine RC.iteP 34 rfl h (fun hc330 h => ?_) fun hc330 h => ?_
   next =>
    refine jtr (rr [0, 1, 4, 0] hS ?_)
    refine it fun w hS => lr (ir ?_)
    have h := h.inrS
    refine RQ.ret (ir ?_)
    have hS := O_log_Log.c (x := a2) hr255 hr258 hx262 hS.p1.p2
    cases h.some
    refine rz [2] results57 hS ?_
    exact it ⟨rfl, hS.d1.d1⟩
   refine jf (RC.skip (RQ.inB_n (RQ.then_n (RC.region (pn 2 rfl (RL.nil ?_))))))
   exact fun a ha => ⟨_, h.some, _, rfl, ha.tE rfl, hS.d0⟩
  refine pn 6 rfl (ln (jf (RC.skip (RQ.inB_n (RQ.then_n (RC.region (pn 2 rfl (RL.nil ?_))))))))
  exact fun a ha => ⟨_, h.some, _, rfl, ha.tE rfl, hS.d0⟩
 refine jf (RC.exit (RQ.exitT ?_))
 have h := h.inrS
 refine RQ.exitT (RQ.inB_hit (tsr (rr [0, 3, 0] hS ?_)))
 refine it fun w hS => lr ?_
 have hS := O_log_Log.c (x := a2) hr255 hr258 hx262 hS.p1
 cases h.some
 refine rz [1] results57 hS ?_
 exact it ⟨rfl, hS.d1⟩
def event_lane.f (a1 : Int) : Option (Bool) := (if 0 ≤ a1 then some (decide (a1 < 16)) else some false)
theorem event_lane.ok {a1 : Int} {r : Bool} (h : event_lane.f a1 = some r) (hS : St B w (l) hf) :
   Calls prog 74 #[iV a1] w (Ret fun v w => v = .bool r ∧ St B w (l) hf) := by
 have h := Holds.of h
 refine en func74 rfl ntmps74 rfl (sr (pn 1 rfl (lnsr (pn 3 rfl ?_))))
 refine RL.iteP 5 rfl h (fun hc3 h => ?_) fun hc3 h => ?_
 next =>
  refine pn 4 rfl (lr ?_)
  cases h.some
  exact rt results74 rfl ⟨rfl, hS⟩
 refine pn 4 rfl (lr ?_)
 obtain rfl := h.some
 exact rt results74 rfl ⟨rfl, hS⟩
def event_Check.f (a1 : api_Message) : Option (Int) := ((vtime_Valid.f a1.Key.Time).bind fun t19 => (if t19 = true then ((event_lane.f a1.Key.From).bind fun t22 => (if t22 = true then ((event_lane.f a1.To).bind fun t25 => (if t25 = true then (if 0 ≤ (if a1.Uid < a1.Key.Seq then a1.Uid else a1.Key.Seq) then some 0 else some 1) else some 1)) else (if a1.Key.From = (-1) then ((event_lane.f a1.To).bind fun t30 => (if t30 = true then (if 0 ≤ (if a1.Uid < a1.Key.Seq then a1.Uid else a1.Key.Seq) then some 0 else some 1) else some 1)) else some 1))) else some 1))
theorem event_Check.ok {a1 : api_Message} {r : Int} (h : event_Check.f a1 = some r) (hS : St B w (l) hf) :
   Calls prog 29 #[.agg (C_api_Message a1).toArray] w (Ret fun v w => v = iV r ∧ St B w (l) hf) := by
 have h := Holds.of h
 refine en func29 rfl ntmps29 rfl (sr (rr [0, 0] hS ?_))
 refine fun b18 => it fun w hS => ln (RC.seq (sr (rr [0, 0, 1] hS ?_)))
 refine it fun w hS => cF (fun _ hg => vtime_Valid.ok hg hS) call73 h rfl rfl rfl ?_
 rintro t19 h _ w ⟨rfl, hS⟩
 refine pn 1 rfl ?_
 refine RL.iteB 7 rfl h (fun hc21 h => ?_) fun hc21 h => ?_
 next =>
  refine rr [0, 0, 1] hS ?_
  refine it fun w hS => cF (fun _ hg => event_lane.ok hg hS) call74 h rfl rfl rfl ?_
  rintro t22 h _ w ⟨rfl, hS⟩
  refine pn 1 rfl ?_
  refine RL.iteB 12 rfl h (fun hc24 h => ?_) fun hc24 h => ?_
  next =>
   refine rr [0, 0, 0, 0, 0, 0, 0, 0, 1] hS ?_
   refine it fun w hS => cF (fun _ hg => event_lane.ok hg hS) call74 h rfl rfl rfl ?_
   rintro t25 h _ w ⟨rfl, hS⟩
   refine pn 2 rfl ?_
   refine RL.iteB 24 rfl h (fun hc27 h => ?_) fun hc27 h => ?_
   next =>
    refine rr [0, 0, 1, 0, 1] hS ?_
    refine it fun w hS => RL.sg (Vl.min2 rfl rfl) rfl rfl (pn 2 rfl (ln ?_))
    refine RC.iteP 32 rfl h (fun hc28 h => ?_) fun hc28 h => ?_
    next =>
     refine jtr (pn 1 rfl (lr (RQ.ret ?_)))
     obtain rfl := h.some
     exact rt results29 rfl ⟨rfl, hS.d0⟩
    refine jfs (sr (pn 1 rfl (lr ?_)))
    obtain rfl := h.some
    exact rt results29 rfl ⟨rfl, hS.d0⟩
   refine pn 8 rfl (ln (jfs (sr (pn 1 rfl (lr ?_)))))
   obtain rfl := h.some
   exact rt results29 rfl ⟨rfl, hS.d0⟩
  refine rr [0, 0, 1, 0, 0, 0, 0] hS ?_
  refine it fun w hS => RL.iteP 19 rfl h (fun hc29 h => ?_) fun hc29 h => ?_
  next =>
   refine rr [0, 1] hS ?_
   refine it fun w hS => cF (fun _ hg => event_lane.ok hg hS) call74 h rfl rfl rfl ?_
   rintro t30 h _ w ⟨rfl, hS⟩
   refine pn 2 rfl ?_
   refine RL.iteB 24 rfl h (fun hc32 h => ?_) fun hc32 h => ?_
   next =>
    refine rr [0, 0, 1, 0, 1] hS ?_
    refine it fun w hS => RL.sg (Vl.min2 rfl rfl) rfl rfl (pn 2 rfl (ln ?_))
    refine RC.iteP 32 rfl h (fun hc33 h => ?_) fun hc33 h => ?_
    next =>
     refine jtr (pn 1 rfl (lr (RQ.ret ?_)))
     obtain rfl := h.some
     exact rt results29 rfl ⟨rfl, hS.d0⟩
    refine jfs (sr (pn 1 rfl (lr ?_)))
    obtain rfl := h.some
    exact rt results29 rfl ⟨rfl, hS.d0⟩
   refine pn 8 rfl (ln (jfs (sr (pn 1 rfl (lr ?_)))))
   obtain rfl := h.some
   exact rt results29 rfl ⟨rfl, hS.d0⟩
  refine pn 13 rfl (ln (jfs (sr (pn 1 rfl (lr ?_)))))
  obtain rfl := h.some
  exact rt results29 rfl ⟨rfl, hS.d0⟩
 refine pn 25 rfl (ln (jfs (sr (pn 1 rfl (lr ?_)))))
 obtain rfl := h.some
 exact rt results29 rfl ⟨rfl, hS.d0⟩
def heap_pile_api_Message_down.l2b : List api_Message × Int → Option ((List api_Message × Int) ⊕ (List api_Message))
 | (l263, x266) => (if (l263.length : Int) ≤ IntKind.i64.wrap ((IntKind.i64.wrap (2 * x266)) + 1) then some (.inr l263) else (if IntKind.i64.wrap ((IntKind.i64.wrap ((IntKind.i64.wrap (2 * x266)) + 1)) + 1) < (l263.length : Int) then (if 0 ≤ IntKind.i64.wrap ((IntKind.i64.wrap ((IntKind.i64.wrap (2 * x266)) + 1)) + 1) then (if 0 ≤ IntKind.i64.wrap ((IntKind.i64.wrap (2 * x266)) + 1) ∧ IntKind.i64.wrap ((IntKind.i64.wrap (2 * x266)) + 1) < (l263.length : Int) then ((event_Before.f (nth l263 (IntKind.i64.wrap ((IntKind.i64.wrap ((IntKind.i64.wrap (2 * x266)) + 1)) + 1))) (nth l263 (IntKind.i64.wrap ((IntKind.i64.wrap (2 * x266)) + 1)))).bind fun t346 => (if t346 = true then (if 0 ≤ x266 ∧ x266 < (l263.length : Int) then ((event_Before.f (nth l263 (IntKind.i64.wrap ((IntKind.i64.wrap ((IntKind.i64.wrap (2 * x266)) + 1)) + 1))) (nth l263 x266)).bind fun t356 => (if t356 = true then (if IntKind.i64.wrap ((IntKind.i64.wrap ((IntKind.i64.wrap (2 * x266)) + 1)) + 1) < ((setL l263 x266 (nth l263 (IntKind.i64.wrap ((IntKind.i64.wrap ((IntKind.i64.wrap (2 * x266)) + 1)) + 1)))).length : Int) then some (.inl ((setL (setL l263 x266 (nth l263 (IntKind.i64.wrap ((IntKind.i64.wrap ((IntKind.i64.wrap (2 * x266)) + 1)) + 1)))) (IntKind.i64.wrap ((IntKind.i64.wrap ((IntKind.i64.wrap (2 * x266)) + 1)) + 1)) (nth l263 x266)), IntKind.i64.wrap ((IntKind.i64.wrap ((IntKind.i64.wrap (2 * x266)) + 1)) + 1))) else none) else some (.inr l263))) else none) else (if 0 ≤ x266 ∧ x266 < (l263.length : Int) then ((event_Before.f (nth l263 (IntKind.i64.wrap ((IntKind.i64.wrap (2 * x266)) + 1))) (nth l263 x266)).bind fun t369 => (if t369 = true then (if IntKind.i64.wrap ((IntKind.i64.wrap (2 * x266)) + 1) < ((setL l263 x266 (nth l263 (IntKind.i64.wrap ((IntKind.i64.wrap (2 * x266)) + 1)))).length : Int) then some (.inl ((setL (setL l263 x266 (nth l263 (IntKind.i64.wrap ((IntKind.i64.wrap (2 * x266)) + 1)))) (IntKind.i64.wrap ((IntKind.i64.wrap (2 * x266)) + 1)) (nth l263 x266)), IntKind.i64.wrap ((IntKind.i64.wrap (2 * x266)) + 1))) else none) else some (.inr l263))) else none))) else none) else none) else (if 0 ≤ IntKind.i64.wrap ((IntKind.i64.wrap (2 * x266)) + 1) ∧ IntKind.i64.wrap ((IntKind.i64.wrap (2 * x266)) + 1) < (l263.length : Int) then (if 0 ≤ x266 ∧ x266 < (l263.length : Int) then ((event_Before.f (nth l263 (IntKind.i64.wrap ((IntKind.i64.wrap (2 * x266)) + 1))) (nth l263 x266)).bind fun t386 => (if t386 = true then (if IntKind.i64.wrap ((IntKind.i64.wrap (2 * x266)) + 1) < ((setL l263 x266 (nth l263 (IntKind.i64.wrap ((IntKind.i64.wrap (2 * x266)) + 1)))).length : Int) then some (.inl ((setL (setL l263 x266 (nth l263 (IntKind.i64.wrap ((IntKind.i64.wrap (2 * x266)) + 1)))) (IntKind.i64.wrap ((IntKind.i64.wrap (2 * x266)) + 1)) (nth l263 x266)), IntKind.i64.wrap ((IntKind.i64.wrap (2 * x266)) + 1))) else none) else some (.inr l263))) else none) else none)))
def heap_pile_api_Message_down.l2 (s : List api_Message × Int) : Option (List api_Message) := loopR (heap_pile_api_Message_down.l2b) s
def heap_pile_api_Message_down.f (a4 : List api_Message) (a5 : Int) : Option (List api_Message) := heap_pile_api_Message_down.l2 (a4, a5)
theorem heap_pile_api_Message_down.ok {a4 r : List api_Message} {a5 : Int} {b1 c3 : Nat} {A2 : Option Addr} (h : heap_pile_api_Message_down.f a4 a5 = some r) (hS : St B w (Cl b1 [sV A2 a4 c3, .func (.func 62) #[] #[]] 245 :: OSf E_api_Message 48 (sV A2 a4 c3) a4 :: l) hf) :
   Calls prog 203 #[pV b1, iV a5] w (Ret fun v w => ∃ (A_1 : Option Addr) (c_2 : Nat), v = .tuple #[] ∧ St B w (OSf E_api_Message 48 (sV A_1 r c_2) r :: Cl b1 [sV A_1 r c_2, .func (.func 62) #[] #[]] 245 :: l) hf) := by
 have h := Holds.of h
 refine en func203 rfl ntmps203 rfl (RC.block (fun a ha => lp h (fun (s : List api_Message × Int) a w => ∃ l263 x266, s = (l263, x266) ∧ ∃ A264 c265, Has 94 [(0, pV b1), (1, iV x266)] a ∧ St B w (OSf E_api_Message 48 (sV A264 l263 c265) l263 :: Cl b1 [sV A264 l263 c265, .func (.func 62) #[] #[]] 245 :: l) hf) ⟨_, _, rfl, _, _, ha.tE rfl, hS.p1⟩ ?_))
 rintro G331 _ a w ⟨l263, x266, rfl, A264, c265, ha, hS⟩ h
 refine ro ha (RC.block (sr (pn 4 rfl (ln (RC.seq (sr (rr [0, 0, 0, 0, 2, 0, 0] hS ?_)))))))
 refine it fun w hS => ln ?_
 refine RC.iteP 14 rfl h (fun hc333 h => ?_) fun hc333 h => ?_
 next =>
  refine jt (RC.ret (RQ.ret (RQ.inB_ret ?_)))
  have h := h.inrS
  refine RQ.ret (RQ.inB_ret ?_)
  obtain rfl := h.some
  exact rt results203 rfl ⟨A264, c265, rfl, hS⟩
 refine jfs (RC.seq (RC.seq (dr [0, 3, 6, 9, 12, 16, 18, 21, 24, 27, 30, 33, 37, 39, 42, 45, 49, 51, 54, 58, 61, 63, 66, 69, 73, 77, 80, 83, 86, 89] [28, 29] hS fun w hS => rq [0, 0, 0, 0, 0, 2, 0, 0, 0] hS ?_)))
 refine it ?_
 refine RP.iteP 23 rfl h (fun hc342 h => ?_) fun hc342 h => ?_
 next =>
  refine rq [0, 0, 0, 2, 0, 0, 0, 2, 0, 0] hS ?_
  refine it ?_
  obtain ⟨hq343, h⟩ := h.req
  refine RP.sg 0 19 rfl rfl hS (fun w hS => Vl.indexOwn 0 hS rfl underlying39 sizeOf48 rfl rfl hq343 hc342) rfl rfl (RP.sg 0 20 rfl rfl hS (fun w hS => Vl.loadA isAgg48 sizeOf48 rfl rfl ((hS.slW 0 rfl).2.2.cells hq343 hc342)) rfl rfl (rq [0, 0, 0, 2, 0] hS ?_))
  refine it ?_
  obtain ⟨⟨hq344, hq345⟩, h⟩ := h.req
  refine RP.v1 26 rfl (Vl.indexOwn 0 hS rfl underlying39 sizeOf48 rfl rfl hq344 hq345) rfl rfl (RP.v1 27 rfl (Vl.loadA isAgg48 sizeOf48 rfl rfl ((hS.slW 0 rfl).2.2.cells hq344 hq345)) rfl rfl ?_)
  obtain ⟨t346, hg347, h⟩ := h.bind
  have hc := event_Before.ok hg347 hS
  refine RP.e 28 rfl (OW.call (ls := [.tmp 35, .tmp 42]) rfl rfl call62 rfl hc) rfl rfl ?_
  rintro _ w ⟨rfl, hS⟩
  refine ⟨kp ⟨(by intro hx; cases hx), trivial⟩, ?_⟩
  refine rq [0] hS ?_
  refine it (RP.nil (RQ.then_n ?_))
  refine RC.iteB 44 rfl h (fun hc348 h => ?_) fun hc348 h => ?_
  next =>
   refine jt (RC.region (pn 3 rfl (ln (RC.seq (RC.seq (dr [0, 3, 6, 10, 12, 15, 18, 22, 24, 28, 31, 33, 36, 39, 43, 47, 50, 53, 56, 59] [18, 19] hS fun w hS => rq [0, 0, 0, 2, 0, 0, 0, 2, 0] hS ?_))))))
   refine it (RP.s 0 9 rfl rfl hS (fun w hS => Vl.indexOwn 0 hS rfl underlying39 sizeOf48 rfl rfl hq343 hc342) rfl (RP.s 0 10 rfl rfl hS (fun w hS => Vl.loadA isAgg48 sizeOf48 rfl rfl ((hS.slW 0 rfl).2.2.cells hq343 hc342)) rfl (rq [0, 0, 0, 2, 0] hS ?_)))
   refine it ?_
   obtain ⟨⟨hq354, hq355⟩, h⟩ := h.req
   refine RP.v1 16 rfl (Vl.indexOwn 0 hS rfl underlying39 sizeOf48 rfl rfl hq354 hq355) rfl rfl (RP.v1 17 rfl (Vl.loadA isAgg48 sizeOf48 rfl rfl ((hS.slW 0 rfl).2.2.cells hq354 hq355)) rfl rfl ?_)
   obtain ⟨t356, hg357, h⟩ := h.bind
   have hc := event_Before.ok hg357 hS
   refine RP.e 18 rfl (OW.call (ls := [.tmp 57, .tmp 64]) rfl rfl call62 rfl hc) rfl rfl ?_
   rintro _ w ⟨rfl, hS⟩
   refine ⟨kp ⟨(by intro hx; cases hx), trivial⟩, ?_⟩
   refine rq [0] hS ?_
   refine it (RP.nil (RQ.then_n ?_))
   refine RC.iteM 66 rfl h (fun hc358 h => ?_) fun hc358 h => ?_
   next =>
    refine jfs (RC.seq (dr [0, 3, 6, 10, 12, 15, 18, 21, 25, 27, 30, 33, 36, 40, 42, 46, 49, 51, 54, 57, 61, 65, 68, 71, 74, 77, 80, 83] [24, 25, 26, 27] hS fun w hS => rq [0, 0, 0, 2, 0, 0, 0, 0, 2, 0, 0, 0, 0, 2, 0] hS ?_))
    refine it (RP.s 0 15 rfl rfl hS (fun w hS => Vl.indexOwn 0 hS rfl underlying39 sizeOf48 rfl rfl hq343 hc342) rfl (RP.s 0 16 rfl rfl hS (fun w hS => Vl.loadA isAgg48 sizeOf48 rfl rfl ((hS.slW 0 rfl).2.2.cells hq343 hc342)) rfl (rq [0, 0, 0, 2, 0] hS ?_)))
    refine it (RP.v1 22 rfl (Vl.indexOwn 0 hS rfl underlying39 sizeOf48 rfl rfl hq354 hq355) rfl rfl (RP.v1 23 rfl (Vl.loadA isAgg48 sizeOf48 rfl rfl ((hS.slW 0 rfl).2.2.cells hq354 hq355)) rfl rfl (RP.v1 24 rfl (Vl.indexOwn 0 hS rfl underlying39 sizeOf48 rfl rfl hq354 hq355) rfl rfl (RP.e0 25 rfl (OW.storeOwn (E := E_api_Message) (off := 0) (j := x266) (x' := nth l263 (IntKind.i64.wrap ((IntKind.i64.wrap ((IntKind.i64.wrap (2 * x266)) + 1)) + 1))) (vs := (C_api_Message (nth l263 (IntKind.i64.wrap ((IntKind.i64.wrap ((IntKind.i64.wrap (2 * x266)) + 1)) + 1))))) 0 hS rfl rfl rfl rfl sizeOf48 rfl (Nat.succ_pos _) hq354 hq355 (Nat.le_of_ble_eq_true rfl) rfl rfl) rfl ?_))))
    rintro _ w ⟨rfl, hS⟩
    have he359 := (hS.osN 0 rfl).1
    have hS : St B w (_ :: _ :: l) hf := (congrArg (fun k_ : Nat => St B w (OSf E_api_Message 48 (.slice A264 k_ c265) (setL l263 x266 (nth l263 (IntKind.i64.wrap ((IntKind.i64.wrap ((IntKind.i64.wrap (2 * x266)) + 1)) + 1)))) :: Cl b1 [.slice A264 k_ c265, .func (.func 62) #[] #[]] 245 :: l) hf) he359).mp hS
    refine ⟨kp ⟨(by intro hx; cases hx), trivial⟩, ?_⟩
    refine RP.re 12 rfl (congrArg (fun k_ : Nat => (.slice A264 k_ c265 : Value)) he359) (RP.re 20 rfl (congrArg (fun k_ : Nat => (.slice A264 k_ c265 : Value)) he359) (RP.re 31 rfl (congrArg (fun k_ : Nat => (.slice A264 k_ c265 : Value)) he359) (RP.re 39 rfl (congrArg (fun k_ : Nat => (.slice A264 k_ c265 : Value)) he359) (RP.re 54 rfl (congrArg (fun k_ : Nat => (.slice A264 k_ c265 : Value)) he359) (RP.re 61 rfl (congrArg (fun k_ : Nat => (.slice A264 k_ c265 : Value)) he359) (RP.re 70 rfl (congrArg (fun k_ : Nat => (.slice A264 k_ c265 : Value)) he359) (RP.re 75 rfl (congrArg (fun k_ : Nat => (.slice A264 k_ c265 : Value)) he359) (RP.re 80 rfl (congrArg (fun k_ : Nat => (.slice A264 k_ c265 : Value)) he359) (RP.re 87 rfl (congrArg (fun k_ : Nat => (.slice A264 k_ c265 : Value)) he359) ?_)))))))))
    obtain ⟨hq360, h⟩ := h.req
    refine RP.v1 26 rfl (Vl.indexOwn 0 hS rfl underlying39 sizeOf48 rfl rfl hq343 hq360) rfl rfl (RP.e0 27 rfl (OW.storeOwn (E := E_api_Message) (off := 0) (j := IntKind.i64.wrap ((IntKind.i64.wrap ((IntKind.i64.wrap (2 * x266)) + 1)) + 1)) (x' := nth l263 x266) (vs := (C_api_Message (nth l263 x266))) 0 hS rfl rfl rfl rfl sizeOf48 rfl (Nat.succ_pos _) hq343 hq360 (Nat.le_of_ble_eq_true rfl) rfl rfl) rfl ?_)
    rintro _ w ⟨rfl, hS⟩
    have he361 := (hS.osN 0 rfl).1
    have hS : St B w (_ :: _ :: l) hf := (congrArg (fun k_ : Nat => St B w (OSf E_api_Message 48 (.slice A264 k_ c265) (setL (setL l263 x266 (nth l263 (IntKind.i64.wrap ((IntKind.i64.wrap ((IntKind.i64.wrap (2 * x266)) + 1)) + 1)))) (IntKind.i64.wrap ((IntKind.i64.wrap ((IntKind.i64.wrap (2 * x266)) + 1)) + 1)) (nth l263 x266)) :: Cl b1 [.slice A264 k_ c265, .func (.func 62) #[] #[]] 245 :: l) hf) he361).mp hS
    refine ⟨kp ⟨(by intro hx; cases hx), trivial⟩, ?_⟩
    refine RP.re 12 rfl (congrArg (fun k_ : Nat => (.slice A264 k_ c265 : Value)) he361) (RP.re 20 rfl (congrArg (fun k_ : Nat => (.slice A264 k_ c265 : Value)) he361) (RP.re 31 rfl (congrArg (fun k_ : Nat => (.slice A264 k_ c265 : Value)) he361) (RP.re 39 rfl (congrArg (fun k_ : Nat => (.slice A264 k_ c265 : Value)) he361) (RP.re 54 rfl (congrArg (fun k_ : Nat => (.slice A264 k_ c265 : Value)) he361) (RP.re 61 rfl (congrArg (fun k_ : Nat => (.slice A264 k_ c265 : Value)) he361) (RP.re 70 rfl (congrArg (fun k_ : Nat => (.slice A264 k_ c265 : Value)) he361) (RP.re 75 rfl (congrArg (fun k_ : Nat => (.slice A264 k_ c265 : Value)) he361) (RP.re 80 rfl (congrArg (fun k_ : Nat => (.slice A264 k_ c265 : Value)) he361) (RP.re 87 rfl (congrArg (fun k_ : Nat => (.slice A264 k_ c265 : Value)) he361) (RP.nil (RQ.then_n (RC.region (pn 2 rfl (RL.nil (RQ.inB_n ?_)))))))))))))))
    exact fun a ha => ⟨_, h.some, _, _, rfl, _, _, ha.tE rfl, hS⟩
   refine jt (RC.ret (RQ.ret (RQ.inB_ret ?_)))
   have h := h.inrS
   refine RQ.ret (RQ.inB_ret ?_)
   obtain rfl := h.some
   exact rt results203 rfl ⟨A264, c265, rfl, hS⟩
  refine jfs (RC.seq (RC.seq (dr [0, 3, 6, 10, 12, 15, 18, 22, 24, 28, 31, 33, 36, 39, 43, 47, 50, 53, 56, 59] [18, 19] hS fun w hS => rq [0, 0, 0, 2, 0, 0, 0, 2, 0] hS ?_)))
  refine it (RP.s 0 9 rfl rfl hS (fun w hS => Vl.indexOwn 0 hS rfl underlying39 sizeOf48 rfl rfl hq344 hq345) rfl (RP.s 0 10 rfl rfl hS (fun w hS => Vl.loadA isAgg48 sizeOf48 rfl rfl ((hS.slW 0 rfl).2.2.cells hq344 hq345)) rfl (rq [0, 0, 0, 2, 0] hS ?_)))
  refine it ?_
  obtain ⟨⟨hq367, hq368⟩, h⟩ := h.req
  refine RP.v1 16 rfl (Vl.indexOwn 0 hS rfl underlying39 sizeOf48 rfl rfl hq367 hq368) rfl rfl (RP.v1 17 rfl (Vl.loadA isAgg48 sizeOf48 rfl rfl ((hS.slW 0 rfl).2.2.cells hq367 hq368)) rfl rfl ?_)
  obtain ⟨t369, hg370, h⟩ := h.bind
  have hc := event_Before.ok hg370 hS
  refine RP.e 18 rfl (OW.call (ls := [.tmp 57, .tmp 64]) rfl rfl call62 rfl hc) rfl rfl ?_
  rintro _ w ⟨rfl, hS⟩
  refine ⟨kp ⟨(by intro hx; cases hx), trivial⟩, ?_⟩
  refine rq [0] hS ?_
  refine it (RP.nil (RQ.then_n ?_))
  refine RC.iteM 66 rfl h (fun hc371 h => ?_) fun hc371 h => ?_
  next =>
   refine jfs (RC.seq (dr [0, 3, 6, 10, 12, 15, 18, 21, 25, 27, 30, 33, 36, 40, 42, 46, 49, 51, 54, 57, 61, 65, 68, 71, 74, 77, 80, 83] [24, 25, 26, 27] hS fun w hS => rq [0, 0, 0, 2, 0, 0, 0, 0, 2, 0, 0, 0, 0, 2, 0] hS ?_))
   refine it (RP.s 0 15 rfl rfl hS (fun w hS => Vl.indexOwn 0 hS rfl underlying39 sizeOf48 rfl rfl hq344 hq345) rfl (RP.s 0 16 rfl rfl hS (fun w hS => Vl.loadA isAgg48 sizeOf48 rfl rfl ((hS.slW 0 rfl).2.2.cells hq344 hq345)) rfl (rq [0, 0, 0, 2, 0] hS ?_)))
   refine it (RP.v1 22 rfl (Vl.indexOwn 0 hS rfl underlying39 sizeOf48 rfl rfl hq367 hq368) rfl rfl (RP.v1 23 rfl (Vl.loadA isAgg48 sizeOf48 rfl rfl ((hS.slW 0 rfl).2.2.cells hq367 hq368)) rfl rfl (RP.v1 24 rfl (Vl.indexOwn 0 hS rfl underlying39 sizeOf48 rfl rfl hq367 hq368) rfl rfl (RP.e0 25 rfl (OW.storeOwn (E := E_api_Message) (off := 0) (j := x266) (x' := nth l263 (IntKind.i64.wrap ((IntKind.i64.wrap (2 * x266)) + 1))) (vs := (C_api_Message (nth l263 (IntKind.i64.wrap ((IntKind.i64.wrap (2 * x266)) + 1))))) 0 hS rfl rfl rfl rfl sizeOf48 rfl (Nat.succ_pos _) hq367 hq368 (Nat.le_of_ble_eq_true rfl) rfl rfl) rfl ?_))))
   rintro _ w ⟨rfl, hS⟩
   have he372 := (hS.osN 0 rfl).1
   have hS : St B w (_ :: _ :: l) hf := (congrArg (fun k_ : Nat => St B w (OSf E_api_Message 48 (.slice A264 k_ c265) (setL l263 x266 (nth l263 (IntKind.i64.wrap ((IntKind.i64.wrap (2 * x266)) + 1)))) :: Cl b1 [.slice A264 k_ c265, .func (.func 62) #[] #[]] 245 :: l) hf) he372).mp hS
   refine ⟨kp ⟨(by intro hx; cases hx), trivial⟩, ?_⟩
   refine RP.re 12 rfl (congrArg (fun k_ : Nat => (.slice A264 k_ c265 : Value)) he372) (RP.re 20 rfl (congrArg (fun k_ : Nat => (.slice A264 k_ c265 : Value)) he372) (RP.re 31 rfl (congrArg (fun k_ : Nat => (.slice A264 k_ c265 : Value)) he372) (RP.re 39 rfl (congrArg (fun k_ : Nat => (.slice A264 k_ c265 : Value)) he372) (RP.re 54 rfl (congrArg (fun k_ : Nat => (.slice A264 k_ c265 : Value)) he372) (RP.re 61 rfl (congrArg (fun k_ : Nat => (.slice A264 k_ c265 : Value)) he372) (RP.re 70 rfl (congrArg (fun k_ : Nat => (.slice A264 k_ c265 : Value)) he372) (RP.re 75 rfl (congrArg (fun k_ : Nat => (.slice A264 k_ c265 : Value)) he372) (RP.re 80 rfl (congrArg (fun k_ : Nat => (.slice A264 k_ c265 : Value)) he372) (RP.re 87 rfl (congrArg (fun k_ : Nat => (.slice A264 k_ c265 : Value)) he372) ?_)))))))))
   obtain ⟨hq373, h⟩ := h.req
   refine RP.v1 26 rfl (Vl.indexOwn 0 hS rfl underlying39 sizeOf48 rfl rfl hq344 hq373) rfl rfl (RP.e0 27 rfl (OW.storeOwn (E := E_api_Message) (off := 0) (j := IntKind.i64.wrap ((IntKind.i64.wrap (2 * x266)) + 1)) (x' := nth l263 x266) (vs := (C_api_Message (nth l263 x266))) 0 hS rfl rfl rfl rfl sizeOf48 rfl (Nat.succ_pos _) hq344 hq373 (Nat.le_of_ble_eq_true rfl) rfl rfl) rfl ?_)
   rintro _ w ⟨rfl, hS⟩
   have he374 := (hS.osN 0 rfl).1
   have hS : St B w (_ :: _ :: l) hf := (congrArg (fun k_ : Nat => St B w (OSf E_api_Message 48 (.slice A264 k_ c265) (setL (setL l263 x266 (nth l263 (IntKind.i64.wrap ((IntKind.i64.wrap (2 * x266)) + 1)))) (IntKind.i64.wrap ((IntKind.i64.wrap (2 * x266)) + 1)) (nth l263 x266)) :: Cl b1 [.slice A264 k_ c265, .func (.func 62) #[] #[]] 245 :: l) hf) he374).mp hS
   refine ⟨kp ⟨(by intro hx; cases hx), trivial⟩, ?_⟩
   refine RP.re 12 rfl (congrArg (fun k_ : Nat => (.slice A264 k_ c265 : Value)) he374) (RP.re 20 rfl (congrArg (fun k_ : Nat => (.slice A264 k_ c265 : Value)) he374) (RP.re 31 rfl (congrArg (fun k_ : Nat => (.slice A264 k_ c265 : Value)) he374) (RP.re 39 rfl (congrArg (fun k_ : Nat => (.slice A264 k_ c265 : Value)) he374) (RP.re 54 rfl (congrArg (fun k_ : Nat => (.slice A264 k_ c265 : Value)) he374) (RP.re 61 rfl (congrArg (fun k_ : Nat => (.slice A264 k_ c265 : Value)) he374) (RP.re 70 rfl (congrArg (fun k_ : Nat => (.slice A264 k_ c265 : Value)) he374) (RP.re 75 rfl (congrArg (fun k_ : Nat => (.slice A264 k_ c265 : Value)) he374) (RP.re 80 rfl (congrArg (fun k_ : Nat => (.slice A264 k_ c265 : Value)) he374) (RP.re 87 rfl (congrArg (fun k_ : Nat => (.slice A264 k_ c265 : Value)) he374) (RP.nil (RQ.then_n (RC.region (pn 2 rfl (RL.nil (RQ.inB_n ?_)))))))))))))))
   exact fun a ha => ⟨_, h.some, _, _, rfl, _, _, ha.tE rfl, hS⟩
  refine jt (RC.ret (RQ.ret (RQ.inB_ret ?_)))
  have h := h.inrS
  refine RQ.ret (RQ.inB_ret ?_)
  obtain rfl := h.some
  exact rt results203 rfl ⟨A264, c265, rfl, hS⟩
 refine rq [0, 0, 0, 0, 0, 0, 0, 0, 0, 0, 0, 0, 0, 0, 0, 0, 0, 0, 0, 0, 0] hS ?_
 refine it (RP.nil (RQ.then_n (jfs (RC.seq (RC.seq (dr [0, 3, 6, 10, 12, 15, 18, 22, 24, 28, 31, 33, 36, 39, 43, 47, 50, 53, 56, 59] [18, 19] hS fun w hS => rq [0, 0, 0, 2, 0, 0, 0, 2, 0] hS ?_))))))
 refine it ?_
 obtain ⟨⟨hq382, hq383⟩, h⟩ := h.req
 refine RP.s 0 9 rfl rfl hS (fun w hS => Vl.indexOwn 0 hS rfl underlying39 sizeOf48 rfl rfl hq382 hq383) rfl (RP.s 0 10 rfl rfl hS (fun w hS => Vl.loadA isAgg48 sizeOf48 rfl rfl ((hS.slW 0 rfl).2.2.cells hq382 hq383)) rfl (rq [0, 0, 0, 2, 0] hS ?_))
 refine it ?_
 obtain ⟨⟨hq384, hq385⟩, h⟩ := h.req
 refine RP.v1 16 rfl (Vl.indexOwn 0 hS rfl underlying39 sizeOf48 rfl rfl hq384 hq385) rfl rfl (RP.v1 17 rfl (Vl.loadA isAgg48 sizeOf48 rfl rfl ((hS.slW 0 rfl).2.2.cells hq384 hq385)) rfl rfl ?_)
 obtain ⟨t386, hg387, h⟩ := h.bind
 have hc := event_Before.ok hg387 hS
 refine RP.e 18 rfl (OW.call (ls := [.tmp 57, .tmp 64]) rfl rfl call62 rfl hc) rfl rfl ?_
 rintro _ w ⟨rfl, hS⟩
 refine ⟨kp ⟨(by intro hx; cases hx), trivial⟩, ?_⟩
 refine rq [0] hS ?_
 refine it (RP.nil (RQ.then_n ?_))
 refine RC.iteM 66 rfl h (fun hc388 h => ?_) fun hc388 h => ?_
 next =>
  refine jfs (RC.seq (dr [0, 3, 6, 10, 12, 15, 18, 21, 25, 27, 30, 33, 36, 40, 42, 46, 49, 51, 54, 57, 61, 65, 68, 71, 74, 77, 80, 83] [24, 25, 26, 27] hS fun w hS => rq [0, 0, 0, 2, 0, 0, 0, 0, 2, 0, 0, 0, 0, 2, 0] hS ?_))
  refine it (RP.s 0 15 rfl rfl hS (fun w hS => Vl.indexOwn 0 hS rfl underlying39 sizeOf48 rfl rfl hq382 hq383) rfl (RP.s 0 16 rfl rfl hS (fun w hS => Vl.loadA isAgg48 sizeOf48 rfl rfl ((hS.slW 0 rfl).2.2.cells hq382 hq383)) rfl (rq [0, 0, 0, 2, 0] hS ?_)))
  refine it (RP.v1 22 rfl (Vl.indexOwn 0 hS rfl underlying39 sizeOf48 rfl rfl hq384 hq385) rfl rfl (RP.v1 23 rfl (Vl.loadA isAgg48 sizeOf48 rfl rfl ((hS.slW 0 rfl).2.2.cells hq384 hq385)) rfl rfl (RP.v1 24 rfl (Vl.indexOwn 0 hS rfl underlying39 sizeOf48 rfl rfl hq384 hq385) rfl rfl (RP.e0 25 rfl (OW.storeOwn (E := E_api_Message) (off := 0) (j := x266) (x' := nth l263 (IntKind.i64.wrap ((IntKind.i64.wrap (2 * x266)) + 1))) (vs := (C_api_Message (nth l263 (IntKind.i64.wrap ((IntKind.i64.wrap (2 * x266)) + 1))))) 0 hS rfl rfl rfl rfl sizeOf48 rfl (Nat.succ_pos _) hq384 hq385 (Nat.le_of_ble_eq_true rfl) rfl rfl) rfl ?_))))
  rintro _ w ⟨rfl, hS⟩
  have he389 := (hS.osN 0 rfl).1
  have hS : St B w (_ :: _ :: l) hf := (congrArg (fun k_ : Nat => St B w (OSf E_api_Message 48 (.slice A264 k_ c265) (setL l263 x266 (nth l263 (IntKind.i64.wrap ((IntKind.i64.wrap (2 * x266)) + 1)))) :: Cl b1 [.slice A264 k_ c265, .func (.func 62) #[] #[]] 245 :: l) hf) he389).mp hS
  refine ⟨kp ⟨(by intro hx; cases hx), trivial⟩, ?_⟩
  refine RP.re 12 rfl (congrArg (fun k_ : Nat => (.slice A264 k_ c265 : Value)) he389) (RP.re 20 rfl (congrArg (fun k_ : Nat => (.slice A264 k_ c265 : Value)) he389) (RP.re 54 rfl (congrArg (fun k_ : Nat => (.slice A264 k_ c265 : Value)) he389) (RP.re 61 rfl (congrArg (fun k_ : Nat => (.slice A264 k_ c265 : Value)) he389) (RP.re 70 rfl (congrArg (fun k_ : Nat => (.slice A264 k_ c265 : Value)) he389) (RP.re 75 rfl (congrArg (fun k_ : Nat => (.slice A264 k_ c265 : Value)) he389) (RP.re 80 rfl (congrArg (fun k_ : Nat => (.slice A264 k_ c265 : Value)) he389) (RP.re 87 rfl (congrArg (fun k_ : Nat => (.slice A264 k_ c265 : Value)) he389) ?_)))))))
  obtain ⟨hq390, h⟩ := h.req
  refine RP.v1 26 rfl (Vl.indexOwn 0 hS rfl underlying39 sizeOf48 rfl rfl hq382 hq390) rfl rfl (RP.e0 27 rfl (OW.storeOwn (E := E_api_Message) (off := 0) (j := IntKind.i64.wrap ((IntKind.i64.wrap (2 * x266)) + 1)) (x' := nth l263 x266) (vs := (C_api_Message (nth l263 x266))) 0 hS rfl rfl rfl rfl sizeOf48 rfl (Nat.succ_pos _) hq382 hq390 (Nat.le_of_ble_eq_true rfl) rfl rfl) rfl ?_)
  rintro _ w ⟨rfl, hS⟩
  have he391 := (hS.osN 0 rfl).1
  have hS : St B w (_ :: _ :: l) hf := (congrArg (fun k_ : Nat => St B w (OSf E_api_Message 48 (.slice A264 k_ c265) (setL (setL l263 x266 (nth l263 (IntKind.i64.wrap ((IntKind.i64.wrap (2 * x266)) + 1)))) (IntKind.i64.wrap ((IntKind.i64.wrap (2 * x266)) + 1)) (nth l263 x266)) :: Cl b1 [.slice A264 k_ c265, .func (.func 62) #[] #[]] 245 :: l) hf) he391).mp hS
  refine ⟨kp ⟨(by intro hx; cases hx), trivial⟩, ?_⟩
  refine RP.re 12 rfl (congrArg (fun k_ : Nat => (.slice A264 k_ c265 : Value)) he391) (RP.re 20 rfl (congrArg (fun k_ : Nat => (.slice A264 k_ c265 : Value)) he391) (RP.re 54 rfl (congrArg (fun k_ : Nat => (.slice A264 k_ c265 : Value)) he391) (RP.re 61 rfl (congrArg (fun k_ : Nat => (.slice A264 k_ c265 : Value)) he391) (RP.re 70 rfl (congrArg (fun k_ : Nat => (.slice A264 k_ c265 : Value)) he391) (RP.re 75 rfl (congrArg (fun k_ : Nat => (.slice A264 k_ c265 : Value)) he391) (RP.re 80 rfl (congrArg (fun k_ : Nat => (.slice A264 k_ c265 : Value)) he391) (RP.re 87 rfl (congrArg (fun k_ : Nat => (.slice A264 k_ c265 : Value)) he391) (RP.nil (RQ.then_n (RC.region (pn 2 rfl (RL.nil (RQ.inB_n ?_)))))))))))))
  exact fun a ha => ⟨_, h.some, _, _, rfl, _, _, ha.tE rfl, hS⟩
 refine jt (RC.ret (RQ.ret (RQ.inB_ret ?_)))
 have h := h.inrS
 refine RQ.ret (RQ.inB_ret ?_)
 obtain rfl := h.some
 exact rt results203 rfl ⟨A264, c265, rfl, hS⟩
def heap_pile_api_Message_cut.j2 (a4 : List api_Message) (a5 : Int) (l68 : List api_Message) : Option (api_Message × List api_Message) := some (nth a4 a5, l68)
def heap_pile_api_Message_cut.f (a4 : List api_Message) (a5 : Int) : Option (api_Message × List api_Message) := (if 0 ≤ a5 ∧ a5 < (a4.length : Int) then (if 0 ≤ IntKind.i64.wrap ((a4.length : Int) - 1) ∧ IntKind.i64.wrap ((a4.length : Int) - 1) < (a4.length : Int) then (if IntKind.i64.wrap ((a4.length : Int) - 1) ≤ ((setL a4 a5 (nth a4 (IntKind.i64.wrap ((a4.length : Int) - 1)))).length : Int) then (if a5 < IntKind.i64.wrap ((a4.length : Int) - 1) then ((heap_pile_api_Message_down.f (subL (setL a4 a5 (nth a4 (IntKind.i64.wrap ((a4.length : Int) - 1)))) 0 (IntKind.i64.wrap ((a4.length : Int) - 1))) a5).bind fun t72 => ((heap_pile_api_Message_up.f t72 a5).bind fun t76 => heap_pile_api_Message_cut.j2 a4 a5 t76)) else heap_pile_api_Message_cut.j2 a4 a5 (subL (setL a4 a5 (nth a4 (IntKind.i64.wrap ((a4.length : Int) - 1)))) 0 (IntKind.i64.wrap ((a4.length : Int) - 1)))) else none) else none) else none)
theorem heap_pile_api_Message_cut.ok {a4 : List api_Message} {a5 : Int} {b1 c3 : Nat} {A2 : Option Addr} {r : api_Message × List api_Message} (h : heap_pile_api_Message_cut.f a4 a5 = some r) (hS : St B w (Cl b1 [sV A2 a4 c3, .func (.func 62) #[] #[]] 245 :: OSf E_api_Message 48 (sV A2 a4 c3) a4 :: l) hf) :
   Calls prog 200 #[pV b1, iV a5] w (Ret fun v w => ∃ (A_1 : Option Addr) (c_2 : Nat), v = .agg (C_api_Message r.1).toArray ∧ St B w (OSf E_api_Message 48 (sV A_1 r.2 c_2) r.2 :: Cl b1 [sV A_1 r.2 c_2, .func (.func 62) #[] #[]] 245 :: l) hf) := by
 have h := Holds.of h
 refine en func200 rfl ntmps200 rfl (sr (rr [0] hS ?_))
 refine fun b44 => it fun w hS => ln (RC.seq (dr [0, 3, 6, 10, 12, 16, 19, 21, 24, 27, 31, 33, 36, 41, 44, 47] [15] hS fun w hS => rq [0, 0, 0, 2, 0] hS ?_))
 refine it ?_
 obtain ⟨⟨hq48, hq49⟩, h⟩ := h.req
 refine RP.s 0 5 rfl rfl hS (fun w hS => Vl.indexOwn 2 hS rfl underlying39 sizeOf48 rfl rfl hq48 hq49) rfl (RP.s 0 6 rfl rfl hS (fun w hS => Vl.loadA isAgg48 sizeOf48 rfl rfl ((hS.slW 2 rfl).2.2.cells hq48 hq49)) rfl (rq [0, 0, 0, 2, 0, 0] hS ?_))
 refine it (RP.e 13 rfl (OW.alloc (cs := [iV 0, iV 0, iV 0, iV 0, iV 0, iV 0, .bool false]) hS zeroValue48 rfl) rfl rfl ?_)
 rintro _ w ⟨b50, rfl, hS⟩
 refine ⟨kp ⟨fun _ => hS.d0, trivial⟩, ?_⟩
 refine RP.e0 14 rfl (OW.store (vs := (C_api_Message (nth a4 a5))) 0 hS rfl rfl rfl rfl sizeOf48 rfl rfl rfl rfl) rfl ?_
 rintro _ w ⟨rfl, hS⟩
 have hS : St B w (Cl _ [_, _, _, _, _, _, _] _ :: _ :: _ :: _ :: l) hf := hS
 refine ⟨kp ⟨fun _ => hS.d0, trivial⟩, ?_⟩
 refine rq [0] hS.d0 ?_
 refine it (RP.nil (RQ.then_n (RC.seq (dr [0, 3, 6, 10, 12, 15, 18, 21, 25, 29, 32, 35, 38, 41] [12, 13] hS fun w hS => rq [0, 0, 0, 3, 0, 0, 0, 0, 3, 0] hS ?_))))
 refine it ?_
 obtain ⟨⟨hq54, hq55⟩, h⟩ := h.req
 refine RP.v1 10 rfl (Vl.indexOwn 3 hS rfl underlying39 sizeOf48 rfl rfl hq54 hq55) rfl rfl (RP.v1 11 rfl (Vl.loadA isAgg48 sizeOf48 rfl rfl ((hS.slW 3 rfl).2.2.cells hq54 hq55)) rfl rfl (RP.v1 12 rfl (Vl.indexOwn 3 hS rfl underlying39 sizeOf48 rfl rfl hq48 hq49) rfl rfl (RP.e0 13 rfl (OW.storeOwn (E := E_api_Message) (off := 0) (j := a5) (x' := nth a4 (IntKind.i64.wrap ((a4.length : Int) - 1))) (vs := (C_api_Message (nth a4 (IntKind.i64.wrap ((a4.length : Int) - 1))))) 3 hS rfl rfl rfl rfl sizeOf48 rfl (Nat.succ_pos _) hq48 hq49 (Nat.le_of_ble_eq_true rfl) rfl rfl) rfl ?_)))
 rintro _ w ⟨rfl, hS⟩
 have he56 := (hS.osN 3 rfl).1
 have hS : St B w (_ :: _ :: _ :: _ :: l) hf := (congrArg (fun k_ : Nat => St B w (Cl b50 (C_api_Message (nth a4 a5)) 48 :: Cl b44 [iV 0, iV 0, iV 0, iV 0, iV 0, iV 0, .bool false] 48 :: Cl b1 [.slice A2 k_ c3, .func (.func 62) #[] #[]] 245 :: OSf E_api_Message 48 (.slice A2 k_ c3) (setL a4 a5 (nth a4 (IntKind.i64.wrap ((a4.length : Int) - 1)))) :: l) hf) he56).mp hS
 refine ⟨kp ⟨(by intro hx; cases hx), trivial⟩, ?_⟩
 refine RP.re 10 rfl (congrArg (fun k_ : Nat => (.slice A2 k_ c3 : Value)) he56) (RP.re 17 rfl (congrArg (fun k_ : Nat => (.slice A2 k_ c3 : Value)) he56) (RP.re 23 rfl (congrArg (fun k_ : Nat => (.slice A2 k_ c3 : Value)) he56) (RP.re 28 rfl (congrArg (fun k_ : Nat => (.slice A2 k_ c3 : Value)) he56) (RP.nil (tsr (rr [0, 0, 0, 0, 3, 0] hS ?_))))))
 refine it fun w hS => ?_
 obtain ⟨hq58, h⟩ := h.req
 refine RL.s (Vl.sliceHO (xs := (setL a4 a5 (nth a4 (IntKind.i64.wrap ((a4.length : Int) - 1))))) 3 hS rfl underlying39 sizeOf48 rfl rfl  hq54 hq58) rfl (r0 2 rfl ?_)
 have hS : St B w (_ :: _ :: _ :: _ :: l) hf := hS.part0 3 rfl hq54 hq58 rfl
 refine rr [3] hS ?_
 refine it fun w hS => ln ?_
 refine RC.join (fun (s : List api_Message) a w => ∃ l68, s = (l68) ∧ Holds (· = r) (heap_pile_api_Message_cut.j2 a4 a5 l68) ∧ ∃ A69 c70, Has 52 [(4, pV b44), (5, pV b50)] a ∧ St B w (OSf E_api_Message 48 (sV A69 l68 c70) l68 :: Cl b1 [sV A69 l68 c70, .func (.func 62) #[] #[]] 245 :: Cl b50 (C_api_Message (nth a4 a5)) 48 :: Cl b44 [iV 0, iV 0, iV 0, iV 0, iV 0, iV 0, .bool false] 48 :: l) hf) ?_ ?_
 · rintro l68 a w ⟨_, rfl, h, A69, c70, ha, hS⟩
   refine ro ha (sr (rr [3, 4] hS ?_))
   refine it fun w hS => lr ?_
   cases h.some
   refine rz [3] results200 hS ?_
   exact it ⟨A69, c70, rfl, hS.d2.d2⟩
 refine sr (pn 3 rfl (ln ?_))
 refine RC.iteP 44 rfl h (fun hc71 h => ?_) fun hc71 h => ?_
 next =>
  refine jtr (pn 2 rfl (cF (fun _ hg => heap_pile_api_Message_down.ok hg hS.p3.p3) call203 h rfl rfl rfl ?_))
  rintro t72 h _ w ⟨A74, c75, rfl, hS⟩
  refine ln (RC.region (pn 2 rfl (cF (fun _ hg => heap_pile_api_Message_up.ok hg hS.p1) call204 h rfl rfl rfl ?_)))
  rintro t76 h _ w ⟨A78, c79, rfl, hS⟩
  refine RL.nil ?_
  exact fun a ha => ⟨_, _, rfl, h, _, _, ha.tE rfl, hS⟩
 refine jf (RC.skip ?_)
 exact fun a ha => ⟨_, _, rfl, h, _, _, ha.tE rfl, hS.p2.p3⟩
def heap_Heap_Cut.f (a2 : heap_Heap) (a3 a4 : Int) : Option (api_Message × Int × heap_Heap) := ((heap_Heap_none.f a2).bind fun _ => ((heap_Heap_find.f a2 a3 a4).bind fun t33 => (if t33 < 0 then some ((⟨(⟨0, 0, 0⟩ : api_Key), 0, 0, 0, false⟩ : api_Message), 6, a2) else ((heap_pile_api_Message_cut.f a2.p_l t33).bind fun (y41, y42) => some (y41, 0, (⟨y42⟩ : heap_Heap))))))
theorem heap_Heap_Cut.ok {a2 : heap_Heap} {a3 a4 : Int} {b1 : Nat} {r : api_Message × Int × heap_Heap} (h : heap_Heap_Cut.f a2 a3 a4 = some r) (hS : St B w (O_heap_Heap hf a2 b1 :: l) hf) :
   Calls prog 193 #[pV b1, iV a3, iV a4] w (Ret fun v w => v = .tuple #[.agg (C_api_Message r.1).toArray, iV r.2.1] ∧ St B w (O_heap_Heap hf r.2.2 b1 :: l) hf) := by
 have h := Holds.of h
 refine en func193 rfl ntmps193 rfl (sr (rr [0, 0] hS ?_))
 refine fun b26 => it fun w hS => ln (RC.seq (sr (pn 1 rfl (cF (fun _ hg => heap_Heap_none.ok hg hS.p1) call198 h rfl rfl rfl ?_))))
 rintro _ h _ w ⟨rfl, hS⟩
 refine ln (jfs (sr (pn 3 rfl (cF (fun _ hg => heap_Heap_find.ok hg hS) call199 h rfl rfl rfl ?_))))
 rintro t33 h _ w ⟨rfl, hS⟩
 refine pn 1 rfl (ln (RC.seq (sr (pn 2 rfl (ln ?_)))))
 refine RC.iteP 17 rfl h (fun hc36 h => ?_) fun hc36 h => ?_
 next =>
  refine jtr (rr [0, 2, 0] hS ?_)
  refine it fun w hS => lr (RQ.ret ?_)
  cases h.some
  refine rz [1] results193 hS ?_
  exact it ⟨rfl, hS.d1⟩
 refine jfs (sr (r0 4 rfl ?_))
 obtain ⟨A37, c38, hS⟩ := O_heap_Heap.o hS
 refine cF (fun _ hg => heap_pile_api_Message_cut.ok hg hS) call200 h rfl rfl rfl ?_
 rintro ⟨y41, y42⟩ h _ w ⟨A43, c44, rfl, hS⟩
 refine rr [3, 0] hS ?_
 refine it fun w hS => lr ?_
 have hS := O_heap_Heap.c (x := (⟨y42⟩ : heap_Heap)) hS.p1
 cases h.some
 refine rz [1] results193 hS ?_
 exact it ⟨rfl, hS.d1⟩
def pend_Pend_Cut.f (a2 : pend_Pend) (a3 a4 : Int) : Option (api_Message × Int × pend_Pend) := ((pend_Pend_none.f a2).bind fun _ => ((heap_Heap_Cut.f a2.q a3 a4).bind fun (y26, y27, y28) => some (y26, y27, (⟨y28⟩ : pend_Pend))))
theorem pend_Pend_Cut.ok {a2 : pend_Pend} {a3 a4 : Int} {b1 : Nat} {r : api_Message × Int × pend_Pend} (h : pend_Pend_Cut.f a2 a3 a4 = some r) (hS : St B w (O_pend_Pend hf a2 b1 :: l) hf) :
   Calls prog 101 #[pV b1, iV a3, iV a4] w (Ret fun v w => v = .tuple #[.agg (C_api_Message r.1).toArray, iV r.2.1] ∧ St B w (O_pend_Pend hf r.2.2 b1 :: l) hf) := by
 have h := Holds.of h
 refine en func101 rfl ntmps101 rfl (sr (rr [0, 0] hS ?_))
 refine fun b18 => it fun w hS => ln (RC.seq (sr (pn 1 rfl (cF (fun _ hg => pend_Pend_none.ok hg hS.p1) call93 h rfl rfl rfl ?_))))
 rintro _ h _ w ⟨rfl, hS⟩
 refine ln (jfs (sr (r0 3 rfl ?_)))
 obtain ⟨b23, hS⟩ := O_pend_Pend.o hS
 refine rr [1, 0, 0] hS ?_
 refine it fun w hS => ?_
 obtain ⟨t24, hg25, h⟩ := h.bind
 have hc := heap_Heap_Cut.ok hg25 hS.p1
 obtain ⟨y26, y27, y28⟩ := t24
 refine RL.e (OW.invoke (F := 193) (u' := pV b23) (ls := [.tmp 15, .tmp 16]) rfl rfl (fun w => by kernel_rfl) call193 rfl hc) rfl rfl ?_
 rintro _ w ⟨rfl, hS⟩
 refine rr [0, 0, 3, 0] hS ?_
 refine it fun w hS => lr ?_
 have hS := O_pend_Pend.c (x := (⟨y28⟩ : pend_Pend)) hS.p1
 cases h.some
 refine rz [1] results101 hS ?_
 exact it ⟨rfl, hS.d1⟩
def lane_Lane_release.j4 (a2 : lane_Lane) (a3 : api_Message) (y206 : pend_Pend) (y208 : api_Message) (x209 : Int) : Option (Bool × lane_Lane) := ((lane_of.f a3).bind fun t210 => some ((decide (x209 = 0)), ({ a2 with wait := y206, held := (mdel a2.held t210) } : lane_Lane)))
def lane_Lane_release.f (a2 : lane_Lane) (a3 : api_Message) : Option (Bool × lane_Lane) := ((pend_Pend_Cut.f a2.wait a3.Key.From a3.Uid).bind fun (y214, y215, y216) => lane_Lane_release.j4 a2 a3 y216 y214 y215)
theorem lane_Lane_release.ok {a2 : lane_Lane} {a3 : api_Message} {b1 : Nat} {r : Bool × lane_Lane} (h : lane_Lane_release.f a2 a3 = some r) (hS : St B w (O_lane_Lane hf a2 b1 :: l) hf) :
   Calls prog 54 #[pV b1, .agg (C_api_Message a3).toArray] w (Ret fun v w => v = .bool r.1 ∧ St B w (O_lane_Lane hf r.2 b1 :: l) hf) := by
 have h := Holds.of h
 refine en func54 rfl ntmps54 rfl (sr (rr [0, 0] hS ?_))
 refine fun b115 => it fun w hS => ln (RC.seq ?_)
 obtain ⟨A169, c170, A172, c173, A175, c176, A178, c179, b181, b182, A183, c184, A185, c186, b187, b188, hr171, hr174, hr177, hr180, hS⟩ := O_lane_Lane.o hS.p1
 refine RC.planS (.pure 0 (.pure 1 (.pure 2 (.early 3 0 (.pure 4 (.pure 5 (.early 6 0 (.pure 7 (.early 8 0 (.fork 9 13 (.pure 10 (.pure 11 (.pure 12 (.last 13 (.last 14 (.last 15 .nil)))))) (.last 9 (.pure 10 (.pure 11 (.pure 12 (.last 14 (.last 15 .nil)))))))))))))))) [14, 15] hS (fun w hS => hS.d2) follows rfl (by kernel_rfl) (NoTmp.then NoTmp.body) fun w hS => rq [0, 0, 0, 1, 0, 0, 7, 0, 7] hS.d2 ?_
 refine it ?_
 refine RP.fj (fun (s : pend_Pend × api_Message × Int) env w => ∃ y206 y208 x209, s = (y206, y208, x209) ∧ Holds (· = r) (lane_Lane_release.j4 a2 a3 y206 y208 x209) ∧ ∃ b207, Ev env [(0, pV b1), (3, pV b115), (5, pV b207), (18, .agg (C_api_Message y208).toArray), (19, iV x209)] ∧ St B w (OSf E_lane_open 116 (sV A183 a2.open_ c184) a2.open_ :: OSf E_api_Message 48 (sV A185 a2.orphans c186) a2.orphans :: O_pend_Pend hf y206 b182 :: Cl b1 (C_lane_Lane a2 A169 c170 A172 c173 A175 c176 A178 c179 b181 b182 A183 c184 A185 c186 b187 b188) 61 :: O_log_Log hf a2.log b181 :: MapF kv_lane_sending (Value.int .i64) b187 a2.early :: MapF kv_lane_sending Value.bool b188 a2.held :: Cl b115 (C_api_Message a3) 48 :: Cl b207 [iV 0, iV 0, iV 0, iV 0, iV 0, iV 0, .bool false] 48 :: l) hf) (.last 14 (.last 15 .nil)) ?_ fun hk => ?_
 · rintro _ env w ⟨y206, y208, x209, rfl, h, b207, ha, hS⟩
   refine RP.to ha (RP.e0 14 rfl (OW.store (vs := (C_api_Message y208)) 8 hS rfl rfl rfl rfl sizeOf48 rfl rfl rfl rfl) rfl ?_)
   rintro _ w ⟨rfl, hS⟩
   have hS : St B w (_ :: _ :: _ :: _ :: _ :: _ :: _ :: _ :: Cl _ [_, _, _, _, _, _, _] _ :: l) hf := hS
   refine ⟨kp ⟨(by intro hx; cases hx), trivial⟩, ?_⟩
   refine rq [0] hS.d2.d7.p3.p3 ?_
   refine it (RP.nil (RQ.then_n (RC.seq (dr [0, 3, 6, 10, 14, 17, 20] [6] hS fun w hS => rq [0, 0, 0, 4, 8] hS ?_))))
   refine it ?_
   obtain ⟨t210, hg211, h⟩ := h.bind
   have hc := lane_of.ok hg211 hS
   refine RP.e 5 rfl (OW.callF (ls := [.tmp 24]) rfl call56 hc) rfl rfl ?_
   rintro _ w ⟨rfl, hS⟩
   refine ⟨kp ⟨fun _ => hS, trivial⟩, ?_⟩
   refine RP.e0 6 rfl (OW.mapDelF (k := t210) 6 hS rfl keyok_lane_sending underlying55 rfl rfl rfl) rfl ?_
   rintro _ w ⟨rfl, hS⟩
   have hS : St B w (_ :: _ :: _ :: _ :: _ :: _ :: _ :: _ :: _ :: l) hf := hS
   refine ⟨kp ⟨(by intro hx; cases hx), trivial⟩, ?_⟩
   refine RP.nil (tsr (pn 3 rfl (lr ?_)))
   have hS := O_lane_Lane.c (x := ({ a2 with wait := y206, held := (mdel a2.held t210) } : lane_Lane)) hr171 hr174 hr177 hr180 hS.p6.p3.p3.p4.p6.p6
   cases h.some
   exact rt results54 rfl ⟨rfl, hS.d1.d1⟩
 refine RP.fork ?_ ?_
 · obtain ⟨t212, hg213, h⟩ := h.bind
   have hc := pend_Pend_Cut.ok hg213 hS.p2
   obtain ⟨y214, y215, y216⟩ := t212
   refine RPW.e 9 rfl (OW.callF (ls := [.tmp 11, .tmp 14, .tmp 16]) rfl call101 hc) rfl rfl ?_
   rintro _ w ⟨rfl, hS⟩
   refine ⟨kp ⟨fun _ => hS.d0, trivial⟩, ?_⟩
   refine pp 3 rfl (RP.e 13 rfl (OW.alloc (cs := [iV 0, iV 0, iV 0, iV 0, iV 0, iV 0, .bool false]) hS zeroValue48 rfl) rfl rfl ?_)
   rintro _ w ⟨b217, rfl, hS⟩
   refine ⟨kp ⟨fun _ => hS.d0.d0, trivial⟩, ?_⟩
   exact hk _ _ _ ⟨_, _, _, rfl, h, _, ⟨rfl, rfl, rfl, rfl, rfl, trivial⟩, hS.p8.p8.p8.p6.p6.p6.p8.p8⟩
 · refine RPW.e 13 rfl (OW.alloc (cs := [iV 0, iV 0, iV 0, iV 0, iV 0, iV 0, .bool false]) hS zeroValue48 rfl) rfl rfl ?_
   rintro _ w ⟨b218, rfl, hS⟩
   refine ⟨kp ⟨fun _ => hS.d0.d2, trivial⟩, ?_⟩
   obtain ⟨t219, hg220, h⟩ := h.bind
   have hc := pend_Pend_Cut.ok hg220 hS.p3
   obtain ⟨y221, y222, y223⟩ := t219
   refine RP.e 9 rfl (OW.callF (ls := [.tmp 11, .tmp 14, .tmp 16]) rfl call101 hc) rfl rfl ?_
   rintro _ w ⟨rfl, hS⟩
   refine ⟨kp ⟨fun _ => hS.d0.d0, trivial⟩, ?_⟩
   refine pp 3 rfl ?_
   exact hk _ _ _ ⟨_, _, _, rfl, h, _, ⟨rfl, rfl, rfl, rfl, rfl, trivial⟩, hS.p8.p8.p8.p6.p6.p5.p8.p8⟩
def lane_Lane_policy.f (a2 : lane_Lane) : Option ((Unit) ⊕ (Unit)) := (if a2.setting.Cancel = 1 then some (.inl ()) else some (.inr (())))
theorem lane_Lane_policy.ok {a2 : lane_Lane} {b1 : Nat} {r : (Unit) ⊕ (Unit)} (h : lane_Lane_policy.f a2 = some r) (hS : St B w (O_lane_Lane hf a2 b1 :: l) hf) :
   Calls prog 102 #[pV b1] w (Ret fun v w => match (generalizing := false) r with | .inl r_ => v = .iface 237 (.agg #[]) ∧ St B w (O_lane_Lane hf a2 b1 :: l) hf | .inr (r_) => v = .iface 238 (.agg #[]) ∧ St B w (O_lane_Lane hf a2 b1 :: l) hf) := by
 have h := Holds.of h
 refine en func102 rfl ntmps102 rfl (sr (pn 1 rfl (ln (RC.seq (sr (r0 4 rfl ?_))))))
 obtain ⟨A66, c67, A69, c70, A72, c73, A75, c76, b78, b79, A80, c81, A82, c83, b84, b85, hr68, hr71, hr74, hr77, hS⟩ := O_lane_Lane.o hS
 refine rr [1, 0] hS ?_
 refine it fun w hS => ln ?_
 refine RC.iteP 8 rfl h (fun hc86 h => ?_) fun hc86 h => ?_
 next =>
  refine jtr (RL.s (Vl.build (v := .agg #[]) (parts := []) rfl (by kernel_rfl)) rfl (r0 2 rfl (lr (RQ.ret ?_))))
  have hS := O_lane_Lane.c (x := a2) hr68 hr71 hr74 hr77 hS
  cases h.some
  exact rt results102 rfl ⟨rfl, hS⟩
 refine jfs (sr (RL.s (Vl.build (v := .agg #[]) (parts := []) rfl (by kernel_rfl)) rfl (r0 2 rfl (lr ?_))))
 have hS := O_lane_Lane.c (x := a2) hr68 hr71 hr74 hr77 hS
 cases h.some
 exact rt results102 rfl ⟨rfl, hS⟩
def log_Log_states.f (a2 : log_Log) (a3 : Int) : Option (Int) := some a3
theorem log_Log_states.ok {a2 : log_Log} {a3 r : Int} {b1 : Nat} (h : log_Log_states.f a2 a3 = some r) (hS : St B w (O_log_Log hf a2 b1 :: l) hf) :
   Calls prog 95 #[pV b1, iV a3] w (Ret fun v w => ∃ (b_1 : Nat) (b_2 : Nat), v = .func (.func 121) #[] #[pV b_1, pV b_2] ∧ St B w (Cl b_1 [iV r] 3 :: Cl b_2 [pV b1] 51 :: O_log_Log hf a2 b1 :: l) hf) := by
 have h := Holds.of h
 refine en func95 rfl ntmps95 rfl (sr (rr [0, 0, 0] hS ?_))
 refine fun b6 b7 => it fun w hS => lnsr (RL.s (Vl.makeFunc (fi := []) (ca := [.tmp 3, .tmp 2]) rfl rfl) rfl (pn 1 rfl (lr ?_)))
 obtain rfl := h.some
 exact rt results95 rfl ⟨b7, b6, rfl, hS⟩
def log_done_entry.f (a1 : log_done) (a7 : api_State) : Option (api_Entry) := (if (([] : List api_Message).length + a1.sent.length) * 56 ≤ 140737488355328 then some (⟨a1.event, a7, a1.fault, (([] : List api_Message) ++ a1.sent)⟩ : api_Entry) else none)
theorem log_done_entry.ok {a1 : log_done} {a7 : api_State} {A2 : Option Addr} {c3 b5 : Nat} (hr4 : SlR E_api_Message.rep hf A2 c3 a1.sent) (hr6 : PtR E_api_State hf b5 70 a1.ahead) {r : api_Entry} (h : log_done_entry.f a1 a7 = some r) (hS : St B w (l) hf) :
   Calls prog 96 #[.agg (C_log_done a1 A2 c3 b5).toArray, .agg (C_api_State a7).toArray] w (Ret fun v w => ∃ (A_1 : Option Addr) (c_2 : Nat), v = .agg (C_api_Entry r A_1 c_2).toArray ∧ St B w (OSf E_api_Message 48 (sV A_1 r.Sent c_2) r.Sent :: l) hf) := by
 have h := Holds.of h
 refine en func96 rfl ntmps96 rfl (sr (rr [0, 0, 0] hS ?_))
 refine fun b15 b16 b17 => it fun w hS => ln (RC.seq (dr [0, 4, 7, 9, 13, 17, 20, 23, 26, 29] [8, 9] hS fun w hS => rq [0, 3, 2, 0, 3, 0, 3] hS ?_))
 refine it ?_
 obtain ⟨hq18, h⟩ := h.req
 have hS := hS.nilSl E_api_Message 48
 refine RP.e 7 rfl (OW.appendV (E := E_api_Message) (xs := ([] : List api_Message)) (ys := a1.sent) 0 hS rfl underlying39 type48 rfl rfl rfl rfl (by decide) (by decide) rfl rfl (hr4.2.world hS.sub) hq18 rfl) rfl rfl ?_
 rintro v21 w hS
 obtain ⟨A19, c20, rfl, _⟩ := hS.osShape 0 rfl
 have hS : St B w (_ :: _ :: _ :: _ :: l) hf := hS
 refine ⟨kp ⟨fun _ => hS.d0, trivial⟩, ?_⟩
 refine rq [0] hS.d0 ?_
 refine it (RP.e0 9 rfl (OW.store (vs := [iV a1.event.Key.Time, iV a1.event.Key.From, iV a1.event.Key.Seq, iV a1.event.To, iV a1.event.Value, iV a1.event.Uid, .bool a1.event.Anti, iV a7.Regs.c0, iV a7.Regs.c1, iV a7.Regs.c2, iV a7.Regs.c3, iV a7.Regs.c4, iV a7.Regs.c5, iV a7.Regs.c6, iV a7.Regs.c7, iV a7.Draws, iV a7.Sent, iV a1.fault, .slice A19 (([] : List api_Message) ++ a1.sent).length c20]) 1 hS rfl rfl rfl rfl sizeOf79 rfl rfl rfl rfl) rfl ?_)
 rintro _ w ⟨rfl, hS⟩
 have hS : St B w (_ :: Cl _ [_, _, _, _, _, _, _, _, _, _, _, _, _, _, _, _, _, _, _] _ :: _ :: _ :: l) hf := hS
 refine ⟨kp ⟨(by intro hx; cases hx), trivial⟩, ?_⟩
 refine RP.nil (tr ?_)
 cases h.some
 refine rz [1] results96 hS ?_
 exact it ⟨A19, c20, rfl, hS.d1.d1.d1⟩
def log_Log_Back_round0.f (a6 : log_Log) (a8 : Int) (a10 : (List api_Entry)) (a15 : Int) (a16 : api_State) : Option (log_Log × List api_Entry) := (if a8 ≤ a15 then (if 0 ≤ a15 ∧ a15 < (a6.l.length : Int) then ((log_done_entry.f (nth a6.l a15) a16).bind fun t79 => (if 0 ≤ IntKind.i64.wrap ((IntKind.i64.wrap ((a6.l.length : Int) - 1)) - a15) ∧ IntKind.i64.wrap ((IntKind.i64.wrap ((a6.l.length : Int) - 1)) - a15) < (a10.length : Int) then (if a6.stuck = true then some (({ a6 with stuck := (decide ((nth a6.l a15).fault = 0)) } : log_Log), (setL a10 (IntKind.i64.wrap ((IntKind.i64.wrap ((a6.l.length : Int) - 1)) - a15)) t79)) else some (({ a6 with stuck := false } : log_Log), (setL a10 (IntKind.i64.wrap ((IntKind.i64.wrap ((a6.l.length : Int) - 1)) - a15)) t79))) else none)) else none) else some (a6, a10))
theorem log_Log_Back_round0.ok {a6 : log_Log} {a8 a15 : Int} {a10 : (List api_Entry)} {a16 : api_State} {b1 b4 b5 b7 b9 c12 : Nat} {rc2 : Loop} {A11 : Option Addr} {cs13 : List Value} (hx14 : RepL R_api_Entry hf cs13 a10) (hr3 : RecF f103 0 115 [(2, pV b4), (5, pV b7), (6, pV b9)] rc2) {r : log_Log × List api_Entry} (h : log_Log_Back_round0.f a6 a8 a10 a15 a16 = some r) (hS : St B w (pts b1 (.loop rc2) :: O_log_Log hf a6 b5 :: Cl b4 [pV b5] 51 :: Cl b7 [iV a8] 3 :: Cl b9 [sV A11 a10 c12] 41 :: OSl 79 19 (sV A11 a10 c12) a10.length cs13 :: l) hf) :
   Yld prog b1 [iV a15, .agg (C_api_State a16).toArray] w (Ret fun v w => ∃ hf_ : Hp, Sub hf hf_ ∧ ∃ (A_1 : Option Addr) (c_2 : Nat) (cs_3 : List Value), v = .bool true ∧ St B w (OSl 79 19 (sV A_1 r.2 c_2) r.2.length cs_3 :: pts b1 (.loop rc2) :: O_log_Log hf_ r.1 b5 :: Cl b4 [pV b5] 51 :: Cl b7 [iV a8] 3 :: Cl b9 [sV A_1 r.2 c_2] 41 :: l) hf_ ∧ RepL R_api_Entry hf_ cs_3 r.2) := by
 have h := Holds.of h
 refine Yld.of (psl := [52, 53]) hS hr3 rfl rfl rfl ?_
 show RC _ ⟨115, [], false⟩ _ _ [(53, .agg (C_api_State a16).toArray), (52, iV a15), (2, pV b4), (5, pV b7), (6, pV b9)] w
 refine sr (pn 1 rfl (ln (RC.region (rr [0, 1] hS ?_))))
 refine fun b59 => it fun w hS => ln (RQ.bg hS.p1 hr3.state rfl fun w hS => RC.block (sr (rr [0, 5, 0] hS ?_)))
 refine it fun w hS => ln ?_
 refine RC.iteP 56 rfl h (fun hc60 h => ?_) fun hc60 h => ?_
 next =>
  refine jt (RC.seq ?_)
  obtain ⟨A61, c62, A64, c65, A67, c68, cs69, hr63, hr66, hx70, hS⟩ := O_log_Log.o hS.p2
  refine dr [1, 4, 6, 9, 13, 15, 18, 21, 24, 28, 30, 33, 37, 39, 43, 46, 50, 53, 56, 59] [18, 19] hS fun w hS => rq [7, 5, 0, 0, 1, 0, 0, 0, 0, 5, 0, 0, 1, 0] hS ?_
  refine it ?_
  obtain ⟨⟨hq71, hq72⟩, h⟩ := h.req
  refine RP.s 0 14 rfl rfl hS (fun w hS => Vl.indexOwn 1 hS rfl underlying148 sizeOf176 rfl rfl hq71 hq72) rfl ?_
  obtain ⟨_, ⟨A74, c75, b77, rfl, hr76, hr78⟩, hl73⟩ := RepL.elem R_log_done_ok hx70 hq71 hq72
  refine RP.s 0 15 rfl rfl hS (fun w hS => Vl.loadA (vs := (C_log_done (nth a6.l a15) A74 c75 b77)) isAgg176 sizeOf176 rfl rfl (hS.elemCells 1 rfl hl73 (off := 0) rfl)) rfl (rq [4] hS ?_)
  refine it ?_
  obtain ⟨t79, hg80, h⟩ := h.bind
  have hc := log_done_entry.ok hr76 hr78 hg80 hS
  refine RP.e 17 rfl (OW.callF (ls := [.tmp 72, .tmp 73]) rfl call96 hc) rfl rfl ?_
  rintro _ w ⟨A81, c82, rfl, hS⟩
  refine ⟨kp ⟨fun _ => hS.d0, trivial⟩, ?_⟩
  obtain ⟨⟨hq83, hq84⟩, h⟩ := h.req
  refine RP.v1 18 rfl (Vl.indexOwn 8 hS rfl underlying41 sizeOf79 rfl rfl hq83 hq84) rfl rfl ?_
  obtain ⟨hf, hs85, hS, hr86⟩ := St.promote hS
  obtain ⟨_, ⟨A88, c89, rfl, hr90⟩, hl87⟩ := RepL.elem R_api_Entry_ok (hx14.mono hs85) hq83 hq84
  refine RP.e0 19 rfl (OW.storeR (off := 0) (j := IntKind.i64.wrap ((IntKind.i64.wrap ((a6.l.length : Int) - 1)) - a15)) (k := (C_api_Entry (nth a10 (IntKind.i64.wrap ((IntKind.i64.wrap ((a6.l.length : Int) - 1)) - a15))) A88 c89)) (vs := (C_api_Entry t79 A81 c82)) (x' := t79) R_api_Entry_ok 7 hS rfl (hx14.mono hs85) rfl rfl rfl sizeOf79 rfl (Nat.succ_pos _) hq83 hq84 (Nat.le_of_ble_eq_true rfl) rfl hl87 ⟨_, _, rfl, hr86⟩ rfl) rfl ?_
  rintro _ w ⟨rfl, cs91, hx92, hS⟩
  have he93 := (hS.osN 0 rfl).1
  have hS : St B w (_ :: _ :: _ :: _ :: _ :: _ :: _ :: _ :: l) hf := (congrArg (fun k_ : Nat => St B w (OSl 79 19 (.slice A11 k_ c12) (setL a10 (IntKind.i64.wrap ((IntKind.i64.wrap ((a6.l.length : Int) - 1)) - a15)) t79).length cs91 :: Cl b5 (C_log_Log a6 A61 c62 A64 c65 A67 c68) 150 :: OSl 176 10 (sV A67 a6.l c68) a6.l.length cs69 :: pts b1 (.loop (busy rc2)) :: Cl b59 (C_api_State a16) 70 :: Cl b4 [pV b5] 51 :: Cl b7 [iV a8] 3 :: Cl b9 [.slice A11 k_ c12] 41 :: l) hf) he93).mp hS
  refine ⟨kp ⟨(by intro hx; cases hx), trivial⟩, ?_⟩
  refine RP.re 57 rfl (congrArg (fun k_ : Nat => (.slice A11 k_ c12 : Value)) he93) (RP.nil (RQ.then_n (dr [1, 4, 6, 9, 13, 15, 19, 21, 24, 28, 32, 35, 38, 41, 44, 47, 50, 53, 56] [16, 17, 18] hS fun w hS => rq [6, 6, 0, 0, 2, 0] hS ?_)))
  refine it ?_
  refine RP.iteB 81 rfl h (fun hc94 h => ?_) fun hc94 h => ?_
  next =>
   refine rq [6, 0, 0, 2, 0] hS ?_
   refine it (RP.v1 11 rfl (Vl.indexOwn 2 hS rfl underlying148 sizeOf176 rfl rfl hq71 hq72) rfl rfl (RP.v1 12 rfl (Vl.fieldAddr (a'' := (ad A67).add (a15.toNat * 10 + 7)) underlying176 rfl sizeOf29 rfl (add_add _ _ _)) rfl rfl ?_))
   obtain ⟨_, ⟨A96, c97, b99, rfl, hr98, hr100⟩, hl95⟩ := RepL.elem R_log_done_ok (hx70.mono hs85) hq71 hq72
   refine RP.v1 13 rfl (Vl.load isAgg29 rfl (hS.litCell 2 rfl (hl95 7 _ rfl))) rfl rfl (rq [0, 0, 0, 0] hS ?_)
   refine it (RP.e0 18 rfl (OW.store (vs := [.bool (decide ((nth a6.l a15).fault = 0))]) 1 hS rfl rfl rfl rfl sizeOf4 rfl rfl rfl rfl) rfl ?_)
   rintro _ w ⟨rfl, hS⟩
   have hS : St B w (_ :: Cl _ [_, _, _, _, _, _, _, _, _, _, _, _, _, _, _, _, _, _] _ :: _ :: _ :: _ :: _ :: _ :: _ :: l) hf := hS
   refine ⟨kp ⟨(by intro hx; cases hx), trivial⟩, ?_⟩
   refine RP.nil (RQ.inB_n ?_)
   have hS := O_log_Log.c (x := ({ a6 with stuck := (decide ((nth a6.l a15).fault = 0)) } : log_Log)) (hr63.mono hs85) (hr66.mono hs85) (hx70.mono hs85) hS.p2.p2
   cases h.some
   exact RQ.rn hS.p2 hr3.state hr3.pending fun w hS => ⟨_, hs85, A11, c12, cs91, rfl, hS.d3.p2, hx92⟩
  refine rq [0, 0, 0, 0, 0, 0, 0, 0, 0, 0, 0, 0] hS ?_
  refine it (RP.e0 18 rfl (OW.store (vs := [.bool false]) 1 hS rfl rfl rfl rfl sizeOf4 rfl rfl rfl rfl) rfl ?_)
  rintro _ w ⟨rfl, hS⟩
  have hS : St B w (_ :: Cl _ [_, _, _, _, _, _, _, _, _, _, _, _, _, _, _, _, _, _] _ :: _ :: _ :: _ :: _ :: _ :: _ :: l) hf := hS
  refine ⟨kp ⟨(by intro hx; cases hx), trivial⟩, ?_⟩
  refine RP.nil (RQ.inB_n ?_)
  have hS := O_log_Log.c (x := ({ a6 with stuck := false } : log_Log)) (hr63.mono hs85) (hr66.mono hs85) (hx70.mono hs85) hS.p2.p2
  cases h.some
  exact RQ.rn hS.p2 hr3.state hr3.pending fun w hS => ⟨_, hs85, A11, c12, cs91, rfl, hS.d3.p2, hx92⟩
 refine jf (RC.skip (RQ.inB_n ?_))
 cases h.some
 exact RQ.rn hS hr3.state hr3.pending fun w hS => ⟨_, (Sub.refl _), A11, c12, cs13, rfl, hS.d1.p5, hx14⟩
def vm_operators.f  : Option (Unit) := some ()
theorem vm_operators.ok {r : Unit} (h : vm_operators.f = some r) (hS : St B w (l) hf) :
   Calls prog 135 #[] w (Ret fun v w => ∃ (b_1 : Nat), v = .map (some b_1) ∧ St B w (MapL b_1 [({ key := iV 0, val := .func (.func 139) #[] #[], born := 0 } : MapEntry), ({ key := iV 1, val := .func (.func 140) #[] #[], born := 1 } : MapEntry), ({ key := iV 2, val := .func (.func 141) #[] #[], born := 2 } : MapEntry), ({ key := iV 3, val := .func (.func 142) #[] #[], born := 3 } : MapEntry), ({ key := iV 4, val := .func (.func 143) #[] #[], born := 4 } : MapEntry), ({ key := iV 5, val := .func (.func 144) #[] #[], born := 5 } : MapEntry), ({ key := iV 6, val := .func (.func 145) #[] #[], born := 6 } : MapEntry), ({ key := iV 7, val := .func (.func 146) #[] #[], born := 7 } : MapEntry), ({ key := iV 8, val := .func (.func 147) #[] #[], born := 8 } : MapEntry), ({ key := iV 9, val := .func (.func 148) #[] #[], born := 9 } : MapEntry), ({ key := iV 10, val := .func (.func 149) #[] #[], born := 10 } : MapEntry), ({ key := iV 11, val := .func (.func 150) #[] #[], born := 11 } : MapEntry), ({ key := iV 12, val := .func (.func 151) #[] #[], born := 12 } : MapEntry), ({ key := iV 13, val := .func (.func 152) #[] #[], born := 13 } : MapEntry), ({ key := iV 14, val := .func (.func 153) #[] #[], born := 14 } : MapEntry), ({ key := iV 15, val := .func (.func 154) #[] #[], born := 15 } : MapEntry), ({ key := iV 16, val := .func (.func 155) #[] #[], born := 16 } : MapEntry)] 17 :: l) hf) := by
 have h := Holds.of h
 refine en func135 rfl ntmps135 rfl (sr (pn 1 rfl (lnsr (RL.e (OW.makeMapL hS) rfl rfl ?_))))
 rintro _ w ⟨b2, rfl, hS⟩
 refine RL.e0 (OW.insertL 0 hS rfl underlying274 underlying3 rfl rfl rfl rfl rfl rfl rfl) rfl ?_
 rintro _ w ⟨rfl, hS⟩
 have hS : St B w (_ :: l) hf := hS
 refine RL.e0 (OW.insertL 0 hS rfl underlying274 underlying3 rfl rfl rfl rfl rfl rfl rfl) rfl ?_
 rintro _ w ⟨rfl, hS⟩
 have hS : St B w (_ :: l) hf := hS
 refine RL.e0 (OW.insertL 0 hS rfl underlying274 underlying3 rfl rfl rfl rfl rfl rfl rfl) rfl ?_
 rintro _ w ⟨rfl, hS⟩
 have hS : St B w (_ :: l) hf := hS
 refine RL.e0 (OW.insertL 0 hS rfl underlying274 underlying3 rfl rfl rfl rfl rfl rfl rfl) rfl ?_
 rintro _ w ⟨rfl, hS⟩
 have hS : St B w (_ :: l) hf := hS
 refine RL.e0 (OW.insertL 0 hS rfl underlying274 underlying3 rfl rfl rfl rfl rfl rfl rfl) rfl ?_
 rintro _ w ⟨rfl, hS⟩
 have hS : St B w (_ :: l) hf := hS
 refine RL.e0 (OW.insertL 0 hS rfl underlying274 underlying3 rfl rfl rfl rfl rfl rfl rfl) rfl ?_
 rintro _ w ⟨rfl, hS⟩
 have hS : St B w (_ :: l) hf := hS
 refine RL.e0 (OW.insertL 0 hS rfl underlying274 underlying3 rfl rfl rfl rfl rfl rfl rfl) rfl ?_
 rintro _ w ⟨rfl, hS⟩
 have hS : St B w (_ :: l) hf := hS
 refine RL.e0 (OW.insertL 0 hS rfl underlying274 underlying3 rfl rfl rfl rfl rfl rfl rfl) rfl ?_
 rintro _ w ⟨rfl, hS⟩
 have hS : St B w (_ :: l) hf := hS
 refine RL.e0 (OW.insertL 0 hS rfl underlying274 underlying3 rfl rfl rfl rfl rfl rfl rfl) rfl ?_
 rintro _ w ⟨rfl, hS⟩
 have hS : St B w (_ :: l) hf := hS
 refine RL.e0 (OW.insertL 0 hS rfl underlying274 underlying3 rfl rfl rfl rfl rfl rfl rfl) rfl ?_
 rintro _ w ⟨rfl, hS⟩
 have hS : St B w (_ :: l) hf := hS
 refine RL.e0 (OW.insertL 0 hS rfl underlying274 underlying3 rfl rfl rfl rfl rfl rfl rfl) rfl ?_
 rintro _ w ⟨rfl, hS⟩
 have hS : St B w (_ :: l) hf := hS
 refine RL.e0 (OW.insertL 0 hS rfl underlying274 underlying3 rfl rfl rfl rfl rfl rfl rfl) rfl ?_
 rintro _ w ⟨rfl, hS⟩
 have hS : St B w (_ :: l) hf := hS
 refine RL.e0 (OW.insertL 0 hS rfl underlying274 underlying3 rfl rfl rfl rfl rfl rfl rfl) rfl ?_
 rintro _ w ⟨rfl, hS⟩
 have hS : St B w (_ :: l) hf := hS
 refine RL.e0 (OW.insertL 0 hS rfl underlying274 underlying3 rfl rfl rfl rfl rfl rfl rfl) rfl ?_
 rintro _ w ⟨rfl, hS⟩
 have hS : St B w (_ :: l) hf := hS
 refine RL.e0 (OW.insertL 0 hS rfl underlying274 underlying3 rfl rfl rfl rfl rfl rfl rfl) rfl ?_
 rintro _ w ⟨rfl, hS⟩
 have hS : St B w (_ :: l) hf := hS
 refine RL.e0 (OW.insertL 0 hS rfl underlying274 underlying3 rfl rfl rfl rfl rfl rfl rfl) rfl ?_
 rintro _ w ⟨rfl, hS⟩
 have hS : St B w (_ :: l) hf := hS
 refine RL.e0 (OW.insertL 0 hS rfl underlying274 underlying3 rfl rfl rfl rfl rfl rfl rfl) rfl ?_
 rintro _ w ⟨rfl, hS⟩
 have hS : St B w (_ :: l) hf := hS
 refine pn 2 rfl (lr ?_)
 exact rt results135 rfl ⟨b2, rfl, hS⟩
def vm_cpu_halt.f (a2 : List api_Instr) (a6 : Int) (a7 : List api_Link) (a11 a12 a13 a14 a15 a16 a17 : Int) (a18 : Bool) (a19 : Int) (a22 : List api_Out) (a23 : Int) (fn24 : (Nat → Int)) (a25 : api_Instr) : Option (Int) := some (a2.length : Int)
theorem vm_cpu_halt.ok {a2 : List api_Instr} {a6 a11 a12 a13 a14 a15 a16 a17 a19 a23 : Int} {a7 : List api_Link} {a18 : Bool} {a22 : List api_Out} {fn24 : (Nat → Int)} {a25 : api_Instr} {b1 c4 c9 c21 : Nat} {A3 A8 A20 : Option Addr} (hr5 : SlR E_api_Instr.rep hf A3 c4 a2) (hr10 : SlR E_api_Link.rep hf A8 c9 a7) {r : Int} (h : vm_cpu_halt.f a2 a6 a7 a11 a12 a13 a14 a15 a16 a17 a18 a19 a22 a23 fn24 a25 = some r) (hS : St B w (Cl b1 [sV A3 a2 c4, iV a6, sV A8 a7 c9, .int .u64 a11, iV a12, iV a13, iV a14, iV a15, iV a16, iV a17, .bool a18, iV (fn24 0), iV (fn24 1), iV (fn24 2), iV (fn24 3), iV (fn24 4), iV (fn24 5), iV (fn24 6), iV (fn24 7), iV (fn24 8), iV (fn24 9), iV (fn24 10), iV (fn24 11), iV (fn24 12), iV (fn24 13), iV (fn24 14), iV (fn24 15), iV a19, sV A20 a22 c21, iV a23] 260 :: OSf E_api_Out 265 (sV A20 a22 c21) a22 :: l) hf) :
   Calls prog 139 #[pV b1, .agg (C_api_Instr a25).toArray] w (Ret fun v w => v = .tuple #[] ∧ St B w (Cl b1 [sV A3 a2 c4, iV a6, sV A8 a7 c9, .int .u64 a11, iV a12, iV a13, iV a14, iV a15, iV a16, iV a17, .bool a18, iV (fn24 0), iV (fn24 1), iV (fn24 2), iV (fn24 3), iV (fn24 4), iV (fn24 5), iV (fn24 6), iV (fn24 7), iV (fn24 8), iV (fn24 9), iV (fn24 10), iV (fn24 11), iV (fn24 12), iV (fn24 13), iV (fn24 14), iV (fn24 15), iV a19, sV A20 a22 c21, iV r] 260 :: OSf E_api_Out 265 (sV A20 a22 c21) a22 :: l) hf) := by
 have h := Holds.of h
 refine en func139 rfl ntmps139 rfl (sr (rr [0] hS ?_))
 refine fun b27 => it fun w hS => ln (RC.region (rr [0, 0, 0, 0, 0, 2, 0, 0, 0, 2] hS ?_))
 refine it fun w hS => RL.nil ?_
 cases h.some
 exact rtE results139 rfl ⟨rfl, hS.d0⟩
def vm_cpu_set.f (a2 : List api_Instr) (a6 : Int) (a7 : List api_Link) (a11 a12 a13 a14 a15 a16 a17 : Int) (a18 : Bool) (a19 : Int) (a22 : List api_Out) (a23 : Int) (fn24 : (Nat → Int)) (a25 : api_Instr) : Option ((Nat → Int)) := (if 0 ≤ a25.A ∧ a25.A < 16 then some (upd fn24 (a25.A.toNat * 1) a25.B) else none)
theorem vm_cpu_set.ok {a2 : List api_Instr} {a6 a11 a12 a13 a14 a15 a16 a17 a19 a23 : Int} {a7 : List api_Link} {a18 : Bool} {a22 : List api_Out} {fn24 : (Nat → Int)} {a25 : api_Instr} {b1 c4 c9 c21 : Nat} {A3 A8 A20 : Option Addr} (hr5 : SlR E_api_Instr.rep hf A3 c4 a2) (hr10 : SlR E_api_Link.rep hf A8 c9 a7) {r : (Nat → Int)} (h : vm_cpu_set.f a2 a6 a7 a11 a12 a13 a14 a15 a16 a17 a18 a19 a22 a23 fn24 a25 = some r) (hS : St B w (Cl b1 [sV A3 a2 c4, iV a6, sV A8 a7 c9, .int .u64 a11, iV a12, iV a13, iV a14, iV a15, iV a16, iV a17, .bool a18, iV (fn24 0), iV (fn24 1), iV (fn24 2), iV (fn24 3), iV (fn24 4), iV (fn24 5), iV (fn24 6), iV (fn24 7), iV (fn24 8), iV (fn24 9), iV (fn24 10), iV (fn24 11), iV (fn24 12), iV (fn24 13), iV (fn24 14), iV (fn24 15), iV a19, sV A20 a22 c21, iV a23] 260 :: OSf E_api_Out 265 (sV A20 a22 c21) a22 :: l) hf) :
   Calls prog 140 #[pV b1, .agg (C_api_Instr a25).toArray] w (Ret fun v w => v = .tuple #[] ∧ St B w (Cl b1 [sV A3 a2 c4, iV a6, sV A8 a7 c9, .int .u64 a11, iV a12, iV a13, iV a14, iV a15, iV a16, iV a17, .bool a18, iV (r 0), iV (r 1), iV (r 2), iV (r 3), iV (r 4), iV (r 5), iV (r 6), iV (r 7), iV (r 8), iV (r 9), iV (r 10), iV (r 11), iV (r 12), iV (r 13), iV (r 14), iV (r 15), iV a19, sV A20 a22 c21, iV a23] 260 :: OSf E_api_Out 265 (sV A20 a22 c21) a22 :: l) hf) := by
 have h := Holds.of h
 refine en func140 rfl ntmps140 rfl (sr (rr [0] hS ?_))
 refine fun b29 => it fun w hS => ln (dr [0, 3, 7, 9, 13, 17, 20, 23, 26] [7, 8] hS fun w hS => rq [0, 0, 1, 0, 1, 0, 0] hS ?_)
 refine it ?_
 obtain ⟨⟨hq30, hq31⟩, h⟩ := h.req
 refine RP.v1 7 rfl (Vl.indexAddrA (a'' := ⟨b1, 11 + a25.A.toNat * 1, none⟩) underlying258 sizeOf2 rfl rfl hq30 hq31 (add_mk _ _ _)) rfl rfl (RP.e0 8 rfl (OW.storeSeg (mk := (Value.int .i64)) (f := fn24) (n := 16) (m := 11) (pre := [sV A3 a2 c4, iV a6, sV A8 a7 c9, .int .u64 a11, iV a12, iV a13, iV a14, iV a15, iV a16, iV a17, .bool a18]) (post := [iV a19, sV A20 a22 c21, iV a23]) 1 hS rfl rfl rfl rfl sizeOf2 (by omega) (fun _ => rfl) (fun _ => rfl) rfl) rfl ?_)
 rintro _ w ⟨rfl, hS⟩
 have hS : St B w (_ :: _ :: _ :: l) hf := hS
 refine ⟨kp ⟨(by intro hx; cases hx), trivial⟩, ?_⟩
 refine RP.nil ?_
 cases h.some
 exact rtE results140 rfl ⟨rfl, hS.d0⟩
def vm_cpu_move.f (a2 : List api_Instr) (a6 : Int) (a7 : List api_Link) (a11 a12 a13 a14 a15 a16 a17 : Int) (a18 : Bool) (a19 : Int) (a22 : List api_Out) (a23 : Int) (fn24 : (Nat → Int)) (a25 : api_Instr) : Option ((Nat → Int)) := (if 0 ≤ a25.B ∧ a25.B < 16 then (if 0 ≤ a25.A ∧ a25.A < 16 then some (upd fn24 (a25.A.toNat * 1) (fn24 (a25.B.toNat * 1))) else none) else none)
theorem vm_cpu_move.ok {a2 : List api_Instr} {a6 a11 a12 a13 a14 a15 a16 a17 a19 a23 : Int} {a7 : List api_Link} {a18 : Bool} {a22 : List api_Out} {fn24 : (Nat → Int)} {a25 : api_Instr} {b1 c4 c9 c21 : Nat} {A3 A8 A20 : Option Addr} (hr5 : SlR E_api_Instr.rep hf A3 c4 a2) (hr10 : SlR E_api_Link.rep hf A8 c9 a7) {r : (Nat → Int)} (h : vm_cpu_move.f a2 a6 a7 a11 a12 a13 a14 a15 a16 a17 a18 a19 a22 a23 fn24 a25 = some r) (hS : St B w (Cl b1 [sV A3 a2 c4, iV a6, sV A8 a7 c9, .int .u64 a11, iV a12, iV a13, iV a14, iV a15, iV a16, iV a17, .bool a18, iV (fn24 0), iV (fn24 1), iV (fn24 2), iV (fn24 3), iV (fn24 4), iV (fn24 5), iV (fn24 6), iV (fn24 7), iV (fn24 8), iV (fn24 9), iV (fn24 10), iV (fn24 11), iV (fn24 12), iV (fn24 13), iV (fn24 14), iV (fn24 15), iV a19, sV A20 a22 c21, iV a23] 260 :: OSf E_api_Out 265 (sV A20 a22 c21) a22 :: l) hf) :
   Calls prog 141 #[pV b1, .agg (C_api_Instr a25).toArray] w (Ret fun v w => v = .tuple #[] ∧ St B w (Cl b1 [sV A3 a2 c4, iV a6, sV A8 a7 c9, .int .u64 a11, iV a12, iV a13, iV a14, iV a15, iV a16, iV a17, .bool a18, iV (r 0), iV (r 1), iV (r 2), iV (r 3), iV (r 4), iV (r 5), iV (r 6), iV (r 7), iV (r 8), iV (r 9), iV (r 10), iV (r 11), iV (r 12), iV (r 13), iV (r 14), iV (r 15), iV a19, sV A20 a22 c21, iV a23] 260 :: OSf E_api_Out 265 (sV A20 a22 c21) a22 :: l) hf) := by
 have h := Holds.of h
 refine en func141 rfl ntmps141 rfl (sr (rr [0] hS ?_))
 refine fun b31 => it fun w hS => ln (dr [0, 3, 7, 9, 12, 16, 18, 21, 24, 28, 32, 35, 38, 41] [12, 13] hS fun w hS => rq [0, 0, 1, 0, 0, 1, 0, 0] hS ?_)
 refine it ?_
 obtain ⟨⟨hq32, hq33⟩, h⟩ := h.req
 refine RP.s0 8 rfl (fun w => Vl.indexAddrA (a'' := ⟨b1, 11 + a25.B.toNat * 1, none⟩) underlying258 sizeOf2 rfl rfl hq32 hq33 (add_mk _ _ _)) rfl (RP.s 0 9 rfl rfl hS (fun w hS => Vl.load isAgg2 rfl (hS.cell (off := 11 + a25.B.toNat * 1) (cs := [sV A3 a2 c4, iV a6, sV A8 a7 c9, .int .u64 a11, iV a12, iV a13, iV a14, iV a15, iV a16, iV a17, .bool a18] ++ (fc (Value.int .i64) 16 fn24 ++ [iV a19, sV A20 a22 c21, iV a23])) 1 rfl (seg_get rfl (by omega)))) rfl (rq [0, 0] hS ?_))
 refine it ?_
 obtain ⟨⟨hq34, hq35⟩, h⟩ := h.req
 refine RP.v1 12 rfl (Vl.indexAddrA (a'' := ⟨b1, 11 + a25.A.toNat * 1, none⟩) underlying258 sizeOf2 rfl rfl hq34 hq35 (add_mk _ _ _)) rfl rfl (RP.e0 13 rfl (OW.storeSeg (mk := (Value.int .i64)) (f := fn24) (n := 16) (m := 11) (pre := [sV A3 a2 c4, iV a6, sV A8 a7 c9, .int .u64 a11, iV a12, iV a13, iV a14, iV a15, iV a16, iV a17, .bool a18]) (post := [iV a19, sV A20 a22 c21, iV a23]) 1 hS rfl rfl rfl rfl sizeOf2 (by omega) (fun _ => rfl) (fun _ => rfl) rfl) rfl ?_)
 rintro _ w ⟨rfl, hS⟩
 have hS : St B w (_ :: _ :: _ :: l) hf := hS
 refine ⟨kp ⟨(by intro hx; cases hx), trivial⟩, ?_⟩
 refine RP.nil ?_
 cases h.some
 exact rtE results141 rfl ⟨rfl, hS.d0⟩
def vm_cpu_add.f (a2 : List api_Instr) (a6 : Int) (a7 : List api_Link) (a11 a12 a13 a14 a15 a16 a17 : Int) (a18 : Bool) (a19 : Int) (a22 : List api_Out) (a23 : Int) (fn24 : (Nat → Int)) (a25 : api_Instr) : Option ((Nat → Int)) := (if 0 ≤ a25.B ∧ a25.B < 16 then (if 0 ≤ a25.C ∧ a25.C < 16 then (if 0 ≤ a25.A ∧ a25.A < 16 then some (upd fn24 (a25.A.toNat * 1) (IntKind.i64.wrap ((fn24 (a25.B.toNat * 1)) + (fn24 (a25.C.toNat * 1))))) else none) else none) else none)
theorem vm_cpu_add.ok {a2 : List api_Instr} {a6 a11 a12 a13 a14 a15 a16 a17 a19 a23 : Int} {a7 : List api_Link} {a18 : Bool} {a22 : List api_Out} {fn24 : (Nat → Int)} {a25 : api_Instr} {b1 c4 c9 c21 : Nat} {A3 A8 A20 : Option Addr} (hr5 : SlR E_api_Instr.rep hf A3 c4 a2) (hr10 : SlR E_api_Link.rep hf A8 c9 a7) {r : (Nat → Int)} (h : vm_cpu_add.f a2 a6 a7 a11 a12 a13 a14 a15 a16 a17 a18 a19 a22 a23 fn24 a25 = some r) (hS : St B w (Cl b1 [sV A3 a2 c4, iV a6, sV A8 a7 c9, .int .u64 a11, iV a12, iV a13, iV a14, iV a15, iV a16, iV a17, .bool a18, iV (fn24 0), iV (fn24 1), iV (fn24 2), iV (fn24 3), iV (fn24 4), iV (fn24 5), iV (fn24 6), iV (fn24 7), iV (fn24 8), iV (fn24 9), iV (fn24 10), iV (fn24 11), iV (fn24 12), iV (fn24 13), iV (fn24 14), iV (fn24 15), iV a19, sV A20 a22 c21, iV a23] 260 :: OSf E_api_Out 265 (sV A20 a22 c21) a22 :: l) hf) :
   Calls prog 142 #[pV b1, .agg (C_api_Instr a25).toArray] w (Ret fun v w => v = .tuple #[] ∧ St B w (Cl b1 [sV A3 a2 c4, iV a6, sV A8 a7 c9, .int .u64 a11, iV a12, iV a13, iV a14, iV a15, iV a16, iV a17, .bool a18, iV (r 0), iV (r 1), iV (r 2), iV (r 3), iV (r 4), iV (r 5), iV (r 6), iV (r 7), iV (r 8), iV (r 9), iV (r 10), iV (r 11), iV (r 12), iV (r 13), iV (r 14), iV (r 15), iV a19, sV A20 a22 c21, iV a23] 260 :: OSf E_api_Out 265 (sV A20 a22 c21) a22 :: l) hf) := by
 have h := Holds.of h
 refine en func142 rfl ntmps142 rfl (sr (rr [0] hS ?_))
 refine fun b33 => it fun w hS => ln (dr [0, 3, 7, 9, 12, 16, 18, 21, 24, 28, 30, 33, 37, 39, 42, 45, 49, 51, 56, 59, 62, 65] [20, 21] hS fun w hS => rq [0, 0, 1, 0, 0, 1, 0, 0] hS ?_)
 refine it ?_
 obtain ⟨⟨hq34, hq35⟩, h⟩ := h.req
 refine RP.s0 8 rfl (fun w => Vl.indexAddrA (a'' := ⟨b1, 11 + a25.B.toNat * 1, none⟩) underlying258 sizeOf2 rfl rfl hq34 hq35 (add_mk _ _ _)) rfl (RP.s 0 9 rfl rfl hS (fun w hS => Vl.load isAgg2 rfl (hS.cell (off := 11 + a25.B.toNat * 1) (cs := [sV A3 a2 c4, iV a6, sV A8 a7 c9, .int .u64 a11, iV a12, iV a13, iV a14, iV a15, iV a16, iV a17, .bool a18] ++ (fc (Value.int .i64) 16 fn24 ++ [iV a19, sV A20 a22 c21, iV a23])) 1 rfl (seg_get rfl (by omega)))) rfl (rq [0, 0, 1, 0, 0] hS ?_))
 refine it ?_
 obtain ⟨⟨hq36, hq37⟩, h⟩ := h.req
 refine RP.s0 15 rfl (fun w => Vl.indexAddrA (a'' := ⟨b1, 11 + a25.C.toNat * 1, none⟩) underlying258 sizeOf2 rfl rfl hq36 hq37 (add_mk _ _ _)) rfl (RP.s 0 16 rfl rfl hS (fun w hS => Vl.load isAgg2 rfl (hS.cell (off := 11 + a25.C.toNat * 1) (cs := [sV A3 a2 c4, iV a6, sV A8 a7 c9, .int .u64 a11, iV a12, iV a13, iV a14, iV a15, iV a16, iV a17, .bool a18] ++ (fc (Value.int .i64) 16 fn24 ++ [iV a19, sV A20 a22 c21, iV a23])) 1 rfl (seg_get rfl (by omega)))) rfl (rq [0, 0, 0] hS ?_))
 refine it ?_
 obtain ⟨⟨hq38, hq39⟩, h⟩ := h.req
 refine RP.v1 20 rfl (Vl.indexAddrA (a'' := ⟨b1, 11 + a25.A.toNat * 1, none⟩) underlying258 sizeOf2 rfl rfl hq38 hq39 (add_mk _ _ _)) rfl rfl (RP.e0 21 rfl (OW.storeSeg (mk := (Value.int .i64)) (f := fn24) (n := 16) (m := 11) (pre := [sV A3 a2 c4, iV a6, sV A8 a7 c9, .int .u64 a11, iV a12, iV a13, iV a14, iV a15, iV a16, iV a17, .bool a18]) (post := [iV a19, sV A20 a22 c21, iV a23]) 1 hS rfl rfl rfl rfl sizeOf2 (by omega) (fun _ => rfl) (fun _ => rfl) rfl) rfl ?_)
 rintro _ w ⟨rfl, hS⟩
 have hS : St B w (_ :: _ :: _ :: l) hf := hS
 refine ⟨kp ⟨(by intro hx; cases hx), trivial⟩, ?_⟩
 refine RP.nil ?_
 cases h.some
 exact rtE results142 rfl ⟨rfl, hS.d0⟩
def vm_cpu_sub.f (a2 : List api_Instr) (a6 : Int) (a7 : List api_Link) (a11 a12 a13 a14 a15 a16 a17 : Int) (a18 : Bool) (a19 : Int) (a22 : List api_Out) (a23 : Int) (fn24 : (Nat → Int)) (a25 : api_Instr) : Option ((Nat → Int)) := (if 0 ≤ a25.B ∧ a25.B < 16 then (if 0 ≤ a25.C ∧ a25.C < 16 then (if 0 ≤ a25.A ∧ a25.A < 16 then some (upd fn24 (a25.A.toNat * 1) (IntKind.i64.wrap ((fn24 (a25.B.toNat * 1)) - (fn24 (a25.C.toNat * 1))))) else none) else none) else none)
theorem vm_cpu_sub.ok {a2 : List api_Instr} {a6 a11 a12 a13 a14 a15 a16 a17 a19 a23 : Int} {a7 : List api_Link} {a18 : Bool} {a22 : List api_Out} {fn24 : (Nat → Int)} {a25 : api_Instr} {b1 c4 c9 c21 : Nat} {A3 A8 A20 : Option Addr} (hr5 : SlR E_api_Instr.rep hf A3 c4 a2) (hr10 : SlR E_api_Link.rep hf A8 c9 a7) {r : (Nat → Int)} (h : vm_cpu_sub.f a2 a6 a7 a11 a12 a13 a14 a15 a16 a17 a18 a19 a22 a23 fn24 a25 = some r) (hS : St B w (Cl b1 [sV A3 a2 c4, iV a6, sV A8 a7 c9, .int .u64 a11, iV a12, iV a13, iV a14, iV a15, iV a16, iV a17, .bool a18, iV (fn24 0), iV (fn24 1), iV (fn24 2), iV (fn24 3), iV (fn24 4), iV (fn24 5), iV (fn24 6), iV (fn24 7), iV (fn24 8), iV (fn24 9), iV (fn24 10), iV (fn24 11), iV (fn24 12), iV (fn24 13), iV (fn24 14), iV (fn24 15), iV a19, sV A20 a22 c21, iV a23] 260 :: OSf E_api_Out 265 (sV A20 a22 c21) a22 :: l) hf) :
   Calls prog 143 #[pV b1, .agg (C_api_Instr a25).toArray] w (Ret fun v w => v = .tuple #[] ∧ St B w (Cl b1 [sV A3 a2 c4, iV a6, sV A8 a7 c9, .int .u64 a11, iV a12, iV a13, iV a14, iV a15, iV a16, iV a17, .bool a18, iV (r 0), iV (r 1), iV (r 2), iV (r 3), iV (r 4), iV (r 5), iV (r 6), iV (r 7), iV (r 8), iV (r 9), iV (r 10), iV (r 11), iV (r 12), iV (r 13), iV (r 14), iV (r 15), iV a19, sV A20 a22 c21, iV a23] 260 :: OSf E_api_Out 265 (sV A20 a22 c21) a22 :: l) hf) := by
 have h := Holds.of h
 refine en func143 rfl ntmps143 rfl (sr (rr [0] hS ?_))
 refine fun b33 => it fun w hS => ln (dr [0, 3, 7, 9, 12, 16, 18, 21, 24, 28, 30, 33, 37, 39, 42, 45, 49, 51, 56, 59, 62, 65] [20, 21] hS fun w hS => rq [0, 0, 1, 0, 0, 1, 0, 0] hS ?_)
 refine it ?_
 obtain ⟨⟨hq34, hq35⟩, h⟩ := h.req
 refine RP.s0 8 rfl (fun w => Vl.indexAddrA (a'' := ⟨b1, 11 + a25.B.toNat * 1, none⟩) underlying258 sizeOf2 rfl rfl hq34 hq35 (add_mk _ _ _)) rfl (RP.s 0 9 rfl rfl hS (fun w hS => Vl.load isAgg2 rfl (hS.cell (off := 11 + a25.B.toNat * 1) (cs := [sV A3 a2 c4, iV a6, sV A8 a7 c9, .int .u64 a11, iV a12, iV a13, iV a14, iV a15, iV a16, iV a17, .bool a18] ++ (fc (Value.int .i64) 16 fn24 ++ [iV a19, sV A20 a22 c21, iV a23])) 1 rfl (seg_get rfl (by omega)))) rfl (rq [0, 0, 1, 0, 0] hS ?_))
 refine it ?_
 obtain ⟨⟨hq36, hq37⟩, h⟩ := h.req
 refine RP.s0 15 rfl (fun w => Vl.indexAddrA (a'' := ⟨b1, 11 + a25.C.toNat * 1, none⟩) underlying258 sizeOf2 rfl rfl hq36 hq37 (add_mk _ _ _)) rfl (RP.s 0 16 rfl rfl hS (fun w hS => Vl.load isAgg2 rfl (hS.cell (off := 11 + a25.C.toNat * 1) (cs := [sV A3 a2 c4, iV a6, sV A8 a7 c9, .int .u64 a11, iV a12, iV a13, iV a14, iV a15, iV a16, iV a17, .bool a18] ++ (fc (Value.int .i64) 16 fn24 ++ [iV a19, sV A20 a22 c21, iV a23])) 1 rfl (seg_get rfl (by omega)))) rfl (rq [0, 0, 0] hS ?_))
 refine it ?_
 obtain ⟨⟨hq38, hq39⟩, h⟩ := h.req
 refine RP.v1 20 rfl (Vl.indexAddrA (a'' := ⟨b1, 11 + a25.A.toNat * 1, none⟩) underlying258 sizeOf2 rfl rfl hq38 hq39 (add_mk _ _ _)) rfl rfl (RP.e0 21 rfl (OW.storeSeg (mk := (Value.int .i64)) (f := fn24) (n := 16) (m := 11) (pre := [sV A3 a2 c4, iV a6, sV A8 a7 c9, .int .u64 a11, iV a12, iV a13, iV a14, iV a15, iV a16, iV a17, .bool a18]) (post := [iV a19, sV A20 a22 c21, iV a23]) 1 hS rfl rfl rfl rfl sizeOf2 (by omega) (fun _ => rfl) (fun _ => rfl) rfl) rfl ?_)
 rintro _ w ⟨rfl, hS⟩
 have hS : St B w (_ :: _ :: _ :: l) hf := hS
 refine ⟨kp ⟨(by intro hx; cases hx), trivial⟩, ?_⟩
 refine RP.nil ?_
 cases h.some
 exact rtE results143 rfl ⟨rfl, hS.d0⟩
def vm_cpu_mul.f (a2 : List api_Instr) (a6 : Int) (a7 : List api_Link) (a11 a12 a13 a14 a15 a16 a17 : Int) (a18 : Bool) (a19 : Int) (a22 : List api_Out) (a23 : Int) (fn24 : (Nat → Int)) (a25 : api_Instr) : Option ((Nat → Int)) := (if 0 ≤ a25.B ∧ a25.B < 16 then (if 0 ≤ a25.C ∧ a25.C < 16 then (if 0 ≤ a25.A ∧ a25.A < 16 then some (upd fn24 (a25.A.toNat * 1) (IntKind.i64.wrap ((fn24 (a25.B.toNat * 1)) * (fn24 (a25.C.toNat * 1))))) else none) else none) else none)
theorem vm_cpu_mul.ok {a2 : List api_Instr} {a6 a11 a12 a13 a14 a15 a16 a17 a19 a23 : Int} {a7 : List api_Link} {a18 : Bool} {a22 : List api_Out} {fn24 : (Nat → Int)} {a25 : api_Instr} {b1 c4 c9 c21 : Nat} {A3 A8 A20 : Option Addr} (hr5 : SlR E_api_Instr.rep hf A3 c4 a2) (hr10 : SlR E_api_Link.rep hf A8 c9 a7) {r : (Nat → Int)} (h : vm_cpu_mul.f a2 a6 a7 a11 a12 a13 a14 a15 a16 a17 a18 a19 a22 a23 fn24 a25 = some r) (hS : St B w (Cl b1 [sV A3 a2 c4, iV a6, sV A8 a7 c9, .int .u64 a11, iV a12, iV a13, iV a14, iV a15, iV a16, iV a17, .bool a18, iV (fn24 0), iV (fn24 1), iV (fn24 2), iV (fn24 3), iV (fn24 4), iV (fn24 5), iV (fn24 6), iV (fn24 7), iV (fn24 8), iV (fn24 9), iV (fn24 10), iV (fn24 11), iV (fn24 12), iV (fn24 13), iV (fn24 14), iV (fn24 15), iV a19, sV A20 a22 c21, iV a23] 260 :: OSf E_api_Out 265 (sV A20 a22 c21) a22 :: l) hf) :
   Calls prog 144 #[pV b1, .agg (C_api_Instr a25).toArray] w (Ret fun v w => v = .tuple #[] ∧ St B w (Cl b1 [sV A3 a2 c4, iV a6, sV A8 a7 c9, .int .u64 a11, iV a12, iV a13, iV a14, iV a15, iV a16, iV a17, .bool a18, iV (r 0), iV (r 1), iV (r 2), iV (r 3), iV (r 4), iV (r 5), iV (r 6), iV (r 7), iV (r 8), iV (r 9), iV (r 10), iV (r 11), iV (r 12), iV (r 13), iV (r 14), iV (r 15), iV a19, sV A20 a22 c21, iV a23] 260 :: OSf E_api_Out 265 (sV A20 a22 c21) a22 :: l) hf) := by
 have h := Holds.of h
 refine en func144 rfl ntmps144 rfl (sr (rr [0] hS ?_))
 refine fun b33 => it fun w hS => ln (dr [0, 3, 7, 9, 12, 16, 18, 21, 24, 28, 30, 33, 37, 39, 42, 45, 49, 51, 56, 59, 62, 65] [20, 21] hS fun w hS => rq [0, 0, 1, 0, 0, 1, 0, 0] hS ?_)
 refine it ?_
 obtain ⟨⟨hq34, hq35⟩, h⟩ := h.req
 refine RP.s0 8 rfl (fun w => Vl.indexAddrA (a'' := ⟨b1, 11 + a25.B.toNat * 1, none⟩) underlying258 sizeOf2 rfl rfl hq34 hq35 (add_mk _ _ _)) rfl (RP.s 0 9 rfl rfl hS (fun w hS => Vl.load isAgg2 rfl (hS.cell (off := 11 + a25.B.toNat * 1) (cs := [sV A3 a2 c4, iV a6, sV A8 a7 c9, .int .u64 a11, iV a12, iV a13, iV a14, iV a15, iV a16, iV a17, .bool a18] ++ (fc (Value.int .i64) 16 fn24 ++ [iV a19, sV A20 a22 c21, iV a23])) 1 rfl (seg_get rfl (by omega)))) rfl (rq [0, 0, 1, 0, 0] hS ?_))
 refine it ?_
 obtain ⟨⟨hq36, hq37⟩, h⟩ := h.req
 refine RP.s0 15 rfl (fun w => Vl.indexAddrA (a'' := ⟨b1, 11 + a25.C.toNat * 1, none⟩) underlying258 sizeOf2 rfl rfl hq36 hq37 (add_mk _ _ _)) rfl (RP.s 0 16 rfl rfl hS (fun w hS => Vl.load isAgg2 rfl (hS.cell (off := 11 + a25.C.toNat * 1) (cs := [sV A3 a2 c4, iV a6, sV A8 a7 c9, .int .u64 a11, iV a12, iV a13, iV a14, iV a15, iV a16, iV a17, .bool a18] ++ (fc (Value.int .i64) 16 fn24 ++ [iV a19, sV A20 a22 c21, iV a23])) 1 rfl (seg_get rfl (by omega)))) rfl (rq [0, 0, 0] hS ?_))
 refine it ?_
 obtain ⟨⟨hq38, hq39⟩, h⟩ := h.req
 refine RP.v1 20 rfl (Vl.indexAddrA (a'' := ⟨b1, 11 + a25.A.toNat * 1, none⟩) underlying258 sizeOf2 rfl rfl hq38 hq39 (add_mk _ _ _)) rfl rfl (RP.e0 21 rfl (OW.storeSeg (mk := (Value.int .i64)) (f := fn24) (n := 16) (m := 11) (pre := [sV A3 a2 c4, iV a6, sV A8 a7 c9, .int .u64 a11, iV a12, iV a13, iV a14, iV a15, iV a16, iV a17, .bool a18]) (post := [iV a19, sV A20 a22 c21, iV a23]) 1 hS rfl rfl rfl rfl sizeOf2 (by omega) (fun _ => rfl) (fun _ => rfl) rfl) rfl ?_)
 rintro _ w ⟨rfl, hS⟩
 have hS : St B w (_ :: _ :: _ :: l) hf := hS
 refine ⟨kp ⟨(by intro hx; cases hx), trivial⟩, ?_⟩
 refine RP.nil ?_
 cases h.some
 exact rtE results144 rfl ⟨rfl, hS.d0⟩
def vm_quotient.j2 (a1 a2 : Int) : Option (Int × Int) := (if ¬ a2 = 0 then some (IntKind.i64.wrap (Int.tdiv a1 a2), Int.tmod a1 a2) else none)
def vm_quotient.f (a1 a2 : Int) : Option (Int × Int) := (if a2 = 0 then some (0, 0) else (if a2 = (-1) then (if a1 = (-9223372036854775808) then some (a1, 0) else vm_quotient.j2 a1 a2) else vm_quotient.j2 a1 a2))
theorem vm_quotient.ok {a1 a2 : Int} {r : Int × Int} (h : vm_quotient.f a1 a2 = some r) (hS : St B w (l) hf) :
   Calls prog 157 #[iV a1, iV a2] w (Ret fun v w => v = .tuple #[iV r.1, iV r.2] ∧ St B w (l) hf) := by
 have h := Holds.of h
 refine en func157 rfl ntmps157 rfl (sr (pn 2 rfl (ln ?_)))
 refine RC.join (fun (s : Unit) a w => s = () ∧ Holds (· = r) (vm_quotient.j2 a1 a2) ∧ Has 23 [(0, iV a1), (1, iV a2)] a ∧ St B w (l) hf) ?_ ?_
 · rintro _ a w ⟨rfl, h, ha, hS⟩
   refine ro ha (RC.seq (dr [0, 3, 6, 9, 12, 15, 20, 23] [6, 7] hS fun w hS => pp 2 rfl ?_))
   obtain ⟨hq13, h⟩ := h.req
   refine RP.s0 2 rfl (fun w => Vl.quo rfl rfl hq13) rfl (pp 2 rfl (RP.s0 5 rfl (fun w => Vl.rem rfl rfl hq13) rfl (rq [0, 0] hS ?_)))
   refine it (RP.nil (tr ?_))
   cases h.some
   exact rt results157 rfl ⟨rfl, hS⟩
 refine RC.block (sr (pn 3 rfl (ln ?_)))
 refine RC.iteP 6 rfl h (fun hc14 h => ?_) fun hc14 h => ?_
 next =>
  refine jtr (pn 2 rfl (lr (ir ?_)))
  cases h.some
  exact rt results157 rfl ⟨rfl, hS⟩
 refine jf (sr (pn 3 rfl ?_))
 refine RL.iteP 12 rfl h (fun hc15 h => ?_) fun hc15 h => ?_
 next =>
  refine pn 4 rfl (ln ?_)
  refine RC.iteP 9 rfl h (fun hc16 h => ?_) fun hc16 h => ?_
  next =>
   refine jtr (pn 3 rfl (lr (ir ?_)))
   cases h.some
   exact rt results157 rfl ⟨rfl, hS⟩
  refine jf (RC.skip (RQ.inB_n ?_))
  exact fun a ha => ⟨_, rfl, h, ha.tE rfl, hS⟩
 refine pn 4 rfl (ln (jf (RC.skip (RQ.inB_n ?_))))
 exact fun a ha => ⟨_, rfl, h, ha.tE rfl, hS⟩
def vm_cpu_div.f (a2 : List api_Instr) (a6 : Int) (a7 : List api_Link) (a11 a12 a13 a14 a15 a16 a17 : Int) (a18 : Bool) (a19 : Int) (a22 : List api_Out) (a23 : Int) (fn24 : (Nat → Int)) (a25 : api_Instr) : Option ((Nat → Int)) := (if 0 ≤ a25.B ∧ a25.B < 16 then (if 0 ≤ a25.C ∧ a25.C < 16 then ((vm_quotient.f (fn24 (a25.B.toNat * 1)) (fn24 (a25.C.toNat * 1))).bind fun (y44, y45) => (if 0 ≤ a25.A ∧ a25.A < 16 then some (upd fn24 (a25.A.toNat * 1) y44) else none)) else none) else none)
theorem vm_cpu_div.ok {a2 : List api_Instr} {a6 a11 a12 a13 a14 a15 a16 a17 a19 a23 : Int} {a7 : List api_Link} {a18 : Bool} {a22 : List api_Out} {fn24 : (Nat → Int)} {a25 : api_Instr} {b1 c4 c9 c21 : Nat} {A3 A8 A20 : Option Addr} (hr5 : SlR E_api_Instr.rep hf A3 c4 a2) (hr10 : SlR E_api_Link.rep hf A8 c9 a7) {r : (Nat → Int)} (h : vm_cpu_div.f a2 a6 a7 a11 a12 a13 a14 a15 a16 a17 a18 a19 a22 a23 fn24 a25 = some r) (hS : St B w (Cl b1 [sV A3 a2 c4, iV a6, sV A8 a7 c9, .int .u64 a11, iV a12, iV a13, iV a14, iV a15, iV a16, iV a17, .bool a18, iV (fn24 0), iV (fn24 1), iV (fn24 2), iV (fn24 3), iV (fn24 4), iV (fn24 5), iV (fn24 6), iV (fn24 7), iV (fn24 8), iV (fn24 9), iV (fn24 10), iV (fn24 11), iV (fn24 12), iV (fn24 13), iV (fn24 14), iV (fn24 15), iV a19, sV A20 a22 c21, iV a23] 260 :: OSf E_api_Out 265 (sV A20 a22 c21) a22 :: l) hf) :
   Calls prog 145 #[pV b1, .agg (C_api_Instr a25).toArray] w (Ret fun v w => v = .tuple #[] ∧ St B w (Cl b1 [sV A3 a2 c4, iV a6, sV A8 a7 c9, .int .u64 a11, iV a12, iV a13, iV a14, iV a15, iV a16, iV a17, .bool a18, iV (r 0), iV (r 1), iV (r 2), iV (r 3), iV (r 4), iV (r 5), iV (r 6), iV (r 7), iV (r 8), iV (r 9), iV (r 10), iV (r 11), iV (r 12), iV (r 13), iV (r 14), iV (r 15), iV a19, sV A20 a22 c21, iV a23] 260 :: OSf E_api_Out 265 (sV A20 a22 c21) a22 :: l) hf) := by
 have h := Holds.of h
 refine en func145 rfl ntmps145 rfl (sr (rr [0] hS ?_))
 refine fun b37 => it fun w hS => ln (dr [0, 3, 7, 9, 12, 16, 18, 21, 24, 28, 30, 33, 37, 39, 42, 45, 49, 63, 66, 53, 54, 57, 60, 71, 74] [23, 24] hS fun w hS => rq [0, 0, 1, 0, 0, 1, 0, 0] hS ?_)
 refine it ?_
 obtain ⟨⟨hq38, hq39⟩, h⟩ := h.req
 refine RP.s0 8 rfl (fun w => Vl.indexAddrA (a'' := ⟨b1, 11 + a25.B.toNat * 1, none⟩) underlying258 sizeOf2 rfl rfl hq38 hq39 (add_mk _ _ _)) rfl (RP.s 0 9 rfl rfl hS (fun w hS => Vl.load isAgg2 rfl (hS.cell (off := 11 + a25.B.toNat * 1) (cs := [sV A3 a2 c4, iV a6, sV A8 a7 c9, .int .u64 a11, iV a12, iV a13, iV a14, iV a15, iV a16, iV a17, .bool a18] ++ (fc (Value.int .i64) 16 fn24 ++ [iV a19, sV A20 a22 c21, iV a23])) 1 rfl (seg_get rfl (by omega)))) rfl (rq [0, 0, 1, 0, 0] hS ?_))
 refine it ?_
 obtain ⟨⟨hq40, hq41⟩, h⟩ := h.req
 refine RP.s0 15 rfl (fun w => Vl.indexAddrA (a'' := ⟨b1, 11 + a25.C.toNat * 1, none⟩) underlying258 sizeOf2 rfl rfl hq40 hq41 (add_mk _ _ _)) rfl (RP.s 0 16 rfl rfl hS (fun w hS => Vl.load isAgg2 rfl (hS.cell (off := 11 + a25.C.toNat * 1) (cs := [sV A3 a2 c4, iV a6, sV A8 a7 c9, .int .u64 a11, iV a12, iV a13, iV a14, iV a15, iV a16, iV a17, .bool a18] ++ (fc (Value.int .i64) 16 fn24 ++ [iV a19, sV A20 a22 c21, iV a23])) 1 rfl (seg_get rfl (by omega)))) rfl (rq [0, 0] hS ?_))
 refine it ?_
 obtain ⟨t42, hg43, h⟩ := h.bind
 have hc := vm_quotient.ok hg43 hS
 obtain ⟨y44, y45⟩ := t42
 refine RP.e 17 rfl (OW.callF (ls := [.tmp 14, .tmp 21]) rfl call157 hc) rfl rfl ?_
 rintro _ w ⟨rfl, hS⟩
 refine ⟨kp ⟨fun _ => hS, trivial⟩, ?_⟩
 refine pp 3 rfl ?_
 obtain ⟨⟨hq46, hq47⟩, h⟩ := h.req
 refine RP.v1 23 rfl (Vl.indexAddrA (a'' := ⟨b1, 11 + a25.A.toNat * 1, none⟩) underlying258 sizeOf2 rfl rfl hq46 hq47 (add_mk _ _ _)) rfl rfl (RP.e0 24 rfl (OW.storeSeg (mk := (Value.int .i64)) (f := fn24) (n := 16) (m := 11) (pre := [sV A3 a2 c4, iV a6, sV A8 a7 c9, .int .u64 a11, iV a12, iV a13, iV a14, iV a15, iV a16, iV a17, .bool a18]) (post := [iV a19, sV A20 a22 c21, iV a23]) 1 hS rfl rfl rfl rfl sizeOf2 (by omega) (fun _ => rfl) (fun _ => rfl) rfl) rfl ?_)
 rintro _ w ⟨rfl, hS⟩
 have hS : St B w (_ :: _ :: _ :: l) hf := hS
 refine ⟨kp ⟨(by intro hx; cases hx), trivial⟩, ?_⟩
 refine RP.nil ?_
 cases h.some
 exact rtE results145 rfl ⟨rfl, hS.d0⟩
def vm_cpu_mod.f (a2 : List api_Instr) (a6 : Int) (a7 : List api_Link) (a11 a12 a13 a14 a15 a16 a17 : Int) (a18 : Bool) (a19 : Int) (a22 : List api_Out) (a23 : Int) (fn24 : (Nat → Int)) (a25 : api_Instr) : Option ((Nat → Int)) := (if 0 ≤ a25.B ∧ a25.B < 16 then (if 0 ≤ a25.C ∧ a25.C < 16 then ((vm_quotient.f (fn24 (a25.B.toNat * 1)) (fn24 (a25.C.toNat * 1))).bind fun (y44, y45) => (if 0 ≤ a25.A ∧ a25.A < 16 then some (upd fn24 (a25.A.toNat * 1) y45) else none)) else none) else none)
theorem vm_cpu_mod.ok {a2 : List api_Instr} {a6 a11 a12 a13 a14 a15 a16 a17 a19 a23 : Int} {a7 : List api_Link} {a18 : Bool} {a22 : List api_Out} {fn24 : (Nat → Int)} {a25 : api_Instr} {b1 c4 c9 c21 : Nat} {A3 A8 A20 : Option Addr} (hr5 : SlR E_api_Instr.rep hf A3 c4 a2) (hr10 : SlR E_api_Link.rep hf A8 c9 a7) {r : (Nat → Int)} (h : vm_cpu_mod.f a2 a6 a7 a11 a12 a13 a14 a15 a16 a17 a18 a19 a22 a23 fn24 a25 = some r) (hS : St B w (Cl b1 [sV A3 a2 c4, iV a6, sV A8 a7 c9, .int .u64 a11, iV a12, iV a13, iV a14, iV a15, iV a16, iV a17, .bool a18, iV (fn24 0), iV (fn24 1), iV (fn24 2), iV (fn24 3), iV (fn24 4), iV (fn24 5), iV (fn24 6), iV (fn24 7), iV (fn24 8), iV (fn24 9), iV (fn24 10), iV (fn24 11), iV (fn24 12), iV (fn24 13), iV (fn24 14), iV (fn24 15), iV a19, sV A20 a22 c21, iV a23] 260 :: OSf E_api_Out 265 (sV A20 a22 c21) a22 :: l) hf) :
   Calls prog 146 #[pV b1, .agg (C_api_Instr a25).toArray] w (Ret fun v w => v = .tuple #[] ∧ St B w (Cl b1 [sV A3 a2 c4, iV a6, sV A8 a7 c9, .int .u64 a11, iV a12, iV a13, iV a14, iV a15, iV a16, iV a17, .bool a18, iV (r 0), iV (r 1), iV (r 2), iV (r 3), iV (r 4), iV (r 5), iV (r 6), iV (r 7), iV (r 8), iV (r 9), iV (r 10), iV (r 11), iV (r 12), iV (r 13), iV (r 14), iV (r 15), iV a19, sV A20 a22 c21, iV a23] 260 :: OSf E_api_Out 265 (sV A20 a22 c21) a22 :: l) hf) := by
 have h := Holds.of h
 refine en func146 rfl ntmps146 rfl (sr (rr [0] hS ?_))
 refine fun b37 => it fun w hS => ln (dr [0, 3, 7, 9, 12, 16, 18, 21, 24, 28, 30, 33, 37, 39, 42, 45, 49, 63, 66, 53, 54, 57, 62, 71, 74] [23, 24] hS fun w hS => rq [0, 0, 1, 0, 0, 1, 0, 0] hS ?_)
 refine it ?_
 obtain ⟨⟨hq38, hq39⟩, h⟩ := h.req
 refine RP.s0 8 rfl (fun w => Vl.indexAddrA (a'' := ⟨b1, 11 + a25.B.toNat * 1, none⟩) underlying258 sizeOf2 rfl rfl hq38 hq39 (add_mk _ _ _)) rfl (RP.s 0 9 rfl rfl hS (fun w hS => Vl.load isAgg2 rfl (hS.cell (off := 11 + a25.B.toNat * 1) (cs := [sV A3 a2 c4, iV a6, sV A8 a7 c9, .int .u64 a11, iV a12, iV a13, iV a14, iV a15, iV a16, iV a17, .bool a18] ++ (fc (Value.int .i64) 16 fn24 ++ [iV a19, sV A20 a22 c21, iV a23])) 1 rfl (seg_get rfl (by omega)))) rfl (rq [0, 0, 1, 0, 0] hS ?_))
 refine it ?_
 obtain ⟨⟨hq40, hq41⟩, h⟩ := h.req
 refine RP.s0 15 rfl (fun w => Vl.indexAddrA (a'' := ⟨b1, 11 + a25.C.toNat * 1, none⟩) underlying258 sizeOf2 rfl rfl hq40 hq41 (add_mk _ _ _)) rfl (RP.s 0 16 rfl rfl hS (fun w hS => Vl.load isAgg2 rfl (hS.cell (off := 11 + a25.C.toNat * 1) (cs := [sV A3 a2 c4, iV a6, sV A8 a7 c9, .int .u64 a11, iV a12, iV a13, iV a14, iV a15, iV a16, iV a17, .bool a18] ++ (fc (Value.int .i64) 16 fn24 ++ [iV a19, sV A20 a22 c21, iV a23])) 1 rfl (seg_get rfl (by omega)))) rfl (rq [0, 0] hS ?_))
 refine it ?_
 obtain ⟨t42, hg43, h⟩ := h.bind
 have hc := vm_quotient.ok hg43 hS
 obtain ⟨y44, y45⟩ := t42
 refine RP.e 17 rfl (OW.callF (ls := [.tmp 14, .tmp 21]) rfl call157 hc) rfl rfl ?_
 rintro _ w ⟨rfl, hS⟩
 refine ⟨kp ⟨fun _ => hS, trivial⟩, ?_⟩
 refine rq [0, 0, 0] hS ?_
 refine it ?_
 obtain ⟨⟨hq46, hq47⟩, h⟩ := h.req
 refine RP.v1 23 rfl (Vl.indexAddrA (a'' := ⟨b1, 11 + a25.A.toNat * 1, none⟩) underlying258 sizeOf2 rfl rfl hq46 hq47 (add_mk _ _ _)) rfl rfl (RP.e0 24 rfl (OW.storeSeg (mk := (Value.int .i64)) (f := fn24) (n := 16) (m := 11) (pre := [sV A3 a2 c4, iV a6, sV A8 a7 c9, .int .u64 a11, iV a12, iV a13, iV a14, iV a15, iV a16, iV a17, .bool a18]) (post := [iV a19, sV A20 a22 c21, iV a23]) 1 hS rfl rfl rfl rfl sizeOf2 (by omega) (fun _ => rfl) (fun _ => rfl) rfl) rfl ?_)
 rintro _ w ⟨rfl, hS⟩
 have hS : St B w (_ :: _ :: _ :: l) hf := hS
 refine ⟨kp ⟨(by intro hx; cases hx), trivial⟩, ?_⟩
 refine RP.nil ?_
 cases h.some
 exact rtE results146 rfl ⟨rfl, hS.d0⟩
def vm_truth.f (a1 : Bool) : Option (Int) := (if a1 = true then some 1 else some 0)
theorem vm_truth.ok {a1 : Bool} {r : Int} (h : vm_truth.f a1 = some r) (hS : St B w (l) hf) :
   Calls prog 158 #[.bool a1] w (Ret fun v w => v = iV r ∧ St B w (l) hf) := by
 have h := Holds.of h
 refine en func158 rfl ntmps158 rfl (sr (pn 1 rfl (ln (RC.seq (sr (pn 1 rfl (ln ?_)))))))
 refine RC.iteB 3 rfl h (fun hc3 h => ?_) fun hc3 h => ?_
 next =>
  refine jtr (pn 1 rfl (lr (RQ.ret ?_)))
  obtain rfl := h.some
  exact rt results158 rfl ⟨rfl, hS⟩
 refine jfs (sr (pn 1 rfl (lr ?_)))
 obtain rfl := h.some
 exact rt results158 rfl ⟨rfl, hS⟩
def vm_cpu_less.f (a2 : List api_Instr) (a6 : Int) (a7 : List api_Link) (a11 a12 a13 a14 a15 a16 a17 : Int) (a18 : Bool) (a19 : Int) (a22 : List api_Out) (a23 : Int) (fn24 : (Nat → Int)) (a25 : api_Instr) : Option ((Nat → Int)) := (if 0 ≤ a25.B ∧ a25.B < 16 then (if 0 ≤ a25.C ∧ a25.C < 16 then ((vm_truth.f (decide (fn24 (a25.B.toNat * 1) < fn24 (a25.C.toNat * 1)))).bind fun t40 => (if 0 ≤ a25.A ∧ a25.A < 16 then some (upd fn24 (a25.A.toNat * 1) t40) else none)) else none) else none)
theorem vm_cpu_less.ok {a2 : List api_Instr} {a6 a11 a12 a13 a14 a15 a16 a17 a19 a23 : Int} {a7 : List api_Link} {a18 : Bool} {a22 : List api_Out} {fn24 : (Nat → Int)} {a25 : api_Instr} {b1 c4 c9 c21 : Nat} {A3 A8 A20 : Option Addr} (hr5 : SlR E_api_Instr.rep hf A3 c4 a2) (hr10 : SlR E_api_Link.rep hf A8 c9 a7) {r : (Nat → Int)} (h : vm_cpu_less.f a2 a6 a7 a11 a12 a13 a14 a15 a16 a17 a18 a19 a22 a23 fn24 a25 = some r) (hS : St B w (Cl b1 [sV A3 a2 c4, iV a6, sV A8 a7 c9, .int .u64 a11, iV a12, iV a13, iV a14, iV a15, iV a16, iV a17, .bool a18, iV (fn24 0), iV (fn24 1), iV (fn24 2), iV (fn24 3), iV (fn24 4), iV (fn24 5), iV (fn24 6), iV (fn24 7), iV (fn24 8), iV (fn24 9), iV (fn24 10), iV (fn24 11), iV (fn24 12), iV (fn24 13), iV (fn24 14), iV (fn24 15), iV a19, sV A20 a22 c21, iV a23] 260 :: OSf E_api_Out 265 (sV A20 a22 c21) a22 :: l) hf) :
   Calls prog 147 #[pV b1, .agg (C_api_Instr a25).toArray] w (Ret fun v w => v = .tuple #[] ∧ St B w (Cl b1 [sV A3 a2 c4, iV a6, sV A8 a7 c9, .int .u64 a11, iV a12, iV a13, iV a14, iV a15, iV a16, iV a17, .bool a18, iV (r 0), iV (r 1), iV (r 2), iV (r 3), iV (r 4), iV (r 5), iV (r 6), iV (r 7), iV (r 8), iV (r 9), iV (r 10), iV (r 11), iV (r 12), iV (r 13), iV (r 14), iV (r 15), iV a19, sV A20 a22 c21, iV a23] 260 :: OSf E_api_Out 265 (sV A20 a22 c21) a22 :: l) hf) := by
 have h := Holds.of h
 refine en func147 rfl ntmps147 rfl (sr (rr [0] hS ?_))
 refine fun b35 => it fun w hS => ln (dr [0, 3, 7, 9, 12, 16, 18, 21, 24, 28, 30, 33, 37, 39, 42, 45, 49, 51, 57, 60, 56, 65, 68] [21, 22] hS fun w hS => rq [0, 0, 1, 0, 0, 1, 0, 0] hS ?_)
 refine it ?_
 obtain ⟨⟨hq36, hq37⟩, h⟩ := h.req
 refine RP.s0 8 rfl (fun w => Vl.indexAddrA (a'' := ⟨b1, 11 + a25.B.toNat * 1, none⟩) underlying258 sizeOf2 rfl rfl hq36 hq37 (add_mk _ _ _)) rfl (RP.s 0 9 rfl rfl hS (fun w hS => Vl.load isAgg2 rfl (hS.cell (off := 11 + a25.B.toNat * 1) (cs := [sV A3 a2 c4, iV a6, sV A8 a7 c9, .int .u64 a11, iV a12, iV a13, iV a14, iV a15, iV a16, iV a17, .bool a18] ++ (fc (Value.int .i64) 16 fn24 ++ [iV a19, sV A20 a22 c21, iV a23])) 1 rfl (seg_get rfl (by omega)))) rfl (rq [0, 0, 1, 0, 0] hS ?_))
 refine it ?_
 obtain ⟨⟨hq38, hq39⟩, h⟩ := h.req
 refine RP.s0 15 rfl (fun w => Vl.indexAddrA (a'' := ⟨b1, 11 + a25.C.toNat * 1, none⟩) underlying258 sizeOf2 rfl rfl hq38 hq39 (add_mk _ _ _)) rfl (RP.s 0 16 rfl rfl hS (fun w hS => Vl.load isAgg2 rfl (hS.cell (off := 11 + a25.C.toNat * 1) (cs := [sV A3 a2 c4, iV a6, sV A8 a7 c9, .int .u64 a11, iV a12, iV a13, iV a14, iV a15, iV a16, iV a17, .bool a18] ++ (fc (Value.int .i64) 16 fn24 ++ [iV a19, sV A20 a22 c21, iV a23])) 1 rfl (seg_get rfl (by omega)))) rfl (rq [0, 0, 0] hS ?_))
 refine it ?_
 obtain ⟨t40, hg41, h⟩ := h.bind
 have hc := vm_truth.ok hg41 hS
 refine RP.e 18 rfl (OW.callF (ls := [.tmp 21]) rfl call158 hc) rfl rfl ?_
 rintro _ w ⟨rfl, hS⟩
 refine ⟨kp ⟨fun _ => hS, trivial⟩, ?_⟩
 obtain ⟨⟨hq42, hq43⟩, h⟩ := h.req
 refine RP.v1 21 rfl (Vl.indexAddrA (a'' := ⟨b1, 11 + a25.A.toNat * 1, none⟩) underlying258 sizeOf2 rfl rfl hq42 hq43 (add_mk _ _ _)) rfl rfl (RP.e0 22 rfl (OW.storeSeg (mk := (Value.int .i64)) (f := fn24) (n := 16) (m := 11) (pre := [sV A3 a2 c4, iV a6, sV A8 a7 c9, .int .u64 a11, iV a12, iV a13, iV a14, iV a15, iV a16, iV a17, .bool a18]) (post := [iV a19, sV A20 a22 c21, iV a23]) 1 hS rfl rfl rfl rfl sizeOf2 (by omega) (fun _ => rfl) (fun _ => rfl) rfl) rfl ?_)
 rintro _ w ⟨rfl, hS⟩
 have hS : St B w (_ :: _ :: _ :: l) hf := hS
 refine ⟨kp ⟨(by intro hx; cases hx), trivial⟩, ?_⟩
 refine RP.nil ?_
 cases h.some
 exact rtE results147 rfl ⟨rfl, hS.d0⟩
def vm_cpu_same.f (a2 : List api_Instr) (a6 : Int) (a7 : List api_Link) (a11 a12 a13 a14 a15 a16 a17 : Int) (a18 : Bool) (a19 : Int) (a22 : List api_Out) (a23 : Int) (fn24 : (Nat → Int)) (a25 : api_Instr) : Option ((Nat → Int)) := (if 0 ≤ a25.B ∧ a25.B < 16 then (if 0 ≤ a25.C ∧ a25.C < 16 then ((vm_truth.f (decide (fn24 (a25.B.toNat * 1) = fn24 (a25.C.toNat * 1)))).bind fun t40 => (if 0 ≤ a25.A ∧ a25.A < 16 then some (upd fn24 (a25.A.toNat * 1) t40) else none)) else none) else none)
theorem vm_cpu_same.ok {a2 : List api_Instr} {a6 a11 a12 a13 a14 a15 a16 a17 a19 a23 : Int} {a7 : List api_Link} {a18 : Bool} {a22 : List api_Out} {fn24 : (Nat → Int)} {a25 : api_Instr} {b1 c4 c9 c21 : Nat} {A3 A8 A20 : Option Addr} (hr5 : SlR E_api_Instr.rep hf A3 c4 a2) (hr10 : SlR E_api_Link.rep hf A8 c9 a7) {r : (Nat → Int)} (h : vm_cpu_same.f a2 a6 a7 a11 a12 a13 a14 a15 a16 a17 a18 a19 a22 a23 fn24 a25 = some r) (hS : St B w (Cl b1 [sV A3 a2 c4, iV a6, sV A8 a7 c9, .int .u64 a11, iV a12, iV a13, iV a14, iV a15, iV a16, iV a17, .bool a18, iV (fn24 0), iV (fn24 1), iV (fn24 2), iV (fn24 3), iV (fn24 4), iV (fn24 5), iV (fn24 6), iV (fn24 7), iV (fn24 8), iV (fn24 9), iV (fn24 10), iV (fn24 11), iV (fn24 12), iV (fn24 13), iV (fn24 14), iV (fn24 15), iV a19, sV A20 a22 c21, iV a23] 260 :: OSf E_api_Out 265 (sV A20 a22 c21) a22 :: l) hf) :
   Calls prog 148 #[pV b1, .agg (C_api_Instr a25).toArray] w (Ret fun v w => v = .tuple #[] ∧ St B w (Cl b1 [sV A3 a2 c4, iV a6, sV A8 a7 c9, .int .u64 a11, iV a12, iV a13, iV a14, iV a15, iV a16, iV a17, .bool a18, iV (r 0), iV (r 1), iV (r 2), iV (r 3), iV (r 4), iV (r 5), iV (r 6), iV (r 7), iV (r 8), iV (r 9), iV (r 10), iV (r 11), iV (r 12), iV (r 13), iV (r 14), iV (r 15), iV a19, sV A20 a22 c21, iV a23] 260 :: OSf E_api_Out 265 (sV A20 a22 c21) a22 :: l) hf) := by
 have h := Holds.of h
 refine en func148 rfl ntmps148 rfl (sr (rr [0] hS ?_))
 refine fun b35 => it fun w hS => ln (dr [0, 3, 7, 9, 12, 16, 18, 21, 24, 28, 30, 33, 37, 39, 42, 45, 49, 51, 57, 60, 56, 65, 68] [21, 22] hS fun w hS => rq [0, 0, 1, 0, 0, 1, 0, 0] hS ?_)
 refine it ?_
 obtain ⟨⟨hq36, hq37⟩, h⟩ := h.req
 refine RP.s0 8 rfl (fun w => Vl.indexAddrA (a'' := ⟨b1, 11 + a25.B.toNat * 1, none⟩) underlying258 sizeOf2 rfl rfl hq36 hq37 (add_mk _ _ _)) rfl (RP.s 0 9 rfl rfl hS (fun w hS => Vl.load isAgg2 rfl (hS.cell (off := 11 + a25.B.toNat * 1) (cs := [sV A3 a2 c4, iV a6, sV A8 a7 c9, .int .u64 a11, iV a12, iV a13, iV a14, iV a15, iV a16, iV a17, .bool a18] ++ (fc (Value.int .i64) 16 fn24 ++ [iV a19, sV A20 a22 c21, iV a23])) 1 rfl (seg_get rfl (by omega)))) rfl (rq [0, 0, 1, 0, 0] hS ?_))
 refine it ?_
 obtain ⟨⟨hq38, hq39⟩, h⟩ := h.req
 refine RP.s0 15 rfl (fun w => Vl.indexAddrA (a'' := ⟨b1, 11 + a25.C.toNat * 1, none⟩) underlying258 sizeOf2 rfl rfl hq38 hq39 (add_mk _ _ _)) rfl (RP.s 0 16 rfl rfl hS (fun w hS => Vl.load isAgg2 rfl (hS.cell (off := 11 + a25.C.toNat * 1) (cs := [sV A3 a2 c4, iV a6, sV A8 a7 c9, .int .u64 a11, iV a12, iV a13, iV a14, iV a15, iV a16, iV a17, .bool a18] ++ (fc (Value.int .i64) 16 fn24 ++ [iV a19, sV A20 a22 c21, iV a23])) 1 rfl (seg_get rfl (by omega)))) rfl (rq [0, 0, 0] hS ?_))
 refine it ?_
 obtain ⟨t40, hg41, h⟩ := h.bind
 have hc := vm_truth.ok hg41 hS
 refine RP.e 18 rfl (OW.callF (ls := [.tmp 21]) rfl call158 hc) rfl rfl ?_
 rintro _ w ⟨rfl, hS⟩
 refine ⟨kp ⟨fun _ => hS, trivial⟩, ?_⟩
 obtain ⟨⟨hq42, hq43⟩, h⟩ := h.req
 refine RP.v1 21 rfl (Vl.indexAddrA (a'' := ⟨b1, 11 + a25.A.toNat * 1, none⟩) underlying258 sizeOf2 rfl rfl hq42 hq43 (add_mk _ _ _)) rfl rfl (RP.e0 22 rfl (OW.storeSeg (mk := (Value.int .i64)) (f := fn24) (n := 16) (m := 11) (pre := [sV A3 a2 c4, iV a6, sV A8 a7 c9, .int .u64 a11, iV a12, iV a13, iV a14, iV a15, iV a16, iV a17, .bool a18]) (post := [iV a19, sV A20 a22 c21, iV a23]) 1 hS rfl rfl rfl rfl sizeOf2 (by omega) (fun _ => rfl) (fun _ => rfl) rfl) rfl ?_)
 rintro _ w ⟨rfl, hS⟩
 have hS : St B w (_ :: _ :: _ :: l) hf := hS
 refine ⟨kp ⟨(by intro hx; cases hx), trivial⟩, ?_⟩
 refine RP.nil ?_
 cases h.some
 exact rtE results148 rfl ⟨rfl, hS.d0⟩
def vm_cpu_jump.f (a2 : List api_Instr) (a6 : Int) (a7 : List api_Link) (a11 a12 a13 a14 a15 a16 a17 : Int) (a18 : Bool) (a19 : Int) (a22 : List api_Out) (a23 : Int) (fn24 : (Nat → Int)) (a25 : api_Instr) : Option (Int) := some a25.A
theorem vm_cpu_jump.ok {a2 : List api_Instr} {a6 a11 a12 a13 a14 a15 a16 a17 a19 a23 : Int} {a7 : List api_Link} {a18 : Bool} {a22 : List api_Out} {fn24 : (Nat → Int)} {a25 : api_Instr} {b1 c4 c9 c21 : Nat} {A3 A8 A20 : Option Addr} (hr5 : SlR E_api_Instr.rep hf A3 c4 a2) (hr10 : SlR E_api_Link.rep hf A8 c9 a7) {r : Int} (h : vm_cpu_jump.f a2 a6 a7 a11 a12 a13 a14 a15 a16 a17 a18 a19 a22 a23 fn24 a25 = some r) (hS : St B w (Cl b1 [sV A3 a2 c4, iV a6, sV A8 a7 c9, .int .u64 a11, iV a12, iV a13, iV a14, iV a15, iV a16, iV a17, .bool a18, iV (fn24 0), iV (fn24 1), iV (fn24 2), iV (fn24 3), iV (fn24 4), iV (fn24 5), iV (fn24 6), iV (fn24 7), iV (fn24 8), iV (fn24 9), iV (fn24 10), iV (fn24 11), iV (fn24 12), iV (fn24 13), iV (fn24 14), iV (fn24 15), iV a19, sV A20 a22 c21, iV a23] 260 :: OSf E_api_Out 265 (sV A20 a22 c21) a22 :: l) hf) :
   Calls prog 149 #[pV b1, .agg (C_api_Instr a25).toArray] w (Ret fun v w => v = .tuple #[] ∧ St B w (Cl b1 [sV A3 a2 c4, iV a6, sV A8 a7 c9, .int .u64 a11, iV a12, iV a13, iV a14, iV a15, iV a16, iV a17, .bool a18, iV (fn24 0), iV (fn24 1), iV (fn24 2), iV (fn24 3), iV (fn24 4), iV (fn24 5), iV (fn24 6), iV (fn24 7), iV (fn24 8), iV (fn24 9), iV (fn24 10), iV (fn24 11), iV (fn24 12), iV (fn24 13), iV (fn24 14), iV (fn24 15), iV a19, sV A20 a22 c21, iV r] 260 :: OSf E_api_Out 265 (sV A20 a22 c21) a22 :: l) hf) := by
 have h := Holds.of h
 refine en func149 rfl ntmps149 rfl (sr (rr [0] hS ?_))
 refine fun b27 => it fun w hS => ln (RC.region (rr [0, 0, 1, 0, 0, 2] hS ?_))
 refine it fun w hS => RL.nil ?_
 cases h.some
 exact rtE results149 rfl ⟨rfl, hS.d0⟩
def vm_cpu_zero.f (a2 : List api_Instr) (a6 : Int) (a7 : List api_Link) (a11 a12 a13 a14 a15 a16 a17 : Int) (a18 : Bool) (a19 : Int) (a22 : List api_Out) (a23 : Int) (fn24 : (Nat → Int)) (a25 : api_Instr) : Option (Int) := (if 0 ≤ a25.A ∧ a25.A < 16 then (if fn24 (a25.A.toNat * 1) = 0 then some a25.B else some a23) else none)
theorem vm_cpu_zero.ok {a2 : List api_Instr} {a6 a11 a12 a13 a14 a15 a16 a17 a19 a23 : Int} {a7 : List api_Link} {a18 : Bool} {a22 : List api_Out} {fn24 : (Nat → Int)} {a25 : api_Instr} {b1 c4 c9 c21 : Nat} {A3 A8 A20 : Option Addr} (hr5 : SlR E_api_Instr.rep hf A3 c4 a2) (hr10 : SlR E_api_Link.rep hf A8 c9 a7) {r : Int} (h : vm_cpu_zero.f a2 a6 a7 a11 a12 a13 a14 a15 a16 a17 a18 a19 a22 a23 fn24 a25 = some r) (hS : St B w (Cl b1 [sV A3 a2 c4, iV a6, sV A8 a7 c9, .int .u64 a11, iV a12, iV a13, iV a14, iV a15, iV a16, iV a17, .bool a18, iV (fn24 0), iV (fn24 1), iV (fn24 2), iV (fn24 3), iV (fn24 4), iV (fn24 5), iV (fn24 6), iV (fn24 7), iV (fn24 8), iV (fn24 9), iV (fn24 10), iV (fn24 11), iV (fn24 12), iV (fn24 13), iV (fn24 14), iV (fn24 15), iV a19, sV A20 a22 c21, iV a23] 260 :: OSf E_api_Out 265 (sV A20 a22 c21) a22 :: l) hf) :
   Calls prog 150 #[pV b1, .agg (C_api_Instr a25).toArray] w (Ret fun v w => v = .tuple #[] ∧ St B w (Cl b1 [sV A3 a2 c4, iV a6, sV A8 a7 c9, .int .u64 a11, iV a12, iV a13, iV a14, iV a15, iV a16, iV a17, .bool a18, iV (fn24 0), iV (fn24 1), iV (fn24 2), iV (fn24 3), iV (fn24 4), iV (fn24 5), iV (fn24 6), iV (fn24 7), iV (fn24 8), iV (fn24 9), iV (fn24 10), iV (fn24 11), iV (fn24 12), iV (fn24 13), iV (fn24 14), iV (fn24 15), iV a19, sV A20 a22 c21, iV r] 260 :: OSf E_api_Out 265 (sV A20 a22 c21) a22 :: l) hf) := by
 have h := Holds.of h
 refine en func150 rfl ntmps150 rfl (sr (rr [0] hS ?_))
 refine fun b30 => it fun w hS => ln (RC.seq (dr [0, 3, 7, 11, 14, 17, 20, 23] [5, 6, 7] hS fun w hS => rq [0, 0, 1, 0, 0] hS ?_))
 refine it ?_
 obtain ⟨⟨hq31, hq32⟩, h⟩ := h.req
 refine RP.v1 5 rfl (Vl.indexAddrA (a'' := ⟨b1, 11 + a25.A.toNat * 1, none⟩) underlying258 sizeOf2 rfl rfl hq31 hq32 (add_mk _ _ _)) rfl rfl (RP.v1 6 rfl (Vl.load isAgg2 rfl (hS.cell (off := 11 + a25.A.toNat * 1) (cs := [sV A3 a2 c4, iV a6, sV A8 a7 c9, .int .u64 a11, iV a12, iV a13, iV a14, iV a15, iV a16, iV a17, .bool a18] ++ (fc (Value.int .i64) 16 fn24 ++ [iV a19, sV A20 a22 c21, iV a23])) 1 rfl (seg_get rfl (by omega)))) rfl rfl (rq [0] hS ?_))
 refine it (RP.nil (RQ.then_n ?_))
 refine RC.iteP 11 rfl h (fun hc33 h => ?_) fun hc33 h => ?_
 next =>
  refine jt (RC.region (rr [0, 0, 1, 0, 0, 2] hS ?_))
  refine it fun w hS => RL.nil ?_
  cases h.some
  exact rtE results150 rfl ⟨rfl, hS.d0⟩
 refine jf (RC.skip ?_)
 obtain rfl := h.some
 exact rtE results150 rfl ⟨rfl, hS.d0⟩
def vtime_Add.f (a1 a2 : Int) : Option (Int × Int) := ((vtime_Valid.f a1).bind fun t33 => (if t33 = true then (if a2 < 0 then some (0, 1) else (if IntKind.i64.wrap (4611686018427387903 - a1) < a2 then some (0, 10) else some (IntKind.i64.wrap (a1 + a2), 0))) else some (0, 1)))
theorem vtime_Add.ok {a1 a2 : Int} {r : Int × Int} (h : vtime_Add.f a1 a2 = some r) (hS : St B w (l) hf) :
   Calls prog 159 #[iV a1, iV a2] w (Ret fun v w => v = .tuple #[iV r.1, iV r.2] ∧ St B w (l) hf) := by
 have h := Holds.of h
 refine en func159 rfl ntmps159 rfl (sr (pn 2 rfl (ln (RC.seq (RC.block (RC.seq (RC.block (RC.seq (RC.block (RC.block (RC.seq (RC.seq (RC.seq ?_)))))))))))))
 refine RC.region (pn 1 rfl (cF (fun _ hg => vtime_Valid.ok hg hS) call73 h rfl rfl rfl ?_))
 rintro t33 h _ w ⟨rfl, hS⟩
 refine pn 2 rfl (ln ?_)
 refine RC.iteM 6 rfl h (fun hc35 h => ?_) fun hc35 h => ?_
 next =>
  refine jfs (RC.seq (sr (pn 3 rfl (ln ?_))))
  refine RC.iteP 10 rfl h (fun hc37 h => ?_) fun hc37 h => ?_
  next =>
   refine jt (RC.exit (RQ.exitT (RQ.exitT (RQ.inB_miss rfl (RQ.inB_hit (RQ.then_n (RC.seq (sr (pn 2 rfl (lr (RQ.ret (RQ.inB_ret ?_))))))))))))
   refine RQ.ret (ir ?_)
   cases h.some
   exact rt results159 rfl ⟨rfl, hS⟩
  refine jfs (sr (pn 5 rfl (ln ?_)))
  refine RC.iteP 13 rfl h (fun hc38 h => ?_) fun hc38 h => ?_
  next =>
   refine jt (RC.exit (RQ.exitT (RQ.inB_miss rfl (RQ.inB_miss rfl (RQ.exitT (RQ.inB_hit (RQ.then_n (RC.seq (sr (pn 2 rfl (lr (RQ.ret ?_))))))))))))
   refine ir ?_
   cases h.some
   exact rt results159 rfl ⟨rfl, hS⟩
  refine jfs (RC.exit (RQ.inB_miss rfl (RQ.inB_miss rfl (RQ.exitT (RQ.inB_miss rfl (RQ.exitT (RQ.inB_hit (tsr (pn 5 rfl (ln ?_))))))))))
  refine RC.ret ?_
  cases h.some
  exact rt results159 rfl ⟨rfl, hS⟩
 refine jt (RC.exit (RQ.exitT (RQ.exitT (RQ.inB_hit (RQ.inB_n (RQ.then_n (RC.seq (sr (pn 2 rfl (lr (RQ.ret (RQ.inB_ret ?_))))))))))))
 refine RQ.ret (ir ?_)
 cases h.some
 exact rt results159 rfl ⟨rfl, hS⟩
def vm_cpu_send.f (a2 : List api_Instr) (a6 : Int) (a7 : List api_Link) (a11 a12 a13 a14 a15 a16 a17 : Int) (a18 : Bool) (a19 : Int) (a22 : List api_Out) (a23 : Int) (fn24 : (Nat → Int)) (a25 : api_Instr) : Option ((List api_Out) ⊕ (vm_fault)) := (if (a7.length : Int) = 0 then some (.inl a22) else (if (a22.length : Int) = 8 then some (.inl a22) else (if 0 ≤ a25.A ∧ a25.A < 16 then (if ¬ (a7.length : Int) = 0 then (if 0 ≤ a25.B ∧ a25.B < 16 then (if 0 ≤ a25.C ∧ a25.C < 16 then (if 0 ≤ Int.tmod (IntKind.i64.wrap ((Int.tmod (fn24 (a25.A.toNat * 1)) (a7.length : Int)) + (a7.length : Int))) (a7.length : Int) ∧ Int.tmod (IntKind.i64.wrap ((Int.tmod (fn24 (a25.A.toNat * 1)) (a7.length : Int)) + (a7.length : Int))) (a7.length : Int) < (a7.length : Int) then (if fn24 (a25.B.toNat * 1) < (nth a7 (Int.tmod (IntKind.i64.wrap ((Int.tmod (fn24 (a25.A.toNat * 1)) (a7.length : Int)) + (a7.length : Int))) (a7.length : Int))).Look then some (.inr ((⟨a23, 50⟩ : vm_fault))) else ((vtime_Add.f a12 (fn24 (a25.B.toNat * 1))).bind fun (y86, y87) => (if y87 = 0 then (if (a22.length + 1) * 24 ≤ 140737488355328 then some (.inl (a22 ++ ([(⟨Int.tmod (IntKind.i64.wrap ((Int.tmod (fn24 (a25.A.toNat * 1)) (a7.length : Int)) + (a7.length : Int))) (a7.length : Int), fn24 (a25.B.toNat * 1), fn24 (a25.C.toNat * 1)⟩ : api_Out)]))) else none) else some (.inr ((⟨a23, y87⟩ : vm_fault)))))) else none) else none) else none) else none) else none)))
theorem vm_cpu_send.ok {a2 : List api_Instr} {a6 a11 a12 a13 a14 a15 a16 a17 a19 a23 : Int} {a7 : List api_Link} {a18 : Bool} {a22 : List api_Out} {fn24 : (Nat → Int)} {a25 : api_Instr} {b1 c4 c9 c21 : Nat} {A3 A8 A20 : Option Addr} (hr5 : SlR E_api_Instr.rep hf A3 c4 a2) (hr10 : SlR E_api_Link.rep hf A8 c9 a7) {r : (List api_Out) ⊕ (vm_fault)} (h : vm_cpu_send.f a2 a6 a7 a11 a12 a13 a14 a15 a16 a17 a18 a19 a22 a23 fn24 a25 = some r) (hS : St B w (Cl b1 [sV A3 a2 c4, iV a6, sV A8 a7 c9, .int .u64 a11, iV a12, iV a13, iV a14, iV a15, iV a16, iV a17, .bool a18, iV (fn24 0), iV (fn24 1), iV (fn24 2), iV (fn24 3), iV (fn24 4), iV (fn24 5), iV (fn24 6), iV (fn24 7), iV (fn24 8), iV (fn24 9), iV (fn24 10), iV (fn24 11), iV (fn24 12), iV (fn24 13), iV (fn24 14), iV (fn24 15), iV a19, sV A20 a22 c21, iV a23] 260 :: OSf E_api_Out 265 (sV A20 a22 c21) a22 :: l) hf) :
   Calls prog 151 #[pV b1, .agg (C_api_Instr a25).toArray] w (RetP (fun v w => match (generalizing := false) r with | .inl r_ => ∃ (A_1 : Option Addr) (c_2 : Nat), v = .tuple #[] ∧ St B w (OSf E_api_Out 265 (sV A_1 r_ c_2) r_ :: Cl b1 [sV A3 a2 c4, iV a6, sV A8 a7 c9, .int .u64 a11, iV a12, iV a13, iV a14, iV a15, iV a16, iV a17, .bool a18, iV (fn24 0), iV (fn24 1), iV (fn24 2), iV (fn24 3), iV (fn24 4), iV (fn24 5), iV (fn24 6), iV (fn24 7), iV (fn24 8), iV (fn24 9), iV (fn24 10), iV (fn24 11), iV (fn24 12), iV (fn24 13), iV (fn24 14), iV (fn24 15), iV a19, sV A_1 r_ c_2, iV a23] 260 :: l) hf | .inr (r_) => False) (fun v w => match (generalizing := false) r with | .inl r_ => False | .inr (r_) => v = .iface 262 (.agg #[iV r_.at_, iV r_.why]) ∧ St B w (Cl b1 [sV A3 a2 c4, iV a6, sV A8 a7 c9, .int .u64 a11, iV a12, iV a13, iV a14, iV a15, iV a16, iV a17, .bool a18, iV (fn24 0), iV (fn24 1), iV (fn24 2), iV (fn24 3), iV (fn24 4), iV (fn24 5), iV (fn24 6), iV (fn24 7), iV (fn24 8), iV (fn24 9), iV (fn24 10), iV (fn24 11), iV (fn24 12), iV (fn24 13), iV (fn24 14), iV (fn24 15), iV a19, sV A20 a22 c21, iV a23] 260 :: OSf E_api_Out 265 (sV A20 a22 c21) a22 :: l) hf)) := by
 have h := Holds.of h
 refine en func151 rfl ntmps151 rfl (sr (rr [0] hS ?_))
 refine fun b60 => it fun w hS => lnsr (rr [0, 0, 0, 0, 2, 0, 0] hS ?_)
 refine it fun w hS => ln (RC.seq (sr (pn 3 rfl ?_)))
 refine RL.iteP 16 rfl h (fun hc63 h => ?_) fun hc63 h => ?_
 next =>
  refine pn 7 rfl (ln (jt (RC.ret (RQ.ret ?_))))
  cases h.some
  refine RQ.retP (vs := []) results151 trivial ?_
  exact ⟨A20, c21, rfl, hS.d0.p1⟩
 refine rr [0, 0, 0, 2, 0, 0, 0] hS ?_
 refine it fun w hS => ln ?_
 refine RC.iteP 23 rfl h (fun hc64 h => ?_) fun hc64 h => ?_
 next =>
  refine jt (RC.ret (RQ.ret ?_))
  cases h.some
  refine RQ.retP (vs := []) results151 trivial ?_
  exact ⟨A20, c21, rfl, hS.d0.p1⟩
 refine jfs (RC.seq (dr [0, 3, 7, 9, 12, 15, 19, 21, 24, 27, 30, 33, 36, 39, 42, 46, 48, 51, 54, 58, 60, 63, 67, 69, 72, 75, 79, 81, 86, 89] [29] hS fun w hS => rq [0, 0, 1, 0, 0] hS ?_))
 refine it ?_
 obtain ⟨⟨hq65, hq66⟩, h⟩ := h.req
 refine RP.s0 5 rfl (fun w => Vl.indexAddrA (a'' := ⟨b1, 11 + a25.A.toNat * 1, none⟩) underlying258 sizeOf2 rfl rfl hq65 hq66 (add_mk _ _ _)) rfl (RP.s 0 6 rfl rfl hS (fun w hS => Vl.load isAgg2 rfl (hS.cell (off := 11 + a25.A.toNat * 1) (cs := [sV A3 a2 c4, iV a6, sV A8 a7 c9, .int .u64 a11, iV a12, iV a13, iV a14, iV a15, iV a16, iV a17, .bool a18] ++ (fc (Value.int .i64) 16 fn24 ++ [iV a19, sV A20 a22 c21, iV a23])) 1 rfl (seg_get rfl (by omega)))) rfl (pp 1 rfl ?_))
 obtain ⟨hq67, h⟩ := h.req
 refine RP.s0 8 rfl (fun w => Vl.rem rfl rfl hq67) rfl (pp 3 rfl (RP.s0 12 rfl (fun w => Vl.rem rfl rfl hq67) rfl (rq [0, 0, 1, 0, 0] hS ?_)))
 refine it ?_
 obtain ⟨⟨hq68, hq69⟩, h⟩ := h.req
 refine RP.s0 18 rfl (fun w => Vl.indexAddrA (a'' := ⟨b1, 11 + a25.B.toNat * 1, none⟩) underlying258 sizeOf2 rfl rfl hq68 hq69 (add_mk _ _ _)) rfl (RP.s 0 19 rfl rfl hS (fun w hS => Vl.load isAgg2 rfl (hS.cell (off := 11 + a25.B.toNat * 1) (cs := [sV A3 a2 c4, iV a6, sV A8 a7 c9, .int .u64 a11, iV a12, iV a13, iV a14, iV a15, iV a16, iV a17, .bool a18] ++ (fc (Value.int .i64) 16 fn24 ++ [iV a19, sV A20 a22 c21, iV a23])) 1 rfl (seg_get rfl (by omega)))) rfl (rq [0, 0, 1, 0, 0] hS ?_))
 refine it ?_
 obtain ⟨⟨hq70, hq71⟩, h⟩ := h.req
 refine RP.s0 25 rfl (fun w => Vl.indexAddrA (a'' := ⟨b1, 11 + a25.C.toNat * 1, none⟩) underlying258 sizeOf2 rfl rfl hq70 hq71 (add_mk _ _ _)) rfl (RP.s 0 26 rfl rfl hS (fun w hS => Vl.load isAgg2 rfl (hS.cell (off := 11 + a25.C.toNat * 1) (cs := [sV A3 a2 c4, iV a6, sV A8 a7 c9, .int .u64 a11, iV a12, iV a13, iV a14, iV a15, iV a16, iV a17, .bool a18] ++ (fc (Value.int .i64) 16 fn24 ++ [iV a19, sV A20 a22 c21, iV a23])) 1 rfl (seg_get rfl (by omega)))) rfl (rq [0] hS ?_))
 refine it (RP.e 28 rfl (OW.alloc (cs := [iV 0, iV 0, iV 0]) hS zeroValue265 rfl) rfl rfl ?_)
 rintro _ w ⟨b72, rfl, hS⟩
 refine ⟨kp ⟨fun _ => hS.d0, trivial⟩, ?_⟩
 refine RP.e0 29 rfl (OW.store (vs := [iV (Int.tmod (IntKind.i64.wrap ((Int.tmod (fn24 (a25.A.toNat * 1)) (a7.length : Int)) + (a7.length : Int))) (a7.length : Int)), iV (fn24 (a25.B.toNat * 1)), iV (fn24 (a25.C.toNat * 1))]) 0 hS rfl rfl rfl rfl sizeOf265 rfl rfl rfl rfl) rfl ?_
 rintro _ w ⟨rfl, hS⟩
 have hS : St B w (Cl _ [_, _, _] _ :: _ :: _ :: _ :: l) hf := hS
 refine ⟨kp ⟨(by intro hx; cases hx), trivial⟩, ?_⟩
 refine RP.nil (RQ.then_n (RC.seq (RC.seq (dr [0, 4, 6, 9, 12, 15, 19, 23, 26, 29, 32, 35, 38] [12] hS fun w hS => rq [0, 1, 0, 0, 0, 0, 3, 0, 1] hS ?_))))
 refine it ?_
 obtain ⟨⟨hq76, hq77⟩, h⟩ := h.req
 refine RP.v1 9 rfl (Vl.indexAddr underlying23 sizeOf144 rfl rfl ((hr10.2.world hS.sub).adr hq76 hq77) hq76 hq77 rfl) rfl rfl (RP.v1 10 rfl (Vl.fieldAddr (a'' := (ad A8).add ((Int.tmod (IntKind.i64.wrap ((Int.tmod (fn24 (a25.A.toNat * 1)) (a7.length : Int)) + (a7.length : Int))) (a7.length : Int)).toNat * 4 + 2)) underlying144 rfl sizeOf2 rfl (add_add _ _ _)) rfl rfl (RP.v1 11 rfl (Vl.load isAgg2 rfl ((hr10.2.world hS.sub).cell (j := 2) hq76 hq77 rfl)) rfl rfl (rq [0] hS ?_)))
 refine it (RP.nil (RQ.then_n ?_))
 refine RC.iteP 64 rfl h (fun hc78 h => ?_) fun hc78 h => ?_
 next =>
  refine jt (RC.region (rr [0, 0, 0, 3, 0, 0] hS ?_))
  refine it fun w hS => RL.panic rfl (RQ.panT ?_)
  cases h.some
  refine RQ.pan0 ?_
  exact ⟨rfl, hS.d0.d0⟩
 refine jfs (RC.seq (RC.seq (dr [0, 3, 6, 9, 12, 16, 18, 22, 26, 27, 30, 33, 38, 41] [12, 13] hS fun w hS => rq [0, 0, 0, 0, 0, 3, 0, 1] hS ?_)))
 refine it ?_
 obtain ⟨t84, hg85, h⟩ := h.bind
 have hc := vtime_Add.ok hg85 hS
 obtain ⟨y86, y87⟩ := t84
 refine RP.e 8 rfl (OW.callF (ls := [.tmp 77, .tmp 79]) rfl call159 hc) rfl rfl ?_
 rintro _ w ⟨rfl, hS⟩
 refine ⟨kp ⟨fun _ => hS, trivial⟩, ?_⟩
 refine rq [0, 0, 0, 0, 0] hS ?_
 refine it (RP.nil (tsr (pn 2 rfl (ln ?_))))
 refine RC.iteN 84 rfl h (fun hc88 h => ?_) fun hc88 h => ?_
 next =>
  refine jfs (dr [0, 3, 6, 9, 13, 17, 20, 23, 26, 29, 32] [7, 8, 9, 10] hS fun w hS => rq [0, 0, 0, 0, 3, 1] hS ?_)
  refine it (RP.e 6 rfl (OW.buildSlice (E := E_api_Out) (xs := [(⟨Int.tmod (IntKind.i64.wrap ((Int.tmod (fn24 (a25.A.toNat * 1)) (a7.length : Int)) + (a7.length : Int))) (a7.length : Int), fn24 (a25.B.toNat * 1), fn24 (a25.C.toNat * 1)⟩ : api_Out)]) (cs := [iV (Int.tmod (IntKind.i64.wrap ((Int.tmod (fn24 (a25.A.toNat * 1)) (a7.length : Int)) + (a7.length : Int))) (a7.length : Int)), iV (fn24 (a25.B.toNat * 1)), iV (fn24 (a25.C.toNat * 1))]) hS underlying231 zeroValue265 sizeOf265 (parts := [(0, .tmp 97)]) rfl rfl (by decide) (by decide) (by kernel_rfl) rfl) rfl rfl ?_)
  rintro _ w ⟨b89, rfl, hS⟩
  refine ⟨kp ⟨fun _ => hS.d0, trivial⟩, ?_⟩
  obtain ⟨hq90, h⟩ := h.req
  refine RP.e 7 rfl (OW.append (E := E_api_Out) (xs := a22) (ys := [(⟨Int.tmod (IntKind.i64.wrap ((Int.tmod (fn24 (a25.A.toNat * 1)) (a7.length : Int)) + (a7.length : Int))) (a7.length : Int), fn24 (a25.B.toNat * 1), fn24 (a25.C.toNat * 1)⟩ : api_Out)]) 4 hS rfl underlying231 type265 rfl rfl rfl rfl (by decide) rfl rfl rfl (hS.slW 0 rfl).2.2.flat (by simp only [maxLen, List.length_cons, List.length_nil] at *; omega) hq90 rfl) rfl rfl ?_
  rintro v93 w hS
  obtain ⟨A91, c92, rfl, _⟩ := hS.osShape 0 rfl
  have hS : St B w (_ :: _ :: _ :: _ :: _ :: l) hf := hS
  refine ⟨kp ⟨(by intro hx; cases hx), trivial⟩, ?_⟩
  refine RP.v1 8 rfl (Vl.nilCheck rfl) rfl rfl (RP.v1 9 rfl (Vl.fa 28 underlying260 rfl sizeOf231 rfl rfl) rfl rfl (RP.e0 10 rfl (OW.store (vs := [.slice A91 (a22 ++ ([(⟨Int.tmod (IntKind.i64.wrap ((Int.tmod (fn24 (a25.A.toNat * 1)) (a7.length : Int)) + (a7.length : Int))) (a7.length : Int), fn24 (a25.B.toNat * 1), fn24 (a25.C.toNat * 1)⟩ : api_Out)])).length c92]) 4 hS rfl rfl rfl rfl sizeOf231 rfl rfl rfl rfl) rfl ?_))
  rintro _ w ⟨rfl, hS⟩
  have hS : St B w (_ :: _ :: _ :: _ :: Cl b1 [sV A3 a2 c4, iV a6, sV A8 a7 c9, .int .u64 a11, iV a12, iV a13, iV a14, iV a15, iV a16, iV a17, .bool a18, iV (fn24 0), iV (fn24 1), iV (fn24 2), iV (fn24 3), iV (fn24 4), iV (fn24 5), iV (fn24 6), iV (fn24 7), iV (fn24 8), iV (fn24 9), iV (fn24 10), iV (fn24 11), iV (fn24 12), iV (fn24 13), iV (fn24 14), iV (fn24 15), iV a19, .slice A91 (a22 ++ ([(⟨Int.tmod (IntKind.i64.wrap ((Int.tmod (fn24 (a25.A.toNat * 1)) (a7.length : Int)) + (a7.length : Int))) (a7.length : Int), fn24 (a25.B.toNat * 1), fn24 (a25.C.toNat * 1)⟩ : api_Out)])).length c92, iV a23] 260 :: l) hf := hS
  refine ⟨kp ⟨(by intro hx; cases hx), trivial⟩, ?_⟩
  refine RP.nil ?_
  cases h.some
  refine RQ.endP (vs := []) results151 trivial ?_
  exact ⟨A91, c92, rfl, hS.d1.d1.d1⟩
 refine jt (RC.region (rr [0, 0, 0, 3, 0, 0, 0] hS ?_))
 refine it fun w hS => RL.panic rfl (RQ.panT ?_)
 cases h.some
 refine RQ.pan0 ?_
 exact ⟨rfl, hS.d0.d0⟩
def draw_word_fold.f (a1 : draw_word) (a2 : Int) : Option (Int) := (if 0 ≤ a2 then some (IntKind.u64.wrap (BitVec.ofInt IntKind.u64.bits a1.x ^^^ BitVec.ofInt IntKind.u64.bits (Int.fdiv a1.x (2 ^ (min (a2 : Int).toNat IntKind.u64.bits)))).toNat) else none)
theorem draw_word_fold.ok {a1 : draw_word} {a2 r : Int} (h : draw_word_fold.f a1 a2 = some r) (hS : St B w (l) hf) :
   Calls prog 164 #[.agg #[.int .u64 a1.x], .int .u64 a2] w (Ret fun v w => v = .int .u64 r ∧ St B w (l) hf) := by
 have h := Holds.of h
 refine en func164 rfl ntmps164 rfl (sr (rr [0, 0] hS ?_))
 refine fun b5 => it fun w hS => lnsr (rr [0, 1, 0, 1, 0] hS ?_)
 refine it fun w hS => ?_
 obtain ⟨hq6, h⟩ := h.req
 refine RL.s (Vl.shr rfl rfl hq6) rfl (pn 2 rfl (lr ?_))
 cases h.some
 exact rt results164 rfl ⟨rfl, hS.d0⟩
def draw_mixer_times.f (a1 : draw_mixer) (a2 a3 : Int) : Option (draw_mixer) := ((draw_word_fold.f a1.word a2).bind fun t10 => some (⟨(⟨IntKind.u64.wrap (t10 * a3)⟩ : draw_word)⟩ : draw_mixer))
theorem draw_mixer_times.ok {a1 r : draw_mixer} {a2 a3 : Int} (h : draw_mixer_times.f a1 a2 a3 = some r) (hS : St B w (l) hf) :
   Calls prog 163 #[.agg #[.int .u64 a1.word.x], .int .u64 a2, .int .u64 a3] w (Ret fun v w => v = .agg #[.int .u64 r.word.x] ∧ St B w (l) hf) := by
 have h := Holds.of h
 refine en func163 rfl ntmps163 rfl (sr (rr [0, 0] hS ?_))
 refine fun b8 b9 => it fun w hS => lnsr (rr [0, 2, 0] hS ?_)
 refine it fun w hS => cF (fun _ hg => draw_word_fold.ok hg hS) call164 h rfl rfl rfl ?_
 rintro t10 h _ w ⟨rfl, hS⟩
 refine rr [0, 0, 0, 0, 1] hS ?_
 refine it fun w hS => lr ?_
 cases h.some
 refine rz [0] results163 hS ?_
 exact it ⟨rfl, hS.d0.d0⟩
def draw_Mix.f (a1 : Int) : Option (Int) := ((draw_mixer_times.f (⟨(⟨IntKind.u64.wrap (a1 + 11400714819323198485)⟩ : draw_word)⟩ : draw_mixer) 30 13787848793156543929).bind fun t9 => ((draw_mixer_times.f t9 27 10723151780598845931).bind fun t12 => ((draw_word_fold.f t12.word 31).bind fun t14 => some t14)))
theorem draw_Mix.ok {a1 r : Int} (h : draw_Mix.f a1 = some r) (hS : St B w (l) hf) :
   Calls prog 162 #[.int .u64 a1] w (Ret fun v w => v = .int .u64 r ∧ St B w (l) hf) := by
 have h := Holds.of h
 refine en func162 rfl ntmps162 rfl (sr (pn 1 rfl (lnsr (pn 1 rfl (lnsr (r0 5 rfl ?_))))))
 obtain ⟨t9, hg10, h⟩ := h.bind
 have hc := draw_mixer_times.ok hg10 hS
 refine RL.e (OW.call (ls := [.tmp 9, .const (.int .u64 30), .const (.int .u64 13787848793156543929)]) rfl rfl call163 rfl hc) rfl rfl ?_
 rintro _ w ⟨rfl, hS⟩
 refine rr [0, 1] hS ?_
 refine fun b11 => it fun w hS => lnsr (rr [0, 1] hS ?_)
 refine it fun w hS => ?_
 obtain ⟨t12, hg13, h⟩ := h.bind
 have hc := draw_mixer_times.ok hg13 hS
 refine RL.e (OW.call (ls := [.tmp 12, .const (.int .u64 27), .const (.int .u64 10723151780598845931)]) rfl rfl call163 rfl hc) rfl rfl ?_
 rintro _ w ⟨rfl, hS⟩
 refine RL.s (Vl.field (v := .agg #[.int .u64 t12.word.x]) underlying297 rfl rfl (run_partA isAgg295 sizeOf295)) rfl (cF (fun _ hg => draw_word_fold.ok hg hS) call164 h rfl rfl rfl ?_)
 rintro t14 h _ w ⟨rfl, hS⟩
 refine pn 1 rfl (lr ?_)
 obtain rfl := h.some
 exact rt results162 rfl ⟨rfl, hS.d0⟩
def draw_At.l2b (a2 a3 : Int) : Int × Int → Option ((Int × Int) ⊕ (Int))
 | (x41, x42) => (if x42 < 2 then (if 0 ≤ x42 then ((draw_Mix.f (IntKind.u64.wrap (x41 + (IntKind.u64.wrap (nth ([a2, a3] : List Int) x42))))).bind fun t60 => some (.inl (t60, IntKind.i64.wrap (x42 + 1)))) else none) else some (.inr x41))
def draw_At.l2 (a2 a3 : Int) (s : Int × Int) : Option (Int) := loopR (draw_At.l2b a2 a3) s
def draw_At.f (a1 a2 a3 : Int) : Option (Int) := ((draw_Mix.f a1).bind fun t33 => draw_At.l2 a2 a3 (t33, 0))
theorem draw_At.ok {a1 a2 a3 r : Int} (h : draw_At.f a1 a2 a3 = some r) (hS : St B w (l) hf) :
   Calls prog 161 #[.int .u64 a1, iV a2, iV a3] w (Ret fun v w => v = .int .u64 r ∧ St B w (l) hf) := by
 have h := Holds.of h
 refine en func161 rfl ntmps161 rfl (sr (pn 1 rfl (lnsr (pn 1 rfl (cF (fun _ hg => draw_Mix.ok hg hS) call162 h rfl rfl rfl ?_)))))
 rintro t33 h _ w ⟨rfl, hS⟩
 refine pn 1 rfl (ln (RC.seq (sr (pn 2 rfl (RL.s (Vl.build (v := .agg #[iV a2, iV a3]) (parts := [(0, .tmp 12), (1, .tmp 13)]) rfl (by kernel_rfl)) rfl (pn 1 rfl (ln (RC.block (fun a ha => lp h (fun (s : Int × Int) a w => ∃ x41 x42, s = (x41, x42) ∧ Has 25 [(7, .int .u64 x41), (14, .agg #[iV a2, iV a3]), (15, iV x42)] a ∧ St B w (l) hf) ⟨_, _, rfl, ha.tE rfl, hS⟩ ?_)))))))))
 rintro G53 _ a w ⟨x41, x42, rfl, ha, hS⟩ h
 refine ro ha (sr (pn 1 rfl (ln (RC.seq ?_))))
 refine RC.iteP 16 rfl h (fun hc55 h => ?_) fun hc55 h => ?_
 next =>
  refine jt (sk (RC.seq (RC.block (sr ?_))))
  obtain ⟨hq59, h⟩ := h.req
  refine RL.s (Vl.indexMap (f := (Value.int .i64)) (l := ([a2, a3] : List Int)) underlying291 sizeOf3 isAgg3 rfl rfl rfl hq59 hc55) rfl (pn 1 rfl (ln (RC.region (r0 4 rfl (cF (fun _ hg => draw_Mix.ok hg hS) call162 h rfl rfl rfl ?_)))))
  rintro t60 h _ w ⟨rfl, hS⟩
  refine pn 1 rfl (RL.nil (RQ.inB_n (RQ.then_n (RC.region (pn 2 rfl (RL.nil ?_))))))
  exact fun a ha => ⟨_, h.some, _, _, rfl, ha.tE rfl, hS⟩
 refine jf (RC.exit (RQ.exitT ?_))
 have h := h.inrS
 refine RQ.exitT (RQ.inB_hit (tsr (pn 2 rfl (lr ?_))))
 obtain rfl := h.some
 exact rt results161 rfl ⟨rfl, hS⟩
def draw_Below.f (a1 a2 a3 a4 : Int) : Option (Int) := (if a4 ≤ 0 then some 0 else ((draw_At.f a1 a2 a3).bind fun t12 => (if ¬ (IntKind.u64.wrap a4) = 0 then some (IntKind.i64.wrap (Int.tmod t12 (IntKind.u64.wrap a4))) else none)))
theorem draw_Below.ok {a1 a2 a3 a4 r : Int} (h : draw_Below.f a1 a2 a3 a4 = some r) (hS : St B w (l) hf) :
   Calls prog 160 #[.int .u64 a1, iV a2, iV a3, iV a4] w (Ret fun v w => v = iV r ∧ St B w (l) hf) := by
 have h := Holds.of h
 refine en func160 rfl ntmps160 rfl (sr (pn 1 rfl (ln (RC.seq (sr (pn 2 rfl (ln ?_)))))))
 refine RC.iteP 10 rfl h (fun hc11 h => ?_) fun hc11 h => ?_
 next =>
  refine jtr (pn 1 rfl (lr (RQ.ret ?_)))
  obtain rfl := h.some
  exact rt results160 rfl ⟨rfl, hS⟩
 refine jfs (sr (pn 3 rfl (cF (fun _ hg => draw_At.ok hg hS) call161 h rfl rfl rfl ?_)))
 rintro t12 h _ w ⟨rfl, hS⟩
 refine r0 2 rfl ?_
 obtain ⟨hq14, h⟩ := h.req
 refine RL.s (Vl.rem rfl rfl hq14) rfl (r0 2 rfl (lr ?_))
 cases h.some
 exact rt results160 rfl ⟨rfl, hS⟩
def vm_cpu_draw.f (a2 : List api_Instr) (a6 : Int) (a7 : List api_Link) (a11 a12 a13 a14 a15 a16 a17 : Int) (a18 : Bool) (a19 : Int) (a22 : List api_Out) (a23 : Int) (fn24 : (Nat → Int)) (a25 : api_Instr) : Option ((Nat → Int) × Int) := (if 0 ≤ a25.B ∧ a25.B < 16 then ((draw_Below.f a11 a6 a19 (fn24 (a25.B.toNat * 1))).bind fun t36 => (if 0 ≤ a25.A ∧ a25.A < 16 then some (upd fn24 (a25.A.toNat * 1) t36, IntKind.i64.wrap (a19 + 1)) else none)) else none)
theorem vm_cpu_draw.ok {a2 : List api_Instr} {a6 a11 a12 a13 a14 a15 a16 a17 a19 a23 : Int} {a7 : List api_Link} {a18 : Bool} {a22 : List api_Out} {fn24 : (Nat → Int)} {a25 : api_Instr} {b1 c4 c9 c21 : Nat} {A3 A8 A20 : Option Addr} (hr5 : SlR E_api_Instr.rep hf A3 c4 a2) (hr10 : SlR E_api_Link.rep hf A8 c9 a7) {r : (Nat → Int) × Int} (h : vm_cpu_draw.f a2 a6 a7 a11 a12 a13 a14 a15 a16 a17 a18 a19 a22 a23 fn24 a25 = some r) (hS : St B w (Cl b1 [sV A3 a2 c4, iV a6, sV A8 a7 c9, .int .u64 a11, iV a12, iV a13, iV a14, iV a15, iV a16, iV a17, .bool a18, iV (fn24 0), iV (fn24 1), iV (fn24 2), iV (fn24 3), iV (fn24 4), iV (fn24 5), iV (fn24 6), iV (fn24 7), iV (fn24 8), iV (fn24 9), iV (fn24 10), iV (fn24 11), iV (fn24 12), iV (fn24 13), iV (fn24 14), iV (fn24 15), iV a19, sV A20 a22 c21, iV a23] 260 :: OSf E_api_Out 265 (sV A20 a22 c21) a22 :: l) hf) :
   Calls prog 152 #[pV b1, .agg (C_api_Instr a25).toArray] w (Ret fun v w => v = .tuple #[] ∧ St B w (Cl b1 [sV A3 a2 c4, iV a6, sV A8 a7 c9, .int .u64 a11, iV a12, iV a13, iV a14, iV a15, iV a16, iV a17, .bool a18, iV (r.1 0), iV (r.1 1), iV (r.1 2), iV (r.1 3), iV (r.1 4), iV (r.1 5), iV (r.1 6), iV (r.1 7), iV (r.1 8), iV (r.1 9), iV (r.1 10), iV (r.1 11), iV (r.1 12), iV (r.1 13), iV (r.1 14), iV (r.1 15), iV r.2, sV A20 a22 c21, iV a23] 260 :: OSf E_api_Out 265 (sV A20 a22 c21) a22 :: l) hf) := by
 have h := Holds.of h
 refine en func152 rfl ntmps152 rfl (sr (rr [0] hS ?_))
 refine fun b33 => it fun w hS => ln (RC.seq (dr [0, 3, 7, 9, 12, 15, 18, 22, 24, 27, 30, 33, 37, 39, 42, 45, 49, 51, 54, 58, 60, 63, 66, 70, 75, 78, 74, 83, 86] [27, 28] hS fun w hS => rq [0, 0, 1, 0, 0, 0, 0, 2, 0, 0, 0, 0, 2, 0, 0, 0, 2, 0, 0, 1, 0, 0] hS ?_))
 refine it ?_
 obtain ⟨⟨hq34, hq35⟩, h⟩ := h.req
 refine RP.s0 22 rfl (fun w => Vl.indexAddrA (a'' := ⟨b1, 11 + a25.B.toNat * 1, none⟩) underlying258 sizeOf2 rfl rfl hq34 hq35 (add_mk _ _ _)) rfl (RP.s 0 23 rfl rfl hS (fun w hS => Vl.load isAgg2 rfl (hS.cell (off := 11 + a25.B.toNat * 1) (cs := [sV A3 a2 c4, iV a6, sV A8 a7 c9, .int .u64 a11, iV a12, iV a13, iV a14, iV a15, iV a16, iV a17, .bool a18] ++ (fc (Value.int .i64) 16 fn24 ++ [iV a19, sV A20 a22 c21, iV a23])) 1 rfl (seg_get rfl (by omega)))) rfl (rq [0, 0] hS ?_))
 refine it ?_
 obtain ⟨t36, hg37, h⟩ := h.bind
 have hc := draw_Below.ok hg37 hS
 refine RP.e 24 rfl (OW.callF (ls := [.tmp 11, .tmp 16, .tmp 20, .tmp 27]) rfl call160 hc) rfl rfl ?_
 rintro _ w ⟨rfl, hS⟩
 refine ⟨kp ⟨fun _ => hS, trivial⟩, ?_⟩
 obtain ⟨⟨hq38, hq39⟩, h⟩ := h.req
 refine RP.v1 27 rfl (Vl.indexAddrA (a'' := ⟨b1, 11 + a25.A.toNat * 1, none⟩) underlying258 sizeOf2 rfl rfl hq38 hq39 (add_mk _ _ _)) rfl rfl (RP.e0 28 rfl (OW.storeSeg (mk := (Value.int .i64)) (f := fn24) (n := 16) (m := 11) (pre := [sV A3 a2 c4, iV a6, sV A8 a7 c9, .int .u64 a11, iV a12, iV a13, iV a14, iV a15, iV a16, iV a17, .bool a18]) (post := [iV a19, sV A20 a22 c21, iV a23]) 1 hS rfl rfl rfl rfl sizeOf2 (by omega) (fun _ => rfl) (fun _ => rfl) rfl) rfl ?_)
 rintro _ w ⟨rfl, hS⟩
 have hS : St B w (_ :: _ :: _ :: l) hf := hS
 refine ⟨kp ⟨(by intro hx; cases hx), trivial⟩, ?_⟩
 refine RP.nil (RQ.then_n (RC.region (rr [0, 0, 0, 2, 0, 0, 0, 2] hS ?_)))
 refine it fun w hS => RL.nil ?_
 cases h.some
 exact rtE results152 rfl ⟨rfl, hS.d0⟩
def vm_cpu_value.f (a2 : List api_Instr) (a6 : Int) (a7 : List api_Link) (a11 a12 a13 a14 a15 a16 a17 : Int) (a18 : Bool) (a19 : Int) (a22 : List api_Out) (a23 : Int) (fn24 : (Nat → Int)) (a25 : api_Instr) : Option ((Nat → Int)) := (if 0 ≤ a25.A ∧ a25.A < 16 then some (upd fn24 (a25.A.toNat * 1) a16) else none)
theorem vm_cpu_value.ok {a2 : List api_Instr} {a6 a11 a12 a13 a14 a15 a16 a17 a19 a23 : Int} {a7 : List api_Link} {a18 : Bool} {a22 : List api_Out} {fn24 : (Nat → Int)} {a25 : api_Instr} {b1 c4 c9 c21 : Nat} {A3 A8 A20 : Option Addr} (hr5 : SlR E_api_Instr.rep hf A3 c4 a2) (hr10 : SlR E_api_Link.rep hf A8 c9 a7) {r : (Nat → Int)} (h : vm_cpu_value.f a2 a6 a7 a11 a12 a13 a14 a15 a16 a17 a18 a19 a22 a23 fn24 a25 = some r) (hS : St B w (Cl b1 [sV A3 a2 c4, iV a6, sV A8 a7 c9, .int .u64 a11, iV a12, iV a13, iV a14, iV a15, iV a16, iV a17, .bool a18, iV (fn24 0), iV (fn24 1), iV (fn24 2), iV (fn24 3), iV (fn24 4), iV (fn24 5), iV (fn24 6), iV (fn24 7), iV (fn24 8), iV (fn24 9), iV (fn24 10), iV (fn24 11), iV (fn24 12), iV (fn24 13), iV (fn24 14), iV (fn24 15), iV a19, sV A20 a22 c21, iV a23] 260 :: OSf E_api_Out 265 (sV A20 a22 c21) a22 :: l) hf) :
   Calls prog 153 #[pV b1, .agg (C_api_Instr a25).toArray] w (Ret fun v w => v = .tuple #[] ∧ St B w (Cl b1 [sV A3 a2 c4, iV a6, sV A8 a7 c9, .int .u64 a11, iV a12, iV a13, iV a14, iV a15, iV a16, iV a17, .bool a18, iV (r 0), iV (r 1), iV (r 2), iV (r 3), iV (r 4), iV (r 5), iV (r 6), iV (r 7), iV (r 8), iV (r 9), iV (r 10), iV (r 11), iV (r 12), iV (r 13), iV (r 14), iV (r 15), iV a19, sV A20 a22 c21, iV a23] 260 :: OSf E_api_Out 265 (sV A20 a22 c21) a22 :: l) hf) := by
 have h := Holds.of h
 refine en func153 rfl ntmps153 rfl (sr (rr [0] hS ?_))
 refine fun b29 => it fun w hS => ln (dr [0, 3, 7, 9, 12, 15, 18, 22, 26, 29, 32, 35] [10, 11] hS fun w hS => rq [0, 0, 1, 0, 0, 0, 0, 2, 0, 0] hS ?_)
 refine it ?_
 obtain ⟨⟨hq30, hq31⟩, h⟩ := h.req
 refine RP.v1 10 rfl (Vl.indexAddrA (a'' := ⟨b1, 11 + a25.A.toNat * 1, none⟩) underlying258 sizeOf2 rfl rfl hq30 hq31 (add_mk _ _ _)) rfl rfl (RP.e0 11 rfl (OW.storeSeg (mk := (Value.int .i64)) (f := fn24) (n := 16) (m := 11) (pre := [sV A3 a2 c4, iV a6, sV A8 a7 c9, .int .u64 a11, iV a12, iV a13, iV a14, iV a15, iV a16, iV a17, .bool a18]) (post := [iV a19, sV A20 a22 c21, iV a23]) 1 hS rfl rfl rfl rfl sizeOf2 (by omega) (fun _ => rfl) (fun _ => rfl) rfl) rfl ?_)
 rintro _ w ⟨rfl, hS⟩
 have hS : St B w (_ :: _ :: _ :: l) hf := hS
 refine ⟨kp ⟨(by intro hx; cases hx), trivial⟩, ?_⟩
 refine RP.nil ?_
 cases h.some
 exact rtE results153 rfl ⟨rfl, hS.d0⟩
def vm_cpu_time.f (a2 : List api_Instr) (a6 : Int) (a7 : List api_Link) (a11 a12 a13 a14 a15 a16 a17 : Int) (a18 : Bool) (a19 : Int) (a22 : List api_Out) (a23 : Int) (fn24 : (Nat → Int)) (a25 : api_Instr) : Option ((Nat → Int)) := (if 0 ≤ a25.A ∧ a25.A < 16 then some (upd fn24 (a25.A.toNat * 1) a12) else none)
theorem vm_cpu_time.ok {a2 : List api_Instr} {a6 a11 a12 a13 a14 a15 a16 a17 a19 a23 : Int} {a7 : List api_Link} {a18 : Bool} {a22 : List api_Out} {fn24 : (Nat → Int)} {a25 : api_Instr} {b1 c4 c9 c21 : Nat} {A3 A8 A20 : Option Addr} (hr5 : SlR E_api_Instr.rep hf A3 c4 a2) (hr10 : SlR E_api_Link.rep hf A8 c9 a7) {r : (Nat → Int)} (h : vm_cpu_time.f a2 a6 a7 a11 a12 a13 a14 a15 a16 a17 a18 a19 a22 a23 fn24 a25 = some r) (hS : St B w (Cl b1 [sV A3 a2 c4, iV a6, sV A8 a7 c9, .int .u64 a11, iV a12, iV a13, iV a14, iV a15, iV a16, iV a17, .bool a18, iV (fn24 0), iV (fn24 1), iV (fn24 2), iV (fn24 3), iV (fn24 4), iV (fn24 5), iV (fn24 6), iV (fn24 7), iV (fn24 8), iV (fn24 9), iV (fn24 10), iV (fn24 11), iV (fn24 12), iV (fn24 13), iV (fn24 14), iV (fn24 15), iV a19, sV A20 a22 c21, iV a23] 260 :: OSf E_api_Out 265 (sV A20 a22 c21) a22 :: l) hf) :
   Calls prog 154 #[pV b1, .agg (C_api_Instr a25).toArray] w (Ret fun v w => v = .tuple #[] ∧ St B w (Cl b1 [sV A3 a2 c4, iV a6, sV A8 a7 c9, .int .u64 a11, iV a12, iV a13, iV a14, iV a15, iV a16, iV a17, .bool a18, iV (r 0), iV (r 1), iV (r 2), iV (r 3), iV (r 4), iV (r 5), iV (r 6), iV (r 7), iV (r 8), iV (r 9), iV (r 10), iV (r 11), iV (r 12), iV (r 13), iV (r 14), iV (r 15), iV a19, sV A20 a22 c21, iV a23] 260 :: OSf E_api_Out 265 (sV A20 a22 c21) a22 :: l) hf) := by
 have h := Holds.of h
 refine en func154 rfl ntmps154 rfl (sr (rr [0] hS ?_))
 refine fun b29 => it fun w hS => ln (dr [0, 3, 7, 9, 12, 15, 18, 21, 25, 29, 32, 35, 38] [11, 12] hS fun w hS => rq [0, 0, 1, 0, 0, 0, 0, 0, 2, 0, 0] hS ?_)
 refine it ?_
 obtain ⟨⟨hq30, hq31⟩, h⟩ := h.req
 refine RP.v1 11 rfl (Vl.indexAddrA (a'' := ⟨b1, 11 + a25.A.toNat * 1, none⟩) underlying258 sizeOf2 rfl rfl hq30 hq31 (add_mk _ _ _)) rfl rfl (RP.e0 12 rfl (OW.storeSeg (mk := (Value.int .i64)) (f := fn24) (n := 16) (m := 11) (pre := [sV A3 a2 c4, iV a6, sV A8 a7 c9, .int .u64 a11, iV a12, iV a13, iV a14, iV a15, iV a16, iV a17, .bool a18]) (post := [iV a19, sV A20 a22 c21, iV a23]) 1 hS rfl rfl rfl rfl sizeOf2 (by omega) (fun _ => rfl) (fun _ => rfl) rfl) rfl ?_)
 rintro _ w ⟨rfl, hS⟩
 have hS : St B w (_ :: _ :: _ :: l) hf := hS
 refine ⟨kp ⟨(by intro hx; cases hx), trivial⟩, ?_⟩
 refine RP.nil ?_
 cases h.some
 exact rtE results154 rfl ⟨rfl, hS.d0⟩
def vm_cpu_self.f (a2 : List api_Instr) (a6 : Int) (a7 : List api_Link) (a11 a12 a13 a14 a15 a16 a17 : Int) (a18 : Bool) (a19 : Int) (a22 : List api_Out) (a23 : Int) (fn24 : (Nat → Int)) (a25 : api_Instr) : Option ((Nat → Int)) := (if 0 ≤ a25.A ∧ a25.A < 16 then some (upd fn24 (a25.A.toNat * 1) a6) else none)
theorem vm_cpu_self.ok {a2 : List api_Instr} {a6 a11 a12 a13 a14 a15 a16 a17 a19 a23 : Int} {a7 : List api_Link} {a18 : Bool} {a22 : List api_Out} {fn24 : (Nat → Int)} {a25 : api_Instr} {b1 c4 c9 c21 : Nat} {A3 A8 A20 : Option Addr} (hr5 : SlR E_api_Instr.rep hf A3 c4 a2) (hr10 : SlR E_api_Link.rep hf A8 c9 a7) {r : (Nat → Int)} (h : vm_cpu_self.f a2 a6 a7 a11 a12 a13 a14 a15 a16 a17 a18 a19 a22 a23 fn24 a25 = some r) (hS : St B w (Cl b1 [sV A3 a2 c4, iV a6, sV A8 a7 c9, .int .u64 a11, iV a12, iV a13, iV a14, iV a15, iV a16, iV a17, .bool a18, iV (fn24 0), iV (fn24 1), iV (fn24 2), iV (fn24 3), iV (fn24 4), iV (fn24 5), iV (fn24 6), iV (fn24 7), iV (fn24 8), iV (fn24 9), iV (fn24 10), iV (fn24 11), iV (fn24 12), iV (fn24 13), iV (fn24 14), iV (fn24 15), iV a19, sV A20 a22 c21, iV a23] 260 :: OSf E_api_Out 265 (sV A20 a22 c21) a22 :: l) hf) :
   Calls prog 155 #[pV b1, .agg (C_api_Instr a25).toArray] w (Ret fun v w => v = .tuple #[] ∧ St B w (Cl b1 [sV A3 a2 c4, iV a6, sV A8 a7 c9, .int .u64 a11, iV a12, iV a13, iV a14, iV a15, iV a16, iV a17, .bool a18, iV (r 0), iV (r 1), iV (r 2), iV (r 3), iV (r 4), iV (r 5), iV (r 6), iV (r 7), iV (r 8), iV (r 9), iV (r 10), iV (r 11), iV (r 12), iV (r 13), iV (r 14), iV (r 15), iV a19, sV A20 a22 c21, iV a23] 260 :: OSf E_api_Out 265 (sV A20 a22 c21) a22 :: l) hf) := by
 have h := Holds.of h
 refine en func155 rfl ntmps155 rfl (sr (rr [0] hS ?_))
 refine fun b29 => it fun w hS => ln (dr [0, 3, 7, 9, 12, 15, 18, 22, 26, 29, 32, 35] [10, 11] hS fun w hS => rq [0, 0, 1, 0, 0, 0, 0, 2, 0, 0] hS ?_)
 refine it ?_
 obtain ⟨⟨hq30, hq31⟩, h⟩ := h.req
 refine RP.v1 10 rfl (Vl.indexAddrA (a'' := ⟨b1, 11 + a25.A.toNat * 1, none⟩) underlying258 sizeOf2 rfl rfl hq30 hq31 (add_mk _ _ _)) rfl rfl (RP.e0 11 rfl (OW.storeSeg (mk := (Value.int .i64)) (f := fn24) (n := 16) (m := 11) (pre := [sV A3 a2 c4, iV a6, sV A8 a7 c9, .int .u64 a11, iV a12, iV a13, iV a14, iV a15, iV a16, iV a17, .bool a18]) (post := [iV a19, sV A20 a22 c21, iV a23]) 1 hS rfl rfl rfl rfl sizeOf2 (by omega) (fun _ => rfl) (fun _ => rfl) rfl) rfl ?_)
 rintro _ w ⟨rfl, hS⟩
 have hS : St B w (_ :: _ :: _ :: l) hf := hS
 refine ⟨kp ⟨(by intro hx; cases hx), trivial⟩, ?_⟩
 refine RP.nil ?_
 cases h.some
 exact rtE results155 rfl ⟨rfl, hS.d0⟩
def vm_cpu_run_1.f  : Option (Unit) := some ()
theorem vm_cpu_run_1.ok {b1 : Nat} {r : Unit} (h : vm_cpu_run_1.f = some r) (hS : St B w (Cl b1 [.nilIface] 108 :: l) hf) :
   CallsD prog 134 #[pV b1] (.returning) w (fun e u' w' => u' = .returning ∧ (Ret fun v w => v = .tuple #[] ∧ St B w (Cl b1 [.nilIface] 108 :: l) hf) e w') := by
 have h := Holds.of h
 refine deferIdle (args := [pV b1]) func134 rfl ntmps134 (Nat.le_of_ble_eq_true rfl) rfl (RC.block (sr (RL.s (Vl.bn true rfl rfl) rfl (ln (jt (RC.region (pn 1 rfl (RL.nil (RQ.inB_n ?_)))))))))
 exact rtE results134 rfl ⟨rfl, hS⟩
def errors_Join_2.f (a3 : vm_fault) : Option (vm_fault) := some a3
theorem errors_Join_2.ok {a3 r : vm_fault} {A1 : Option Addr} {c2 : Nat} (h : errors_Join_2.f a3 = some r) (hS : St B w (OSl 108 1 (.slice A1 1 c2) 1 [.iface 262 (.agg #[iV a3.at_, iV a3.why])] :: l) hf) :
   Calls prog 118 #[.slice A1 1 c2] w (Ret fun v w => ∃ (b_1 : Nat) (A_2 : Option Addr) (c_3 : Nat), v = .iface 254 (pV b_1) ∧ St B w (Cl b_1 [.slice A_2 1 c_3] 256 :: OSl 108 1 (.slice A_2 1 c_3) 1 [.iface 262 (.agg #[iV r.at_, iV r.why])] :: OSl 108 1 (.slice A1 1 c2) 1 [.iface 262 (.agg #[iV a3.at_, iV a3.why])] :: l) hf) := by
 have h := Holds.of h
 refine en func118 rfl ntmps118 rfl (sr (pn 1 rfl (lnsr (pn 1 rfl (ln (RC.seq (sr (r0 3 rfl (RL.nil ?_)))))))))
 refine RQ.then_n (RC.block (RC.unroll (RQ.round (sr (pn 1 rfl (ln (RC.seq (jt (sk (RC.seq (RC.block (RC.seq ?_))))))))))))
 refine RC.region (RL.s (Vl.indexAddr (a'' := (ad A1).add 0) underlying225 sizeOf108 rfl rfl (hS.litAdr 0 rfl (by decide)) (by decide) (by decide) rfl) rfl (RL.s (Vl.load isAgg108 rfl (hS.litCell 0 rfl rfl)) rfl (pn 1 rfl (lnsr (pn 1 rfl (RL.s (Vl.bn true rfl rfl) rfl (ln (jt (RC.region (pn 3 rfl (RL.nil ?_)))))))))))
 refine RQ.inB_n (RQ.then_n (RC.region (pn 2 rfl (ln (RQ.round (sr (pn 1 rfl (ln (RC.seq (jf (RC.exit (RQ.exitT ?_))))))))))))
 refine RQ.exitT (RQ.inB_hit (RQ.then_n (RC.seq (sr (pn 2 rfl (ln (jfs (sr (pn 1 rfl (RL.e (OW.make0L (c := 1) (sz := 1) hS underlying225 type108 rfl rfl rfl rfl (by decide) (by decide)) rfl rfl ?_))))))))))
 rintro _ w ⟨b18, rfl, hS⟩
 refine rr [0, 0, 0] hS ?_
 refine fun b19 => it fun w hS => ln (RC.seq (sr (r0 3 rfl (ln (RC.block (RC.unroll (RQ.round (sr (pn 1 rfl (RL.nil ?_))))))))))
 refine RQ.then_n (RC.seq (jt (sk (RC.seq (RC.block (sr (RL.s (Vl.indexAddr (a'' := (ad A1).add 0) underlying225 sizeOf108 rfl rfl (hS.litAdr 2 rfl (by decide)) (by decide) (by decide) rfl) rfl (RL.s (Vl.load isAgg108 rfl (hS.litCell 2 rfl rfl)) rfl (pn 1 rfl (lnsr ?_))))))))))
 refine pn 1 rfl (RL.s (Vl.bn true rfl rfl) rfl (ln (jt (RC.region (rr [0, 0, 0, 0, 1, 0] hS ?_)))))
 refine it fun w hS => RL.e (OW.buildSliceR (sz := 1) (cs := [.iface 262 (.agg #[iV a3.at_, iV a3.why])]) hS underlying225 zeroValue108 sizeOf108 (parts := [(0, .tmp 39)]) rfl rfl (by decide) (by decide) (by kernel_rfl)) rfl rfl ?_
 rintro _ w ⟨b29, rfl, hS⟩
 refine RL.e (OW.appendL (k := 1) (es := [.iface 262 (.agg #[iV a3.at_, iV a3.why])]) 2 0 hS rfl rfl underlying225 type108 rfl rfl rfl rfl (by decide) (by decide) rfl rfl rfl (by decide) rfl rfl rfl) rfl rfl ?_
 rintro _ w ⟨A30, c31, rfl, hS⟩
 have hS : St B w (_ :: _ :: _ :: _ :: l) hf := hS
 refine rr [0, 0, 3] hS ?_
 refine it fun w hS => RL.nil (RQ.inB_n (RQ.then_n (RC.region (pn 2 rfl (ln (RQ.round (sr (pn 1 rfl (ln (RC.seq (jf ?_)))))))))))
 refine RC.exit (RQ.exitT (RQ.exitT (RQ.inB_hit (tsr (r0 3 rfl (lr ?_))))))
 obtain rfl := h.some
 exact rt results118 rfl ⟨b19, A30, c31, rfl, hS.d1.p1⟩
end
end Go.Proofs.Gx
