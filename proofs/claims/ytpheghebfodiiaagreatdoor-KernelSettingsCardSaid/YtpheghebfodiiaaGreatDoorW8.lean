/-
  The walks of functions, each with what it computes: printed by wip/gx.py.
-/
import Derived.Test.YtpheghebfodiiaaGreatDoorW0
import Derived.Test.YtpheghebfodiiaaGreatDoorW2
import Derived.Test.YtpheghebfodiiaaGreatDoorW3
import Derived.Test.YtpheghebfodiiaaGreatDoorW7
set_option linter.unusedVariables false
set_option linter.unusedSimpArgs false
set_option maxRecDepth 100000
set_option maxHeartbeats 4000000
namespace Go.Proofs.Gx
open Go.Sl Tryz
variable {B : Base} {w : World} {l : List HProp} {hf : Hp}
noncomputable section
def pend_fresh_2.f (a1 : Int) : Option ((heap_Heap) ⊕ (calendar_Calendar) ⊕ (ladder_Ladder) ⊕ (Unit)) := (if a1 = 0 then ((heap_New.f).bind fun t19 => some (.inl t19)) else (if a1 = 1 then ((calendar_New.f 16).bind fun t23 => match t23 with | .inl _ => none | .inr ((y25, y26)) => some (.inr (.inl y25))) else (if a1 = 2 then ((ladder_New.f 32).bind fun t29 => match t29 with | .inl _ => none | .inr ((y31, y32)) => some (.inr (.inr (.inl y31)))) else some (.inr (.inr (.inr (())))))))
theorem pend_fresh_2.ok {a1 : Int} {r : (heap_Heap) ⊕ (calendar_Calendar) ⊕ (ladder_Ladder) ⊕ (Unit)} (h : pend_fresh_2.f a1 = some r) (hS : St B w (l) hf) :
    Calls prog 56 #[iV a1] w (Ret fun v w => match (generalizing := false) r with | .inl r_ => ∃ (b_1 : Nat), v = .iface 206 (pV b_1) ∧ St B w (O_heap_Heap hf r_ b_1 :: l) hf | .inr (.inl r_) => ∃ (b_2 : Nat), v = .iface 208 (pV b_2) ∧ St B w (O_calendar_Calendar hf r_ b_2 :: l) hf | .inr (.inr (.inl r_)) => ∃ (b_3 : Nat), v = .iface 211 (pV b_3) ∧ St B w (O_ladder_Ladder hf r_ b_3 :: l) hf | .inr (.inr (.inr (r_))) => v = .nilIface ∧ St B w (l) hf) := by
  have h := Holds.of h
  refine en func56 rfl ntmps56 rfl (sr (pn 1 rfl (ln (RC.seq (sr (pn 1 rfl (ln (RC.block (sr (pn 2 rfl ?_))))))))))
  refine ln ?_
  refine RC.iteP 8 rfl h (fun hc18 h => ?_) fun hc18 h => ?_
  next =>
   refine jtr (cF (fun _ hg => heap_New.ok hg hS) call87 h rfl rfl rfl ?_)
   rintro t19 h _ w ⟨b21, rfl, hS⟩
   refine r0 2 rfl (lr (ir ?_))
   cases h.some
   exact rt results56 rfl ⟨b21, rfl, hS⟩
  refine jf (sr (pn 2 rfl (ln ?_)))
  refine RC.iteP 12 rfl h (fun hc22 h => ?_) fun hc22 h => ?_
  next =>
   refine jtr ?_
   obtain ⟨t23, hg24, h⟩ := h.bind
   have hc := calendar_New.ok hg24 hS
   rcases t23 with _ | ⟨y25, y26⟩
   · exact h.none
   refine RL.e (OW.callF (ls := [.const (iV 16)]) rfl call88 hc) rfl rfl ?_
   rintro _ w ⟨b27, rfl, hS⟩
   refine pn 5 rfl (lnsr (r0 3 rfl (lr (ir ?_))))
   cases h.some
   exact rt results56 rfl ⟨b27, rfl, hS⟩
  refine jf (sr (pn 2 rfl (ln ?_)))
  refine RC.iteP 20 rfl h (fun hc28 h => ?_) fun hc28 h => ?_
  next =>
   refine jtr ?_
   obtain ⟨t29, hg30, h⟩ := h.bind
   have hc := ladder_New.ok hg30 hS
   rcases t29 with _ | ⟨y31, y32⟩
   · exact h.none
   refine RL.e (OW.callF (ls := [.const (iV 32)]) rfl call89 hc) rfl rfl ?_
   rintro _ w ⟨b33, rfl, hS⟩
   refine pn 5 rfl (lnsr (r0 3 rfl (lr (ir ?_))))
   cases h.some
   exact rt results56 rfl ⟨b33, rfl, hS⟩
  refine jf (RC.skip (RQ.inB_n (tsr (pn 1 rfl (lr ?_)))))
  cases h.some
  exact rt results56 rfl ⟨rfl, hS⟩
def pend_Pend_Kind.f (a2 : pend_Pend) : Option (Int) := ((pend_Pend_none.f a2).bind fun _ => (a2.q.on (fun y33 => some 0) (fun y34 => some 1) (fun y35 => some 2)))
theorem pend_Pend_Kind.ok {a2 : pend_Pend} {b1 : Nat} {r : Int} (h : pend_Pend_Kind.f a2 = some r) (hS : St B w (O_pend_Pend hf a2 b1 :: l) hf) :
    Calls prog 159 #[pV b1] w (Ret fun v w => v = iV r ∧ St B w (O_pend_Pend hf a2 b1 :: l) hf) := by
  have h := Holds.of h
  refine en func159 rfl ntmps159 rfl (sr (pn 1 rfl (ln (RC.seq (sr (pn 1 rfl (cF (fun _ hg => pend_Pend_none.ok hg hS) call90 h rfl rfl rfl ?_)))))))
  rintro _ h _ w ⟨rfl, hS⟩
  refine ln (jfs (RC.seq (sr (r0 3 rfl ?_))))
  rcases hx32 : a2.q with y33 | y34 | y35
  next =>
   have h := Q_pend_Pend.h0 hx32 h
   obtain ⟨b36, hS⟩ := O_pend_Pend.o0 hx32 hS
   refine rr [1] hS ?_
   refine it fun w hS => ln (RC.block (sr (RL.s (Vl.tassert (r := .tuple #[.pointer none, .bool false]) rfl (fun w => run_tassert_other underlying208 rfl rfl zeroValue208 _ _ w)) rfl (pn 2 rfl (ln (jf (sr (RL.s (Vl.tassert (r := .tuple #[.pointer none, .bool false]) rfl (fun w => run_tassert_other underlying211 rfl rfl zeroValue211 _ _ w)) rfl (pn 2 rfl (RL.nil ?_))))))))))
   refine RQ.then_n (jf (RC.skip (RQ.inB_n (tsr (pn 1 rfl (lr ?_))))))
   have hS := O_pend_Pend.c0 (x := a2) hx32 hS
   obtain rfl := h.some
   exact rt results159 rfl ⟨rfl, hS⟩
  next =>
   have h := Q_pend_Pend.h1 hx32 h
   obtain ⟨b37, hS⟩ := O_pend_Pend.o1 hx32 hS
   refine rr [1] hS ?_
   refine it fun w hS => ln (RC.block (sr (RL.s (Vl.tassert (r := .tuple #[pV b37, .bool true]) rfl (fun w => run_tassert_same underlying208 rfl _ _ w)) rfl (pn 2 rfl (ln (jtr (pn 1 rfl (ln ?_))))))))
   refine RC.ret (ir ?_)
   have hS := O_pend_Pend.c1 (x := a2) hx32 hS
   obtain rfl := h.some
   exact rt results159 rfl ⟨rfl, hS⟩
  have h := Q_pend_Pend.h2 hx32 h
  obtain ⟨b38, hS⟩ := O_pend_Pend.o2 hx32 hS
  refine rr [1] hS ?_
  refine it fun w hS => ln (RC.block (sr (RL.s (Vl.tassert (r := .tuple #[.pointer none, .bool false]) rfl (fun w => run_tassert_other underlying208 rfl rfl zeroValue208 _ _ w)) rfl (pn 2 rfl (ln (jf (sr (RL.s (Vl.tassert (r := .tuple #[pV b38, .bool true]) rfl (fun w => run_tassert_same underlying211 rfl _ _ w)) rfl (pn 2 rfl (RL.nil ?_))))))))))
  refine RQ.then_n (jtr (pn 1 rfl (lr (ir ?_))))
  have hS := O_pend_Pend.c2 (x := a2) hx32 hS
  obtain rfl := h.some
  exact rt results159 rfl ⟨rfl, hS⟩
def slices_Clone_api_Message_api_Message_2.f (a1 : List api_Message) : Option (Unit) := some ()
theorem slices_Clone_api_Message_api_Message_2.ok {a1 : List api_Message} {c3 : Nat} (hr4 : SlR E_api_Message.rep hf none c3 a1) {r : Unit} (h : slices_Clone_api_Message_api_Message_2.f a1 = some r) (hS : St B w (l) hf) :
    Calls prog 264 #[sV none a1 c3] w (Ret fun v w => v = .slice none 0 0 ∧ St B w (l) hf) := by
  have h := Holds.of h
  refine en func264 rfl ntmps264 rfl (sr (pn 1 rfl (ln (RC.seq (sr (pn 1 rfl (RL.s (Vl.bn true rfl rfl) rfl (ln (jtr ?_)))))))))
  refine pn 1 rfl (lr (RQ.ret ?_))
  exact rt results264 rfl ⟨rfl, hS⟩
def slices_Clone_api_Message_api_Message_3.f (a1 : List api_Message) : Option (List api_Message) := (if (([] : List api_Message).length + a1.length) * 56 ≤ 140737488355328 then some (([] : List api_Message) ++ a1) else none)
theorem slices_Clone_api_Message_api_Message_3.ok {a1 : List api_Message} {A2 : Addr} {c3 : Nat} (hr4 : SlR E_api_Message.rep hf (some A2) c3 a1) {r : List api_Message} (h : slices_Clone_api_Message_api_Message_3.f a1 = some r) (hS : St B w (l) hf) :
    Calls prog 264 #[.slice (some A2) a1.length c3] w (Ret fun v w => ∃ (A_1 : Option Addr) (c_2 : Nat), v = sV A_1 r c_2 ∧ St B w (OSf E_api_Message 115 (sV A_1 r c_2) r :: l) hf) := by
  have h := Holds.of h
  refine en func264 rfl ntmps264 rfl (sr (pn 1 rfl (ln (RC.seq (sr (pn 1 rfl (RL.s (Vl.bn false rfl rfl) rfl (ln (jfs ?_)))))))))
  refine sr (RL.e (OW.build0 (E := E_api_Message) hS underlying99 zeroValue115 sizeOf115) rfl rfl ?_)
  rintro _ w ⟨b12, rfl, hS⟩
  refine pn 1 rfl ?_
  obtain ⟨hq13, h⟩ := h.req
  refine RL.e (OW.appendV (E := E_api_Message) (xs := ([] : List api_Message)) (ys := a1) 0 hS rfl underlying99 type115 rfl rfl rfl rfl (by decide) (by decide) rfl rfl (hr4.2.world hS.sub) hq13 rfl) rfl rfl ?_
  rintro v16 w hS
  obtain ⟨A14, c15, rfl, _⟩ := hS.osShape 0 rfl
  have hS : St B w (_ :: l) hf := hS
  refine pn 1 rfl (lr ?_)
  cases h.some
  exact rt results264 rfl ⟨A14, c15, rfl, hS⟩
def slices_Clone_api_Message_api_Message.f (a5 : List api_Message) : Option (List api_Message) := slices_Clone_api_Message_api_Message_3.f a5
theorem slices_Clone_api_Message_api_Message.ok {a5 : List api_Message} {A6 : Option Addr} {c7 : Nat} (hr8 : SlR E_api_Message.rep hf A6 c7 a5) {r : List api_Message} (h : slices_Clone_api_Message_api_Message.f a5 = some r) (hS : St B w (l) hf) :
    Calls prog 264 #[sV A6 a5 c7] w (Ret fun v w => ∃ (A_1 : Option Addr) (c_2 : Nat), v = sV A_1 r c_2 ∧ St B w (OSf E_api_Message 115 (sV A_1 r c_2) r :: l) hf) := by
  cases A6 with
  | some b => exact slices_Clone_api_Message_api_Message_3.ok hr8 h hS
  | none =>
    have e : a5 = [] := by
      cases a5 with
      | nil => rfl
      | cons x xs => have := (hr8.2 0 (Nat.succ_pos _)).1; cases this
    subst e
    have e : r = [] := by
      unfold slices_Clone_api_Message_api_Message.f slices_Clone_api_Message_api_Message_3.f at h
      simp at h
      first | exact h | exact h.symm
    subst e
    refine (slices_Clone_api_Message_api_Message_2.ok hr8 (r := ()) rfl hS).mono fun e w he => ?_
    cases e with
    | returned v => obtain ⟨rfl, hS⟩ := he; exact ⟨none, 0, rfl, hS.nilSl E_api_Message 115⟩
    | panicked c => exact he.elim
    | outgrown => exact he.elim
def slices_insertionSortCmpFunc_api_Message.l14b (a4 x612 : Int) : List api_Message × Int → Option ((List api_Message × Int) ⊕ ((List api_Message × Int) ⊕ (List api_Message)))
  | (l865, x866) => (if a4 < x866 then (if 0 ≤ x866 ∧ x866 < (l865.length : Int) then (if 0 ≤ IntKind.i64.wrap (x866 - 1) ∧ IntKind.i64.wrap (x866 - 1) < (l865.length : Int) then ((event_order.f (nth l865 x866) (nth l865 (IntKind.i64.wrap (x866 - 1)))).bind fun t905 => (if t905 < 0 then (if IntKind.i64.wrap (x866 - 1) < ((setL l865 x866 (nth l865 (IntKind.i64.wrap (x866 - 1)))).length : Int) then some (.inl ((setL (setL l865 x866 (nth l865 (IntKind.i64.wrap (x866 - 1)))) (IntKind.i64.wrap (x866 - 1)) (nth l865 x866)), IntKind.i64.wrap (x866 - 1))) else none) else some (.inr (.inl (l865, IntKind.i64.wrap (x612 + 1)))))) else none) else none) else some (.inr (.inl (l865, IntKind.i64.wrap (x612 + 1)))))
def slices_insertionSortCmpFunc_api_Message.l14 (a4 x612 : Int) (s : List api_Message × Int) : Option ((List api_Message × Int) ⊕ (List api_Message)) := loopR (slices_insertionSortCmpFunc_api_Message.l14b a4 x612) s
def slices_insertionSortCmpFunc_api_Message.l12b (a3 : List api_Message) (a4 a5 : Int) : List api_Message × Int → Option ((List api_Message × Int) ⊕ (List api_Message))
  | (l611, x612) => (if x612 < a5 then slices_insertionSortCmpFunc_api_Message.l14 a4 x612 (l611, x612) else (Option.map Sum.inr (if l611.length = a3.length then some l611 else none)))
def slices_insertionSortCmpFunc_api_Message.l12 (a3 : List api_Message) (a4 a5 : Int) (s : List api_Message × Int) : Option (List api_Message) := loopR (slices_insertionSortCmpFunc_api_Message.l12b a3 a4 a5) s
def slices_insertionSortCmpFunc_api_Message.f (a3 : List api_Message) (a4 a5 : Int) : Option (List api_Message) := slices_insertionSortCmpFunc_api_Message.l12 a3 a4 a5 (a3, IntKind.i64.wrap (a4 + 1))
theorem slices_insertionSortCmpFunc_api_Message.ok {a3 r : List api_Message} {a4 a5 : Int} {A1 : Option Addr} {c2 : Nat} (h : slices_insertionSortCmpFunc_api_Message.f a3 a4 a5 = some r) (hS : St B w (OSf E_api_Message 115 (sV A1 a3 c2) a3 :: l) hf) :
    Calls prog 268 #[sV A1 a3 c2, iV a4, iV a5, .func (.func 134) #[] #[]] w (Ret fun v w => v = .tuple #[] ∧ St B w (OSf E_api_Message 115 (sV A1 a3 c2) r :: l) hf) := by
  have h := Holds.of h
  refine en func268 rfl ntmps268 rfl (sr (pn 3 rfl (ln (RC.block (fun a ha => lp h (fun (s : List api_Message × Int) a w => ∃ l611 x612, s = (l611, x612) ∧ Has 53 [(0, sV A1 l611 c2), (1, iV a4), (2, iV a5), (3, .func (.func 134) #[] #[]), (8, iV x612)] a ∧ St B w (OSf E_api_Message 115 (sV A1 l611 c2) l611 :: l) hf) ⟨_, _, rfl, ha.tE rfl, hS⟩ ?_)))))
  rintro G764 _ a w ⟨l611, x612, rfl, ha, hS⟩ h
  refine ro ha (RC.seq (sr (pn 3 rfl (ln ?_))))
  refine RC.iteP 14 rfl h (fun hc766 h => ?_) fun hc766 h => ?_
  next =>
   refine jt (sk (RC.seq (RC.block (sr (pn 2 rfl (ln (RC.block (fun a ha => lp h (fun (s : List api_Message × Int) a w => ∃ l865 x866, s = (l865, x866) ∧ Has 53 [(0, sV A1 l865 c2), (1, iV a4), (2, iV a5), (3, .func (.func 134) #[] #[]), (8, iV x612), (9, iV x866)] a ∧ St B w (OSf E_api_Message 115 (sV A1 l865 c2) l865 :: l) hf) ⟨_, _, rfl, ha.tE rfl, hS⟩ ?_))))))))
   rintro G891 _ a w ⟨l865, x866, rfl, ha, hS⟩ h
   refine ro ha (RC.seq (RC.seq (dr [0, 3, 6, 9, 12, 15, 18, 22, 25, 27, 32, 35, 38, 41, 44, 47, 50] [14, 15, 16] hS fun w hS => pp 4 rfl ?_)))
   refine RP.iteP 21 rfl h (fun hc900 h => ?_) fun hc900 h => ?_
   next =>
    refine pp 3 rfl ?_
    obtain ⟨⟨hq901, hq902⟩, h⟩ := h.req
    refine RP.sg 0 7 rfl rfl hS (fun w hS => Vl.indexOwn 0 hS rfl underlying99 sizeOf115 rfl rfl hq901 hq902) rfl rfl (RP.sg 0 8 rfl rfl hS (fun w hS => Vl.loadA isAgg115 sizeOf115 rfl rfl ((hS.slW 0 rfl).2.2.cells hq901 hq902)) rfl rfl (rq [0, 0, 0] hS ?_))
    refine it ?_
    obtain ⟨⟨hq903, hq904⟩, h⟩ := h.req
    refine RP.v1 12 rfl (Vl.indexOwn 0 hS rfl underlying99 sizeOf115 rfl rfl hq903 hq904) rfl rfl (RP.v1 13 rfl (Vl.loadA isAgg115 sizeOf115 rfl rfl ((hS.slW 0 rfl).2.2.cells hq903 hq904)) rfl rfl ?_)
    obtain ⟨t905, hg906, h⟩ := h.bind
    have hc := event_order.ok hg906 hS
    refine RP.e 14 rfl (OW.call (ls := [.tmp 26, .tmp 31]) rfl rfl call134 rfl hc) rfl rfl ?_
    rintro _ w ⟨rfl, hS⟩
    refine ⟨kp ⟨(by intro hx; cases hx), trivial⟩, ?_⟩
    refine rq [0, 0] hS ?_
    refine it (RP.nil (RQ.then_n ?_))
    refine RC.iteP 34 rfl h (fun hc907 h => ?_) fun hc907 h => ?_
    next =>
     refine jt (sk (RC.seq (RC.block (dr [0, 3, 6, 9, 12, 15, 18, 21, 25, 28, 30, 35, 38, 41, 44, 47, 50, 53] [14, 15, 16, 17] hS fun w hS => pp 8 rfl (RP.s 0 8 rfl rfl hS (fun w hS => Vl.indexOwn 0 hS rfl underlying99 sizeOf115 rfl rfl hq903 hq904) rfl (RP.s 0 9 rfl rfl hS (fun w hS => Vl.loadA isAgg115 sizeOf115 rfl rfl ((hS.slW 0 rfl).2.2.cells hq903 hq904)) rfl (rq [0, 0] hS ?_)))))))
     refine it (RP.v1 12 rfl (Vl.indexOwn 0 hS rfl underlying99 sizeOf115 rfl rfl hq901 hq902) rfl rfl (RP.v1 13 rfl (Vl.loadA isAgg115 sizeOf115 rfl rfl ((hS.slW 0 rfl).2.2.cells hq901 hq902)) rfl rfl (RP.v1 14 rfl (Vl.indexOwn 0 hS rfl underlying99 sizeOf115 rfl rfl hq901 hq902) rfl rfl (RP.e0 15 rfl (OW.storeOwn (E := E_api_Message) (off := 0) (j := x866) (x' := nth l865 (IntKind.i64.wrap (x866 - 1))) (vs := (C_api_Message (nth l865 (IntKind.i64.wrap (x866 - 1))))) 0 hS rfl rfl rfl rfl sizeOf115 rfl (Nat.succ_pos _) hq901 hq902 (Nat.le_of_ble_eq_true rfl) rfl rfl) rfl ?_))))
     rintro _ w ⟨rfl, hS⟩
     have he911 := (hS.osN 0 rfl).1
     have hS : St B w (_ :: l) hf := (congrArg (fun k_ : Nat => St B w (OSf E_api_Message 115 (.slice A1 k_ c2) (setL l865 x866 (nth l865 (IntKind.i64.wrap (x866 - 1)))) :: l) hf) he911).mp hS
     refine ⟨kp ⟨(by intro hx; cases hx), trivial⟩, ?_⟩
     refine RP.re 0 rfl (congrArg (fun k_ : Nat => (.slice A1 k_ c2 : Value)) he911) (RP.re 23 rfl (congrArg (fun k_ : Nat => (.slice A1 k_ c2 : Value)) he911) (RP.re 27 rfl (congrArg (fun k_ : Nat => (.slice A1 k_ c2 : Value)) he911) (RP.re 37 rfl (congrArg (fun k_ : Nat => (.slice A1 k_ c2 : Value)) he911) (RP.re 39 rfl (congrArg (fun k_ : Nat => (.slice A1 k_ c2 : Value)) he911) (RP.re 42 rfl (congrArg (fun k_ : Nat => (.slice A1 k_ c2 : Value)) he911) (RP.re 47 rfl (congrArg (fun k_ : Nat => (.slice A1 k_ c2 : Value)) he911) ?_))))))
     obtain ⟨hq912, h⟩ := h.req
     refine RP.v1 16 rfl (Vl.indexOwn 0 hS rfl underlying99 sizeOf115 rfl rfl hq903 hq912) rfl rfl (RP.e0 17 rfl (OW.storeOwn (E := E_api_Message) (off := 0) (j := IntKind.i64.wrap (x866 - 1)) (x' := nth l865 x866) (vs := (C_api_Message (nth l865 x866))) 0 hS rfl rfl rfl rfl sizeOf115 rfl (Nat.succ_pos _) hq903 hq912 (Nat.le_of_ble_eq_true rfl) rfl rfl) rfl ?_)
     rintro _ w ⟨rfl, hS⟩
     have he913 := (hS.osN 0 rfl).1
     have hS : St B w (_ :: l) hf := (congrArg (fun k_ : Nat => St B w (OSf E_api_Message 115 (.slice A1 k_ c2) (setL (setL l865 x866 (nth l865 (IntKind.i64.wrap (x866 - 1)))) (IntKind.i64.wrap (x866 - 1)) (nth l865 x866)) :: l) hf) he913).mp hS
     refine ⟨kp ⟨(by intro hx; cases hx), trivial⟩, ?_⟩
     refine RP.re 0 rfl (congrArg (fun k_ : Nat => (.slice A1 k_ c2 : Value)) he913) (RP.re 23 rfl (congrArg (fun k_ : Nat => (.slice A1 k_ c2 : Value)) he913) (RP.re 27 rfl (congrArg (fun k_ : Nat => (.slice A1 k_ c2 : Value)) he913) (RP.re 37 rfl (congrArg (fun k_ : Nat => (.slice A1 k_ c2 : Value)) he913) (RP.re 39 rfl (congrArg (fun k_ : Nat => (.slice A1 k_ c2 : Value)) he913) (RP.re 42 rfl (congrArg (fun k_ : Nat => (.slice A1 k_ c2 : Value)) he913) (RP.re 47 rfl (congrArg (fun k_ : Nat => (.slice A1 k_ c2 : Value)) he913) (RP.nil (RQ.inB_n (RQ.then_n (RC.region (pn 3 rfl (RL.nil ?_))))))))))))
     exact fun a ha => ⟨_, h.some, _, _, rfl, ha.tE rfl, hS⟩
    refine jf (RC.exit (RQ.exitT ?_))
    have h := h.inrS
    refine RQ.exitT (RQ.inB_hit (RQ.inB_n (RQ.then_n (RC.region (pn 3 rfl (RL.nil ?_))))))
    exact fun a ha => ⟨_, h.some, _, _, rfl, ha.tE rfl, hS⟩
   refine rq [0, 0, 0, 0, 0, 0, 0, 0, 0, 0, 0, 0, 0] hS ?_
   refine it (RP.nil (RQ.then_n (jf (RC.exit (RQ.exitT ?_)))))
   have h := h.inrS
   refine RQ.exitT (RQ.inB_hit (RQ.inB_n (RQ.then_n (RC.region (pn 3 rfl (RL.nil ?_))))))
   exact fun a ha => ⟨_, h.some, _, _, rfl, ha.tE rfl, hS⟩
  refine jf (RC.exit (RQ.exitT ?_))
  have h := h.inr
  refine RQ.exitT (RQ.inB_hit ?_)
  obtain ⟨hq914, h⟩ := h.req
  have hS : St B w (_ :: l) hf := (congrArg (fun k_ : Nat => St B w (OSf E_api_Message 115 (.slice A1 k_ c2) l611 :: l) hf) hq914).mp hS
  obtain rfl := h.some
  exact rtE results268 rfl ⟨rfl, hS⟩
def slices_swapRangeCmpFunc_api_Message.l2b (a3 : List api_Message) (a4 a5 a6 : Int) : List api_Message × Int → Option ((List api_Message × Int) ⊕ (List api_Message))
  | (l80, x81) => (if x81 < a6 then (if 0 ≤ IntKind.i64.wrap (a5 + x81) ∧ IntKind.i64.wrap (a5 + x81) < (l80.length : Int) then (if 0 ≤ IntKind.i64.wrap (a4 + x81) ∧ IntKind.i64.wrap (a4 + x81) < (l80.length : Int) then (if IntKind.i64.wrap (a5 + x81) < ((setL l80 (IntKind.i64.wrap (a4 + x81)) (nth l80 (IntKind.i64.wrap (a5 + x81)))).length : Int) then some (.inl ((setL (setL l80 (IntKind.i64.wrap (a4 + x81)) (nth l80 (IntKind.i64.wrap (a5 + x81)))) (IntKind.i64.wrap (a5 + x81)) (nth l80 (IntKind.i64.wrap (a4 + x81)))), IntKind.i64.wrap (x81 + 1))) else none) else none) else none) else (Option.map Sum.inr (if l80.length = a3.length then some l80 else none)))
def slices_swapRangeCmpFunc_api_Message.l2 (a3 : List api_Message) (a4 a5 a6 : Int) (s : List api_Message × Int) : Option (List api_Message) := loopR (slices_swapRangeCmpFunc_api_Message.l2b a3 a4 a5 a6) s
def slices_swapRangeCmpFunc_api_Message.f (a3 : List api_Message) (a4 a5 a6 : Int) : Option (List api_Message) := slices_swapRangeCmpFunc_api_Message.l2 a3 a4 a5 a6 (a3, 0)
theorem slices_swapRangeCmpFunc_api_Message.ok {a3 r : List api_Message} {a4 a5 a6 : Int} {A1 : Option Addr} {c2 : Nat} (h : slices_swapRangeCmpFunc_api_Message.f a3 a4 a5 a6 = some r) (hS : St B w (OSf E_api_Message 115 (sV A1 a3 c2) a3 :: l) hf) :
    Calls prog 271 #[sV A1 a3 c2, iV a4, iV a5, iV a6, .func (.func 134) #[] #[]] w (Ret fun v w => v = .tuple #[] ∧ St B w (OSf E_api_Message 115 (sV A1 a3 c2) r :: l) hf) := by
  have h := Holds.of h
  refine en func271 rfl ntmps271 rfl (sr (pn 1 rfl (ln (RC.block (fun a ha => lp h (fun (s : List api_Message × Int) a w => ∃ l80 x81, s = (l80, x81) ∧ Has 38 [(0, sV A1 l80 c2), (1, iV a4), (2, iV a5), (3, iV a6), (10, iV x81)] a ∧ St B w (OSf E_api_Message 115 (sV A1 l80 c2) l80 :: l) hf) ⟨_, _, rfl, ha.tE rfl, hS⟩ ?_)))))
  rintro G100 _ a w ⟨l80, x81, rfl, ha, hS⟩ h
  refine ro ha (RC.seq (sr (pn 3 rfl (ln ?_))))
  refine RC.iteP 13 rfl h (fun hc102 h => ?_) fun hc102 h => ?_
  next =>
   refine jt (sk (RC.seq (RC.block (dr [0, 3, 6, 9, 12, 15, 18, 21, 24, 27, 30, 33, 37, 40, 42, 45, 50, 53, 56, 59, 62, 65, 68, 71] [20, 21, 22, 23] hS fun w hS => pp 12 rfl ?_))))
   obtain ⟨⟨hq110, hq111⟩, h⟩ := h.req
   refine RP.s 0 12 rfl rfl hS (fun w hS => Vl.indexOwn 0 hS rfl underlying99 sizeOf115 rfl rfl hq110 hq111) rfl (RP.s 0 13 rfl rfl hS (fun w hS => Vl.loadA isAgg115 sizeOf115 rfl rfl ((hS.slW 0 rfl).2.2.cells hq110 hq111)) rfl (rq [0, 0, 0, 0] hS ?_))
   refine it ?_
   obtain ⟨⟨hq112, hq113⟩, h⟩ := h.req
   refine RP.v1 18 rfl (Vl.indexOwn 0 hS rfl underlying99 sizeOf115 rfl rfl hq112 hq113) rfl rfl (RP.v1 19 rfl (Vl.loadA isAgg115 sizeOf115 rfl rfl ((hS.slW 0 rfl).2.2.cells hq112 hq113)) rfl rfl (RP.v1 20 rfl (Vl.indexOwn 0 hS rfl underlying99 sizeOf115 rfl rfl hq112 hq113) rfl rfl (RP.e0 21 rfl (OW.storeOwn (E := E_api_Message) (off := 0) (j := IntKind.i64.wrap (a4 + x81)) (x' := nth l80 (IntKind.i64.wrap (a5 + x81))) (vs := (C_api_Message (nth l80 (IntKind.i64.wrap (a5 + x81))))) 0 hS rfl rfl rfl rfl sizeOf115 rfl (Nat.succ_pos _) hq112 hq113 (Nat.le_of_ble_eq_true rfl) rfl rfl) rfl ?_)))
   rintro _ w ⟨rfl, hS⟩
   have he114 := (hS.osN 0 rfl).1
   have hS : St B w (_ :: l) hf := (congrArg (fun k_ : Nat => St B w (OSf E_api_Message 115 (.slice A1 k_ c2) (setL l80 (IntKind.i64.wrap (a4 + x81)) (nth l80 (IntKind.i64.wrap (a5 + x81)))) :: l) hf) he114).mp hS
   refine ⟨kp ⟨(by intro hx; cases hx), trivial⟩, ?_⟩
   refine RP.re 0 rfl (congrArg (fun k_ : Nat => (.slice A1 k_ c2 : Value)) he114) (RP.re 16 rfl (congrArg (fun k_ : Nat => (.slice A1 k_ c2 : Value)) he114) (RP.re 20 rfl (congrArg (fun k_ : Nat => (.slice A1 k_ c2 : Value)) he114) (RP.re 24 rfl (congrArg (fun k_ : Nat => (.slice A1 k_ c2 : Value)) he114) (RP.re 30 rfl (congrArg (fun k_ : Nat => (.slice A1 k_ c2 : Value)) he114) ?_))))
   obtain ⟨hq115, h⟩ := h.req
   refine RP.v1 22 rfl (Vl.indexOwn 0 hS rfl underlying99 sizeOf115 rfl rfl hq110 hq115) rfl rfl (RP.e0 23 rfl (OW.storeOwn (E := E_api_Message) (off := 0) (j := IntKind.i64.wrap (a5 + x81)) (x' := nth l80 (IntKind.i64.wrap (a4 + x81))) (vs := (C_api_Message (nth l80 (IntKind.i64.wrap (a4 + x81))))) 0 hS rfl rfl rfl rfl sizeOf115 rfl (Nat.succ_pos _) hq110 hq115 (Nat.le_of_ble_eq_true rfl) rfl rfl) rfl ?_)
   rintro _ w ⟨rfl, hS⟩
   have he116 := (hS.osN 0 rfl).1
   have hS : St B w (_ :: l) hf := (congrArg (fun k_ : Nat => St B w (OSf E_api_Message 115 (.slice A1 k_ c2) (setL (setL l80 (IntKind.i64.wrap (a4 + x81)) (nth l80 (IntKind.i64.wrap (a5 + x81)))) (IntKind.i64.wrap (a5 + x81)) (nth l80 (IntKind.i64.wrap (a4 + x81)))) :: l) hf) he116).mp hS
   refine ⟨kp ⟨(by intro hx; cases hx), trivial⟩, ?_⟩
   refine RP.re 0 rfl (congrArg (fun k_ : Nat => (.slice A1 k_ c2 : Value)) he116) (RP.re 16 rfl (congrArg (fun k_ : Nat => (.slice A1 k_ c2 : Value)) he116) (RP.re 20 rfl (congrArg (fun k_ : Nat => (.slice A1 k_ c2 : Value)) he116) (RP.re 24 rfl (congrArg (fun k_ : Nat => (.slice A1 k_ c2 : Value)) he116) (RP.re 30 rfl (congrArg (fun k_ : Nat => (.slice A1 k_ c2 : Value)) he116) (RP.nil (RQ.inB_n (RQ.then_n (RC.region (pn 3 rfl (RL.nil ?_))))))))))
   exact fun a ha => ⟨_, h.some, _, _, rfl, ha.tE rfl, hS⟩
  refine jf (RC.exit (RQ.exitT ?_))
  have h := h.inr
  refine RQ.exitT (RQ.inB_hit ?_)
  obtain ⟨hq117, h⟩ := h.req
  have hS : St B w (_ :: l) hf := (congrArg (fun k_ : Nat => St B w (OSf E_api_Message 115 (.slice A1 k_ c2) l80 :: l) hf) hq117).mp hS
  obtain rfl := h.some
  exact rtE results271 rfl ⟨rfl, hS⟩
def slices_rotateCmpFunc_api_Message.l4b (a3 : List api_Message) (a5 : Int) : List api_Message × Int × Int → Option ((List api_Message × Int × Int) ⊕ (List api_Message))
  | (l133, x134, x135) => (if x134 = x135 then (Option.map Sum.inr ((slices_swapRangeCmpFunc_api_Message.f l133 (IntKind.i64.wrap (a5 - x134)) a5 x134).bind fun t151 => (if t151.length = a3.length then some t151 else none))) else (if x135 < x134 then ((slices_swapRangeCmpFunc_api_Message.f l133 (IntKind.i64.wrap (a5 - x134)) a5 x135).bind fun t156 => some (.inl (t156, IntKind.i64.wrap (x134 - x135), x135))) else ((slices_swapRangeCmpFunc_api_Message.f l133 (IntKind.i64.wrap (a5 - x134)) (IntKind.i64.wrap ((IntKind.i64.wrap (a5 + x135)) - x134)) x134).bind fun t159 => some (.inl (t159, x134, IntKind.i64.wrap (x135 - x134))))))
def slices_rotateCmpFunc_api_Message.l4 (a3 : List api_Message) (a5 : Int) (s : List api_Message × Int × Int) : Option (List api_Message) := loopR (slices_rotateCmpFunc_api_Message.l4b a3 a5) s
def slices_rotateCmpFunc_api_Message.f (a3 : List api_Message) (a4 a5 a6 : Int) : Option (List api_Message) := slices_rotateCmpFunc_api_Message.l4 a3 a5 (a3, IntKind.i64.wrap (a5 - a4), IntKind.i64.wrap (a6 - a5))
theorem slices_rotateCmpFunc_api_Message.ok {a3 r : List api_Message} {a4 a5 a6 : Int} {A1 : Option Addr} {c2 : Nat} (h : slices_rotateCmpFunc_api_Message.f a3 a4 a5 a6 = some r) (hS : St B w (OSf E_api_Message 115 (sV A1 a3 c2) a3 :: l) hf) :
    Calls prog 270 #[sV A1 a3 c2, iV a4, iV a5, iV a6, .func (.func 134) #[] #[]] w (Ret fun v w => v = .tuple #[] ∧ St B w (OSf E_api_Message 115 (sV A1 a3 c2) r :: l) hf) := by
  have h := Holds.of h
  refine en func270 rfl ntmps270 rfl (sr (pn 4 rfl (lnsr (pn 4 rfl (ln (RC.seq (RC.block (fun a ha => lp h (fun (s : List api_Message × Int × Int) a w => ∃ l133 x134 x135, s = (l133, x134, x135) ∧ Has 58 [(0, sV A1 l133 c2), (2, iV a5), (4, .func (.func 134) #[] #[]), (10, iV x134), (11, iV x135)] a ∧ St B w (OSf E_api_Message 115 (sV A1 l133 c2) l133 :: l) hf) ⟨_, _, _, rfl, ha.tE rfl, hS⟩ ?_))))))))
  rintro G148 _ a w ⟨l133, x134, x135, rfl, ha, hS⟩ h
  refine ro ha (RC.seq (sr (pn 3 rfl (ln ?_))))
  refine RC.iteN 20 rfl h (fun hc150 h => ?_) fun hc150 h => ?_
  next =>
   refine jf (RC.exit (RQ.exitT ?_))
   have h := h.inr
   refine RQ.exitT (RQ.inB_hit (RQ.then_n (RC.region (pn 7 rfl ?_))))
   obtain ⟨t151, hg152, h⟩ := h.bind
   have hc := slices_swapRangeCmpFunc_api_Message.ok hg152 hS
   refine RL.e (OW.callF (ls := [.tmp 50, .tmp 53, .tmp 54, .tmp 55, .tmp 56]) rfl call271 hc) rfl rfl ?_
   rintro _ w ⟨rfl, hS⟩
   have he153 := (hS.osN 0 rfl).1
   have hS : St B w (_ :: l) hf := (congrArg (fun k_ : Nat => St B w (OSf E_api_Message 115 (.slice A1 k_ c2) t151 :: l) hf) he153).mp hS
   refine RL.re 0 rfl (congrArg (fun k_ : Nat => (.slice A1 k_ c2 : Value)) he153) (RL.re 50 rfl (congrArg (fun k_ : Nat => (.slice A1 k_ c2 : Value)) he153) (RL.nil ?_))
   obtain ⟨hq154, h⟩ := h.req
   have hS : St B w (_ :: l) hf := (congrArg (fun k_ : Nat => St B w (OSf E_api_Message 115 (.slice A1 k_ c2) t151 :: l) hf) hq154).mp hS
   obtain rfl := h.some
   exact rtE results270 rfl ⟨rfl, hS⟩
  refine jt (sk (RC.block (sr (pn 3 rfl (ln ?_)))))
  refine RC.iteP 23 rfl h (fun hc155 h => ?_) fun hc155 h => ?_
  next =>
   refine jtr (pn 7 rfl ?_)
   obtain ⟨t156, hg157, h⟩ := h.bind
   have hc := slices_swapRangeCmpFunc_api_Message.ok hg157 hS
   refine RL.e (OW.callF (ls := [.tmp 24, .tmp 27, .tmp 28, .tmp 29, .tmp 30]) rfl call271 hc) rfl rfl ?_
   rintro _ w ⟨rfl, hS⟩
   have he158 := (hS.osN 0 rfl).1
   have hS : St B w (_ :: l) hf := (congrArg (fun k_ : Nat => St B w (OSf E_api_Message 115 (.slice A1 k_ c2) t156 :: l) hf) he158).mp hS
   refine RL.re 0 rfl (congrArg (fun k_ : Nat => (.slice A1 k_ c2 : Value)) he158) (RL.re 24 rfl (congrArg (fun k_ : Nat => (.slice A1 k_ c2 : Value)) he158) (ln (RC.region (pn 4 rfl (RL.nil (RQ.inB_n ?_))))))
   exact fun a ha => ⟨_, h.some, _, _, _, rfl, ha.tE rfl, hS⟩
  refine jf (sr (pn 11 rfl ?_))
  obtain ⟨t159, hg160, h⟩ := h.bind
  have hc := slices_swapRangeCmpFunc_api_Message.ok hg160 hS
  refine RL.e (OW.callF (ls := [.tmp 35, .tmp 38, .tmp 43, .tmp 44, .tmp 45]) rfl call271 hc) rfl rfl ?_
  rintro _ w ⟨rfl, hS⟩
  have he161 := (hS.osN 0 rfl).1
  have hS : St B w (_ :: l) hf := (congrArg (fun k_ : Nat => St B w (OSf E_api_Message 115 (.slice A1 k_ c2) t159 :: l) hf) he161).mp hS
  refine RL.re 0 rfl (congrArg (fun k_ : Nat => (.slice A1 k_ c2 : Value)) he161) (RL.re 35 rfl (congrArg (fun k_ : Nat => (.slice A1 k_ c2 : Value)) he161) (ln (RC.region (pn 4 rfl (RL.nil (RQ.inB_n ?_))))))
  exact fun a ha => ⟨_, h.some, _, _, _, rfl, ha.tE rfl, hS⟩
def slices_symMergeCmpFunc_api_Message.l23b (a3 : List api_Message) (x772 : Int) : List api_Message × Int → Option ((List api_Message × Int) ⊕ (List api_Message))
  | (l813, x814) => (if x814 < IntKind.i64.wrap (x772 - 1) then (if 0 ≤ IntKind.i64.wrap (x814 + 1) ∧ IntKind.i64.wrap (x814 + 1) < (l813.length : Int) then (if 0 ≤ x814 ∧ x814 < (l813.length : Int) then (if IntKind.i64.wrap (x814 + 1) < ((setL l813 x814 (nth l813 (IntKind.i64.wrap (x814 + 1)))).length : Int) then some (.inl ((setL (setL l813 x814 (nth l813 (IntKind.i64.wrap (x814 + 1)))) (IntKind.i64.wrap (x814 + 1)) (nth l813 x814)), IntKind.i64.wrap (x814 + 1))) else none) else none) else none) else (Option.map Sum.inr (if l813.length = a3.length then some l813 else none)))
def slices_symMergeCmpFunc_api_Message.l23 (a3 : List api_Message) (x772 : Int) (s : List api_Message × Int) : Option (List api_Message) := loopR (slices_symMergeCmpFunc_api_Message.l23b a3 x772) s
def slices_symMergeCmpFunc_api_Message.l22b (a3 : List api_Message) (a4 : Int) : Int × Int → Option ((Int × Int) ⊕ (List api_Message))
  | (x772, x773) => (if x772 < x773 then (if 0 ≤ IntKind.i64.wrap (Int.fdiv (IntKind.u64.wrap (IntKind.i64.wrap (x772 + x773))) (2 ^ (min (1 : Int).toNat IntKind.u64.bits))) ∧ IntKind.i64.wrap (Int.fdiv (IntKind.u64.wrap (IntKind.i64.wrap (x772 + x773))) (2 ^ (min (1 : Int).toNat IntKind.u64.bits))) < (a3.length : Int) then (if 0 ≤ a4 ∧ a4 < (a3.length : Int) then ((event_order.f (nth a3 (IntKind.i64.wrap (Int.fdiv (IntKind.u64.wrap (IntKind.i64.wrap (x772 + x773))) (2 ^ (min (1 : Int).toNat IntKind.u64.bits))))) (nth a3 a4)).bind fun t792 => (if t792 < 0 then some (.inl (IntKind.i64.wrap ((IntKind.i64.wrap (Int.fdiv (IntKind.u64.wrap (IntKind.i64.wrap (x772 + x773))) (2 ^ (min (1 : Int).toNat IntKind.u64.bits)))) + 1), x773)) else some (.inl (x772, IntKind.i64.wrap (Int.fdiv (IntKind.u64.wrap (IntKind.i64.wrap (x772 + x773))) (2 ^ (min (1 : Int).toNat IntKind.u64.bits))))))) else none) else none) else (Option.map Sum.inr (slices_symMergeCmpFunc_api_Message.l23 a3 x772 (a3, a4))))
def slices_symMergeCmpFunc_api_Message.l22 (a3 : List api_Message) (a4 : Int) (s : Int × Int) : Option (List api_Message) := loopR (slices_symMergeCmpFunc_api_Message.l22b a3 a4) s
def slices_symMergeCmpFunc_api_Message.l29b (a3 : List api_Message) (x1021 : Int) : List api_Message × Int → Option ((List api_Message × Int) ⊕ (List api_Message))
  | (l1062, x1063) => (if x1021 < x1063 then (if 0 ≤ IntKind.i64.wrap (x1063 - 1) ∧ IntKind.i64.wrap (x1063 - 1) < (l1062.length : Int) then (if 0 ≤ x1063 ∧ x1063 < (l1062.length : Int) then (if IntKind.i64.wrap (x1063 - 1) < ((setL l1062 x1063 (nth l1062 (IntKind.i64.wrap (x1063 - 1)))).length : Int) then some (.inl ((setL (setL l1062 x1063 (nth l1062 (IntKind.i64.wrap (x1063 - 1)))) (IntKind.i64.wrap (x1063 - 1)) (nth l1062 x1063)), IntKind.i64.wrap (x1063 - 1))) else none) else none) else none) else (Option.map Sum.inr (if l1062.length = a3.length then some l1062 else none)))
def slices_symMergeCmpFunc_api_Message.l29 (a3 : List api_Message) (x1021 : Int) (s : List api_Message × Int) : Option (List api_Message) := loopR (slices_symMergeCmpFunc_api_Message.l29b a3 x1021) s
def slices_symMergeCmpFunc_api_Message.l28b (a3 : List api_Message) (a5 : Int) : Int × Int → Option ((Int × Int) ⊕ (List api_Message))
  | (x1021, x1022) => (if x1021 < x1022 then (if 0 ≤ a5 ∧ a5 < (a3.length : Int) then (if 0 ≤ IntKind.i64.wrap (Int.fdiv (IntKind.u64.wrap (IntKind.i64.wrap (x1021 + x1022))) (2 ^ (min (1 : Int).toNat IntKind.u64.bits))) ∧ IntKind.i64.wrap (Int.fdiv (IntKind.u64.wrap (IntKind.i64.wrap (x1021 + x1022))) (2 ^ (min (1 : Int).toNat IntKind.u64.bits))) < (a3.length : Int) then ((event_order.f (nth a3 a5) (nth a3 (IntKind.i64.wrap (Int.fdiv (IntKind.u64.wrap (IntKind.i64.wrap (x1021 + x1022))) (2 ^ (min (1 : Int).toNat IntKind.u64.bits)))))).bind fun t1041 => (if t1041 < 0 then some (.inl (x1021, IntKind.i64.wrap (Int.fdiv (IntKind.u64.wrap (IntKind.i64.wrap (x1021 + x1022))) (2 ^ (min (1 : Int).toNat IntKind.u64.bits))))) else some (.inl (IntKind.i64.wrap ((IntKind.i64.wrap (Int.fdiv (IntKind.u64.wrap (IntKind.i64.wrap (x1021 + x1022))) (2 ^ (min (1 : Int).toNat IntKind.u64.bits)))) + 1), x1022)))) else none) else none) else (Option.map Sum.inr (slices_symMergeCmpFunc_api_Message.l29 a3 x1021 (a3, a5))))
def slices_symMergeCmpFunc_api_Message.l28 (a3 : List api_Message) (a5 : Int) (s : Int × Int) : Option (List api_Message) := loopR (slices_symMergeCmpFunc_api_Message.l28b a3 a5) s
def slices_symMergeCmpFunc_api_Message.j34 (rec_ : (List api_Message) → Int → Int → Int → Option (List api_Message)) (a3 : List api_Message) (a4 a5 a6 x1148 : Int) (l1182 : List api_Message) : Option (List api_Message) := (if IntKind.i64.wrap (Int.fdiv (IntKind.u64.wrap (IntKind.i64.wrap (a4 + a6))) (2 ^ (min (1 : Int).toNat IntKind.u64.bits))) < IntKind.i64.wrap ((IntKind.i64.wrap ((IntKind.i64.wrap (Int.fdiv (IntKind.u64.wrap (IntKind.i64.wrap (a4 + a6))) (2 ^ (min (1 : Int).toNat IntKind.u64.bits)))) + a5)) - x1148) then (if IntKind.i64.wrap ((IntKind.i64.wrap ((IntKind.i64.wrap (Int.fdiv (IntKind.u64.wrap (IntKind.i64.wrap (a4 + a6))) (2 ^ (min (1 : Int).toNat IntKind.u64.bits)))) + a5)) - x1148) < a6 then ((rec_ l1182 (IntKind.i64.wrap (Int.fdiv (IntKind.u64.wrap (IntKind.i64.wrap (a4 + a6))) (2 ^ (min (1 : Int).toNat IntKind.u64.bits)))) (IntKind.i64.wrap ((IntKind.i64.wrap ((IntKind.i64.wrap (Int.fdiv (IntKind.u64.wrap (IntKind.i64.wrap (a4 + a6))) (2 ^ (min (1 : Int).toNat IntKind.u64.bits)))) + a5)) - x1148)) a6).bind fun t1185 => (if t1185.length = a3.length then some t1185 else none)) else (if l1182.length = a3.length then some l1182 else none)) else (if l1182.length = a3.length then some l1182 else none))
def slices_symMergeCmpFunc_api_Message.j33 (rec_ : (List api_Message) → Int → Int → Int → Option (List api_Message)) (a3 : List api_Message) (a4 a5 a6 x1148 : Int) (l1176 : List api_Message) : Option (List api_Message) := (if a4 < x1148 then (if x1148 < IntKind.i64.wrap (Int.fdiv (IntKind.u64.wrap (IntKind.i64.wrap (a4 + a6))) (2 ^ (min (1 : Int).toNat IntKind.u64.bits))) then ((rec_ l1176 a4 x1148 (IntKind.i64.wrap (Int.fdiv (IntKind.u64.wrap (IntKind.i64.wrap (a4 + a6))) (2 ^ (min (1 : Int).toNat IntKind.u64.bits))))).bind fun t1193 => slices_symMergeCmpFunc_api_Message.j34 rec_ a3 a4 a5 a6 x1148 t1193) else slices_symMergeCmpFunc_api_Message.j34 rec_ a3 a4 a5 a6 x1148 l1176) else slices_symMergeCmpFunc_api_Message.j34 rec_ a3 a4 a5 a6 x1148 l1176)
def slices_symMergeCmpFunc_api_Message.l32b (rec_ : (List api_Message) → Int → Int → Int → Option (List api_Message)) (a3 : List api_Message) (a4 a5 a6 : Int) : Int × Int → Option ((Int × Int) ⊕ (List api_Message))
  | (x1148, x1149) => (if x1148 < x1149 then (if 0 ≤ IntKind.i64.wrap ((IntKind.i64.wrap ((IntKind.i64.wrap ((IntKind.i64.wrap (Int.fdiv (IntKind.u64.wrap (IntKind.i64.wrap (a4 + a6))) (2 ^ (min (1 : Int).toNat IntKind.u64.bits)))) + a5)) - 1)) - (IntKind.i64.wrap (Int.fdiv (IntKind.u64.wrap (IntKind.i64.wrap (x1148 + x1149))) (2 ^ (min (1 : Int).toNat IntKind.u64.bits))))) ∧ IntKind.i64.wrap ((IntKind.i64.wrap ((IntKind.i64.wrap ((IntKind.i64.wrap (Int.fdiv (IntKind.u64.wrap (IntKind.i64.wrap (a4 + a6))) (2 ^ (min (1 : Int).toNat IntKind.u64.bits)))) + a5)) - 1)) - (IntKind.i64.wrap (Int.fdiv (IntKind.u64.wrap (IntKind.i64.wrap (x1148 + x1149))) (2 ^ (min (1 : Int).toNat IntKind.u64.bits))))) < (a3.length : Int) then (if 0 ≤ IntKind.i64.wrap (Int.fdiv (IntKind.u64.wrap (IntKind.i64.wrap (x1148 + x1149))) (2 ^ (min (1 : Int).toNat IntKind.u64.bits))) ∧ IntKind.i64.wrap (Int.fdiv (IntKind.u64.wrap (IntKind.i64.wrap (x1148 + x1149))) (2 ^ (min (1 : Int).toNat IntKind.u64.bits))) < (a3.length : Int) then ((event_order.f (nth a3 (IntKind.i64.wrap ((IntKind.i64.wrap ((IntKind.i64.wrap ((IntKind.i64.wrap (Int.fdiv (IntKind.u64.wrap (IntKind.i64.wrap (a4 + a6))) (2 ^ (min (1 : Int).toNat IntKind.u64.bits)))) + a5)) - 1)) - (IntKind.i64.wrap (Int.fdiv (IntKind.u64.wrap (IntKind.i64.wrap (x1148 + x1149))) (2 ^ (min (1 : Int).toNat IntKind.u64.bits))))))) (nth a3 (IntKind.i64.wrap (Int.fdiv (IntKind.u64.wrap (IntKind.i64.wrap (x1148 + x1149))) (2 ^ (min (1 : Int).toNat IntKind.u64.bits)))))).bind fun t1168 => (if t1168 < 0 then some (.inl (x1148, IntKind.i64.wrap (Int.fdiv (IntKind.u64.wrap (IntKind.i64.wrap (x1148 + x1149))) (2 ^ (min (1 : Int).toNat IntKind.u64.bits))))) else some (.inl (IntKind.i64.wrap ((IntKind.i64.wrap (Int.fdiv (IntKind.u64.wrap (IntKind.i64.wrap (x1148 + x1149))) (2 ^ (min (1 : Int).toNat IntKind.u64.bits)))) + 1), x1149)))) else none) else none) else (Option.map Sum.inr (if x1148 < a5 then (if a5 < IntKind.i64.wrap ((IntKind.i64.wrap ((IntKind.i64.wrap (Int.fdiv (IntKind.u64.wrap (IntKind.i64.wrap (a4 + a6))) (2 ^ (min (1 : Int).toNat IntKind.u64.bits)))) + a5)) - x1148) then ((slices_rotateCmpFunc_api_Message.f a3 x1148 a5 (IntKind.i64.wrap ((IntKind.i64.wrap ((IntKind.i64.wrap (Int.fdiv (IntKind.u64.wrap (IntKind.i64.wrap (a4 + a6))) (2 ^ (min (1 : Int).toNat IntKind.u64.bits)))) + a5)) - x1148))).bind fun t1198 => slices_symMergeCmpFunc_api_Message.j33 rec_ a3 a4 a5 a6 x1148 t1198) else slices_symMergeCmpFunc_api_Message.j33 rec_ a3 a4 a5 a6 x1148 a3) else slices_symMergeCmpFunc_api_Message.j33 rec_ a3 a4 a5 a6 x1148 a3)))
def slices_symMergeCmpFunc_api_Message.l32 (rec_ : (List api_Message) → Int → Int → Int → Option (List api_Message)) (a3 : List api_Message) (a4 a5 a6 : Int) (s : Int × Int) : Option (List api_Message) := loopR (slices_symMergeCmpFunc_api_Message.l32b rec_ a3 a4 a5 a6) s
def slices_symMergeCmpFunc_api_Message.j30 (rec_ : (List api_Message) → Int → Int → Int → Option (List api_Message)) (a3 : List api_Message) (a4 a5 a6 x1101 x1102 : Int) : Option (List api_Message) := slices_symMergeCmpFunc_api_Message.l32 rec_ a3 a4 a5 a6 (x1101, x1102)
def slices_symMergeCmpFunc_api_Message.f0 (rec_ : (List api_Message) → Int → Int → Int → Option (List api_Message)) (a3 : List api_Message) (a4 a5 a6 : Int) : Option (List api_Message) := (if IntKind.i64.wrap (a5 - a4) = 1 then slices_symMergeCmpFunc_api_Message.l22 a3 a4 (a5, a6) else (if IntKind.i64.wrap (a6 - a5) = 1 then slices_symMergeCmpFunc_api_Message.l28 a3 a5 (a4, a5) else (if IntKind.i64.wrap (Int.fdiv (IntKind.u64.wrap (IntKind.i64.wrap (a4 + a6))) (2 ^ (min (1 : Int).toNat IntKind.u64.bits))) < a5 then slices_symMergeCmpFunc_api_Message.j30 rec_ a3 a4 a5 a6 (IntKind.i64.wrap ((IntKind.i64.wrap ((IntKind.i64.wrap (Int.fdiv (IntKind.u64.wrap (IntKind.i64.wrap (a4 + a6))) (2 ^ (min (1 : Int).toNat IntKind.u64.bits)))) + a5)) - a6)) (IntKind.i64.wrap (Int.fdiv (IntKind.u64.wrap (IntKind.i64.wrap (a4 + a6))) (2 ^ (min (1 : Int).toNat IntKind.u64.bits)))) else slices_symMergeCmpFunc_api_Message.j30 rec_ a3 a4 a5 a6 a4 a5)))
theorem slices_symMergeCmpFunc_api_Message.ok0 {rec_ : (List api_Message) → Int → Int → Int → Option (List api_Message)} (ih_ : ∀ {a3 : List api_Message} {a4 a5 a6 : Int} {A1 : Option Addr} {c2 : Nat} {r : List api_Message} {B : Base} {w : World} {l : List HProp} {hf : Hp}, rec_ a3 a4 a5 a6 = some r → St B w (OSf E_api_Message 115 (sV A1 a3 c2) a3 :: l) hf → Calls prog 269 #[sV A1 a3 c2, iV a4, iV a5, iV a6, .func (.func 134) #[] #[]] w (Ret fun v w => v = .tuple #[] ∧ St B w (OSf E_api_Message 115 (sV A1 a3 c2) r :: l) hf)) {a3 : List api_Message} {a4 a5 a6 : Int} {A1 : Option Addr} {c2 : Nat} {r : List api_Message} (h : slices_symMergeCmpFunc_api_Message.f0 rec_ a3 a4 a5 a6 = some r) (hS : St B w (OSf E_api_Message 115 (sV A1 a3 c2) a3 :: l) hf) :
    Calls prog 269 #[sV A1 a3 c2, iV a4, iV a5, iV a6, .func (.func 134) #[] #[]] w (Ret fun v w => v = .tuple #[] ∧ St B w (OSf E_api_Message 115 (sV A1 a3 c2) r :: l) hf) := by
  have h := Holds.of h
  refine en func269 rfl ntmps269 rfl (RC.seq (sr (pn 4 rfl (ln ?_))))
  refine RC.iteP 28 rfl h (fun hc726 h => ?_) fun hc726 h => ?_
  next =>
   refine jtr (pn 2 rfl (lnsr (pn 2 rfl (ln (RC.seq (RC.block (fun a ha => lp h (fun (s : Int × Int) a w => ∃ x772 x773, s = (x772, x773) ∧ Has 220 [(0, sV A1 a3 c2), (1, iV a4), (4, .func (.func 134) #[] #[]), (10, iV x772), (11, iV x773)] a ∧ St B w (OSf E_api_Message 115 (sV A1 a3 c2) a3 :: l) hf) ⟨_, _, rfl, ha.tE rfl, hS⟩ ?_)))))))
   rintro G785 _ a w ⟨x772, x773, rfl, ha, hS⟩ h
   refine ro ha (RC.seq (sr (pn 3 rfl (ln ?_))))
   refine RC.iteP 33 rfl h (fun hc787 h => ?_) fun hc787 h => ?_
   next =>
    refine jt (sk (RC.block (sr (r0 4 rfl (RL.s (Vl.shr rfl rfl (by decide)) rfl (r0 2 rfl (ln (RC.seq (dr [0, 3, 6, 10, 13, 15, 20, 23, 26, 29, 32] [9, 10] hS fun w hS => pp 3 rfl ?_)))))))))
    obtain ⟨⟨hq788, hq789⟩, h⟩ := h.req
    refine RP.s 0 3 rfl rfl hS (fun w hS => Vl.indexOwn 0 hS rfl underlying99 sizeOf115 rfl rfl hq788 hq789) rfl (RP.s 0 4 rfl rfl hS (fun w hS => Vl.loadA isAgg115 sizeOf115 rfl rfl ((hS.slW 0 rfl).2.2.cells hq788 hq789)) rfl (rq [0, 0] hS ?_))
    refine it ?_
    obtain ⟨⟨hq790, hq791⟩, h⟩ := h.req
    refine RP.v1 7 rfl (Vl.indexOwn 0 hS rfl underlying99 sizeOf115 rfl rfl hq790 hq791) rfl rfl (RP.v1 8 rfl (Vl.loadA isAgg115 sizeOf115 rfl rfl ((hS.slW 0 rfl).2.2.cells hq790 hq791)) rfl rfl ?_)
    obtain ⟨t792, hg793, h⟩ := h.bind
    have hc := event_order.ok hg793 hS
    refine RP.e 9 rfl (OW.call (ls := [.tmp 44, .tmp 48]) rfl rfl call134 rfl hc) rfl rfl ?_
    rintro _ w ⟨rfl, hS⟩
    refine ⟨kp ⟨(by intro hx; cases hx), trivial⟩, ?_⟩
    refine rq [0] hS ?_
    refine it (RP.nil (RQ.then_n ?_))
    refine RC.iteP 50 rfl h (fun hc794 h => ?_) fun hc794 h => ?_
    next =>
     refine jt (RC.region (pn 3 rfl (RL.nil (RQ.inB_n ?_))))
     exact fun a ha => ⟨_, h.some, _, _, rfl, ha.tE rfl, hS⟩
    refine jf (RC.region (pn 2 rfl (RL.nil (RQ.inB_n ?_))))
    exact fun a ha => ⟨_, h.some, _, _, rfl, ha.tE rfl, hS⟩
   refine jf (RC.exit (RQ.exitT ?_))
   have h := h.inr
   refine RQ.exitT (RQ.inB_hit (RQ.then_n (RC.seq (sr (pn 2 rfl (ln (RC.block (fun a ha => lp h (fun (s : List api_Message × Int) a w => ∃ l813 x814, s = (l813, x814) ∧ Has 220 [(0, sV A1 l813 c2), (10, iV x772), (13, iV x814)] a ∧ St B w (OSf E_api_Message 115 (sV A1 l813 c2) l813 :: l) hf) ⟨_, _, rfl, ha.tE rfl, hS⟩ ?_))))))))
   rintro G833 _ a w ⟨l813, x814, rfl, ha, hS⟩ h
   refine ro ha (RC.seq (sr (pn 4 rfl (ln ?_))))
   refine RC.iteP 58 rfl h (fun hc835 h => ?_) fun hc835 h => ?_
   next =>
    refine jt (sk (RC.seq (RC.block (dr [0, 3, 6, 9, 12, 15, 18, 21, 25, 28, 30, 35, 38, 41, 44, 47, 50, 53] [14, 15, 16, 17] hS fun w hS => pp 8 rfl ?_))))
    obtain ⟨⟨hq843, hq844⟩, h⟩ := h.req
    refine RP.s 0 8 rfl rfl hS (fun w hS => Vl.indexOwn 0 hS rfl underlying99 sizeOf115 rfl rfl hq843 hq844) rfl (RP.s 0 9 rfl rfl hS (fun w hS => Vl.loadA isAgg115 sizeOf115 rfl rfl ((hS.slW 0 rfl).2.2.cells hq843 hq844)) rfl (rq [0, 0] hS ?_))
    refine it ?_
    obtain ⟨⟨hq845, hq846⟩, h⟩ := h.req
    refine RP.v1 12 rfl (Vl.indexOwn 0 hS rfl underlying99 sizeOf115 rfl rfl hq845 hq846) rfl rfl (RP.v1 13 rfl (Vl.loadA isAgg115 sizeOf115 rfl rfl ((hS.slW 0 rfl).2.2.cells hq845 hq846)) rfl rfl (RP.v1 14 rfl (Vl.indexOwn 0 hS rfl underlying99 sizeOf115 rfl rfl hq845 hq846) rfl rfl (RP.e0 15 rfl (OW.storeOwn (E := E_api_Message) (off := 0) (j := x814) (x' := nth l813 (IntKind.i64.wrap (x814 + 1))) (vs := (C_api_Message (nth l813 (IntKind.i64.wrap (x814 + 1))))) 0 hS rfl rfl rfl rfl sizeOf115 rfl (Nat.succ_pos _) hq845 hq846 (Nat.le_of_ble_eq_true rfl) rfl rfl) rfl ?_)))
    rintro _ w ⟨rfl, hS⟩
    have he847 := (hS.osN 0 rfl).1
    have hS : St B w (_ :: l) hf := (congrArg (fun k_ : Nat => St B w (OSf E_api_Message 115 (.slice A1 k_ c2) (setL l813 x814 (nth l813 (IntKind.i64.wrap (x814 + 1)))) :: l) hf) he847).mp hS
    refine ⟨kp ⟨(by intro hx; cases hx), trivial⟩, ?_⟩
    refine RP.re 0 rfl (congrArg (fun k_ : Nat => (.slice A1 k_ c2 : Value)) he847) (RP.re 61 rfl (congrArg (fun k_ : Nat => (.slice A1 k_ c2 : Value)) he847) (RP.re 63 rfl (congrArg (fun k_ : Nat => (.slice A1 k_ c2 : Value)) he847) (RP.re 66 rfl (congrArg (fun k_ : Nat => (.slice A1 k_ c2 : Value)) he847) (RP.re 71 rfl (congrArg (fun k_ : Nat => (.slice A1 k_ c2 : Value)) he847) ?_))))
    obtain ⟨hq848, h⟩ := h.req
    refine RP.v1 16 rfl (Vl.indexOwn 0 hS rfl underlying99 sizeOf115 rfl rfl hq843 hq848) rfl rfl (RP.e0 17 rfl (OW.storeOwn (E := E_api_Message) (off := 0) (j := IntKind.i64.wrap (x814 + 1)) (x' := nth l813 x814) (vs := (C_api_Message (nth l813 x814))) 0 hS rfl rfl rfl rfl sizeOf115 rfl (Nat.succ_pos _) hq843 hq848 (Nat.le_of_ble_eq_true rfl) rfl rfl) rfl ?_)
    rintro _ w ⟨rfl, hS⟩
    have he849 := (hS.osN 0 rfl).1
    have hS : St B w (_ :: l) hf := (congrArg (fun k_ : Nat => St B w (OSf E_api_Message 115 (.slice A1 k_ c2) (setL (setL l813 x814 (nth l813 (IntKind.i64.wrap (x814 + 1)))) (IntKind.i64.wrap (x814 + 1)) (nth l813 x814)) :: l) hf) he849).mp hS
    refine ⟨kp ⟨(by intro hx; cases hx), trivial⟩, ?_⟩
    refine RP.re 0 rfl (congrArg (fun k_ : Nat => (.slice A1 k_ c2 : Value)) he849) (RP.re 61 rfl (congrArg (fun k_ : Nat => (.slice A1 k_ c2 : Value)) he849) (RP.re 63 rfl (congrArg (fun k_ : Nat => (.slice A1 k_ c2 : Value)) he849) (RP.re 66 rfl (congrArg (fun k_ : Nat => (.slice A1 k_ c2 : Value)) he849) (RP.re 71 rfl (congrArg (fun k_ : Nat => (.slice A1 k_ c2 : Value)) he849) (RP.nil (RQ.inB_n (RQ.then_n (RC.region (pn 3 rfl (RL.nil ?_))))))))))
    exact fun a ha => ⟨_, h.some, _, _, rfl, ha.tE rfl, hS⟩
   refine jf (RC.exit (RQ.exitT ?_))
   have h := h.inr
   refine RQ.exitT (RQ.inB_hit (tr (RQ.ret ?_)))
   obtain ⟨hq850, h⟩ := h.req
   have hS : St B w (_ :: l) hf := (congrArg (fun k_ : Nat => St B w (OSf E_api_Message 115 (.slice A1 k_ c2) l813 :: l) hf) hq850).mp hS
   obtain rfl := h.some
   exact rt results269 rfl ⟨rfl, hS⟩
  refine jfs (RC.seq (sr (pn 4 rfl (ln ?_))))
  refine RC.iteP 80 rfl h (fun hc975 h => ?_) fun hc975 h => ?_
  next =>
   refine jtr (pn 2 rfl (lnsr (pn 2 rfl (ln (RC.seq (RC.block (fun a ha => lp h (fun (s : Int × Int) a w => ∃ x1021 x1022, s = (x1021, x1022) ∧ Has 220 [(0, sV A1 a3 c2), (2, iV a5), (4, .func (.func 134) #[] #[]), (14, iV x1021), (15, iV x1022)] a ∧ St B w (OSf E_api_Message 115 (sV A1 a3 c2) a3 :: l) hf) ⟨_, _, rfl, ha.tE rfl, hS⟩ ?_)))))))
   rintro G1034 _ a w ⟨x1021, x1022, rfl, ha, hS⟩ h
   refine ro ha (RC.seq (sr (pn 3 rfl (ln ?_))))
   refine RC.iteP 85 rfl h (fun hc1036 h => ?_) fun hc1036 h => ?_
   next =>
    refine jt (sk (RC.block (sr (r0 4 rfl (RL.s (Vl.shr rfl rfl (by decide)) rfl (r0 2 rfl (ln (RC.seq (dr [0, 3, 6, 10, 13, 15, 20, 23, 26, 29, 32, 35] [9, 10, 11] hS fun w hS => pp 3 rfl ?_)))))))))
    obtain ⟨⟨hq1037, hq1038⟩, h⟩ := h.req
    refine RP.s 0 3 rfl rfl hS (fun w hS => Vl.indexOwn 0 hS rfl underlying99 sizeOf115 rfl rfl hq1037 hq1038) rfl (RP.s 0 4 rfl rfl hS (fun w hS => Vl.loadA isAgg115 sizeOf115 rfl rfl ((hS.slW 0 rfl).2.2.cells hq1037 hq1038)) rfl (rq [0, 0] hS ?_))
    refine it ?_
    obtain ⟨⟨hq1039, hq1040⟩, h⟩ := h.req
    refine RP.v1 7 rfl (Vl.indexOwn 0 hS rfl underlying99 sizeOf115 rfl rfl hq1039 hq1040) rfl rfl (RP.v1 8 rfl (Vl.loadA isAgg115 sizeOf115 rfl rfl ((hS.slW 0 rfl).2.2.cells hq1039 hq1040)) rfl rfl ?_)
    obtain ⟨t1041, hg1042, h⟩ := h.bind
    have hc := event_order.ok hg1042 hS
    refine RP.e 9 rfl (OW.call (ls := [.tmp 96, .tmp 100]) rfl rfl call134 rfl hc) rfl rfl ?_
    rintro _ w ⟨rfl, hS⟩
    refine ⟨kp ⟨(by intro hx; cases hx), trivial⟩, ?_⟩
    refine rq [0, 0] hS ?_
    refine it (RP.nil (RQ.then_n ?_))
    refine RC.iteN 103 rfl h (fun hc1043 h => ?_) fun hc1043 h => ?_
    next =>
     refine jf (RC.region (pn 2 rfl (RL.nil (RQ.inB_n ?_))))
     exact fun a ha => ⟨_, h.some, _, _, rfl, ha.tE rfl, hS⟩
    refine jt (RC.region (pn 3 rfl (RL.nil (RQ.inB_n ?_))))
    exact fun a ha => ⟨_, h.some, _, _, rfl, ha.tE rfl, hS⟩
   refine jf (RC.exit (RQ.exitT ?_))
   have h := h.inr
   refine RQ.exitT (RQ.inB_hit (RQ.then_n (RC.seq (sr (pn 2 rfl (ln (RC.block (fun a ha => lp h (fun (s : List api_Message × Int) a w => ∃ l1062 x1063, s = (l1062, x1063) ∧ Has 220 [(0, sV A1 l1062 c2), (14, iV x1021), (17, iV x1063)] a ∧ St B w (OSf E_api_Message 115 (sV A1 l1062 c2) l1062 :: l) hf) ⟨_, _, rfl, ha.tE rfl, hS⟩ ?_))))))))
   rintro G1082 _ a w ⟨l1062, x1063, rfl, ha, hS⟩ h
   refine ro ha (RC.seq (sr (pn 3 rfl (ln ?_))))
   refine RC.iteP 110 rfl h (fun hc1084 h => ?_) fun hc1084 h => ?_
   next =>
    refine jt (sk (RC.seq (RC.block (dr [0, 3, 6, 9, 12, 15, 18, 21, 25, 28, 30, 35, 38, 41, 44, 47, 50, 53] [14, 15, 16, 17] hS fun w hS => pp 8 rfl ?_))))
    obtain ⟨⟨hq1092, hq1093⟩, h⟩ := h.req
    refine RP.s 0 8 rfl rfl hS (fun w hS => Vl.indexOwn 0 hS rfl underlying99 sizeOf115 rfl rfl hq1092 hq1093) rfl (RP.s 0 9 rfl rfl hS (fun w hS => Vl.loadA isAgg115 sizeOf115 rfl rfl ((hS.slW 0 rfl).2.2.cells hq1092 hq1093)) rfl (rq [0, 0] hS ?_))
    refine it ?_
    obtain ⟨⟨hq1094, hq1095⟩, h⟩ := h.req
    refine RP.v1 12 rfl (Vl.indexOwn 0 hS rfl underlying99 sizeOf115 rfl rfl hq1094 hq1095) rfl rfl (RP.v1 13 rfl (Vl.loadA isAgg115 sizeOf115 rfl rfl ((hS.slW 0 rfl).2.2.cells hq1094 hq1095)) rfl rfl (RP.v1 14 rfl (Vl.indexOwn 0 hS rfl underlying99 sizeOf115 rfl rfl hq1094 hq1095) rfl rfl (RP.e0 15 rfl (OW.storeOwn (E := E_api_Message) (off := 0) (j := x1063) (x' := nth l1062 (IntKind.i64.wrap (x1063 - 1))) (vs := (C_api_Message (nth l1062 (IntKind.i64.wrap (x1063 - 1))))) 0 hS rfl rfl rfl rfl sizeOf115 rfl (Nat.succ_pos _) hq1094 hq1095 (Nat.le_of_ble_eq_true rfl) rfl rfl) rfl ?_)))
    rintro _ w ⟨rfl, hS⟩
    have he1096 := (hS.osN 0 rfl).1
    have hS : St B w (_ :: l) hf := (congrArg (fun k_ : Nat => St B w (OSf E_api_Message 115 (.slice A1 k_ c2) (setL l1062 x1063 (nth l1062 (IntKind.i64.wrap (x1063 - 1)))) :: l) hf) he1096).mp hS
    refine ⟨kp ⟨(by intro hx; cases hx), trivial⟩, ?_⟩
    refine RP.re 0 rfl (congrArg (fun k_ : Nat => (.slice A1 k_ c2 : Value)) he1096) (RP.re 113 rfl (congrArg (fun k_ : Nat => (.slice A1 k_ c2 : Value)) he1096) (RP.re 115 rfl (congrArg (fun k_ : Nat => (.slice A1 k_ c2 : Value)) he1096) (RP.re 118 rfl (congrArg (fun k_ : Nat => (.slice A1 k_ c2 : Value)) he1096) (RP.re 123 rfl (congrArg (fun k_ : Nat => (.slice A1 k_ c2 : Value)) he1096) ?_))))
    obtain ⟨hq1097, h⟩ := h.req
    refine RP.v1 16 rfl (Vl.indexOwn 0 hS rfl underlying99 sizeOf115 rfl rfl hq1092 hq1097) rfl rfl (RP.e0 17 rfl (OW.storeOwn (E := E_api_Message) (off := 0) (j := IntKind.i64.wrap (x1063 - 1)) (x' := nth l1062 x1063) (vs := (C_api_Message (nth l1062 x1063))) 0 hS rfl rfl rfl rfl sizeOf115 rfl (Nat.succ_pos _) hq1092 hq1097 (Nat.le_of_ble_eq_true rfl) rfl rfl) rfl ?_)
    rintro _ w ⟨rfl, hS⟩
    have he1098 := (hS.osN 0 rfl).1
    have hS : St B w (_ :: l) hf := (congrArg (fun k_ : Nat => St B w (OSf E_api_Message 115 (.slice A1 k_ c2) (setL (setL l1062 x1063 (nth l1062 (IntKind.i64.wrap (x1063 - 1)))) (IntKind.i64.wrap (x1063 - 1)) (nth l1062 x1063)) :: l) hf) he1098).mp hS
    refine ⟨kp ⟨(by intro hx; cases hx), trivial⟩, ?_⟩
    refine RP.re 0 rfl (congrArg (fun k_ : Nat => (.slice A1 k_ c2 : Value)) he1098) (RP.re 113 rfl (congrArg (fun k_ : Nat => (.slice A1 k_ c2 : Value)) he1098) (RP.re 115 rfl (congrArg (fun k_ : Nat => (.slice A1 k_ c2 : Value)) he1098) (RP.re 118 rfl (congrArg (fun k_ : Nat => (.slice A1 k_ c2 : Value)) he1098) (RP.re 123 rfl (congrArg (fun k_ : Nat => (.slice A1 k_ c2 : Value)) he1098) (RP.nil (RQ.inB_n (RQ.then_n (RC.region (pn 3 rfl (RL.nil ?_))))))))))
    exact fun a ha => ⟨_, h.some, _, _, rfl, ha.tE rfl, hS⟩
   refine jf (RC.exit (RQ.exitT ?_))
   have h := h.inr
   refine RQ.exitT (RQ.inB_hit (tr (RQ.ret ?_)))
   obtain ⟨hq1099, h⟩ := h.req
   have hS : St B w (_ :: l) hf := (congrArg (fun k_ : Nat => St B w (OSf E_api_Message 115 (.slice A1 k_ c2) l1062 :: l) hf) hq1099).mp hS
   obtain rfl := h.some
   exact rt results269 rfl ⟨rfl, hS⟩
  refine jfs (sr (r0 4 rfl (RL.s (Vl.shr rfl rfl (by decide)) rfl (r0 2 rfl (lnsr (pn 4 rfl (ln (RC.seq ?_))))))))
  refine RC.region (pn 2 rfl (ln ?_))
  refine RC.join (fun (s : Int × Int) a w => ∃ x1101 x1102, s = (x1101, x1102) ∧ Holds (· = r) (slices_symMergeCmpFunc_api_Message.j30 rec_ a3 a4 a5 a6 x1101 x1102) ∧ Has 220 [(0, sV A1 a3 c2), (1, iV a4), (2, iV a5), (3, iV a6), (4, .func (.func 134) #[] #[]), (18, iV (IntKind.i64.wrap (Int.fdiv (IntKind.u64.wrap (IntKind.i64.wrap (a4 + a6))) (2 ^ (min (1 : Int).toNat IntKind.u64.bits))))), (19, iV (IntKind.i64.wrap ((IntKind.i64.wrap (Int.fdiv (IntKind.u64.wrap (IntKind.i64.wrap (a4 + a6))) (2 ^ (min (1 : Int).toNat IntKind.u64.bits)))) + a5))), (20, iV x1101), (21, iV x1102)] a ∧ St B w (OSf E_api_Message 115 (sV A1 a3 c2) a3 :: l) hf) ?_ ?_
  · rintro _ a w ⟨x1101, x1102, rfl, h, ha, hS⟩
    refine ro ha (sr (pn 3 rfl (ln (RC.seq (RC.block (fun a ha => lp h (fun (s : Int × Int) a w => ∃ x1148 x1149, s = (x1148, x1149) ∧ Has 220 [(0, sV A1 a3 c2), (1, iV a4), (2, iV a5), (3, iV a6), (4, .func (.func 134) #[] #[]), (18, iV (IntKind.i64.wrap (Int.fdiv (IntKind.u64.wrap (IntKind.i64.wrap (a4 + a6))) (2 ^ (min (1 : Int).toNat IntKind.u64.bits))))), (19, iV (IntKind.i64.wrap ((IntKind.i64.wrap (Int.fdiv (IntKind.u64.wrap (IntKind.i64.wrap (a4 + a6))) (2 ^ (min (1 : Int).toNat IntKind.u64.bits)))) + a5))), (20, iV x1148), (21, iV x1149), (22, iV (IntKind.i64.wrap ((IntKind.i64.wrap ((IntKind.i64.wrap (Int.fdiv (IntKind.u64.wrap (IntKind.i64.wrap (a4 + a6))) (2 ^ (min (1 : Int).toNat IntKind.u64.bits)))) + a5)) - 1)))] a ∧ St B w (OSf E_api_Message 115 (sV A1 a3 c2) a3 :: l) hf) ⟨_, _, rfl, ha.tE rfl, hS⟩ ?_))))))
    rintro G1161 _ a w ⟨x1148, x1149, rfl, ha, hS⟩ h
    refine ro ha (RC.seq (sr (pn 3 rfl (ln ?_))))
    refine RC.iteP 151 rfl h (fun hc1163 h => ?_) fun hc1163 h => ?_
    next =>
     refine jt (sk (RC.block (sr (r0 4 rfl (RL.s (Vl.shr rfl rfl (by decide)) rfl (r0 2 rfl (ln (RC.seq (dr [0, 3, 6, 9, 12, 16, 19, 21, 26, 29, 32, 35, 38, 41] [11, 12, 13] hS fun w hS => pp 5 rfl ?_)))))))))
     obtain ⟨⟨hq1164, hq1165⟩, h⟩ := h.req
     refine RP.s 0 5 rfl rfl hS (fun w hS => Vl.indexOwn 0 hS rfl underlying99 sizeOf115 rfl rfl hq1164 hq1165) rfl (RP.s 0 6 rfl rfl hS (fun w hS => Vl.loadA isAgg115 sizeOf115 rfl rfl ((hS.slW 0 rfl).2.2.cells hq1164 hq1165)) rfl (rq [0, 0] hS ?_))
     refine it ?_
     obtain ⟨⟨hq1166, hq1167⟩, h⟩ := h.req
     refine RP.v1 9 rfl (Vl.indexOwn 0 hS rfl underlying99 sizeOf115 rfl rfl hq1166 hq1167) rfl rfl (RP.v1 10 rfl (Vl.loadA isAgg115 sizeOf115 rfl rfl ((hS.slW 0 rfl).2.2.cells hq1166 hq1167)) rfl rfl ?_)
     obtain ⟨t1168, hg1169, h⟩ := h.bind
     have hc := event_order.ok hg1169 hS
     refine RP.e 11 rfl (OW.call (ls := [.tmp 164, .tmp 168]) rfl rfl call134 rfl hc) rfl rfl ?_
     rintro _ w ⟨rfl, hS⟩
     refine ⟨kp ⟨(by intro hx; cases hx), trivial⟩, ?_⟩
     refine rq [0, 0] hS ?_
     refine it (RP.nil (RQ.then_n ?_))
     refine RC.iteN 171 rfl h (fun hc1170 h => ?_) fun hc1170 h => ?_
     next =>
      refine jf (RC.region (pn 2 rfl (RL.nil (RQ.inB_n ?_))))
      exact fun a ha => ⟨_, h.some, _, _, rfl, ha.tE rfl, hS⟩
     refine jt (RC.region (pn 3 rfl (RL.nil (RQ.inB_n ?_))))
     exact fun a ha => ⟨_, h.some, _, _, rfl, ha.tE rfl, hS⟩
    refine jf (RC.exit (RQ.exitT ?_))
    have h := h.inr
    refine RQ.exitT (RQ.inB_hit (tsr (pn 4 rfl (ln ?_))))
    refine RC.join (fun (s : List api_Message) a w => ∃ l1176, s = (l1176) ∧ Holds (· = r) (slices_symMergeCmpFunc_api_Message.j33 rec_ a3 a4 a5 a6 x1148 l1176) ∧ Has 220 [(0, sV A1 l1176 c2), (1, iV a4), (3, iV a6), (4, .func (.func 134) #[] #[]), (18, iV (IntKind.i64.wrap (Int.fdiv (IntKind.u64.wrap (IntKind.i64.wrap (a4 + a6))) (2 ^ (min (1 : Int).toNat IntKind.u64.bits))))), (20, iV x1148), (24, iV (IntKind.i64.wrap ((IntKind.i64.wrap ((IntKind.i64.wrap (Int.fdiv (IntKind.u64.wrap (IntKind.i64.wrap (a4 + a6))) (2 ^ (min (1 : Int).toNat IntKind.u64.bits)))) + a5)) - x1148)))] a ∧ St B w (OSf E_api_Message 115 (sV A1 l1176 c2) l1176 :: l) hf) ?_ ?_
    · rintro l1176 a w ⟨_, rfl, h, ha, hS⟩
      refine ro ha ?_
      refine RC.join (fun (s : List api_Message) a w => ∃ l1182, s = (l1182) ∧ Holds (· = r) (slices_symMergeCmpFunc_api_Message.j34 rec_ a3 a4 a5 a6 x1148 l1182) ∧ Has 220 [(0, sV A1 l1182 c2), (3, iV a6), (4, .func (.func 134) #[] #[]), (18, iV (IntKind.i64.wrap (Int.fdiv (IntKind.u64.wrap (IntKind.i64.wrap (a4 + a6))) (2 ^ (min (1 : Int).toNat IntKind.u64.bits))))), (24, iV (IntKind.i64.wrap ((IntKind.i64.wrap ((IntKind.i64.wrap (Int.fdiv (IntKind.u64.wrap (IntKind.i64.wrap (a4 + a6))) (2 ^ (min (1 : Int).toNat IntKind.u64.bits)))) + a5)) - x1148)))] a ∧ St B w (OSf E_api_Message 115 (sV A1 l1182 c2) l1182 :: l) hf) ?_ ?_
      · rintro l1182 a w ⟨_, rfl, h, ha, hS⟩
        refine ro ha (sr (pn 4 rfl ?_))
        refine RL.iteP 209 rfl h (fun hc1183 h => ?_) fun hc1183 h => ?_
        next =>
         refine pn 4 rfl (ln ?_)
         refine RC.iteP 213 rfl h (fun hc1184 h => ?_) fun hc1184 h => ?_
         next =>
          refine jt (RC.region (pn 5 rfl ?_))
          obtain ⟨t1185, hg1186, h⟩ := h.bind
          have hc := ih_ hg1186 hS
          refine RL.e (OW.callF (ls := [.tmp 214, .tmp 215, .tmp 216, .tmp 217, .tmp 218]) rfl call269 hc) rfl rfl ?_
          rintro _ w ⟨rfl, hS⟩
          have he1187 := (hS.osN 0 rfl).1
          have hS : St B w (_ :: l) hf := (congrArg (fun k_ : Nat => St B w (OSf E_api_Message 115 (.slice A1 k_ c2) t1185 :: l) hf) he1187).mp hS
          refine RL.re 0 rfl (congrArg (fun k_ : Nat => (.slice A1 k_ c2 : Value)) he1187) (RL.re 214 rfl (congrArg (fun k_ : Nat => (.slice A1 k_ c2 : Value)) he1187) (RL.nil ?_))
          obtain ⟨hq1188, h⟩ := h.req
          have hS : St B w (_ :: l) hf := (congrArg (fun k_ : Nat => St B w (OSf E_api_Message 115 (.slice A1 k_ c2) t1185 :: l) hf) hq1188).mp hS
          obtain rfl := h.some
          exact rtE results269 rfl ⟨rfl, hS⟩
         refine jf (RC.skip ?_)
         obtain ⟨hq1189, h⟩ := h.req
         have hS : St B w (_ :: l) hf := (congrArg (fun k_ : Nat => St B w (OSf E_api_Message 115 (.slice A1 k_ c2) l1182 :: l) hf) hq1189).mp hS
         obtain rfl := h.some
         exact rtE results269 rfl ⟨rfl, hS⟩
        refine pn 4 rfl (ln (jf (RC.skip ?_)))
        obtain ⟨hq1190, h⟩ := h.req
        have hS : St B w (_ :: l) hf := (congrArg (fun k_ : Nat => St B w (OSf E_api_Message 115 (.slice A1 k_ c2) l1182 :: l) hf) hq1190).mp hS
        obtain rfl := h.some
        exact rtE results269 rfl ⟨rfl, hS⟩
      refine sr (pn 4 rfl ?_)
      refine RL.iteP 195 rfl h (fun hc1191 h => ?_) fun hc1191 h => ?_
      next =>
       refine pn 4 rfl (ln ?_)
       refine RC.iteP 199 rfl h (fun hc1192 h => ?_) fun hc1192 h => ?_
       next =>
        refine jt (RC.region (pn 5 rfl ?_))
        obtain ⟨t1193, hg1194, h⟩ := h.bind
        have hc := ih_ hg1194 hS
        refine RL.e (OW.callF (ls := [.tmp 200, .tmp 201, .tmp 202, .tmp 203, .tmp 204]) rfl call269 hc) rfl rfl ?_
        rintro _ w ⟨rfl, hS⟩
        have he1195 := (hS.osN 0 rfl).1
        have hS : St B w (_ :: l) hf := (congrArg (fun k_ : Nat => St B w (OSf E_api_Message 115 (.slice A1 k_ c2) t1193 :: l) hf) he1195).mp hS
        refine RL.re 0 rfl (congrArg (fun k_ : Nat => (.slice A1 k_ c2 : Value)) he1195) (RL.re 200 rfl (congrArg (fun k_ : Nat => (.slice A1 k_ c2 : Value)) he1195) (RL.nil ?_))
        exact fun a ha => ⟨_, _, rfl, h, ha.tE rfl, hS⟩
       refine jf (RC.skip ?_)
       exact fun a ha => ⟨_, _, rfl, h, ha.tE rfl, hS⟩
      refine pn 4 rfl (ln (jf (RC.skip ?_)))
      exact fun a ha => ⟨_, _, rfl, h, ha.tE rfl, hS⟩
    refine sr (pn 4 rfl ?_)
    refine RL.iteP 181 rfl h (fun hc1196 h => ?_) fun hc1196 h => ?_
    next =>
     refine pn 4 rfl (ln ?_)
     refine RC.iteP 185 rfl h (fun hc1197 h => ?_) fun hc1197 h => ?_
     next =>
      refine jt (RC.region (pn 5 rfl ?_))
      obtain ⟨t1198, hg1199, h⟩ := h.bind
      have hc := slices_rotateCmpFunc_api_Message.ok hg1199 hS
      refine RL.e (OW.callF (ls := [.tmp 186, .tmp 187, .tmp 188, .tmp 189, .tmp 190]) rfl call270 hc) rfl rfl ?_
      rintro _ w ⟨rfl, hS⟩
      have he1200 := (hS.osN 0 rfl).1
      have hS : St B w (_ :: l) hf := (congrArg (fun k_ : Nat => St B w (OSf E_api_Message 115 (.slice A1 k_ c2) t1198 :: l) hf) he1200).mp hS
      refine RL.re 0 rfl (congrArg (fun k_ : Nat => (.slice A1 k_ c2 : Value)) he1200) (RL.re 186 rfl (congrArg (fun k_ : Nat => (.slice A1 k_ c2 : Value)) he1200) (RL.nil ?_))
      exact fun a ha => ⟨_, _, rfl, h, ha.tE rfl, hS⟩
     refine jf (RC.skip ?_)
     exact fun a ha => ⟨_, _, rfl, h, ha.tE rfl, hS⟩
    refine pn 4 rfl (ln (jf (RC.skip ?_)))
    exact fun a ha => ⟨_, _, rfl, h, ha.tE rfl, hS⟩
  refine sr (pn 3 rfl (ln ?_))
  refine RC.iteP 140 rfl h (fun hc1201 h => ?_) fun hc1201 h => ?_
  next =>
   refine jtr (pn 4 rfl (ln (RC.region (pn 2 rfl (RL.nil ?_)))))
   exact fun a ha => ⟨_, _, _, rfl, h, ha.tE rfl, hS⟩
  refine jf (sr (pn 2 rfl (ln (RC.region (pn 2 rfl (RL.nil ?_))))))
  exact fun a ha => ⟨_, _, _, rfl, h, ha.tE rfl, hS⟩
def slices_symMergeCmpFunc_api_Message.F : Nat → (List api_Message) → Int → Int → Int → Option (List api_Message)
  | 0, _, _, _, _ => none
  | n + 1, a3, a4, a5, a6 => slices_symMergeCmpFunc_api_Message.f0 (slices_symMergeCmpFunc_api_Message.F n) a3 a4 a5 a6
theorem slices_symMergeCmpFunc_api_Message.okF : ∀ (n : Nat) {a3 : List api_Message} {a4 a5 a6 : Int} {A1 : Option Addr} {c2 : Nat} {r : List api_Message} {B : Base} {w : World} {l : List HProp} {hf : Hp}, slices_symMergeCmpFunc_api_Message.F n a3 a4 a5 a6 = some r → St B w (OSf E_api_Message 115 (sV A1 a3 c2) a3 :: l) hf → Calls prog 269 #[sV A1 a3 c2, iV a4, iV a5, iV a6, .func (.func 134) #[] #[]] w (Ret fun v w => v = .tuple #[] ∧ St B w (OSf E_api_Message 115 (sV A1 a3 c2) r :: l) hf) := by
  intro n
  induction n with
  | zero => intro _ _ _ _ _ _ _ _ _ _ _ h; cases h
  | succ n ih => intro _ _ _ _ _ _ _ _ _ _ _ h hS; exact slices_symMergeCmpFunc_api_Message.ok0 ih h hS
def slices_symMergeCmpFunc_api_Message.f (a3 : List api_Message) (a4 a5 a6 : Int) : Option (List api_Message) := slices_symMergeCmpFunc_api_Message.F (a3.length + 1) a3 a4 a5 a6
theorem slices_symMergeCmpFunc_api_Message.ok {a3 r : List api_Message} {a4 a5 a6 : Int} {A1 : Option Addr} {c2 : Nat} (h : slices_symMergeCmpFunc_api_Message.f a3 a4 a5 a6 = some r) (hS : St B w (OSf E_api_Message 115 (sV A1 a3 c2) a3 :: l) hf) :
    Calls prog 269 #[sV A1 a3 c2, iV a4, iV a5, iV a6, .func (.func 134) #[] #[]] w (Ret fun v w => v = .tuple #[] ∧ St B w (OSf E_api_Message 115 (sV A1 a3 c2) r :: l) hf) := slices_symMergeCmpFunc_api_Message.okF _ h hS
end
end Go.Proofs.Gx
