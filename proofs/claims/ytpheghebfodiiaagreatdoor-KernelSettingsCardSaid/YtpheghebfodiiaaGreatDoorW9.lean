/-
  The walks of functions, each with what it computes: printed by wip/gx.py.
-/
import Derived.Test.YtpheghebfodiiaaGreatDoorW0
import Derived.Test.YtpheghebfodiiaaGreatDoorW2
import Derived.Test.YtpheghebfodiiaaGreatDoorW3
import Derived.Test.YtpheghebfodiiaaGreatDoorW4
import Derived.Test.YtpheghebfodiiaaGreatDoorW5
import Derived.Test.YtpheghebfodiiaaGreatDoorW6
import Derived.Test.YtpheghebfodiiaaGreatDoorW7
import Derived.Test.YtpheghebfodiiaaGreatDoorW8
set_option linter.unusedVariables false
set_option linter.unusedSimpArgs false
set_option maxRecDepth 100000
set_option maxHeartbeats 4000000
namespace Go.Proofs.Gx
open Go.Sl Tryz
variable {B : Base} {w : World} {l : List HProp} {hf : Hp}
noncomputable section
def slices_stableCmpFunc_api_Message.j24 (x365 : Int) (l486 : List api_Message) : Option ((List api_Message × Int) ⊕ (List api_Message)) := some (.inl (l486, IntKind.i64.wrap (x365 * 2)))
def slices_stableCmpFunc_api_Message.l23b (a4 x365 : Int) : List api_Message × Int × Int → Option ((List api_Message × Int × Int) ⊕ ((List api_Message × Int) ⊕ (List api_Message)))
  | (l465, x466, x467) => (if x467 ≤ a4 then ((slices_symMergeCmpFunc_api_Message.f l465 x466 (IntKind.i64.wrap (x466 + x365)) x467).bind fun t479 => some (.inl (t479, x467, IntKind.i64.wrap (x467 + (IntKind.i64.wrap (2 * x365)))))) else (Option.map Sum.inr (if IntKind.i64.wrap (x466 + x365) < a4 then ((slices_symMergeCmpFunc_api_Message.f l465 x466 (IntKind.i64.wrap (x466 + x365)) a4).bind fun t488 => slices_stableCmpFunc_api_Message.j24 x365 t488) else slices_stableCmpFunc_api_Message.j24 x365 l465)))
def slices_stableCmpFunc_api_Message.l23 (a4 x365 : Int) (s : List api_Message × Int × Int) : Option ((List api_Message × Int) ⊕ (List api_Message)) := loopR (slices_stableCmpFunc_api_Message.l23b a4 x365) s
def slices_stableCmpFunc_api_Message.l21b (a3 : List api_Message) (a4 : Int) : List api_Message × Int → Option ((List api_Message × Int) ⊕ (List api_Message))
  | (l364, x365) => (if x365 < a4 then slices_stableCmpFunc_api_Message.l23 a4 x365 (l364, 0, IntKind.i64.wrap (2 * x365)) else (Option.map Sum.inr (if l364.length = a3.length then some l364 else none)))
def slices_stableCmpFunc_api_Message.l21 (a3 : List api_Message) (a4 : Int) (s : List api_Message × Int) : Option (List api_Message) := loopR (slices_stableCmpFunc_api_Message.l21b a3 a4) s
def slices_stableCmpFunc_api_Message.l14b (a3 : List api_Message) (a4 : Int) : List api_Message × Int × Int → Option ((List api_Message × Int × Int) ⊕ (List api_Message))
  | (l281, x282, x283) => (if x283 ≤ a4 then ((slices_insertionSortCmpFunc_api_Message.f l281 x282 x283).bind fun t295 => some (.inl (t295, x283, IntKind.i64.wrap (x283 + 20)))) else (Option.map Sum.inr ((slices_insertionSortCmpFunc_api_Message.f l281 x282 a4).bind fun t298 => slices_stableCmpFunc_api_Message.l21 a3 a4 (t298, 20))))
def slices_stableCmpFunc_api_Message.l14 (a3 : List api_Message) (a4 : Int) (s : List api_Message × Int × Int) : Option (List api_Message) := loopR (slices_stableCmpFunc_api_Message.l14b a3 a4) s
def slices_stableCmpFunc_api_Message.f (a3 : List api_Message) (a4 : Int) : Option (List api_Message) := slices_stableCmpFunc_api_Message.l14 a3 a4 (a3, 0, 20)
theorem slices_stableCmpFunc_api_Message.ok {a3 r : List api_Message} {a4 : Int} {A1 : Option Addr} {c2 : Nat} (h : slices_stableCmpFunc_api_Message.f a3 a4 = some r) (hS : St B w (OSf E_api_Message 115 (sV A1 a3 c2) a3 :: l) hf) :
    Calls prog 267 #[sV A1 a3 c2, iV a4, .func (.func 134) #[] #[]] w (Ret fun v w => v = .tuple #[] ∧ St B w (OSf E_api_Message 115 (sV A1 a3 c2) r :: l) hf) := by
  have h := Holds.of h
  refine en func267 rfl ntmps267 rfl (sr (pn 1 rfl (lnsr (pn 3 rfl (ln (RC.seq (RC.block (fun a ha => lp h (fun (s : List api_Message × Int × Int) a w => ∃ l281 x282 x283, s = (l281, x282, x283) ∧ Has 63 [(0, sV A1 l281 c2), (1, iV a4), (2, .func (.func 134) #[] #[]), (6, iV 20), (7, iV x282), (8, iV x283)] a ∧ St B w (OSf E_api_Message 115 (sV A1 l281 c2) l281 :: l) hf) ⟨_, _, _, rfl, ha.tE rfl, hS⟩ ?_))))))))
  rintro G292 _ a w ⟨l281, x282, x283, rfl, ha, hS⟩ h
  refine ro ha (RC.seq (sr (pn 3 rfl (ln ?_))))
  refine RC.iteP 13 rfl h (fun hc294 h => ?_) fun hc294 h => ?_
  next =>
   refine jt (sk (RC.block (sr (pn 4 rfl ?_))))
   obtain ⟨t295, hg296, h⟩ := h.bind
   have hc := slices_insertionSortCmpFunc_api_Message.ok hg296 hS
   refine RL.e (OW.callF (ls := [.tmp 14, .tmp 15, .tmp 16, .tmp 17]) rfl call268 hc) rfl rfl ?_
   rintro _ w ⟨rfl, hS⟩
   have he297 := (hS.osN 0 rfl).1
   have hS : St B w (_ :: l) hf := (congrArg (fun k_ : Nat => St B w (OSf E_api_Message 115 (.slice A1 k_ c2) t295 :: l) hf) he297).mp hS
   refine RL.re 0 rfl (congrArg (fun k_ : Nat => (.slice A1 k_ c2 : Value)) he297) (RL.re 14 rfl (congrArg (fun k_ : Nat => (.slice A1 k_ c2 : Value)) he297) (lnsr (pn 2 rfl (ln (RC.region (pn 4 rfl (RL.nil (RQ.inB_n ?_))))))))
   exact fun a ha => ⟨_, h.some, _, _, _, rfl, ha.tE rfl, hS⟩
  refine jf (RC.exit (RQ.exitT ?_))
  have h := h.inr
  refine RQ.exitT (RQ.inB_hit (tsr (pn 4 rfl ?_)))
  obtain ⟨t298, hg299, h⟩ := h.bind
  have hc := slices_insertionSortCmpFunc_api_Message.ok hg299 hS
  refine RL.e (OW.callF (ls := [.tmp 23, .tmp 24, .tmp 25, .tmp 26]) rfl call268 hc) rfl rfl ?_
  rintro _ w ⟨rfl, hS⟩
  have he300 := (hS.osN 0 rfl).1
  have hS : St B w (_ :: l) hf := (congrArg (fun k_ : Nat => St B w (OSf E_api_Message 115 (.slice A1 k_ c2) t298 :: l) hf) he300).mp hS
  refine RL.re 0 rfl (congrArg (fun k_ : Nat => (.slice A1 k_ c2 : Value)) he300) (RL.re 23 rfl (congrArg (fun k_ : Nat => (.slice A1 k_ c2 : Value)) he300) (ln (RC.block (fun a ha => lp h (fun (s : List api_Message × Int) a w => ∃ l364 x365, s = (l364, x365) ∧ Has 63 [(0, sV A1 l364 c2), (1, iV a4), (2, .func (.func 134) #[] #[]), (6, iV x365)] a ∧ St B w (OSf E_api_Message 115 (sV A1 l364 c2) l364 :: l) hf) ⟨_, _, rfl, ha.tE rfl, hS⟩ ?_))))
  rintro G429 _ a w ⟨l364, x365, rfl, ha, hS⟩ h
  refine ro ha (RC.seq (sr (pn 3 rfl (ln ?_))))
  refine RC.iteP 30 rfl h (fun hc431 h => ?_) fun hc431 h => ?_
  next =>
   refine jt (sk (RC.block (sr (pn 4 rfl (ln (RC.seq (RC.block (fun a ha => lp h (fun (s : List api_Message × Int × Int) a w => ∃ l465 x466 x467, s = (l465, x466, x467) ∧ Has 63 [(0, sV A1 l465 c2), (1, iV a4), (2, .func (.func 134) #[] #[]), (6, iV x365), (7, iV x466), (8, iV x467)] a ∧ St B w (OSf E_api_Message 115 (sV A1 l465 c2) l465 :: l) hf) ⟨_, _, _, rfl, ha.tE rfl, hS⟩ ?_))))))))
   rintro G476 _ a w ⟨l465, x466, x467, rfl, ha, hS⟩ h
   refine ro ha (RC.seq (sr (pn 3 rfl (ln ?_))))
   refine RC.iteP 35 rfl h (fun hc478 h => ?_) fun hc478 h => ?_
   next =>
    refine jt (sk (RC.block (sr (pn 7 rfl ?_))))
    obtain ⟨t479, hg480, h⟩ := h.bind
    have hc := slices_symMergeCmpFunc_api_Message.ok hg480 hS
    refine RL.e (OW.callF (ls := [.tmp 36, .tmp 37, .tmp 40, .tmp 41, .tmp 42]) rfl call269 hc) rfl rfl ?_
    rintro _ w ⟨rfl, hS⟩
    have he481 := (hS.osN 0 rfl).1
    have hS : St B w (_ :: l) hf := (congrArg (fun k_ : Nat => St B w (OSf E_api_Message 115 (.slice A1 k_ c2) t479 :: l) hf) he481).mp hS
    refine RL.re 0 rfl (congrArg (fun k_ : Nat => (.slice A1 k_ c2 : Value)) he481) (RL.re 36 rfl (congrArg (fun k_ : Nat => (.slice A1 k_ c2 : Value)) he481) (lnsr (pn 2 rfl (ln (RC.region (pn 5 rfl (RL.nil (RQ.inB_n ?_))))))))
    exact fun a ha => ⟨_, h.some, _, _, _, rfl, ha.tE rfl, hS⟩
   refine jf (RC.exit (RQ.exitT ?_))
   have h := h.inr
   refine RQ.exitT (RQ.inB_hit (RQ.then_n ?_))
   refine RC.join (fun (s : List api_Message) a w => ∃ l486, s = (l486) ∧ Holds (Sum.elim G429 (· = r)) (slices_stableCmpFunc_api_Message.j24 x365 l486) ∧ Has 63 [(0, sV A1 l486 c2), (1, iV a4), (2, .func (.func 134) #[] #[]), (6, iV x365)] a ∧ St B w (OSf E_api_Message 115 (sV A1 l486 c2) l486 :: l) hf) ?_ ?_
   · rintro l486 a w ⟨_, rfl, h, ha, hS⟩
     refine ro ha (RC.region (pn 3 rfl (RL.nil (RQ.inB_n ?_))))
     exact fun a ha => ⟨_, h.some, _, _, rfl, ha.tE rfl, hS⟩
   refine sr (pn 4 rfl (lnsr (pn 3 rfl (ln ?_))))
   refine RC.iteP 54 rfl h (fun hc487 h => ?_) fun hc487 h => ?_
   next =>
    refine jt (RC.region (pn 5 rfl ?_))
    obtain ⟨t488, hg489, h⟩ := h.bind
    have hc := slices_symMergeCmpFunc_api_Message.ok hg489 hS
    refine RL.e (OW.callF (ls := [.tmp 55, .tmp 56, .tmp 57, .tmp 58, .tmp 59]) rfl call269 hc) rfl rfl ?_
    rintro _ w ⟨rfl, hS⟩
    have he490 := (hS.osN 0 rfl).1
    have hS : St B w (_ :: l) hf := (congrArg (fun k_ : Nat => St B w (OSf E_api_Message 115 (.slice A1 k_ c2) t488 :: l) hf) he490).mp hS
    refine RL.re 0 rfl (congrArg (fun k_ : Nat => (.slice A1 k_ c2 : Value)) he490) (RL.re 55 rfl (congrArg (fun k_ : Nat => (.slice A1 k_ c2 : Value)) he490) (RL.nil ?_))
    exact fun a ha => ⟨_, _, rfl, h, ha.tE rfl, hS⟩
   refine jf (RC.skip ?_)
   exact fun a ha => ⟨_, _, rfl, h, ha.tE rfl, hS⟩
  refine jf (RC.exit (RQ.exitT ?_))
  have h := h.inr
  refine RQ.exitT (RQ.inB_hit ?_)
  obtain ⟨hq491, h⟩ := h.req
  have hS : St B w (_ :: l) hf := (congrArg (fun k_ : Nat => St B w (OSf E_api_Message 115 (.slice A1 k_ c2) l364 :: l) hf) hq491).mp hS
  obtain rfl := h.some
  exact rtE results267 rfl ⟨rfl, hS⟩
def slices_SortStableFunc_api_Message_api_Message.f (a3 : List api_Message) : Option (List api_Message) := ((slices_stableCmpFunc_api_Message.f a3 (a3.length : Int)).bind fun t7 => (if t7.length = a3.length then some t7 else none))
theorem slices_SortStableFunc_api_Message_api_Message.ok {a3 r : List api_Message} {A1 : Option Addr} {c2 : Nat} (h : slices_SortStableFunc_api_Message_api_Message.f a3 = some r) (hS : St B w (OSf E_api_Message 115 (sV A1 a3 c2) a3 :: l) hf) :
    Calls prog 265 #[sV A1 a3 c2, .func (.func 134) #[] #[]] w (Ret fun v w => v = .tuple #[] ∧ St B w (OSf E_api_Message 115 (sV A1 a3 c2) r :: l) hf) := by
  have h := Holds.of h
  refine en func265 rfl ntmps265 rfl (RC.region (r0 4 rfl ?_))
  obtain ⟨t7, hg8, h⟩ := h.bind
  have hc := slices_stableCmpFunc_api_Message.ok hg8 hS
  refine RL.e (OW.callF (ls := [.tmp 4, .tmp 6, .tmp 7]) rfl call267 hc) rfl rfl ?_
  rintro _ w ⟨rfl, hS⟩
  have he9 := (hS.osN 0 rfl).1
  have hS : St B w (_ :: l) hf := (congrArg (fun k_ : Nat => St B w (OSf E_api_Message 115 (.slice A1 k_ c2) t7 :: l) hf) he9).mp hS
  refine RL.re 0 rfl (congrArg (fun k_ : Nat => (.slice A1 k_ c2 : Value)) he9) (RL.re 4 rfl (congrArg (fun k_ : Nat => (.slice A1 k_ c2 : Value)) he9) (RL.re 5 rfl (congrArg (fun k_ : Nat => (.slice A1 k_ c2 : Value)) he9) (RL.nil ?_)))
  obtain ⟨hq10, h⟩ := h.req
  have hS : St B w (_ :: l) hf := (congrArg (fun k_ : Nat => St B w (OSf E_api_Message 115 (.slice A1 k_ c2) t7 :: l) hf) hq10).mp hS
  obtain rfl := h.some
  exact rtE results265 rfl ⟨rfl, hS⟩
def event_sorted_api_Message.f (a1 : List api_Message) : Option (List api_Message) := ((slices_Clone_api_Message_api_Message.f a1).bind fun t16 => ((slices_SortStableFunc_api_Message_api_Message.f t16).bind fun t20 => some t20))
theorem event_sorted_api_Message.ok {a1 : List api_Message} {A2 : Option Addr} {c3 : Nat} (hr4 : SlR E_api_Message.rep hf A2 c3 a1) {r : List api_Message} (h : event_sorted_api_Message.f a1 = some r) (hS : St B w (l) hf) :
    Calls prog 260 #[sV A2 a1 c3, .func (.func 134) #[] #[]] w (Ret fun v w => ∃ (A_1 : Option Addr) (c_2 : Nat), v = sV A_1 r c_2 ∧ St B w (OSf E_api_Message 115 (sV A_1 r c_2) r :: l) hf) := by
  have h := Holds.of h
  refine en func260 rfl ntmps260 rfl (sr (pn 1 rfl (lnsr (pn 1 rfl (cF (fun _ hg => slices_Clone_api_Message_api_Message.ok hr4 hg hS) call264 h rfl rfl rfl ?_)))))
  rintro t16 h _ w ⟨A18, c19, rfl, hS⟩
  refine pn 1 rfl (lnsr (pn 2 rfl ?_))
  obtain ⟨t20, hg21, h⟩ := h.bind
  have hc := slices_SortStableFunc_api_Message_api_Message.ok hg21 hS
  refine RL.e (OW.callF (ls := [.tmp 8, .tmp 9]) rfl call265 hc) rfl rfl ?_
  rintro _ w ⟨rfl, hS⟩
  have he22 := (hS.osN 0 rfl).1
  have hS : St B w (_ :: l) hf := (congrArg (fun k_ : Nat => St B w (OSf E_api_Message 115 (.slice A18 k_ c19) t20 :: l) hf) he22).mp hS
  refine RL.re 7 rfl (congrArg (fun k_ : Nat => (.slice A18 k_ c19 : Value)) he22) (RL.re 5 rfl (congrArg (fun k_ : Nat => (.slice A18 k_ c19 : Value)) he22) (RL.re 8 rfl (congrArg (fun k_ : Nat => (.slice A18 k_ c19 : Value)) he22) (lnsr (pn 2 rfl (lr ?_)))))
  obtain rfl := h.some
  exact rt results260 rfl ⟨A18, c19, rfl, hS⟩
def event_Sorted.f (a1 : List api_Message) : Option (List api_Message) := ((event_sorted_api_Message.f a1).bind fun t9 => some t9)
theorem event_Sorted.ok {a1 : List api_Message} {A2 : Option Addr} {c3 : Nat} (hr4 : SlR E_api_Message.rep hf A2 c3 a1) {r : List api_Message} (h : event_Sorted.f a1 = some r) (hS : St B w (l) hf) :
    Calls prog 256 #[sV A2 a1 c3] w (Ret fun v w => ∃ (A_1 : Option Addr) (c_2 : Nat), v = sV A_1 r c_2 ∧ St B w (OSf E_api_Message 115 (sV A_1 r c_2) r :: l) hf) := by
  have h := Holds.of h
  refine en func256 rfl ntmps256 rfl (sr (pn 1 rfl (lnsr (pn 1 rfl (cF (fun _ hg => event_sorted_api_Message.ok hr4 hg hS) call260 h rfl rfl rfl ?_)))))
  rintro t9 h _ w ⟨A11, c12, rfl, hS⟩
  refine pn 1 rfl (lr ?_)
  obtain rfl := h.some
  exact rt results256 rfl ⟨A11, c12, rfl, hS⟩
def heap_Heap_All.f (a2 : heap_Heap) : Option (List api_Message) := ((heap_Heap_none.f a2).bind fun _ => ((event_Sorted.f a2.p_l).bind fun t27 => some t27))
theorem heap_Heap_All.ok {a2 : heap_Heap} {b1 : Nat} {r : List api_Message} (h : heap_Heap_All.f a2 = some r) (hS : St B w (O_heap_Heap hf a2 b1 :: l) hf) :
    Calls prog 249 #[pV b1] w (Ret fun v w => ∃ (A_1 : Option Addr) (c_2 : Nat), v = sV A_1 r c_2 ∧ St B w (OSf E_api_Message 115 (sV A_1 r c_2) r :: O_heap_Heap hf a2 b1 :: l) hf) := by
  have h := Holds.of h
  refine en func249 rfl ntmps249 rfl (sr (pn 1 rfl (ln (RC.seq (sr (pn 1 rfl (cF (fun _ hg => heap_Heap_none.ok hg hS) call255 h rfl rfl rfl ?_)))))))
  rintro _ h _ w ⟨rfl, hS⟩
  refine ln (jfs (sr (r0 4 rfl ?_)))
  obtain ⟨A21, c22, hS⟩ := O_heap_Heap.o hS
  refine rr [1] hS ?_
  refine it fun w hS => ?_
  obtain ⟨hf26, hs24, hS, hr23, hb25⟩ := St.lendSl hS.p1
  obtain ⟨t27, hg28, h⟩ := h.bind
  have hc := event_Sorted.ok hr23 hg28 hS
  refine RL.e (OW.callF (ls := [.tmp 9]) rfl call256 hc) rfl rfl ?_
  rintro _ w ⟨A29, c30, rfl, hS⟩
  have hS := hb25 _ _ hS
  have hS : St B w (_ :: _ :: _ :: l) hf := hS
  refine pn 1 rfl (lr ?_)
  have hS := O_heap_Heap.c (x := a2) hS.p2
  obtain rfl := h.some
  exact rt results249 rfl ⟨A29, c30, rfl, hS.p1⟩
def pend_Pend_Turn.l8b (t617 : List api_Message) : heap_Heap × Int → Option ((heap_Heap × Int) ⊕ (Int × pend_Pend))
  | (y635, x636) => (if x636 < (t617.length : Int) then (if 0 ≤ x636 then ((heap_Heap_Push.f y635 (nth t617 x636)).bind fun (y666, y667) => some (.inl (y667, IntKind.i64.wrap (x636 + 1)))) else none) else some (.inr (0, (⟨.c0 y635⟩ : pend_Pend))))
def pend_Pend_Turn.l8 (t617 : List api_Message) (s : heap_Heap × Int) : Option (Int × pend_Pend) := loopR (pend_Pend_Turn.l8b t617) s
def pend_Pend_Turn.l10b (t790 : List api_Message) : calendar_Calendar × Int → Option ((calendar_Calendar × Int) ⊕ (Int × pend_Pend))
  | (y827, x828) => (if x828 < (t790.length : Int) then (if 0 ≤ x828 then ((calendar_Calendar_Push.f y827 (nth t790 x828)).bind fun (y863, y864) => some (.inl (y864, IntKind.i64.wrap (x828 + 1)))) else none) else some (.inr (0, (⟨.c1 y827⟩ : pend_Pend))))
def pend_Pend_Turn.l10 (t790 : List api_Message) (s : calendar_Calendar × Int) : Option (Int × pend_Pend) := loopR (pend_Pend_Turn.l10b t790) s
def pend_Pend_Turn.l12b (t962 : List api_Message) : ladder_Ladder × Int → Option ((ladder_Ladder × Int) ⊕ (Int × pend_Pend))
  | (y980, x981) => (if x981 < (t962.length : Int) then (if 0 ≤ x981 then ((ladder_Ladder_Push.f y980 (nth t962 x981)).bind fun (y1011, y1012) => some (.inl (y1012, IntKind.i64.wrap (x981 + 1)))) else none) else some (.inr (0, (⟨.c2 y980⟩ : pend_Pend))))
def pend_Pend_Turn.l12 (t962 : List api_Message) (s : ladder_Ladder × Int) : Option (Int × pend_Pend) := loopR (pend_Pend_Turn.l12b t962) s
def pend_Pend_Turn.f (a2 : pend_Pend) (a3 : Int) : Option (Int × pend_Pend) := ((pend_Pend_none.f a2).bind fun _ => ((pend_fresh_2.f a3).bind fun t522 => match t522 with | .inl y524 => ((pend_Pend_Kind.f a2).bind fun t529 => (if a3 = t529 then some (0, a2) else (a2.q.on (fun y613 => ((heap_Heap_All.f y613).bind fun t617 => pend_Pend_Turn.l8 t617 (y524, 0))) (fun y614 => none) (fun y615 => none)))) | .inr (.inl y671) => ((pend_Pend_Kind.f a2).bind fun t676 => (if a3 = t676 then some (0, a2) else (a2.q.on (fun y786 => ((heap_Heap_All.f y786).bind fun t790 => pend_Pend_Turn.l10 t790 (y671, 0))) (fun y787 => none) (fun y788 => none)))) | .inr (.inr (.inl y869)) => ((pend_Pend_Kind.f a2).bind fun t874 => (if a3 = t874 then some (0, a2) else (a2.q.on (fun y958 => ((heap_Heap_All.f y958).bind fun t962 => pend_Pend_Turn.l12 t962 (y869, 0))) (fun y959 => none) (fun y960 => none)))) | .inr (.inr (.inr (_))) => some (1, a2)))
theorem pend_Pend_Turn.ok {a2 : pend_Pend} {a3 : Int} {b1 : Nat} {r : Int × pend_Pend} (h : pend_Pend_Turn.f a2 a3 = some r) (hS : St B w (O_pend_Pend hf a2 b1 :: l) hf) :
    Calls prog 132 #[pV b1, iV a3] w (Ret fun v w => ∃ hf_ : Hp, Sub hf hf_ ∧ v = iV r.1 ∧ St B w (O_pend_Pend hf_ r.2 b1 :: l) hf_) := by
  have h := Holds.of h
  refine en func132 rfl ntmps132 rfl (sr (pn 1 rfl (ln (RC.seq (sr (pn 1 rfl (cF (fun _ hg => pend_Pend_none.ok hg hS) call90 h rfl rfl rfl ?_)))))))
  rintro _ h _ w ⟨rfl, hS⟩
  refine ln (jfs (sr (pn 1 rfl ?_)))
  obtain ⟨t522, hg523, h⟩ := h.bind
  have hc := pend_fresh_2.ok hg523 hS
  rcases t522 with y524 | y671 | y869 | _
  · refine RL.e (OW.callF (ls := [.tmp 10]) rfl call56 hc) rfl rfl ?_
    rintro _ w ⟨b525, rfl, hS⟩
    refine pn 1 rfl (ln (RC.seq (RC.block (sr (pn 1 rfl (RL.s (Vl.bn false rfl rfl) rfl (pn 1 rfl (ln (jf (sr (pn 2 rfl ?_)))))))))))
    refine cF (fun _ hg => pend_Pend_Kind.ok hg hS.p1) call159 h rfl rfl rfl ?_
    rintro t529 h _ w ⟨rfl, hS⟩
    refine pn 2 rfl (ln ?_)
    refine RC.iteP 15 rfl h (fun hc531 h => ?_) fun hc531 h => ?_
    next =>
     refine jtr (pn 1 rfl (lr (ir ?_)))
     cases h.some
     exact rt results132 rfl ⟨_, (Sub.refl _), rfl, hS.d1⟩
    refine jf (RC.skip (RQ.inB_n (RQ.then_n (RC.seq (sr (r0 3 rfl ?_))))))
    rcases hx612 : a2.q with y613 | y614 | y615
    next =>
     have h := Q_pend_Pend.h0 hx612 h
     obtain ⟨b616, hS⟩ := O_pend_Pend.o0 hx612 hS
     refine rr [1] hS ?_
     refine it fun w hS => ?_
     obtain ⟨t617, hg618, h⟩ := h.bind
     have hc := heap_Heap_All.ok hg618 hS.p1
     refine RL.e (OW.invoke (F := 249) (u' := pV b616) (ls := []) rfl rfl (fun w => by kernel_rfl) call249 rfl hc) rfl rfl ?_
     rintro _ w ⟨A619, c620, rfl, hS⟩
     refine r0 2 rfl (ln (RC.block ?_))
     have hS := O_pend_Pend.c0 (x := a2) hx612 hS.p1.p2
     refine fun a ha => lp h (fun (s : heap_Heap × Int) a w => ∃ y635 x636, s = (y635, x636) ∧ Has 38 [(0, pV b1), (5, .iface 206 (pV b525)), (24, sV A619 t617 c620), (25, iV (t617.length : Int)), (26, iV x636)] a ∧ St B w (OSf E_api_Message 115 (sV A619 t617 c620) t617 :: O_pend_Pend hf a2 b1 :: O_heap_Heap hf y635 b525 :: l) hf) ⟨_, _, rfl, ha.tE rfl, hS.p1⟩ ?_
     rintro G653 _ a w ⟨y635, x636, rfl, ha, hS⟩ h
     refine ro ha (sr (pn 1 rfl (ln (RC.seq ?_))))
     refine RC.iteP 27 rfl h (fun hc655 h => ?_) fun hc655 h => ?_
     next =>
      refine jt (sk (RC.seq (RC.block (sr ?_))))
      obtain ⟨hq662, h⟩ := h.req
      refine RL.s (Vl.indexOwn 0 hS rfl underlying99 sizeOf115 rfl rfl hq662 hc655) rfl (RL.s (Vl.loadA isAgg115 sizeOf115 rfl rfl ((hS.slW 0 rfl).2.2.cells hq662 hc655)) rfl (rr [0, 1] hS ?_))
      refine fun b663 => it fun w hS => ln (RC.region (rr [0, 1] hS ?_))
      refine it fun w hS => ?_
      obtain ⟨t664, hg665, h⟩ := h.bind
      have hc := heap_Heap_Push.ok hg665 hS.p3
      obtain ⟨y666, y667⟩ := t664
      refine RL.e (OW.invoke (F := 254) (u' := pV b525) (ls := [.tmp 31]) rfl rfl (fun w => by kernel_rfl) call254 rfl hc) rfl rfl ?_
      rintro _ w ⟨rfl, hS⟩
      refine RL.nil (RQ.inB_n (RQ.then_n (RC.region (pn 2 rfl (RL.nil ?_)))))
      exact fun a ha => ⟨_, h.some, _, _, rfl, ha.tE rfl, hS.d1.p2.p2⟩
     refine jf (RC.exit (RQ.exitT ?_))
     have h := h.inrS
     refine RQ.exitT (RQ.inB_hit (tsr (r0 4 rfl ?_)))
     obtain ⟨b668, hS⟩ := O_pend_Pend.o0 hx612 hS.p1
     refine rr [1] hS ?_
     refine it fun w hS => lnsr (pn 1 rfl (lr ?_))
     have hS := O_pend_Pend.c0 (x := (⟨.c0 y635⟩ : pend_Pend)) rfl hS.p3.p1
     cases h.some
     exact rt results132 rfl ⟨_, (Sub.refl _), rfl, hS.d1.d1⟩
    next =>
     have h := Q_pend_Pend.h1 hx612 h
     obtain ⟨b669, hS⟩ := O_pend_Pend.o1 hx612 hS
     refine rr [1] hS ?_
     refine it fun w hS => ?_
     exact h.none
    have h := Q_pend_Pend.h2 hx612 h
    obtain ⟨b670, hS⟩ := O_pend_Pend.o2 hx612 hS
    refine rr [1] hS ?_
    refine it fun w hS => ?_
    exact h.none
  · refine RL.e (OW.callF (ls := [.tmp 10]) rfl call56 hc) rfl rfl ?_
    rintro _ w ⟨b672, rfl, hS⟩
    refine pn 1 rfl (ln (RC.seq (RC.block (sr (pn 1 rfl (RL.s (Vl.bn false rfl rfl) rfl (pn 1 rfl (ln (jf (sr (pn 2 rfl ?_)))))))))))
    refine cF (fun _ hg => pend_Pend_Kind.ok hg hS.p1) call159 h rfl rfl rfl ?_
    rintro t676 h _ w ⟨rfl, hS⟩
    refine pn 2 rfl (ln ?_)
    refine RC.iteP 15 rfl h (fun hc678 h => ?_) fun hc678 h => ?_
    next =>
     refine jtr (pn 1 rfl (lr (ir ?_)))
     cases h.some
     exact rt results132 rfl ⟨_, (Sub.refl _), rfl, hS.d1⟩
    refine jf (RC.skip (RQ.inB_n (RQ.then_n (RC.seq (sr (r0 3 rfl ?_))))))
    rcases hx785 : a2.q with y786 | y787 | y788
    next =>
     have h := Q_pend_Pend.h0 hx785 h
     obtain ⟨b789, hS⟩ := O_pend_Pend.o0 hx785 hS
     refine rr [1] hS ?_
     refine it fun w hS => ?_
     obtain ⟨t790, hg791, h⟩ := h.bind
     have hc := heap_Heap_All.ok hg791 hS.p1
     refine RL.e (OW.invoke (F := 249) (u' := pV b789) (ls := []) rfl rfl (fun w => by kernel_rfl) call249 rfl hc) rfl rfl ?_
     rintro _ w ⟨A792, c793, rfl, hS⟩
     refine r0 2 rfl (ln (RC.block ?_))
     have hS := O_pend_Pend.c0 (x := a2) hx785 hS.p1.p2
     refine fun a ha => lp h (fun (s : calendar_Calendar × Int) a w => ∃ y827 x828, s = (y827, x828) ∧ ∃ hf_, Sub hf hf_ ∧ Has 38 [(0, pV b1), (5, .iface 208 (pV b672)), (24, sV A792 t790 c793), (25, iV (t790.length : Int)), (26, iV x828)] a ∧ St B w (OSf E_api_Message 115 (sV A792 t790 c793) t790 :: O_pend_Pend hf_ a2 b1 :: O_calendar_Calendar hf_ y827 b672 :: l) hf_) ⟨_, _, rfl, _, (Sub.refl _), ha.tE rfl, hS.p1⟩ ?_
     rintro G848 _ a w ⟨y827, x828, rfl, hf, hs809, ha, hS⟩ h
     refine ro ha (sr (pn 1 rfl (ln (RC.seq ?_))))
     refine RC.iteP 27 rfl h (fun hc850 h => ?_) fun hc850 h => ?_
     next =>
      refine jt (sk (RC.seq (RC.block (sr ?_))))
      obtain ⟨hq859, h⟩ := h.req
      refine RL.s (Vl.indexOwn 0 hS rfl underlying99 sizeOf115 rfl rfl hq859 hc850) rfl (RL.s (Vl.loadA isAgg115 sizeOf115 rfl rfl ((hS.slW 0 rfl).2.2.cells hq859 hc850)) rfl (rr [0, 1] hS ?_))
      refine fun b860 => it fun w hS => ln (RC.region (rr [0, 1] hS ?_))
      refine it fun w hS => ?_
      obtain ⟨t861, hg862, h⟩ := h.bind
      have hc := calendar_Calendar_Push.ok hg862 hS.p3
      obtain ⟨y863, y864⟩ := t861
      refine RL.e (OW.invoke (F := 277) (u' := pV b672) (ls := [.tmp 31]) rfl rfl (fun w => by kernel_rfl) call277 rfl hc) rfl rfl ?_
      rintro _ w ⟨hf, hs865, rfl, hS⟩
      have hS := O_pend_Pend.l hs865 hS.p3
      have hS : St B w (_ :: _ :: _ :: _ :: l) hf := hS
      refine RL.nil (RQ.inB_n (RQ.then_n (RC.region (pn 2 rfl (RL.nil ?_)))))
      exact fun a ha => ⟨_, h.some, _, _, rfl, _, (hs809.trans hs865), ha.tE rfl, hS.d2.p2⟩
     refine jf (RC.exit (RQ.exitT ?_))
     have h := h.inrS
     refine RQ.exitT (RQ.inB_hit (tsr (r0 4 rfl ?_)))
     obtain ⟨b866, hS⟩ := O_pend_Pend.o0 hx785 hS.p1
     refine rr [1] hS ?_
     refine it fun w hS => lnsr (pn 1 rfl (lr ?_))
     have hS := O_pend_Pend.c1 (x := (⟨.c1 y827⟩ : pend_Pend)) rfl hS.p3.p1
     cases h.some
     exact rt results132 rfl ⟨_, hs809, rfl, hS.d1.d1⟩
    next =>
     have h := Q_pend_Pend.h1 hx785 h
     obtain ⟨b867, hS⟩ := O_pend_Pend.o1 hx785 hS
     refine rr [1] hS ?_
     refine it fun w hS => ?_
     exact h.none
    have h := Q_pend_Pend.h2 hx785 h
    obtain ⟨b868, hS⟩ := O_pend_Pend.o2 hx785 hS
    refine rr [1] hS ?_
    refine it fun w hS => ?_
    exact h.none
  · refine RL.e (OW.callF (ls := [.tmp 10]) rfl call56 hc) rfl rfl ?_
    rintro _ w ⟨b870, rfl, hS⟩
    refine pn 1 rfl (ln (RC.seq (RC.block (sr (pn 1 rfl (RL.s (Vl.bn false rfl rfl) rfl (pn 1 rfl (ln (jf (sr (pn 2 rfl ?_)))))))))))
    refine cF (fun _ hg => pend_Pend_Kind.ok hg hS.p1) call159 h rfl rfl rfl ?_
    rintro t874 h _ w ⟨rfl, hS⟩
    refine pn 2 rfl (ln ?_)
    refine RC.iteP 15 rfl h (fun hc876 h => ?_) fun hc876 h => ?_
    next =>
     refine jtr (pn 1 rfl (lr (ir ?_)))
     cases h.some
     exact rt results132 rfl ⟨_, (Sub.refl _), rfl, hS.d1⟩
    refine jf (RC.skip (RQ.inB_n (RQ.then_n (RC.seq (sr (r0 3 rfl ?_))))))
    rcases hx957 : a2.q with y958 | y959 | y960
    next =>
     have h := Q_pend_Pend.h0 hx957 h
     obtain ⟨b961, hS⟩ := O_pend_Pend.o0 hx957 hS
     refine rr [1] hS ?_
     refine it fun w hS => ?_
     obtain ⟨t962, hg963, h⟩ := h.bind
     have hc := heap_Heap_All.ok hg963 hS.p1
     refine RL.e (OW.invoke (F := 249) (u' := pV b961) (ls := []) rfl rfl (fun w => by kernel_rfl) call249 rfl hc) rfl rfl ?_
     rintro _ w ⟨A964, c965, rfl, hS⟩
     refine r0 2 rfl (ln (RC.block ?_))
     have hS := O_pend_Pend.c0 (x := a2) hx957 hS.p1.p2
     refine fun a ha => lp h (fun (s : ladder_Ladder × Int) a w => ∃ y980 x981, s = (y980, x981) ∧ Has 38 [(0, pV b1), (5, .iface 211 (pV b870)), (24, sV A964 t962 c965), (25, iV (t962.length : Int)), (26, iV x981)] a ∧ St B w (OSf E_api_Message 115 (sV A964 t962 c965) t962 :: O_pend_Pend hf a2 b1 :: O_ladder_Ladder hf y980 b870 :: l) hf) ⟨_, _, rfl, ha.tE rfl, hS.p1⟩ ?_
     rintro G998 _ a w ⟨y980, x981, rfl, ha, hS⟩ h
     refine ro ha (sr (pn 1 rfl (ln (RC.seq ?_))))
     refine RC.iteP 27 rfl h (fun hc1000 h => ?_) fun hc1000 h => ?_
     next =>
      refine jt (sk (RC.seq (RC.block (sr ?_))))
      obtain ⟨hq1007, h⟩ := h.req
      refine RL.s (Vl.indexOwn 0 hS rfl underlying99 sizeOf115 rfl rfl hq1007 hc1000) rfl (RL.s (Vl.loadA isAgg115 sizeOf115 rfl rfl ((hS.slW 0 rfl).2.2.cells hq1007 hc1000)) rfl (rr [0, 1] hS ?_))
      refine fun b1008 => it fun w hS => ln (RC.region (rr [0, 1] hS ?_))
      refine it fun w hS => ?_
      obtain ⟨t1009, hg1010, h⟩ := h.bind
      have hc := ladder_Ladder_Push.ok hg1010 hS.p3
      obtain ⟨y1011, y1012⟩ := t1009
      refine RL.e (OW.invoke (F := 291) (u' := pV b870) (ls := [.tmp 31]) rfl rfl (fun w => by kernel_rfl) call291 rfl hc) rfl rfl ?_
      rintro _ w ⟨rfl, hS⟩
      refine RL.nil (RQ.inB_n (RQ.then_n (RC.region (pn 2 rfl (RL.nil ?_)))))
      exact fun a ha => ⟨_, h.some, _, _, rfl, ha.tE rfl, hS.d1.p2.p2⟩
     refine jf (RC.exit (RQ.exitT ?_))
     have h := h.inrS
     refine RQ.exitT (RQ.inB_hit (tsr (r0 4 rfl ?_)))
     obtain ⟨b1013, hS⟩ := O_pend_Pend.o0 hx957 hS.p1
     refine rr [1] hS ?_
     refine it fun w hS => lnsr (pn 1 rfl (lr ?_))
     have hS := O_pend_Pend.c2 (x := (⟨.c2 y980⟩ : pend_Pend)) rfl hS.p3.p1
     cases h.some
     exact rt results132 rfl ⟨_, (Sub.refl _), rfl, hS.d1.d1⟩
    next =>
     have h := Q_pend_Pend.h1 hx957 h
     obtain ⟨b1014, hS⟩ := O_pend_Pend.o1 hx957 hS
     refine rr [1] hS ?_
     refine it fun w hS => ?_
     exact h.none
    have h := Q_pend_Pend.h2 hx957 h
    obtain ⟨b1015, hS⟩ := O_pend_Pend.o2 hx957 hS
    refine rr [1] hS ?_
    refine it fun w hS => ?_
    exact h.none
  refine RL.e (OW.callF (ls := [.tmp 10]) rfl call56 hc) rfl rfl ?_
  rintro _ w ⟨rfl, hS⟩
  refine pn 1 rfl (ln (RC.seq (RC.block (sr (pn 1 rfl (RL.s (Vl.bn true rfl rfl) rfl (pn 1 rfl (ln (jtr (pn 1 rfl ?_))))))))))
  refine lr (ir ?_)
  cases h.some
  exact rt results132 rfl ⟨_, (Sub.refl _), rfl, hS⟩
def lane_Lane_Set.f (a2 : lane_Lane) (a3 : api_Setting) : Option (Int × lane_Lane) := ((lane_Lane_none.f a2).bind fun _ => ((tune_Clamp.f a3).bind fun t95 => ((log_Log_Every.f a2.log t95.Every).bind fun (y123, y124) => ((pend_Pend_Turn.f a2.wait t95.Queue).bind fun (y127, y128) => some (0, ({ a2 with log := y124, wait := y128, setting := t95 } : lane_Lane))))))
theorem lane_Lane_Set.ok {a2 : lane_Lane} {a3 : api_Setting} {b1 : Nat} {r : Int × lane_Lane} (h : lane_Lane_Set.f a2 a3 = some r) (hS : St B w (O_lane_Lane hf a2 b1 :: l) hf) :
    Calls prog 80 #[pV b1, .agg (C_api_Setting a3).toArray] w (Ret fun v w => ∃ hf_ : Hp, Sub hf hf_ ∧ v = iV r.1 ∧ St B w (O_lane_Lane hf_ r.2 b1 :: l) hf_) := by
  have h := Holds.of h
  refine en func80 rfl ntmps80 rfl (sr (rr [0, 0] hS ?_))
  refine fun b68 => it fun w hS => ln (RC.seq (sr (pn 1 rfl (cF (fun _ hg => lane_Lane_none.ok hg hS.p1) call36 h rfl rfl rfl ?_))))
  rintro _ h _ w ⟨rfl, hS⟩
  refine ln (jfs (sr (rr [0, 2] hS ?_)))
  refine it fun w hS => cF (fun _ hg => tune_Clamp.ok hg hS) call129 h rfl rfl rfl ?_
  rintro t95 h _ w ⟨rfl, hS⟩
  refine r0 2 rfl ?_
  obtain ⟨A97, c98, A100, c101, A103, c104, A106, c107, b109, b110, A111, c112, A113, c114, b115, b116, hr99, hr102, hr105, hr108, hS⟩ := O_lane_Lane.o hS
  refine rr [1] hS ?_
  refine it fun w hS => ln (RC.seq (dr [0, 3, 6, 10, 14, 17, 20, 23, 26, 29] [9] hS fun w hS => rq [0, 0, 0, 1, 0, 0, 0, 0, 1] hS ?_))
  refine it ?_
  obtain ⟨t121, hg122, h⟩ := h.bind
  have hc := log_Log_Every.ok hg122 hS.p1
  obtain ⟨y123, y124⟩ := t121
  refine RP.e 9 rfl (OW.callF (ls := [.tmp 15, .tmp 20]) rfl call131 hc) rfl rfl ?_
  rintro _ w ⟨rfl, hS⟩
  refine ⟨kp ⟨(by intro hx; cases hx), trivial⟩, ?_⟩
  refine RP.nil (RQ.then_n (RC.seq (dr [0, 3, 6, 10, 14, 17, 20, 23, 26, 29] [9] hS fun w hS => rq [0, 0, 0, 2, 0, 0, 0, 0, 2] hS ?_)))
  refine it ?_
  obtain ⟨t125, hg126, h⟩ := h.bind
  have hc := pend_Pend_Turn.ok hg126 hS.p2
  obtain ⟨y127, y128⟩ := t125
  refine RP.e 9 rfl (OW.callF (ls := [.tmp 25, .tmp 30]) rfl call132 hc) rfl rfl ?_
  rintro _ w ⟨hf, hs129, rfl, hS⟩
  have hS := O_log_Log.l hs129 hS.p1
  have hS : St B w (_ :: _ :: _ :: _ :: _ :: _ :: _ :: _ :: l) hf := hS
  refine ⟨kp ⟨(by intro hx; cases hx), trivial⟩, ?_⟩
  refine RP.nil (tsr (pn 1 rfl (lr ?_)))
  have hS := O_lane_Lane.c (x := ({ a2 with log := y124, wait := y128, setting := t95 } : lane_Lane)) (hr99.mono hs129) (hr102.mono hs129) (hr105.mono hs129) (hr108.mono hs129) hS.p2
  cases h.some
  exact rt results80 rfl ⟨_, hs129, rfl, hS.d1⟩
def kernel_Kernel_set.f (a2 : kernel_Kernel) (a3 : api_Pick) : Option (Int × kernel_Kernel) := ((kernel_Kernel_who.f a2.m.Progs a2.m.Links a2.m.Starts a2.m.Seed a2.m.End a2.m.Budget a2.at_ a2.ways a2.token a2.global a2.window a2.width a2.history a2.stop a3.A).bind fun t1567 => match t1567 with | .inl y1569 => (if y1569 = 0 then none else some (y1569, a2)) | .inr ((y1572, y1573)) => (if y1573 = 0 then ((lane_Lane_Setting.f ((nth a2.at_ y1572).Lane)).bind fun t1595 => (if a3.What = 5 then ((lane_Lane_Set.f ((nth a2.at_ y1572).Lane) ({ t1595 with Mode := a3.B } : api_Setting)).bind fun (y3000, y3001) => some (y3000, ({ a2 with at_ := (setL a2.at_ y1572 (⟨y3001, (nth a2.at_ y1572).tally, (nth a2.at_ y1572).clocks, (nth a2.at_ y1572).ways, (nth a2.at_ y1572).into⟩ : kernel_place)) } : kernel_Kernel))) else (if a3.What = 6 then ((lane_Lane_Set.f ((nth a2.at_ y1572).Lane) ({ t1595 with Every := a3.B } : api_Setting)).bind fun (y3007, y3008) => some (y3007, ({ a2 with at_ := (setL a2.at_ y1572 (⟨y3008, (nth a2.at_ y1572).tally, (nth a2.at_ y1572).clocks, (nth a2.at_ y1572).ways, (nth a2.at_ y1572).into⟩ : kernel_place)) } : kernel_Kernel))) else (if a3.What = 7 then ((lane_Lane_Set.f ((nth a2.at_ y1572).Lane) ({ t1595 with Cancel := a3.B } : api_Setting)).bind fun (y3014, y3015) => some (y3014, ({ a2 with at_ := (setL a2.at_ y1572 (⟨y3015, (nth a2.at_ y1572).tally, (nth a2.at_ y1572).clocks, (nth a2.at_ y1572).ways, (nth a2.at_ y1572).into⟩ : kernel_place)) } : kernel_Kernel))) else (if a3.What = 8 then ((lane_Lane_Set.f ((nth a2.at_ y1572).Lane) ({ t1595 with Reach := a3.B } : api_Setting)).bind fun (y3021, y3022) => some (y3021, ({ a2 with at_ := (setL a2.at_ y1572 (⟨y3022, (nth a2.at_ y1572).tally, (nth a2.at_ y1572).clocks, (nth a2.at_ y1572).ways, (nth a2.at_ y1572).into⟩ : kernel_place)) } : kernel_Kernel))) else (if a3.What = 9 then ((lane_Lane_Set.f ((nth a2.at_ y1572).Lane) ({ t1595 with Queue := a3.B } : api_Setting)).bind fun (y3028, y3029) => some (y3028, ({ a2 with at_ := (setL a2.at_ y1572 (⟨y3029, (nth a2.at_ y1572).tally, (nth a2.at_ y1572).clocks, (nth a2.at_ y1572).ways, (nth a2.at_ y1572).into⟩ : kernel_place)) } : kernel_Kernel))) else (if a3.What = 11 then none else none))))))) else some (y1573, a2)))
theorem kernel_Kernel_set.ok {a2 : kernel_Kernel} {a3 : api_Pick} {b1 : Nat} {r : Int × kernel_Kernel} (h : kernel_Kernel_set.f a2 a3 = some r) (hS : St B w (O_kernel_Kernel hf a2 b1 :: l) hf) :
    Calls prog 43 #[pV b1, .agg (C_api_Pick a3).toArray] w (Ret fun v w => ∃ hf_ : Hp, Sub hf hf_ ∧ v = iV r.1 ∧ St B w (O_kernel_Kernel hf_ r.2 b1 :: l) hf_) := by
  have h := Holds.of h
  refine en func43 rfl ntmps43 rfl (sr (rr [0, 0] hS ?_))
  refine fun b1519 => it fun w hS => lnsr (rr [0, 0, 1] hS ?_)
  refine it fun w hS => ?_
  obtain ⟨A1547, c1548, A1550, c1551, A1553, c1554, A1556, c1557, bs1558, A1560, c1561, bs1562, b1564, A1565, c1566, hr1549, hr1552, hr1555, hS⟩ := O_kernel_Kernel.o hS.p1
  have hl1559 := hS.p2.sepLen
  have hl1563 := hS.p4.sepLen
  obtain ⟨t1567, hg1568, h⟩ := h.bind
  have hc := kernel_Kernel_who.ok hr1549 hr1552 hr1555 hl1559 hl1563 hg1568 hS.p5
  rcases t1567 with y1569 | ⟨y1572, y1573⟩
  · refine RL.e (OW.callF (ls := [.tmp 9, .tmp 11]) rfl call59 hc) rfl rfl ?_
    rintro _ w ⟨rfl, hS⟩
    refine pn 5 rfl (ln (RC.seq (sr (pn 2 rfl (ln ?_)))))
    refine RC.iteN 16 rfl h (fun hc1571 h => ?_) fun hc1571 h => ?_
    next =>
     refine jfs (sr (pn 1 rfl ?_))
     exact h.none
    refine jtr (pn 2 rfl (lr (RQ.ret ?_)))
    have hS := O_kernel_Kernel.c (x := a2) hr1549 hr1552 hr1555 hS.p5.p5.p5.p5.p5
    cases h.some
    exact rt results43 rfl ⟨_, (Sub.refl _), rfl, hS.d1⟩
  refine RL.e (OW.callF (ls := [.tmp 9, .tmp 11]) rfl call59 hc) rfl rfl ?_
  rintro _ w ⟨rfl, hS, hz1574, hz1575⟩
  refine pn 5 rfl (ln (RC.seq (sr (pn 2 rfl (ln ?_)))))
  refine RC.iteN 16 rfl h (fun hc1577 h => ?_) fun hc1577 h => ?_
  next =>
   refine jfs (sr (pn 2 rfl ?_))
   have hS := hS.p3.sepTake hz1574 hz1575
   refine r0 1 rfl ?_
   obtain ⟨b1588, b1589, b1590, A1591, c1592, b1594, hr1593, hS⟩ := O_kernel_place.o hS
   refine rr [1] hS ?_
   refine it fun w hS => cF (fun _ hg => lane_Lane_Setting.ok hg hS.p1) call20 h rfl rfl rfl ?_
   rintro t1595 h _ w ⟨rfl, hS⟩
   refine rr [0, 1] hS ?_
   refine fun b1597 => it fun w hS => ln (RC.seq (sr (rr [0, 14] hS ?_)))
   refine it fun w hS => ln (RC.block (RC.seq (RC.block (RC.block (RC.seq (RC.block (RC.seq ?_)))))))
   refine RC.block (RC.seq (RC.block (RC.seq (RC.block (RC.seq (RC.block (RC.seq (RC.seq (sr (pn 2 rfl (ln ?_)))))))))))
   refine RC.iteP 25 rfl h (fun hc2997 h => ?_) fun hc2997 h => ?_
   next =>
    refine jt (RC.exit (RQ.exitT (RQ.exitT (RQ.inB_hit (tsr (rr [0, 14, 0, 1] hS ?_))))))
    refine it fun w hS => ln (RC.exit (RQ.inB_miss rfl (RQ.exitT (RQ.inB_miss rfl (RQ.exitT ?_)))))
    refine RQ.inB_miss rfl (RQ.exitT (RQ.inB_miss rfl (RQ.exitT (RQ.inB_miss rfl (RQ.inB_miss rfl (RQ.exitT (RQ.inB_hit (RQ.then_n (RC.seq (dr [0, 3, 6, 10, 14, 17, 20] [5, 6] hS fun w hS => rq [0, 0, 0, 3, 1] hS ?_))))))))))
    refine it ?_
    obtain ⟨t2998, hg2999, h⟩ := h.bind
    have hc := lane_Lane_Set.ok hg2999 hS.p1
    obtain ⟨y3000, y3001⟩ := t2998
    refine RP.e 5 rfl (OW.callF (ls := [.tmp 62, .tmp 63]) rfl call80 hc) rfl rfl ?_
    rintro _ w ⟨hf, hs3002, rfl, hS⟩
    have hS := O_colour_Tally.l hs3002 hS.p3
    have hS := O_clock_Clocks.l hs3002 hS.p4
    have hS := hS.p6.imp fun _ h => SepH.m (fun _ _ => O_kernel_place.m hs3002) h
    have hS := O_colour_Token.l hs3002 hS.p7
    have hS := hS.p11.imp fun _ h => SepL.m (fun _ _ => O_link_Way.m hs3002) h
    have hS : St B w (_ :: _ :: _ :: _ :: _ :: _ :: _ :: _ :: _ :: _ :: _ :: _ :: _ :: _ :: l) hf := hS
    refine ⟨kp ⟨(by intro hx; cases hx), trivial⟩, ?_⟩
    refine RP.v1 6 rfl (Vl.assign rfl) rfl rfl (RP.nil (tr ?_))
    have hS := O_kernel_place.c (x := (⟨y3001, (nth a2.at_ y1572).tally, (nth a2.at_ y1572).clocks, (nth a2.at_ y1572).ways, (nth a2.at_ y1572).into⟩ : kernel_place)) (hr1593.mono hs3002) hS.p8.p4.p5.p6.p8
    have hS := hS.p3.p1.sepPut hz1574 hz1575
    have hS := O_kernel_Kernel.c (x := ({ a2 with at_ := (setL a2.at_ y1572 (⟨y3001, (nth a2.at_ y1572).tally, (nth a2.at_ y1572).clocks, (nth a2.at_ y1572).ways, (nth a2.at_ y1572).into⟩ : kernel_place)) } : kernel_Kernel)) (hr1549.mono hs3002) (hr1552.mono hs3002) (hr1555.mono hs3002) hS.p7.p3.p3.p7.p4.p7.p7
    cases h.some
    exact rt results43 rfl ⟨_, hs3002, rfl, hS.d1.d1⟩
   refine jfs (RC.seq (sr (pn 2 rfl (ln ?_))))
   refine RC.iteP 27 rfl h (fun hc3004 h => ?_) fun hc3004 h => ?_
   next =>
    refine jt (RC.exit (RQ.exitT (RQ.exitT (RQ.inB_miss rfl (RQ.exitT (RQ.inB_hit (tsr (rr [0, 14, 0, 1] hS ?_))))))))
    refine it fun w hS => ln (RC.exit (RQ.inB_miss rfl (RQ.exitT ?_)))
    refine RQ.inB_miss rfl (RQ.exitT (RQ.inB_miss rfl (RQ.exitT (RQ.inB_miss rfl (RQ.inB_miss rfl (RQ.exitT (RQ.inB_hit (RQ.then_n (RC.seq (dr [0, 3, 6, 10, 14, 17, 20] [5, 6] hS fun w hS => rq [0, 0, 0, 3, 1] hS ?_))))))))))
    refine it ?_
    obtain ⟨t3005, hg3006, h⟩ := h.bind
    have hc := lane_Lane_Set.ok hg3006 hS.p1
    obtain ⟨y3007, y3008⟩ := t3005
    refine RP.e 5 rfl (OW.callF (ls := [.tmp 62, .tmp 63]) rfl call80 hc) rfl rfl ?_
    rintro _ w ⟨hf, hs3009, rfl, hS⟩
    have hS := O_colour_Tally.l hs3009 hS.p3
    have hS := O_clock_Clocks.l hs3009 hS.p4
    have hS := hS.p6.imp fun _ h => SepH.m (fun _ _ => O_kernel_place.m hs3009) h
    have hS := O_colour_Token.l hs3009 hS.p7
    have hS := hS.p11.imp fun _ h => SepL.m (fun _ _ => O_link_Way.m hs3009) h
    have hS : St B w (_ :: _ :: _ :: _ :: _ :: _ :: _ :: _ :: _ :: _ :: _ :: _ :: _ :: _ :: l) hf := hS
    refine ⟨kp ⟨(by intro hx; cases hx), trivial⟩, ?_⟩
    refine RP.v1 6 rfl (Vl.assign rfl) rfl rfl (RP.nil (tr ?_))
    have hS := O_kernel_place.c (x := (⟨y3008, (nth a2.at_ y1572).tally, (nth a2.at_ y1572).clocks, (nth a2.at_ y1572).ways, (nth a2.at_ y1572).into⟩ : kernel_place)) (hr1593.mono hs3009) hS.p8.p4.p5.p6.p8
    have hS := hS.p3.p1.sepPut hz1574 hz1575
    have hS := O_kernel_Kernel.c (x := ({ a2 with at_ := (setL a2.at_ y1572 (⟨y3008, (nth a2.at_ y1572).tally, (nth a2.at_ y1572).clocks, (nth a2.at_ y1572).ways, (nth a2.at_ y1572).into⟩ : kernel_place)) } : kernel_Kernel)) (hr1549.mono hs3009) (hr1552.mono hs3009) (hr1555.mono hs3009) hS.p7.p3.p3.p7.p4.p7.p7
    cases h.some
    exact rt results43 rfl ⟨_, hs3009, rfl, hS.d1.d1⟩
   refine jfs (RC.seq (sr (pn 2 rfl (ln ?_))))
   refine RC.iteP 29 rfl h (fun hc3011 h => ?_) fun hc3011 h => ?_
   next =>
    refine jt (RC.exit (RQ.exitT (RQ.exitT (RQ.inB_miss rfl (RQ.exitT (RQ.inB_miss rfl (RQ.exitT (RQ.inB_hit (tsr (rr [0, 14, 0, 1] hS ?_))))))))))
    refine it fun w hS => ln (RC.exit ?_)
    refine RQ.inB_miss rfl (RQ.exitT (RQ.inB_miss rfl (RQ.exitT (RQ.inB_miss rfl (RQ.inB_miss rfl (RQ.exitT (RQ.inB_hit (RQ.then_n (RC.seq (dr [0, 3, 6, 10, 14, 17, 20] [5, 6] hS fun w hS => rq [0, 0, 0, 3, 1] hS ?_))))))))))
    refine it ?_
    obtain ⟨t3012, hg3013, h⟩ := h.bind
    have hc := lane_Lane_Set.ok hg3013 hS.p1
    obtain ⟨y3014, y3015⟩ := t3012
    refine RP.e 5 rfl (OW.callF (ls := [.tmp 62, .tmp 63]) rfl call80 hc) rfl rfl ?_
    rintro _ w ⟨hf, hs3016, rfl, hS⟩
    have hS := O_colour_Tally.l hs3016 hS.p3
    have hS := O_clock_Clocks.l hs3016 hS.p4
    have hS := hS.p6.imp fun _ h => SepH.m (fun _ _ => O_kernel_place.m hs3016) h
    have hS := O_colour_Token.l hs3016 hS.p7
    have hS := hS.p11.imp fun _ h => SepL.m (fun _ _ => O_link_Way.m hs3016) h
    have hS : St B w (_ :: _ :: _ :: _ :: _ :: _ :: _ :: _ :: _ :: _ :: _ :: _ :: _ :: _ :: l) hf := hS
    refine ⟨kp ⟨(by intro hx; cases hx), trivial⟩, ?_⟩
    refine RP.v1 6 rfl (Vl.assign rfl) rfl rfl (RP.nil (tr ?_))
    have hS := O_kernel_place.c (x := (⟨y3015, (nth a2.at_ y1572).tally, (nth a2.at_ y1572).clocks, (nth a2.at_ y1572).ways, (nth a2.at_ y1572).into⟩ : kernel_place)) (hr1593.mono hs3016) hS.p8.p4.p5.p6.p8
    have hS := hS.p3.p1.sepPut hz1574 hz1575
    have hS := O_kernel_Kernel.c (x := ({ a2 with at_ := (setL a2.at_ y1572 (⟨y3015, (nth a2.at_ y1572).tally, (nth a2.at_ y1572).clocks, (nth a2.at_ y1572).ways, (nth a2.at_ y1572).into⟩ : kernel_place)) } : kernel_Kernel)) (hr1549.mono hs3016) (hr1552.mono hs3016) (hr1555.mono hs3016) hS.p7.p3.p3.p7.p4.p7.p7
    cases h.some
    exact rt results43 rfl ⟨_, hs3016, rfl, hS.d1.d1⟩
   refine jfs (RC.seq (sr (pn 2 rfl (ln ?_))))
   refine RC.iteP 31 rfl h (fun hc3018 h => ?_) fun hc3018 h => ?_
   next =>
    refine jt (RC.exit (RQ.exitT (RQ.exitT (RQ.inB_miss rfl (RQ.exitT (RQ.inB_miss rfl (RQ.exitT (RQ.inB_miss rfl (RQ.exitT (RQ.inB_hit (tsr (rr [0, 14, 0, 1] hS ?_))))))))))))
    refine it fun w hS => RL.nil ?_
    refine RQ.then_n (RC.exit (RQ.inB_miss rfl (RQ.exitT (RQ.inB_miss rfl (RQ.inB_miss rfl (RQ.exitT (RQ.inB_hit (RQ.then_n (RC.seq (dr [0, 3, 6, 10, 14, 17, 20] [5, 6] hS fun w hS => rq [0, 0, 0, 3, 1] hS ?_))))))))))
    refine it ?_
    obtain ⟨t3019, hg3020, h⟩ := h.bind
    have hc := lane_Lane_Set.ok hg3020 hS.p1
    obtain ⟨y3021, y3022⟩ := t3019
    refine RP.e 5 rfl (OW.callF (ls := [.tmp 62, .tmp 63]) rfl call80 hc) rfl rfl ?_
    rintro _ w ⟨hf, hs3023, rfl, hS⟩
    have hS := O_colour_Tally.l hs3023 hS.p3
    have hS := O_clock_Clocks.l hs3023 hS.p4
    have hS := hS.p6.imp fun _ h => SepH.m (fun _ _ => O_kernel_place.m hs3023) h
    have hS := O_colour_Token.l hs3023 hS.p7
    have hS := hS.p11.imp fun _ h => SepL.m (fun _ _ => O_link_Way.m hs3023) h
    have hS : St B w (_ :: _ :: _ :: _ :: _ :: _ :: _ :: _ :: _ :: _ :: _ :: _ :: _ :: _ :: l) hf := hS
    refine ⟨kp ⟨(by intro hx; cases hx), trivial⟩, ?_⟩
    refine RP.v1 6 rfl (Vl.assign rfl) rfl rfl (RP.nil (tr ?_))
    have hS := O_kernel_place.c (x := (⟨y3022, (nth a2.at_ y1572).tally, (nth a2.at_ y1572).clocks, (nth a2.at_ y1572).ways, (nth a2.at_ y1572).into⟩ : kernel_place)) (hr1593.mono hs3023) hS.p8.p4.p5.p6.p8
    have hS := hS.p3.p1.sepPut hz1574 hz1575
    have hS := O_kernel_Kernel.c (x := ({ a2 with at_ := (setL a2.at_ y1572 (⟨y3022, (nth a2.at_ y1572).tally, (nth a2.at_ y1572).clocks, (nth a2.at_ y1572).ways, (nth a2.at_ y1572).into⟩ : kernel_place)) } : kernel_Kernel)) (hr1549.mono hs3023) (hr1552.mono hs3023) (hr1555.mono hs3023) hS.p7.p3.p3.p7.p4.p7.p7
    cases h.some
    exact rt results43 rfl ⟨_, hs3023, rfl, hS.d1.d1⟩
   refine jfs (RC.seq (sr (pn 2 rfl (ln ?_))))
   refine RC.iteP 33 rfl h (fun hc3025 h => ?_) fun hc3025 h => ?_
   next =>
    refine jt (RC.exit (RQ.exitT (RQ.exitT (RQ.inB_miss rfl (RQ.exitT (RQ.inB_miss rfl (RQ.exitT (RQ.inB_miss rfl (RQ.exitT (RQ.inB_miss rfl (RQ.exitT (RQ.inB_hit (tsr ?_)))))))))))))
    refine rr [0, 14, 0, 1] hS ?_
    refine it fun w hS => ln (RC.exit (RQ.inB_miss rfl (RQ.inB_miss rfl (RQ.exitT (RQ.inB_hit (RQ.then_n (RC.seq (dr [0, 3, 6, 10, 14, 17, 20] [5, 6] hS fun w hS => rq [0, 0, 0, 3, 1] hS ?_))))))))
    refine it ?_
    obtain ⟨t3026, hg3027, h⟩ := h.bind
    have hc := lane_Lane_Set.ok hg3027 hS.p1
    obtain ⟨y3028, y3029⟩ := t3026
    refine RP.e 5 rfl (OW.callF (ls := [.tmp 62, .tmp 63]) rfl call80 hc) rfl rfl ?_
    rintro _ w ⟨hf, hs3030, rfl, hS⟩
    have hS := O_colour_Tally.l hs3030 hS.p3
    have hS := O_clock_Clocks.l hs3030 hS.p4
    have hS := hS.p6.imp fun _ h => SepH.m (fun _ _ => O_kernel_place.m hs3030) h
    have hS := O_colour_Token.l hs3030 hS.p7
    have hS := hS.p11.imp fun _ h => SepL.m (fun _ _ => O_link_Way.m hs3030) h
    have hS : St B w (_ :: _ :: _ :: _ :: _ :: _ :: _ :: _ :: _ :: _ :: _ :: _ :: _ :: _ :: l) hf := hS
    refine ⟨kp ⟨(by intro hx; cases hx), trivial⟩, ?_⟩
    refine RP.v1 6 rfl (Vl.assign rfl) rfl rfl (RP.nil (tr ?_))
    have hS := O_kernel_place.c (x := (⟨y3029, (nth a2.at_ y1572).tally, (nth a2.at_ y1572).clocks, (nth a2.at_ y1572).ways, (nth a2.at_ y1572).into⟩ : kernel_place)) (hr1593.mono hs3030) hS.p8.p4.p5.p6.p8
    have hS := hS.p3.p1.sepPut hz1574 hz1575
    have hS := O_kernel_Kernel.c (x := ({ a2 with at_ := (setL a2.at_ y1572 (⟨y3029, (nth a2.at_ y1572).tally, (nth a2.at_ y1572).clocks, (nth a2.at_ y1572).ways, (nth a2.at_ y1572).into⟩ : kernel_place)) } : kernel_Kernel)) (hr1549.mono hs3030) (hr1552.mono hs3030) (hr1555.mono hs3030) hS.p7.p3.p3.p7.p4.p7.p7
    cases h.some
    exact rt results43 rfl ⟨_, hs3030, rfl, hS.d1.d1⟩
   refine jfs (sr (pn 2 rfl (ln ?_)))
   refine RC.iteP 35 rfl h (fun hc3031 h => ?_) fun hc3031 h => ?_
   next =>
    refine jt (RC.exit (RQ.exitT (RQ.inB_miss rfl (RQ.exitT (RQ.inB_miss rfl (RQ.exitT (RQ.inB_miss rfl (RQ.exitT (RQ.inB_miss rfl (RQ.exitT (RQ.inB_miss rfl (RQ.exitT (RQ.inB_hit (RQ.inB_n (RQ.then_n ?_)))))))))))))))
    refine RC.seq (dr [1, 5, 8, 11, 14, 17, 20, 23] [6, 7] hS fun w hS => rq [1, 0, 0, 0, 3] hS ?_)
    refine it ?_
    exact h.none
   refine jfs (RC.exit (RQ.inB_miss rfl (RQ.exitT (RQ.inB_miss rfl (RQ.exitT (RQ.inB_miss rfl (RQ.exitT (RQ.inB_miss rfl (RQ.exitT (RQ.inB_miss rfl (RQ.exitT (RQ.inB_miss rfl (RQ.inB_hit ?_)))))))))))))
   refine RQ.then_n (RC.seq (dr [1, 5, 8, 11, 14, 17, 20, 23] [6, 7] hS fun w hS => rq [1, 0, 0, 0, 3] hS ?_))
   refine it ?_
   exact h.none
  refine jtr (pn 2 rfl (lr (RQ.ret ?_)))
  have hS := O_kernel_Kernel.c (x := a2) hr1549 hr1552 hr1555 hS.p5.p5.p5.p5.p5
  cases h.some
  exact rt results43 rfl ⟨_, (Sub.refl _), rfl, hS.d1⟩
def kernel_Kernel_Do.f (a2 : kernel_Kernel) (a3 : api_Pick) : Option (Int × kernel_Kernel) := ((kernel_Kernel_none.f a2).bind fun _ => (if a2.stop = 0 then ((kernel_Kernel_picks.f a2).bind fun _ => (if a3.What = 0 then ((kernel_Kernel_step.f a2 a3).bind fun t218 => some (t218, a2)) else (if a3.What = 1 then ((kernel_Kernel_deliver.f a2 a3).bind fun t221 => some (t221, a2)) else (if a3.What = 2 then ((kernel_Kernel_visit.f a2 a3).bind fun (y226, y227) => some (y226, y227)) else (if a3.What = 3 then ((kernel_Kernel_promise.f a2 a3).bind fun t230 => some (t230, a2)) else (if a3.What = 4 then ((kernel_Kernel_round.f a2 a3).bind fun (y235, y236) => some (y235, y236)) else (if a3.What = 10 then ((kernel_Kernel_widen.f a2 a3).bind fun (y240, y241) => some (y240, y241)) else (if a3.What = 5 then ((kernel_Kernel_set.f a2 a3).bind fun (y245, y246) => some (y245, y246)) else (if a3.What = 6 then ((kernel_Kernel_set.f a2 a3).bind fun (y251, y252) => some (y251, y252)) else (if a3.What = 7 then ((kernel_Kernel_set.f a2 a3).bind fun (y257, y258) => some (y257, y258)) else (if a3.What = 8 then ((kernel_Kernel_set.f a2 a3).bind fun (y263, y264) => some (y263, y264)) else (if a3.What = 9 then ((kernel_Kernel_set.f a2 a3).bind fun (y269, y270) => some (y269, y270)) else (if a3.What = 11 then ((kernel_Kernel_set.f a2 a3).bind fun (y275, y276) => some (y275, y276)) else some (1, a2)))))))))))))) else some (5, a2)))
theorem kernel_Kernel_Do.ok {a2 : kernel_Kernel} {a3 : api_Pick} {b1 : Nat} (hG0 : GlobAt hf 0 (.iface 192 (.agg #[.pointer (some ⟨1, 85, none⟩)]))) {r : Int × kernel_Kernel} (h : kernel_Kernel_Do.f a2 a3 = some r) (hS : St B w (O_kernel_Kernel hf a2 b1 :: l) hf) :
    Calls prog 7 #[pV b1, .agg (C_api_Pick a3).toArray] w (Ret fun v w => ∃ hf_ : Hp, Sub hf hf_ ∧ v = iV r.1 ∧ St B w (O_kernel_Kernel hf_ r.2 b1 :: l) hf_) := by
  have h := Holds.of h
  refine en func7 rfl ntmps7 rfl (sr (rr [0, 0] hS ?_))
  refine fun b142 => it fun w hS => ln (RC.seq (RC.block (sr (pn 1 rfl (cF (fun _ hg => kernel_Kernel_none.ok hg hS.p1) call21 h rfl rfl rfl ?_)))))
  rintro _ h _ w ⟨rfl, hS⟩
  refine pn 1 rfl (ln (jf (sr (r0 3 rfl ?_))))
  obtain ⟨A172, c173, A175, c176, A178, c179, A181, c182, bs183, A185, c186, bs187, b189, A190, c191, hr174, hr177, hr180, hS⟩ := O_kernel_Kernel.o hS
  have hl184 := hS.p2.sepLen
  have hl188 := hS.p4.sepLen
  refine rr [1, 0, 0] hS ?_
  refine it fun w hS => ln ?_
  refine RC.iteN 10 rfl h (fun hc192 h => ?_) fun hc192 h => ?_
  next =>
   refine jf (RC.skip (RQ.inB_n (RQ.then_n (RC.seq (dk [0, 6, 10, 5, 14, 15, 18, 21, 26, 29] [8, 9] hS (fun w hS => hS.d0.d0.d0.d0.d0.d0.d0) fun w hS => rq [0, 0, 1] hS.d0.d0.d0.d0.d0.d0.d0 ?_)))))
   refine it ?_
   have hS := O_kernel_Kernel.c (x := a2) hr174 hr177 hr180 hS
   obtain ⟨t214, hg215, h⟩ := h.bind
   have hc := kernel_Kernel_picks.ok hg215 hS
   refine RP.e 1 rfl (OW.callF (ls := [.tmp 17]) rfl call22 hc) rfl rfl ?_
   rintro _ w ⟨b216, rfl, hS⟩
   refine ⟨kp ⟨fun _ => hS.d0.d0, trivial⟩, ?_⟩
   by_cases hc217 : a3.What = 0
   case pos =>
    have h := h.pos hc217
    refine RP.v1 4 rfl (Vl.lookupC (n' := 0) (j := 0) (v := .func (.func 37) #[pV b1] #[]) 0 hS rfl underlying75 underlying3 rfl rfl hc217 rfl) rfl rfl (rq [0, 0, 0, 0, 0] hS.d0.d0 ?_)
    refine it (RP.nil (RQ.then_n (RC.seq (sr (pn 2 rfl (ln (jfs (sr (rr [0, 3] hS ?_)))))))))
    refine it fun w hS => ?_
    obtain ⟨t218, hg219, h⟩ := h.bind
    have hc := kernel_Kernel_step.ok hg219 hS.p1
    refine RL.e (OW.call (ls := [.tmp 27]) rfl rfl call37 rfl hc) rfl rfl ?_
    rintro _ w ⟨rfl, hS⟩
    refine pn 1 rfl (lr ?_)
    cases h.some
    exact rt results7 rfl ⟨_, (Sub.refl _), rfl, hS.d1.d1⟩
   have h := h.neg hc217
   by_cases hc220 : a3.What = 1
   case pos =>
    have h := h.pos hc220
    refine RP.v1 4 rfl (Vl.lookupC (n' := 1) (j := 1) (v := .func (.func 38) #[pV b1] #[]) 0 hS rfl underlying75 underlying3 rfl rfl hc220 rfl) rfl rfl (rq [0, 0, 0, 0, 0] hS.d0.d0 ?_)
    refine it (RP.nil (RQ.then_n (RC.seq (sr (pn 2 rfl (ln (jfs (sr (rr [0, 3] hS ?_)))))))))
    refine it fun w hS => ?_
    obtain ⟨t221, hg222, h⟩ := h.bind
    have hc := kernel_Kernel_deliver.ok hg222 hS.p1
    refine RL.e (OW.call (ls := [.tmp 27]) rfl rfl call38 rfl hc) rfl rfl ?_
    rintro _ w ⟨rfl, hS⟩
    refine pn 1 rfl (lr ?_)
    cases h.some
    exact rt results7 rfl ⟨_, (Sub.refl _), rfl, hS.d1.d1⟩
   have h := h.neg hc220
   by_cases hc223 : a3.What = 2
   case pos =>
    have h := h.pos hc223
    refine RP.v1 4 rfl (Vl.lookupC (n' := 2) (j := 2) (v := .func (.func 39) #[pV b1] #[]) 0 hS rfl underlying75 underlying3 rfl rfl hc223 rfl) rfl rfl (rq [0, 0, 0, 0, 0] hS.d0.d0 ?_)
    refine it (RP.nil (RQ.then_n (RC.seq (sr (pn 2 rfl (ln (jfs (sr (rr [0, 3] hS ?_)))))))))
    refine it fun w hS => ?_
    obtain ⟨t224, hg225, h⟩ := h.bind
    have hc := kernel_Kernel_visit.ok hG0 hg225 hS.p1
    obtain ⟨y226, y227⟩ := t224
    refine RL.e (OW.call (ls := [.tmp 27]) rfl rfl call39 rfl hc) rfl rfl ?_
    rintro _ w ⟨hf, hs228, rfl, hS⟩
    refine pn 1 rfl (lr ?_)
    cases h.some
    exact rt results7 rfl ⟨_, hs228, rfl, hS.d1.d1⟩
   have h := h.neg hc223
   by_cases hc229 : a3.What = 3
   case pos =>
    have h := h.pos hc229
    refine RP.v1 4 rfl (Vl.lookupC (n' := 3) (j := 3) (v := .func (.func 40) #[pV b1] #[]) 0 hS rfl underlying75 underlying3 rfl rfl hc229 rfl) rfl rfl (rq [0, 0, 0, 0, 0] hS.d0.d0 ?_)
    refine it (RP.nil (RQ.then_n (RC.seq (sr (pn 2 rfl (ln (jfs (sr (rr [0, 3] hS ?_)))))))))
    refine it fun w hS => ?_
    obtain ⟨t230, hg231, h⟩ := h.bind
    have hc := kernel_Kernel_promise.ok hg231 hS.p1
    refine RL.e (OW.call (ls := [.tmp 27]) rfl rfl call40 rfl hc) rfl rfl ?_
    rintro _ w ⟨rfl, hS⟩
    refine pn 1 rfl (lr ?_)
    cases h.some
    exact rt results7 rfl ⟨_, (Sub.refl _), rfl, hS.d1.d1⟩
   have h := h.neg hc229
   by_cases hc232 : a3.What = 4
   case pos =>
    have h := h.pos hc232
    refine RP.v1 4 rfl (Vl.lookupC (n' := 4) (j := 4) (v := .func (.func 41) #[pV b1] #[]) 0 hS rfl underlying75 underlying3 rfl rfl hc232 rfl) rfl rfl (rq [0, 0, 0, 0, 0] hS.d0.d0 ?_)
    refine it (RP.nil (RQ.then_n (RC.seq (sr (pn 2 rfl (ln (jfs (sr (rr [0, 3] hS ?_)))))))))
    refine it fun w hS => ?_
    obtain ⟨t233, hg234, h⟩ := h.bind
    have hc := kernel_Kernel_round.ok hg234 hS.p1
    obtain ⟨y235, y236⟩ := t233
    refine RL.e (OW.call (ls := [.tmp 27]) rfl rfl call41 rfl hc) rfl rfl ?_
    rintro _ w ⟨rfl, hS⟩
    refine pn 1 rfl (lr ?_)
    cases h.some
    exact rt results7 rfl ⟨_, (Sub.refl _), rfl, hS.d1.d1⟩
   have h := h.neg hc232
   by_cases hc237 : a3.What = 10
   case pos =>
    have h := h.pos hc237
    refine RP.v1 4 rfl (Vl.lookupC (n' := 10) (j := 5) (v := .func (.func 42) #[pV b1] #[]) 0 hS rfl underlying75 underlying3 rfl rfl hc237 rfl) rfl rfl (rq [0, 0, 0, 0, 0] hS.d0.d0 ?_)
    refine it (RP.nil (RQ.then_n (RC.seq (sr (pn 2 rfl (ln (jfs (sr (rr [0, 3] hS ?_)))))))))
    refine it fun w hS => ?_
    obtain ⟨t238, hg239, h⟩ := h.bind
    have hc := kernel_Kernel_widen.ok hg239 hS.p1
    obtain ⟨y240, y241⟩ := t238
    refine RL.e (OW.call (ls := [.tmp 27]) rfl rfl call42 rfl hc) rfl rfl ?_
    rintro _ w ⟨rfl, hS⟩
    refine pn 1 rfl (lr ?_)
    cases h.some
    exact rt results7 rfl ⟨_, (Sub.refl _), rfl, hS.d1.d1⟩
   have h := h.neg hc237
   by_cases hc242 : a3.What = 5
   case pos =>
    have h := h.pos hc242
    refine RP.v1 4 rfl (Vl.lookupC (n' := 5) (j := 6) (v := .func (.func 43) #[pV b1] #[]) 0 hS rfl underlying75 underlying3 rfl rfl hc242 rfl) rfl rfl (rq [0, 0, 0, 0, 0] hS.d0.d0 ?_)
    refine it (RP.nil (RQ.then_n (RC.seq (sr (pn 2 rfl (ln (jfs (sr (rr [0, 3] hS ?_)))))))))
    refine it fun w hS => ?_
    obtain ⟨t243, hg244, h⟩ := h.bind
    have hc := kernel_Kernel_set.ok hg244 hS.p1
    obtain ⟨y245, y246⟩ := t243
    refine RL.e (OW.call (ls := [.tmp 27]) rfl rfl call43 rfl hc) rfl rfl ?_
    rintro _ w ⟨hf, hs247, rfl, hS⟩
    refine pn 1 rfl (lr ?_)
    cases h.some
    exact rt results7 rfl ⟨_, hs247, rfl, hS.d1.d1⟩
   have h := h.neg hc242
   by_cases hc248 : a3.What = 6
   case pos =>
    have h := h.pos hc248
    refine RP.v1 4 rfl (Vl.lookupC (n' := 6) (j := 7) (v := .func (.func 43) #[pV b1] #[]) 0 hS rfl underlying75 underlying3 rfl rfl hc248 rfl) rfl rfl (rq [0, 0, 0, 0, 0] hS.d0.d0 ?_)
    refine it (RP.nil (RQ.then_n (RC.seq (sr (pn 2 rfl (ln (jfs (sr (rr [0, 3] hS ?_)))))))))
    refine it fun w hS => ?_
    obtain ⟨t249, hg250, h⟩ := h.bind
    have hc := kernel_Kernel_set.ok hg250 hS.p1
    obtain ⟨y251, y252⟩ := t249
    refine RL.e (OW.call (ls := [.tmp 27]) rfl rfl call43 rfl hc) rfl rfl ?_
    rintro _ w ⟨hf, hs253, rfl, hS⟩
    refine pn 1 rfl (lr ?_)
    cases h.some
    exact rt results7 rfl ⟨_, hs253, rfl, hS.d1.d1⟩
   have h := h.neg hc248
   by_cases hc254 : a3.What = 7
   case pos =>
    have h := h.pos hc254
    refine RP.v1 4 rfl (Vl.lookupC (n' := 7) (j := 8) (v := .func (.func 43) #[pV b1] #[]) 0 hS rfl underlying75 underlying3 rfl rfl hc254 rfl) rfl rfl (rq [0, 0, 0, 0, 0] hS.d0.d0 ?_)
    refine it (RP.nil (RQ.then_n (RC.seq (sr (pn 2 rfl (ln (jfs (sr (rr [0, 3] hS ?_)))))))))
    refine it fun w hS => ?_
    obtain ⟨t255, hg256, h⟩ := h.bind
    have hc := kernel_Kernel_set.ok hg256 hS.p1
    obtain ⟨y257, y258⟩ := t255
    refine RL.e (OW.call (ls := [.tmp 27]) rfl rfl call43 rfl hc) rfl rfl ?_
    rintro _ w ⟨hf, hs259, rfl, hS⟩
    refine pn 1 rfl (lr ?_)
    cases h.some
    exact rt results7 rfl ⟨_, hs259, rfl, hS.d1.d1⟩
   have h := h.neg hc254
   by_cases hc260 : a3.What = 8
   case pos =>
    have h := h.pos hc260
    refine RP.v1 4 rfl (Vl.lookupC (n' := 8) (j := 9) (v := .func (.func 43) #[pV b1] #[]) 0 hS rfl underlying75 underlying3 rfl rfl hc260 rfl) rfl rfl (rq [0, 0, 0, 0, 0] hS.d0.d0 ?_)
    refine it (RP.nil (RQ.then_n (RC.seq (sr (pn 2 rfl (ln (jfs (sr (rr [0, 3] hS ?_)))))))))
    refine it fun w hS => ?_
    obtain ⟨t261, hg262, h⟩ := h.bind
    have hc := kernel_Kernel_set.ok hg262 hS.p1
    obtain ⟨y263, y264⟩ := t261
    refine RL.e (OW.call (ls := [.tmp 27]) rfl rfl call43 rfl hc) rfl rfl ?_
    rintro _ w ⟨hf, hs265, rfl, hS⟩
    refine pn 1 rfl (lr ?_)
    cases h.some
    exact rt results7 rfl ⟨_, hs265, rfl, hS.d1.d1⟩
   have h := h.neg hc260
   by_cases hc266 : a3.What = 9
   case pos =>
    have h := h.pos hc266
    refine RP.v1 4 rfl (Vl.lookupC (n' := 9) (j := 10) (v := .func (.func 43) #[pV b1] #[]) 0 hS rfl underlying75 underlying3 rfl rfl hc266 rfl) rfl rfl (rq [0, 0, 0, 0, 0] hS.d0.d0 ?_)
    refine it (RP.nil (RQ.then_n (RC.seq (sr (pn 2 rfl (ln (jfs (sr (rr [0, 3] hS ?_)))))))))
    refine it fun w hS => ?_
    obtain ⟨t267, hg268, h⟩ := h.bind
    have hc := kernel_Kernel_set.ok hg268 hS.p1
    obtain ⟨y269, y270⟩ := t267
    refine RL.e (OW.call (ls := [.tmp 27]) rfl rfl call43 rfl hc) rfl rfl ?_
    rintro _ w ⟨hf, hs271, rfl, hS⟩
    refine pn 1 rfl (lr ?_)
    cases h.some
    exact rt results7 rfl ⟨_, hs271, rfl, hS.d1.d1⟩
   have h := h.neg hc266
   by_cases hc272 : a3.What = 11
   case pos =>
    have h := h.pos hc272
    refine RP.v1 4 rfl (Vl.lookupC (n' := 11) (j := 11) (v := .func (.func 43) #[pV b1] #[]) 0 hS rfl underlying75 underlying3 rfl rfl hc272 rfl) rfl rfl (rq [0, 0, 0, 0, 0] hS.d0.d0 ?_)
    refine it (RP.nil (RQ.then_n (RC.seq (sr (pn 2 rfl (ln (jfs (sr (rr [0, 3] hS ?_)))))))))
    refine it fun w hS => ?_
    obtain ⟨t273, hg274, h⟩ := h.bind
    have hc := kernel_Kernel_set.ok hg274 hS.p1
    obtain ⟨y275, y276⟩ := t273
    refine RL.e (OW.call (ls := [.tmp 27]) rfl rfl call43 rfl hc) rfl rfl ?_
    rintro _ w ⟨hf, hs277, rfl, hS⟩
    refine pn 1 rfl (lr ?_)
    cases h.some
    exact rt results7 rfl ⟨_, hs277, rfl, hS.d1.d1⟩
   have h := h.neg hc272
   refine RP.v1 4 rfl (Vl.lookupN 0 hS rfl underlying75 underlying3 zeroValue38 rfl rfl ⟨⟨_, rfl, hc217⟩, ⟨_, rfl, hc220⟩, ⟨_, rfl, hc223⟩, ⟨_, rfl, hc229⟩, ⟨_, rfl, hc232⟩, ⟨_, rfl, hc237⟩, ⟨_, rfl, hc242⟩, ⟨_, rfl, hc248⟩, ⟨_, rfl, hc254⟩, ⟨_, rfl, hc260⟩, ⟨_, rfl, hc266⟩, ⟨_, rfl, hc272⟩, trivial⟩) rfl rfl (rq [0, 0, 0, 0, 0] hS.d0.d0 ?_)
   refine it (RP.nil (RQ.then_n (RC.seq (sr (pn 2 rfl (ln (jtr (pn 1 rfl (ln ?_)))))))))
   refine RC.ret (RQ.ret ?_)
   cases h.some
   exact rt results7 rfl ⟨_, (Sub.refl _), rfl, hS.d0.d1⟩
  refine jtr (pn 1 rfl (lr (ir ?_)))
  have hS := O_kernel_Kernel.c (x := a2) hr174 hr177 hr180 hS
  cases h.some
  exact rt results7 rfl ⟨_, (Sub.refl _), rfl, hS.d1⟩
def kernel_Kernel_Stop.f (a2 : kernel_Kernel) : Option (Int) := ((kernel_Kernel_none.f a2).bind fun _ => some a2.stop)
theorem kernel_Kernel_Stop.ok {a2 : kernel_Kernel} {b1 : Nat} {r : Int} (h : kernel_Kernel_Stop.f a2 = some r) (hS : St B w (O_kernel_Kernel hf a2 b1 :: l) hf) :
    Calls prog 18 #[pV b1] w (Ret fun v w => v = iV r ∧ St B w (O_kernel_Kernel hf a2 b1 :: l) hf) := by
  have h := Holds.of h
  refine en func18 rfl ntmps18 rfl (sr (pn 1 rfl (ln (RC.seq (sr (pn 1 rfl (cF (fun _ hg => kernel_Kernel_none.ok hg hS) call21 h rfl rfl rfl ?_)))))))
  rintro _ h _ w ⟨rfl, hS⟩
  refine ln (jfs (sr (r0 3 rfl ?_)))
  obtain ⟨A31, c32, A34, c35, A37, c38, A40, c41, bs42, A44, c45, bs46, b48, A49, c50, hr33, hr36, hr39, hS⟩ := O_kernel_Kernel.o hS
  have hl43 := hS.p2.sepLen
  have hl47 := hS.p4.sepLen
  refine rr [1, 0] hS ?_
  refine it fun w hS => lr ?_
  have hS := O_kernel_Kernel.c (x := a2) hr33 hr36 hr39 hS
  cases h.some
  exact rt results18 rfl ⟨rfl, hS⟩
def isochronlaw18vawake.f  : Option (Bool) := ((kernel_New.f (⟨[([] : List api_Instr)], [], [], 0, 0, 0⟩ : api_Model) (⟨1, 1, 1⟩ : api_Caps)).bind fun t54 => match t54 with | .inl y56 => some false | .inr ((y57, y58)) => (if y58 = 0 then ((kernel_Kernel_Do.f y57 (⟨2, 0, 0⟩ : api_Pick)).bind fun (y65, y66) => ((kernel_Kernel_Do.f y66 (⟨2, 0, 0⟩ : api_Pick)).bind fun (y70, y71) => ((kernel_Kernel_Stop.f y71).bind fun t73 => some (decide (t73 = 1))))) else some false))
theorem isochronlaw18vawake.ok (hG0 : GlobAt hf 0 (.iface 192 (.agg #[.pointer (some ⟨1, 85, none⟩)]))) {r : Bool} (h : isochronlaw18vawake.f = some r) (hS : St B w (l) hf) :
    Calls prog 5 #[] w (Ret fun v w => v = .bool r ∧ St B w (l) hf) := by
  have h := Holds.of h
  refine en func5 rfl ntmps5 rfl (sr (pn 1 rfl (lnsr ?_)))
  have hx51 : RepL (Rep.sl E_api_Instr.rep) hf [.slice none 0 0] [([] : List api_Instr)] := (RepL.cons (c := [.slice none 0 0]) (r := []) ⟨none, 0, rfl, SlR.nil⟩ RepL.nil)
  refine RL.e (OW.buildSliceR (sz := 1) (cs := [.slice none 0 0]) hS underlying22 zeroValue89 sizeOf89 (parts := [(0, .const (.slice none 0 0))]) rfl rfl (by decide) (by decide) (by kernel_rfl)) rfl rfl ?_
  rintro _ w ⟨b50, rfl, hS⟩
  refine r0 2 rfl ?_
  obtain ⟨hf, hs52, hS, hr53⟩ := St.promoteR (Rep.sl_ok E_api_Instr.rep) hS rfl hx51
  obtain ⟨t54, hg55, h⟩ := h.bind
  have hc := kernel_New.ok (a1 := (⟨[([] : List api_Instr)], [], [], 0, 0, 0⟩ : api_Model)) hr53 (SlR.nil (A := none) (c := 0)) (SlR.nil (A := none) (c := 0)) (hG0.mono hs52) hg55 hS
  rcases t54 with y56 | ⟨y57, y58⟩
  · refine RL.e (OW.callF (ls := [.tmp 5, .tmp 6]) rfl call4 hc) rfl rfl ?_
    rintro _ w ⟨rfl, hS⟩
    refine pn 5 rfl (ln (RC.seq (sr (pn 1 rfl (RL.s (Vl.bn true rfl rfl) rfl (pn 4 rfl (ln (jtr (pn 1 rfl (RL.nil ?_))))))))))
    refine tr (RQ.ret ?_)
    obtain rfl := h.some
    exact rt results5 rfl ⟨rfl, (hS).down hs52⟩
  refine RL.e (OW.callF (ls := [.tmp 5, .tmp 6]) rfl call4 hc) rfl rfl ?_
  rintro _ w ⟨hf, hs60, b59, rfl, hS⟩
  refine pn 5 rfl (ln (RC.seq (sr (pn 1 rfl (RL.s (Vl.bn false rfl rfl) rfl (pn 4 rfl (ln ?_)))))))
  refine RC.iteN 15 rfl h (fun hc62 h => ?_) fun hc62 h => ?_
  next =>
   refine jfs (sr (r0 2 rfl (cF (fun _ hg => kernel_Kernel_Do.ok ((hG0.mono hs52).mono hs60) hg hS) call7 h rfl rfl rfl ?_)))
   rintro ⟨y65, y66⟩ h _ w ⟨hf, hs67, rfl, hS⟩
   refine lnsr (r0 2 rfl (cF (fun _ hg => kernel_Kernel_Do.ok (((hG0.mono hs52).mono hs60).mono hs67) hg hS) call7 h rfl rfl rfl ?_))
   rintro ⟨y70, y71⟩ h _ w ⟨hf, hs72, rfl, hS⟩
   refine lnsr (pn 1 rfl (cF (fun _ hg => kernel_Kernel_Stop.ok hg hS) call18 h rfl rfl rfl ?_))
   rintro t73 h _ w ⟨rfl, hS⟩
   refine pn 2 rfl (lr ?_)
   cases h.some
   exact rt results5 rfl ⟨rfl, (hS.d0).down (((hs52.trans hs60).trans hs67).trans hs72)⟩
  refine jtr (pn 1 rfl (lr (RQ.ret ?_)))
  obtain rfl := h.some
  exact rt results5 rfl ⟨rfl, (hS.d0).down (hs52.trans hs60)⟩
def kernel_Kernel_none_2.f (a2 : List (List api_Instr)) (a6 : List api_Link) (a10 : List api_Start) (a14 a15 a16 : Int) (a21 : List kernel_place) (a26 : List link_Way) (a28 : colour_Token) (a29 a30 a31 : Int) (a34 : List api_Done) (a35 : Int) : Option (Unit) := some ()
theorem kernel_Kernel_none_2.ok {a2 : List (List api_Instr)} {a6 : List api_Link} {a10 : List api_Start} {a14 a15 a16 a29 a30 a31 a35 : Int} {a21 : List kernel_place} {a26 : List link_Way} {a28 : colour_Token} {a34 : List api_Done} {b1 c4 c8 c12 c18 c23 b27 c33 : Nat} {A3 A7 A11 A17 A22 A32 : Option Addr} {bs19 bs24 : List Nat} (hr5 : SlR (Rep.sl E_api_Instr.rep) hf A3 c4 a2) (hr9 : SlR E_api_Link.rep hf A7 c8 a6) (hr13 : SlR E_api_Start.rep hf A11 c12 a10) (hl20 : a21.length = bs19.length) (hl25 : a26.length = bs24.length) {r : Unit} (h : kernel_Kernel_none_2.f a2 a6 a10 a14 a15 a16 a21 a26 a28 a29 a30 a31 a34 a35 = some r) (hS : St B w (O_colour_Token hf a28 b27 :: Cl b1 [sV A3 a2 c4, sV A7 a6 c8, sV A11 a10 c12, .int .u64 a14, iV a15, iV a16, sV A17 bs19 c18, sV A22 bs24 c23, pV b27, iV a29, iV a30, iV a31, sV A32 a34 c33, iV a35] 48 :: OSf FP 53 (sV A17 bs19 c18) bs19 :: SepL (O_kernel_place hf) a21 bs19 :: OSf FP 66 (sV A22 bs24 c23) bs24 :: SepL (O_link_Way hf) a26 bs24 :: OSf E_api_Done 251 (sV A32 a34 c33) a34 :: l) hf) :
    Calls prog 21 #[pV b1] w (Ret fun v w => v = .bool false ∧ St B w (O_colour_Token hf a28 b27 :: Cl b1 [sV A3 a2 c4, sV A7 a6 c8, sV A11 a10 c12, .int .u64 a14, iV a15, iV a16, sV A17 bs19 c18, sV A22 bs24 c23, pV b27, iV a29, iV a30, iV a31, sV A32 a34 c33, iV a35] 48 :: OSf FP 53 (sV A17 bs19 c18) bs19 :: SepL (O_kernel_place hf) a21 bs19 :: OSf FP 66 (sV A22 bs24 c23) bs24 :: SepL (O_link_Way hf) a26 bs24 :: OSf E_api_Done 251 (sV A32 a34 c33) a34 :: l) hf) := by
  have h := Holds.of h
  refine en func21 rfl ntmps21 rfl (sr (pn 1 rfl (lnsr (pn 1 rfl (RL.s (Vl.bn false rfl rfl) rfl (rr [0, 0, 0, 0, 2] hS ?_))))))
  refine it fun w hS => RL.sg (Vl.bn false rfl rfl) rfl rfl (pn 2 rfl (lr ?_))
  exact rt results21 rfl ⟨rfl, hS⟩
def kernel_Kernel_of.f (a2 : List (List api_Instr)) (a6 : List api_Link) (a10 : List api_Start) (a14 a15 a16 : Int) (a21 : List kernel_place) (a26 : List link_Way) (a28 : colour_Token) (a29 a30 a31 : Int) (a34 : List api_Done) (a35 a36 : Int) : Option (Int) := ((kernel_Kernel_none_2.f a2 a6 a10 a14 a15 a16 a21 a26 a28 a29 a30 a31 a34 a35).bind fun _ => (if a36 < 0 then none else (if (a21.length : Int) ≤ a36 then none else (if 0 ≤ a36 ∧ a36 < (a21.length : Int) then some a36 else none))))
theorem kernel_Kernel_of.ok {a2 : List (List api_Instr)} {a6 : List api_Link} {a10 : List api_Start} {a14 a15 a16 a29 a30 a31 a35 a36 : Int} {a21 : List kernel_place} {a26 : List link_Way} {a28 : colour_Token} {a34 : List api_Done} {b1 c4 c8 c12 c18 c23 b27 c33 : Nat} {A3 A7 A11 A17 A22 A32 : Option Addr} {bs19 bs24 : List Nat} (hr5 : SlR (Rep.sl E_api_Instr.rep) hf A3 c4 a2) (hr9 : SlR E_api_Link.rep hf A7 c8 a6) (hr13 : SlR E_api_Start.rep hf A11 c12 a10) (hl20 : a21.length = bs19.length) (hl25 : a26.length = bs24.length) {r : Int} (h : kernel_Kernel_of.f a2 a6 a10 a14 a15 a16 a21 a26 a28 a29 a30 a31 a34 a35 a36 = some r) (hS : St B w (O_colour_Token hf a28 b27 :: Cl b1 [sV A3 a2 c4, sV A7 a6 c8, sV A11 a10 c12, .int .u64 a14, iV a15, iV a16, sV A17 bs19 c18, sV A22 bs24 c23, pV b27, iV a29, iV a30, iV a31, sV A32 a34 c33, iV a35] 48 :: OSf FP 53 (sV A17 bs19 c18) bs19 :: SepL (O_kernel_place hf) a21 bs19 :: OSf FP 66 (sV A22 bs24 c23) bs24 :: SepL (O_link_Way hf) a26 bs24 :: OSf E_api_Done 251 (sV A32 a34 c33) a34 :: l) hf) :
    Calls prog 19 #[pV b1, iV a36] w (Ret fun v w => v = .pointer (some ⟨nth bs19 r, 0, none⟩) ∧ St B w (O_colour_Token hf a28 b27 :: Cl b1 [sV A3 a2 c4, sV A7 a6 c8, sV A11 a10 c12, .int .u64 a14, iV a15, iV a16, sV A17 bs19 c18, sV A22 bs24 c23, pV b27, iV a29, iV a30, iV a31, sV A32 a34 c33, iV a35] 48 :: OSf FP 53 (sV A17 bs19 c18) bs19 :: SepL (O_kernel_place hf) a21 bs19 :: OSf FP 66 (sV A22 bs24 c23) bs24 :: SepL (O_link_Way hf) a26 bs24 :: OSf E_api_Done 251 (sV A32 a34 c33) a34 :: l) hf ∧ 0 ≤ r ∧ r < (a21.length : Int)) := by
  have h := Holds.of h
  refine en func19 rfl ntmps19 rfl (sr (pn 1 rfl (ln (RC.seq (sr (pn 1 rfl (cF (fun _ hg => kernel_Kernel_none_2.ok hr5 hr9 hr13 hl20 hl25 hg hS) call21 h rfl rfl rfl ?_)))))))
  rintro _ h _ w ⟨rfl, hS⟩
  refine pn 5 rfl ?_
  refine RL.iteP 11 rfl h (fun hc59 h => ?_) fun hc59 h => ?_
  next =>
   refine pn 8 rfl (ln (jtr (rr [0, 0, 0] hS ?_)))
   refine fun b60 => it fun w hS => lr (RQ.ret ?_)
   exact h.none
  refine rr [0, 0, 0, 0, 2] hS ?_
  refine it fun w hS => RL.sg (Vl.lenO hl20 underlying43 rfl) rfl rfl (pn 2 rfl (ln ?_))
  refine RC.iteP 19 rfl h (fun hc61 h => ?_) fun hc61 h => ?_
  next =>
   refine jtr (rr [0, 0, 0] hS ?_)
   refine fun b62 => it fun w hS => lr (RQ.ret ?_)
   exact h.none
  refine jfs (sr (rr [0, 0, 0, 2, 0] hS ?_))
  refine it fun w hS => ?_
  obtain ⟨⟨hq63, hq64⟩, h⟩ := h.req
  refine RL.s (Vl.indexOwn 2 hS rfl underlying43 sizeOf53 rfl rfl hq63 (lt_len hl20 hq64)) rfl (RL.s (Vl.load isAgg53 rfl ((hS.slW 2 rfl).2.2.cell (j := 0) hq63 (lt_len hl20 hq64) rfl)) rfl (pn 1 rfl (lr ?_)))
  obtain rfl := h.some
  exact rt results19 rfl ⟨rfl, hS, hq63, hq64⟩
end
end Go.Proofs.Gx
