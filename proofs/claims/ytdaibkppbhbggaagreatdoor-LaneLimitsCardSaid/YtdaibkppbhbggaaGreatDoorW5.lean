/-
  The walks of functions, each with what it computes: printed by wip/gx.py.
-/
import Derived.Test.YtdaibkppbhbggaaGreatDoorW4
set_option linter.unusedVariables false
set_option linter.unusedSimpArgs false
set_option maxRecDepth 100000
set_option maxHeartbeats 4000000
namespace Go.Proofs.Gx
open Go.Sl Tryz
variable {B : Base} {w : World} {l : List HProp} {hf : Hp}
noncomputable section
def heap_pile_api_Message_cut.j2 (a4 : List api_Message) (a5 : Int) (l68 : List api_Message) : Option (api_Message × List api_Message) := some (nth a4 a5, l68)
def heap_pile_api_Message_cut.f (a4 : List api_Message) (a5 : Int) : Option (api_Message × List api_Message) := (if 0 ≤ a5 ∧ a5 < (a4.length : Int) then (if 0 ≤ IntKind.i64.wrap ((a4.length : Int) - 1) ∧ IntKind.i64.wrap ((a4.length : Int) - 1) < (a4.length : Int) then (if IntKind.i64.wrap ((a4.length : Int) - 1) ≤ ((setL a4 a5 (nth a4 (IntKind.i64.wrap ((a4.length : Int) - 1)))).length : Int) then (if a5 < IntKind.i64.wrap ((a4.length : Int) - 1) then ((heap_pile_api_Message_down.f (subL (setL a4 a5 (nth a4 (IntKind.i64.wrap ((a4.length : Int) - 1)))) 0 (IntKind.i64.wrap ((a4.length : Int) - 1))) a5).bind fun t72 => ((heap_pile_api_Message_up.f t72 a5).bind fun t76 => heap_pile_api_Message_cut.j2 a4 a5 t76)) else heap_pile_api_Message_cut.j2 a4 a5 (subL (setL a4 a5 (nth a4 (IntKind.i64.wrap ((a4.length : Int) - 1)))) 0 (IntKind.i64.wrap ((a4.length : Int) - 1)))) else none) else none) else none)
theorem heap_pile_api_Message_cut.ok {a4 : List api_Message} {a5 : Int} {b1 : Nat} {A2 : Option Addr} {c3 : Nat} {r : api_Message × List api_Message} (h : heap_pile_api_Message_cut.f a4 a5 = some r) (hS : St B w (Cl b1 [.slice A2 a4.length c3, .func (.func 62) #[] #[]] 245 :: OSf E_api_Message 48 (.slice A2 a4.length c3) a4 :: l) hf) :
    Calls prog 200 #[.pointer (some ⟨b1, 0, none⟩), .int .i64 a5] w (Ret fun v w => ∃ (A_1 : Option Addr) (c_2 : Nat), v = .agg (C_api_Message r.1).toArray ∧ St B w (OSf E_api_Message 48 (.slice A_1 r.2.length c_2) r.2 :: Cl b1 [.slice A_1 r.2.length c_2, .func (.func 62) #[] #[]] 245 :: l) hf) := by
  have h := Holds.of h
  refine en func200 rfl ntmps200 rfl (sr (al hS zeroValue48 rfl rfl rfl fun b44 w hS => ln (RC.seq (RC.planS (plD [0, 3, 6, 10, 12, 16, 19, 21, 24, 27, 31, 33, 36, 41, 44, 47]) [15] hS (fun w hS => hS) follows rfl (by kernel_rfl) (NoTmp.then NoTmp.body) fun w hS => pp 2 rfl (RP.s0 2 rfl (fun w => Vl.fa 0 underlying243 rfl sizeOf39 rfl rfl) rfl (RP.s 0 3 rfl rfl hS (fun w hS => Vl.ld 1 hS isAgg39 rfl rfl rfl) rfl (pp 1 rfl ?_)))))))
  obtain ⟨⟨hq48, hq49⟩, h⟩ := h.req
  refine RP.s 0 5 rfl rfl hS (fun w hS => Vl.indexOwn 2 hS rfl underlying39 sizeOf48 rfl rfl hq48 hq49) rfl (RP.s 0 6 rfl rfl hS (fun w hS => Vl.loadA isAgg48 sizeOf48 rfl rfl ((hS.slW 2 rfl).2.2.cells hq48 hq49)) rfl (pp 2 rfl (RP.s0 9 rfl (fun w => Vl.fa 0 underlying243 rfl sizeOf39 rfl rfl) rfl (RP.s 0 10 rfl rfl hS (fun w hS => Vl.ld 1 hS isAgg39 rfl rfl rfl) rfl (RP.s0 11 rfl (fun w => Vl.lenSl underlying39 rfl) rfl (pp 1 rfl (RP.e 13 rfl (OW.alloc (cs := [.int .i64 0, .int .i64 0, .int .i64 0, .int .i64 0, .int .i64 0, .int .i64 0, .bool false]) hS zeroValue48 rfl) rfl rfl ?_)))))))
  rintro _ w ⟨b50, rfl, hS⟩
  refine ⟨kp ⟨fun _ => hS.d0, trivial⟩, ?_⟩
  refine RP.e0 14 rfl (OW.store (vs := (C_api_Message (nth a4 a5))) 0 hS rfl rfl rfl rfl sizeOf48 rfl rfl rfl rfl) rfl ?_
  rintro _ w ⟨rfl, hS⟩
  have hS : St B w (Cl _ [_, _, _, _, _, _, _] _ :: _ :: _ :: _ :: l) hf := hS
  refine ⟨kp ⟨fun _ => hS.d0, trivial⟩, ?_⟩
  refine RP.v1 15 rfl (Vl.assign rfl) rfl rfl (RP.nil (RQ.then_n (RC.seq (RC.planS (plD [0, 3, 6, 10, 12, 15, 18, 21, 25, 29, 32, 35, 38, 41]) [12, 13] hS (fun w hS => hS) follows rfl (by kernel_rfl) (NoTmp.then NoTmp.body) fun w hS => pp 2 rfl (RP.s0 2 rfl (fun w => Vl.fa 0 underlying243 rfl sizeOf39 rfl rfl) rfl (RP.s 0 3 rfl rfl hS (fun w hS => Vl.ld 2 hS isAgg39 rfl rfl rfl) rfl (pp 3 rfl (RP.s0 7 rfl (fun w => Vl.fa 0 underlying243 rfl sizeOf39 rfl rfl) rfl (RP.s 0 8 rfl rfl hS (fun w hS => Vl.ld 2 hS isAgg39 rfl rfl rfl) rfl (RP.v1 9 rfl (Vl.move rfl) rfl rfl ?_))))))))))
  obtain ⟨⟨hq54, hq55⟩, h⟩ := h.req
  refine RP.v1 10 rfl (Vl.indexOwn 3 hS rfl underlying39 sizeOf48 rfl rfl hq54 hq55) rfl rfl (RP.v1 11 rfl (Vl.loadA isAgg48 sizeOf48 rfl rfl ((hS.slW 3 rfl).2.2.cells hq54 hq55)) rfl rfl (RP.v1 12 rfl (Vl.indexOwn 3 hS rfl underlying39 sizeOf48 rfl rfl hq48 hq49) rfl rfl (RP.e0 13 rfl (OW.storeOwn (E := E_api_Message) (off := 0) (j := a5) (x' := nth a4 (IntKind.i64.wrap ((a4.length : Int) - 1))) (vs := (C_api_Message (nth a4 (IntKind.i64.wrap ((a4.length : Int) - 1))))) 3 hS rfl rfl rfl rfl sizeOf48 rfl (Nat.succ_pos _) hq48 hq49 (Nat.le_of_ble_eq_true rfl) rfl rfl) rfl ?_)))
  rintro _ w ⟨rfl, hS⟩
  have he56 := (hS.osN 3 rfl).1
  have hS : St B w (_ :: _ :: _ :: _ :: l) hf := (congrArg (fun k_ : Nat => St B w (Cl b50 (C_api_Message (nth a4 a5)) 48 :: Cl b44 [.int .i64 0, .int .i64 0, .int .i64 0, .int .i64 0, .int .i64 0, .int .i64 0, .bool false] 48 :: Cl b1 [.slice A2 k_ c3, .func (.func 62) #[] #[]] 245 :: OSf E_api_Message 48 (.slice A2 k_ c3) (setL a4 a5 (nth a4 (IntKind.i64.wrap ((a4.length : Int) - 1)))) :: l) hf) he56).mp hS
  refine ⟨kp ⟨(by intro hx; cases hx), trivial⟩, ?_⟩
  refine RP.re 10 rfl (congrArg (fun k_ : Nat => (.slice A2 k_ c3 : Value)) he56) (RP.re 17 rfl (congrArg (fun k_ : Nat => (.slice A2 k_ c3 : Value)) he56) (RP.re 23 rfl (congrArg (fun k_ : Nat => (.slice A2 k_ c3 : Value)) he56) (RP.re 28 rfl (congrArg (fun k_ : Nat => (.slice A2 k_ c3 : Value)) he56) (RP.nil (tsr (pn 3 rfl (RL.s (Vl.fa 0 underlying243 rfl sizeOf39 rfl rfl) rfl (RL.s (Vl.ld 2 hS isAgg39 rfl rfl rfl) rfl (pn 1 rfl ?_)))))))))
  obtain ⟨hq58, h⟩ := h.req
  refine RL.s (Vl.sliceHO (xs := (setL a4 a5 (nth a4 (IntKind.i64.wrap ((a4.length : Int) - 1))))) 3 hS rfl underlying39 sizeOf48 rfl rfl  hq54 hq58) rfl (pn 1 rfl (RL.s (Vl.fa 0 underlying243 rfl sizeOf39 rfl rfl) rfl ?_))
  have hS : St B w (_ :: _ :: _ :: _ :: l) hf := hS.part0 3 rfl hq54 hq58 rfl
  refine RL.e0 (OW.store (vs := [.slice (subA A2 c3 (0 : Int).toNat 7) (subL (setL a4 a5 (nth a4 (IntKind.i64.wrap ((a4.length : Int) - 1)))) 0 (IntKind.i64.wrap ((a4.length : Int) - 1))).length (c3 - (0 : Int).toNat)]) 2 hS rfl rfl rfl rfl sizeOf39 rfl rfl rfl rfl) rfl ?_
  rintro _ w ⟨rfl, hS⟩
  have hS : St B w (_ :: _ :: Cl _ [_, _] _ :: _ :: l) hf := hS
  refine ln ?_
  refine RC.join (fun (s : List api_Message) a w => ∃ (l68 : List api_Message), s = (l68) ∧ ∃ (A69 : Option Addr) (c70 : Nat), Has 52 [(4, .pointer (some ⟨b44, 0, none⟩)), (5, .pointer (some ⟨b50, 0, none⟩))] a ∧ St B w (OSf E_api_Message 48 (.slice A69 l68.length c70) l68 :: Cl b1 [.slice A69 l68.length c70, .func (.func 62) #[] #[]] 245 :: Cl b50 (C_api_Message (nth a4 a5)) 48 :: Cl b44 [.int .i64 0, .int .i64 0, .int .i64 0, .int .i64 0, .int .i64 0, .int .i64 0, .bool false] 48 :: l) hf ∧ Holds (· = r) (heap_pile_api_Message_cut.j2 a4 a5 l68)) ?_ ?_
  · rintro l68 a w ⟨_, rfl, A69, c70, ha, hS, h⟩
    revert a
    show RC _ _ _ _ _ _
    refine sr (RL.s (Vl.lw 2 hS isAgg48 sizeOf48 rfl rfl rfl) rfl (RL.e0 (OW.store (vs := (C_api_Message (nth a4 a5))) 3 hS rfl rfl rfl rfl sizeOf48 rfl rfl rfl rfl) rfl ?_))
    rintro _ w ⟨rfl, hS⟩
    have hS : St B w (_ :: _ :: _ :: Cl _ [_, _, _, _, _, _, _] _ :: l) hf := hS
    refine lr ?_
    obtain rfl := h.some
    refine RQ.ret0 (vs := [.agg (C_api_Message (nth a4 a5)).toArray]) results200 ⟨⟨_, rfl, run_loadVarA (vs := (C_api_Message (nth a4 a5))) isAgg48 sizeOf48 rfl (hS.cellsAt 3 rfl rfl)⟩, trivial⟩ ?_
    exact ⟨A69, c70, rfl, hS.d2.d2⟩
  refine sr (pn 3 rfl (ln ?_))
  refine RC.iteP 44 rfl h (fun hc71 h => ?_) fun hc71 h => ?_
  next =>
   refine RC.condT rfl (sr (pn 2 rfl (cF (fun _ hg => heap_pile_api_Message_down.ok hg hS.p3.p3) call203 h rfl rfl rfl ?_)))
   rintro t72 h _ w ⟨A74, c75, rfl, hS⟩
   refine ln (RC.region (pn 2 rfl (cF (fun _ hg => heap_pile_api_Message_up.ok hg hS.p1) call204 h rfl rfl rfl ?_)))
   rintro t76 h _ w ⟨A78, c79, rfl, hS⟩
   refine RL.nil ?_
   exact fun a ha => ⟨(t76), t76, rfl, A78, c79, ha.to ⟨rfl, rfl, trivial⟩, hS, h⟩
  refine RC.condF rfl (RC.skip ?_)
  exact fun a ha => ⟨((subL (setL a4 a5 (nth a4 (IntKind.i64.wrap ((a4.length : Int) - 1)))) 0 (IntKind.i64.wrap ((a4.length : Int) - 1)))), (subL (setL a4 a5 (nth a4 (IntKind.i64.wrap ((a4.length : Int) - 1)))) 0 (IntKind.i64.wrap ((a4.length : Int) - 1))), rfl, (subA A2 c3 (0 : Int).toNat 7), (c3 - (0 : Int).toNat), ha.to ⟨rfl, rfl, trivial⟩, hS.p2.p3, h⟩
def heap_Heap_Cut.f (a2 : heap_Heap) (a3 a4 : Int) : Option (api_Message × Int × heap_Heap) := ((heap_Heap_none.f a2).bind fun _ => ((heap_Heap_find.f a2 a3 a4).bind fun t33 => (if t33 < 0 then some ((⟨(⟨0, 0, 0⟩ : api_Key), 0, 0, 0, false⟩ : api_Message), 6, a2) else ((heap_pile_api_Message_cut.f a2.p_l t33).bind fun (y41, y42) => some (y41, 0, (⟨y42⟩ : heap_Heap))))))
theorem heap_Heap_Cut.ok {a2 : heap_Heap} {a3 a4 : Int} {b1 : Nat} {r : api_Message × Int × heap_Heap} (h : heap_Heap_Cut.f a2 a3 a4 = some r) (hS : St B w (O_heap_Heap hf a2 b1 :: l) hf) :
    Calls prog 193 #[.pointer (some ⟨b1, 0, none⟩), .int .i64 a3, .int .i64 a4] w (Ret fun v w => v = .tuple #[.agg (C_api_Message r.1).toArray, .int .i64 r.2.1] ∧ St B w (O_heap_Heap hf r.2.2 b1 :: l) hf) := by
  have h := Holds.of h
  refine en func193 rfl ntmps193 rfl (sr (al hS zeroValue48 rfl rfl rfl fun b26 w hS => pn 1 rfl (ln (RC.seq (sr (pn 1 rfl (cF (fun _ hg => heap_Heap_none.ok hg hS.p1) call198 h rfl rfl rfl ?_)))))))
  rintro _ h _ w ⟨rfl, hS⟩
  refine ln (RC.condF rfl (sk (sr (pn 3 rfl (cF (fun _ hg => heap_Heap_find.ok hg hS) call199 h rfl rfl rfl ?_)))))
  rintro t33 h _ w ⟨rfl, hS⟩
  refine pn 1 rfl (ln (RC.seq (sr (pn 2 rfl (ln ?_)))))
  refine RC.iteP 17 rfl h (fun hc36 h => ?_) fun hc36 h => ?_
  next =>
   refine RC.condT rfl (sr (RL.s (Vl.build (v := .agg #[.int .i64 0, .int .i64 0, .int .i64 0, .int .i64 0, .int .i64 0, .int .i64 0, .bool false]) (parts := []) rfl (by kernel_rfl)) rfl (RL.e0 (OW.store (vs := [.int .i64 0, .int .i64 0, .int .i64 0, .int .i64 0, .int .i64 0, .int .i64 0, .bool false]) 1 hS rfl rfl rfl rfl sizeOf48 rfl rfl rfl rfl) rfl ?_)))
   rintro _ w ⟨rfl, hS⟩
   have hS : St B w (_ :: Cl _ [_, _, _, _, _, _, _] _ :: l) hf := hS
   refine pn 1 rfl (lr (RQ.ret ?_))
   obtain rfl := h.some
   refine RQ.ret0 (vs := [.agg #[.int .i64 0, .int .i64 0, .int .i64 0, .int .i64 0, .int .i64 0, .int .i64 0, .bool false], .int .i64 6]) results193 ⟨⟨_, rfl, run_loadVarA (vs := [.int .i64 0, .int .i64 0, .int .i64 0, .int .i64 0, .int .i64 0, .int .i64 0, .bool false]) isAgg48 sizeOf48 rfl (hS.cellsAt 1 rfl rfl)⟩, rfl, trivial⟩ ?_
   exact ⟨rfl, hS.d1⟩
  refine RC.condF rfl (sk (sr (pn 2 rfl (RL.s (Vl.fa 0 underlying245 rfl sizeOf243 rfl rfl) rfl (pn 1 rfl ?_)))))
  obtain ⟨A37, c38, hS⟩ := O_heap_Heap.o hS
  refine cF (fun _ hg => heap_pile_api_Message_cut.ok hg hS) call200 h rfl rfl rfl ?_
  rintro ⟨y41, y42⟩ h _ w ⟨A43, c44, rfl, hS⟩
  refine RL.e0 (OW.store (vs := (C_api_Message y41)) 2 hS rfl rfl rfl rfl sizeOf48 rfl rfl rfl rfl) rfl ?_
  rintro _ w ⟨rfl, hS⟩
  have hS : St B w (_ :: _ :: Cl _ [_, _, _, _, _, _, _] _ :: l) hf := hS
  refine pn 1 rfl (lr ?_)
  have hS := O_heap_Heap.c (x := (⟨y42⟩ : heap_Heap)) hS.p1
  obtain rfl := h.some
  refine RQ.ret0 (vs := [.agg (C_api_Message y41).toArray, .int .i64 0]) results193 ⟨⟨_, rfl, run_loadVarA (vs := (C_api_Message y41)) isAgg48 sizeOf48 rfl (hS.cellsAt 1 rfl rfl)⟩, rfl, trivial⟩ ?_
  exact ⟨rfl, hS.d1⟩
def pend_Pend_Cut.f (a2 : pend_Pend) (a3 a4 : Int) : Option (api_Message × Int × pend_Pend) := ((pend_Pend_none.f a2).bind fun _ => ((heap_Heap_Cut.f a2.q a3 a4).bind fun (y26, y27, y28) => some (y26, y27, (⟨y28⟩ : pend_Pend))))
theorem pend_Pend_Cut.ok {a2 : pend_Pend} {a3 a4 : Int} {b1 : Nat} {r : api_Message × Int × pend_Pend} (h : pend_Pend_Cut.f a2 a3 a4 = some r) (hS : St B w (O_pend_Pend hf a2 b1 :: l) hf) :
    Calls prog 101 #[.pointer (some ⟨b1, 0, none⟩), .int .i64 a3, .int .i64 a4] w (Ret fun v w => v = .tuple #[.agg (C_api_Message r.1).toArray, .int .i64 r.2.1] ∧ St B w (O_pend_Pend hf r.2.2 b1 :: l) hf) := by
  have h := Holds.of h
  refine en func101 rfl ntmps101 rfl (sr (al hS zeroValue48 rfl rfl rfl fun b18 w hS => pn 1 rfl (ln (RC.seq (sr (pn 1 rfl (cF (fun _ hg => pend_Pend_none.ok hg hS.p1) call93 h rfl rfl rfl ?_)))))))
  rintro _ h _ w ⟨rfl, hS⟩
  refine ln (RC.condF rfl (sk (sr (pn 2 rfl (RL.s (Vl.fa 0 underlying155 rfl sizeOf152 rfl rfl) rfl ?_)))))
  obtain ⟨b23, hS⟩ := O_pend_Pend.o hS
  refine RL.s (Vl.ld 0 hS isAgg152 rfl rfl rfl) rfl (pn 2 rfl ?_)
  obtain ⟨t24, hg25, h⟩ := h.bind
  have hc := heap_Heap_Cut.ok hg25 hS.p1
  obtain ⟨y26, y27, y28⟩ := t24
  refine RL.e (OW.invoke (F := 193) (u' := .pointer (some ⟨b23, 0, none⟩)) (ls := [.tmp 15, .tmp 16]) rfl rfl (fun w => by kernel_rfl) call193 rfl hc) rfl rfl ?_
  rintro _ w ⟨rfl, hS⟩
  refine pn 2 rfl (RL.e0 (OW.store (vs := (C_api_Message y26)) 2 hS rfl rfl rfl rfl sizeOf48 rfl rfl rfl rfl) rfl ?_)
  rintro _ w ⟨rfl, hS⟩
  have hS : St B w (_ :: _ :: Cl _ [_, _, _, _, _, _, _] _ :: l) hf := hS
  refine pn 1 rfl (lr ?_)
  have hS := O_pend_Pend.c (x := (⟨y28⟩ : pend_Pend)) hS.p1
  obtain rfl := h.some
  refine RQ.ret0 (vs := [.agg (C_api_Message y26).toArray, .int .i64 y27]) results101 ⟨⟨_, rfl, run_loadVarA (vs := (C_api_Message y26)) isAgg48 sizeOf48 rfl (hS.cellsAt 1 rfl rfl)⟩, rfl, trivial⟩ ?_
  exact ⟨rfl, hS.d1⟩
def lane_Lane_release.j2 (a3 : api_Message) (y143 : lane_Lane) (x144 : Int) : Option (Bool × lane_Lane) := ((lane_of.f a3).bind fun t165 => some ((decide (x144 = 0)), ({ y143 with held := (mdel y143.held t165) } : lane_Lane)))
def lane_Lane_release.f (a2 : lane_Lane) (a3 : api_Message) : Option (Bool × lane_Lane) := ((pend_Pend_Cut.f a2.wait a3.Key.From a3.Uid).bind fun (y194, y195, y196) => lane_Lane_release.j2 a3 ({ a2 with wait := y196 } : lane_Lane) y195)
theorem lane_Lane_release.ok {a2 : lane_Lane} {a3 : api_Message} {b1 : Nat} {r : Bool × lane_Lane} (h : lane_Lane_release.f a2 a3 = some r) (hS : St B w (O_lane_Lane hf a2 b1 :: l) hf) :
    Calls prog 54 #[.pointer (some ⟨b1, 0, none⟩), .agg (C_api_Message a3).toArray] w (Ret fun v w => v = .bool r.1 ∧ St B w (O_lane_Lane hf r.2 b1 :: l) hf) := by
  have h := Holds.of h
  refine en func54 rfl ntmps54 rfl (sr (bx hS rfl rfl rfl rfl fun b105 w hS => pn 1 rfl (ln ?_)))
  refine RC.join (fun (s : lane_Lane × Int) a w => ∃ (y143 : lane_Lane) (x144 : Int), s = (y143, x144) ∧ Has 28 [(0, .pointer (some ⟨b1, 0, none⟩)), (3, .pointer (some ⟨b105, 0, none⟩)), (6, .int .i64 x144)] a ∧ St B w (O_lane_Lane hf y143 b1 :: Cl b105 (C_api_Message a3) 48 :: l) hf ∧ Holds (· = r) (lane_Lane_release.j2 a3 y143 x144)) ?_ ?_
  · rintro _ a w ⟨y143, x144, rfl, ha, hS, h⟩
    revert a
    show RC _ _ _ _ _ _
    refine RC.seq ?_
    obtain ⟨A145, c146, A148, c149, A151, c152, A154, c155, b157, b158, A159, c160, A161, c162, b163, b164, hr147, hr150, hr153, hr156, hS⟩ := O_lane_Lane.o hS
    refine RC.planS (plD [0, 3, 6, 10, 14, 17, 20]) [6] hS (fun w hS => hS) follows rfl (by kernel_rfl) (NoTmp.then NoTmp.body) fun w hS => pp 2 rfl (RP.s0 2 rfl (fun w => Vl.fa 16 underlying61 rfl sizeOf55 rfl rfl) rfl (RP.s 0 3 rfl rfl hS (fun w hS => Vl.ld 0 hS isAgg55 rfl rfl rfl) rfl (RP.v1 4 rfl (Vl.lw 7 hS isAgg48 sizeOf48 rfl rfl rfl) rfl rfl ?_)))
    obtain ⟨t165, hg166, h⟩ := h.bind
    have hc := lane_of.ok hg166 hS
    refine RP.e 5 rfl (OW.callF (ls := [.tmp 24]) rfl call56 hc) rfl rfl ?_
    rintro _ w ⟨rfl, hS⟩
    refine ⟨kp ⟨fun _ => hS, trivial⟩, ?_⟩
    refine RP.e0 6 rfl (OW.mapDelF (k := t165) 6 hS rfl keyok_lane_sending underlying55 rfl rfl rfl) rfl ?_
    rintro _ w ⟨rfl, hS⟩
    have hS : St B w (_ :: _ :: _ :: _ :: _ :: _ :: _ :: _ :: l) hf := hS
    refine ⟨kp ⟨(by intro hx; cases hx), trivial⟩, ?_⟩
    refine RP.nil (tsr (pn 3 rfl (lr ?_)))
    have hS := O_lane_Lane.c (x := ({ y143 with held := (mdel y143.held t165) } : lane_Lane)) hr147 hr150 hr153 hr156 hS.p6.p6.p6.p6.p6.p6
    obtain rfl := h.some
    exact rt results54 rfl ⟨rfl, hS.d1⟩
  obtain ⟨A167, c168, A170, c171, A173, c174, A176, c177, b179, b180, A181, c182, A183, c184, b185, b186, hr169, hr172, hr175, hr178, hS⟩ := O_lane_Lane.o hS.p1
  refine RC.planS (.pure 0 (.pure 1 (.pure 2 (.early 3 0 (.pure 4 (.pure 5 (.early 6 0 (.pure 7 (.early 8 0 (.fork 9 13 (.pure 10 (.pure 11 (.pure 12 (.last 13 (.last 14 (.last 15 .nil)))))) (.last 9 (.pure 10 (.pure 11 (.pure 12 (.last 14 (.last 15 .nil)))))))))))))))) [14, 15] hS (fun w hS => hS.d2) follows rfl (by kernel_rfl) (NoTmp.then NoTmp.body) fun w hS => pp 2 rfl (RP.s0 2 rfl (fun w => Vl.fa 12 underlying61 rfl sizeOf52 rfl rfl) rfl (RP.s 0 3 rfl rfl hS.d2 (fun w hS => Vl.ld 0 hS isAgg52 rfl rfl rfl) rfl (RP.s0 4 rfl (fun w => Vl.fa 0 underlying48 rfl sizeOf46 rfl rfl) rfl (RP.s0 5 rfl (fun w => Vl.fa 1 underlying46 rfl sizeOf3 rfl rfl) rfl (RP.s 0 6 rfl rfl hS.d2 (fun w hS => Vl.ld 6 hS isAgg3 rfl rfl rfl) rfl (RP.s0 7 rfl (fun w => Vl.fa 5 underlying48 rfl sizeOf3 rfl rfl) rfl (RP.s 0 8 rfl rfl hS.d2 (fun w hS => Vl.ld 6 hS isAgg3 rfl rfl rfl) rfl ?_)))))))
  refine RP.fork ?_ ?_
  · obtain ⟨t192, hg193, h⟩ := h.bind
    have hc := pend_Pend_Cut.ok hg193 hS.p2
    obtain ⟨y194, y195, y196⟩ := t192
    refine RPW.e 9 rfl (OW.callF (ls := [.tmp 11, .tmp 14, .tmp 16]) rfl call101 hc) rfl rfl ?_
    rintro _ w ⟨rfl, hS⟩
    refine ⟨kp ⟨fun _ => hS.d0, trivial⟩, ?_⟩
    refine pp 3 rfl (RP.e 13 rfl (OW.alloc (cs := [.int .i64 0, .int .i64 0, .int .i64 0, .int .i64 0, .int .i64 0, .int .i64 0, .bool false]) hS zeroValue48 rfl) rfl rfl ?_)
    rintro _ w ⟨b197, rfl, hS⟩
    refine ⟨kp ⟨fun _ => hS.d0.d0, trivial⟩, ?_⟩
    refine RP.e0 14 rfl (OW.store (vs := (C_api_Message y194)) 0 hS rfl rfl rfl rfl sizeOf48 rfl rfl rfl rfl) rfl ?_
    rintro _ w ⟨rfl, hS⟩
    have hS : St B w (Cl _ [_, _, _, _, _, _, _] _ :: _ :: _ :: _ :: _ :: _ :: _ :: _ :: _ :: l) hf := hS
    refine ⟨kp ⟨(by intro hx; cases hx), trivial⟩, ?_⟩
    refine RP.v1 15 rfl (Vl.assign rfl) rfl rfl (RP.nil ?_)
    have hS := O_lane_Lane.c (x := ({ a2 with wait := y196 } : lane_Lane)) hr169 hr172 hr175 hr178 hS.p7.p7.p7.p7.p5.p7.p7
    exact fun a ha => ⟨(({ a2 with wait := y196 } : lane_Lane), y195), ({ a2 with wait := y196 } : lane_Lane), y195, rfl, ha.to ⟨rfl, rfl, rfl, trivial⟩, hS.d1, h⟩
  · refine RPW.e 13 rfl (OW.alloc (cs := [.int .i64 0, .int .i64 0, .int .i64 0, .int .i64 0, .int .i64 0, .int .i64 0, .bool false]) hS zeroValue48 rfl) rfl rfl ?_
    rintro _ w ⟨b198, rfl, hS⟩
    refine ⟨kp ⟨fun _ => hS.d0.d2, trivial⟩, ?_⟩
    obtain ⟨t199, hg200, h⟩ := h.bind
    have hc := pend_Pend_Cut.ok hg200 hS.p3
    obtain ⟨y201, y202, y203⟩ := t199
    refine RP.e 9 rfl (OW.callF (ls := [.tmp 11, .tmp 14, .tmp 16]) rfl call101 hc) rfl rfl ?_
    rintro _ w ⟨rfl, hS⟩
    refine ⟨kp ⟨fun _ => hS.d0.d0, trivial⟩, ?_⟩
    refine pp 3 rfl (RP.e0 14 rfl (OW.store (vs := (C_api_Message y201)) 1 hS rfl rfl rfl rfl sizeOf48 rfl rfl rfl rfl) rfl ?_)
    rintro _ w ⟨rfl, hS⟩
    have hS : St B w (_ :: Cl _ [_, _, _, _, _, _, _] _ :: _ :: _ :: _ :: _ :: _ :: _ :: _ :: l) hf := hS
    refine ⟨kp ⟨(by intro hx; cases hx), trivial⟩, ?_⟩
    refine RP.v1 15 rfl (Vl.assign rfl) rfl rfl (RP.nil ?_)
    have hS := O_lane_Lane.c (x := ({ a2 with wait := y203 } : lane_Lane)) hr169 hr172 hr175 hr178 hS.p7.p7.p7.p7.p4.p7.p7
    exact fun a ha => ⟨(({ a2 with wait := y203 } : lane_Lane), y202), ({ a2 with wait := y203 } : lane_Lane), y202, rfl, ha.to ⟨rfl, rfl, rfl, trivial⟩, hS.d1, h⟩
def lane_Lane_part.j16 (x688 : Int) (l764 l767 : List lane_open) : Option ((List lane_open × List lane_open × Int) ⊕ (List lane_open × lane_Lane)) := some (.inl (l764, l767, IntKind.i64.wrap (x688 + 1)))
def lane_Lane_part.l15b (a2 : lane_Lane) (a4 : api_Message) : List lane_open × List lane_open × Int → Option ((List lane_open × List lane_open × Int) ⊕ (List lane_open × lane_Lane))
  | (l682, l685, x688) => (if x688 < (a2.open_.length : Int) then (if 0 ≤ x688 then ((lane_Lane_Step_1.f (nth a2.open_ x688) a4).bind fun t776 => (if t776 = true then (if (l682.length + 1) * 112 ≤ 140737488355328 then lane_Lane_part.j16 x688 (l682 ++ ([nth a2.open_ x688])) l685 else none) else (if (l685.length + 1) * 112 ≤ 140737488355328 then lane_Lane_part.j16 x688 l682 (l685 ++ ([nth a2.open_ x688])) else none))) else none) else some (.inr (l682, ({ a2 with open_ := l685 } : lane_Lane))))
def lane_Lane_part.l15 (a2 : lane_Lane) (a4 : api_Message) (s : List lane_open × List lane_open × Int) : Option (List lane_open × lane_Lane) := loopR (lane_Lane_part.l15b a2 a4) s
def lane_Lane_part.f (a2 : lane_Lane) (a4 : api_Message) : Option (List lane_open × lane_Lane) := lane_Lane_part.l15 a2 a4 ([], [], 0)
theorem lane_Lane_part.ok {a2 : lane_Lane} {a4 : api_Message} {b1 b3 : Nat} {r : List lane_open × lane_Lane} (h : lane_Lane_part.f a2 a4 = some r) (hS : St B w (O_lane_Lane hf a2 b1 :: Cl b3 (C_api_Message a4) 48 :: l) hf) :
    Calls prog 55 #[.pointer (some ⟨b1, 0, none⟩), .func (.func 50) #[] #[.pointer (some ⟨b3, 0, none⟩)]] w (Ret fun v w => ∃ (A_1 : Option Addr) (c_2 : Nat), v = .slice A_1 r.1.length c_2 ∧ St B w (OSf E_lane_open 116 (.slice A_1 r.1.length c_2) r.1 :: O_lane_Lane hf r.2 b1 :: Cl b3 (C_api_Message a4) 48 :: l) hf) := by
  have h := Holds.of h
  refine en func55 rfl ntmps55 rfl (sr (pn 1 rfl (lnsr (pn 2 rfl (ln (RC.seq (sr (pn 2 rfl (RL.s (Vl.fa 13 underlying61 rfl sizeOf53 rfl rfl) rfl ?_)))))))))
  obtain ⟨A613, c614, A616, c617, A619, c620, A622, c623, b625, b626, A627, c628, A629, c630, b631, b632, hr615, hr618, hr621, hr624, hS⟩ := O_lane_Lane.o hS
  refine RL.s (Vl.ld 0 hS isAgg53 rfl rfl rfl) rfl (RL.s (Vl.lenSl underlying53 rfl) rfl (pn 1 rfl (ln (RC.block ?_))))
  have hS := hS.nilSl E_lane_open 116
  have hS := hS.nilSl E_lane_open 116
  refine fun a ha => RC.loop (N := 35) (body := (lane_Lane_part.l15b a2 a4)) (φ := (· = r)) (fun (s : List lane_open × List lane_open × Int) a w => ∃ (l682 : List lane_open) (l685 : List lane_open) (x688 : Int), s = (l682, l685, x688) ∧ ∃ (A683 : Option Addr) (c684 : Nat) (A686 : Option Addr) (c687 : Nat), Has 35 [(0, .pointer (some ⟨b1, 0, none⟩)), (1, .func (.func 50) #[] #[.pointer (some ⟨b3, 0, none⟩)]), (5, .slice A683 l682.length c684), (6, .slice A686 l685.length c687), (12, .slice A627 a2.open_.length c628), (13, .int .i64 (a2.open_.length : Int)), (14, .int .i64 x688)] a ∧ St B w (OSf E_lane_open 116 (.slice A627 a2.open_.length c628) a2.open_ :: OSf E_api_Message 48 (.slice A629 a2.orphans.length c630) a2.orphans :: OSf E_lane_open 116 (.slice A683 l682.length c684) l682 :: OSf E_lane_open 116 (.slice A686 l685.length c687) l685 :: Cl b1 (C_lane_Lane a2 A613 c614 A616 c617 A619 c620 A622 c623 b625 b626 A627 c628 A629 c630 b631 b632) 61 :: O_log_Log hf a2.log b625 :: O_pend_Pend hf a2.wait b626 :: MapF kv_lane_sending (Value.int .i64) b631 a2.early :: MapF kv_lane_sending Value.bool b632 a2.held :: Cl b3 (C_api_Message a4) 48 :: l) hf) ?_ (s0 := ([], [], 0)) h ⟨([]), ([]), 0, rfl, none, 0, none, 0, ha.to ⟨rfl, rfl, rfl, rfl, rfl, rfl, rfl, trivial⟩, hS.p1.p6.p6⟩
  rintro G742 _ a w ⟨l682, l685, x688, rfl, A683, c684, A686, c687, ha, hS⟩ h
  revert a
  show RC _ _ _ _ _ _
  refine sr (pn 1 rfl (ln (RC.seq ?_)))
  refine RC.iteP 15 rfl h (fun hc744 h => ?_) fun hc744 h => ?_
  next =>
   refine RC.condT rfl (sk ?_)
   refine RC.join (fun (s : List lane_open × List lane_open) a w => ∃ (l764 : List lane_open) (l767 : List lane_open), s = (l764, l767) ∧ ∃ (A765 : Option Addr) (c766 : Nat) (A768 : Option Addr) (c769 : Nat), Has 35 [(0, .pointer (some ⟨b1, 0, none⟩)), (1, .func (.func 50) #[] #[.pointer (some ⟨b3, 0, none⟩)]), (5, .slice A765 l764.length c766), (6, .slice A768 l767.length c769), (12, .slice A627 a2.open_.length c628), (13, .int .i64 (a2.open_.length : Int)), (14, .int .i64 x688)] a ∧ St B w (OSf E_lane_open 116 (.slice A627 a2.open_.length c628) a2.open_ :: OSf E_api_Message 48 (.slice A629 a2.orphans.length c630) a2.orphans :: OSf E_lane_open 116 (.slice A765 l764.length c766) l764 :: OSf E_lane_open 116 (.slice A768 l767.length c769) l767 :: Cl b3 (C_api_Message a4) 48 :: Cl b1 (C_lane_Lane a2 A613 c614 A616 c617 A619 c620 A622 c623 b625 b626 A627 c628 A629 c630 b631 b632) 61 :: O_log_Log hf a2.log b625 :: O_pend_Pend hf a2.wait b626 :: MapF kv_lane_sending (Value.int .i64) b631 a2.early :: MapF kv_lane_sending Value.bool b632 a2.held :: l) hf ∧ Holds (Sum.elim G742 (· = r)) (lane_Lane_part.j16 x688 l764 l767)) ?_ ?_
   · rintro _ a w ⟨l764, l767, rfl, A765, c766, A768, c769, ha, hS, h⟩
     revert a
     show RC _ _ _ _ _ _
     refine RC.region (pn 2 rfl (RL.nil ?_))
     exact fun a ha => ⟨(l764, l767, IntKind.i64.wrap (x688 + 1)), ⟨l764, l767, (IntKind.i64.wrap (x688 + 1)), rfl, A765, c766, A768, c769, ha.to ⟨rfl, rfl, rfl, rfl, rfl, rfl, rfl, trivial⟩, hS.p9.p9.p9.p9.p9.p8.p8.p8.p8⟩, h.some⟩
   refine RC.block (sr ?_)
   obtain ⟨hq772, h⟩ := h.req
   refine RL.s (Vl.indexOwn 0 hS rfl underlying53 sizeOf116 rfl rfl hq772 hc744) rfl (RL.s (Vl.loadA isAgg116 sizeOf116 rfl rfl ((hS.slW 0 rfl).2.2.cells hq772 hc744)) rfl (al hS zeroValue116 rfl rfl rfl fun b773 w hS => RL.e0 (OW.store (vs := (C_lane_open (nth a2.open_ x688))) 0 hS rfl rfl rfl rfl sizeOf116 rfl rfl rfl rfl) rfl ?_))
   rintro _ w ⟨rfl, hS⟩
   have hS : St B w (Cl _ [_, _, _, _, _, _, _, _, _, _, _, _, _, _] _ :: _ :: _ :: _ :: _ :: _ :: _ :: _ :: _ :: _ :: _ :: l) hf := hS
   refine lnsr (pn 1 rfl (RL.s (Vl.lw 0 hS isAgg116 sizeOf116 rfl rfl rfl) rfl ?_))
   obtain ⟨t776, hg777, h⟩ := h.bind
   have hc := lane_Lane_Step_1.ok hg777 hS.p10
   refine RL.e (OW.call (ls := [.tmp 19]) rfl rfl call50 rfl hc) rfl rfl ?_
   rintro _ w ⟨rfl, hS⟩
   refine ln ?_
   refine RC.iteB 20 rfl h (fun hc778 h => ?_) fun hc778 h => ?_
   next =>
    refine RC.condT rfl (RC.region (pn 1 rfl (RL.s (Vl.lw 1 hS isAgg116 sizeOf116 rfl rfl rfl) rfl (RL.e (OW.buildSlice (E := E_lane_open) (xs := [nth a2.open_ x688]) (cs := (C_lane_open (nth a2.open_ x688))) hS underlying53 zeroValue116 sizeOf116 (parts := [(0, .tmp 22)]) rfl rfl (by decide) (by decide) (by kernel_rfl) rfl) rfl rfl ?_))))
    rintro _ w ⟨b779, rfl, hS⟩
    obtain ⟨hq780, h⟩ := h.req
    refine RL.e (OW.append (E := E_lane_open) (xs := l682) (ys := [nth a2.open_ x688]) 5 hS rfl underlying53 type116 rfl rfl rfl rfl (by decide) rfl rfl rfl (hS.slW 0 rfl).2.2.flat (by simp only [maxLen, List.length_cons, List.length_nil] at *; omega) hq780 rfl) rfl rfl ?_
    rintro v783 w hS
    obtain ⟨A781, c782, rfl, _⟩ := hS.osShape 0 rfl
    have hS : St B w (_ :: _ :: _ :: _ :: _ :: _ :: _ :: _ :: _ :: _ :: _ :: _ :: l) hf := hS
    refine pn 1 rfl (RL.nil (RQ.inB_n ?_))
    exact fun a ha => ⟨((l682 ++ ([nth a2.open_ x688])), l685), (l682 ++ ([nth a2.open_ x688])), l685, rfl, A781, c782, A686, c687, ha.to ⟨rfl, rfl, rfl, rfl, rfl, rfl, rfl, trivial⟩, hS.d1.d2.p4.p1.p4.p4, h⟩
   refine RC.condF rfl (RC.region (pn 1 rfl (RL.s (Vl.lw 1 hS isAgg116 sizeOf116 rfl rfl rfl) rfl (RL.e (OW.buildSlice (E := E_lane_open) (xs := [nth a2.open_ x688]) (cs := (C_lane_open (nth a2.open_ x688))) hS underlying53 zeroValue116 sizeOf116 (parts := [(0, .tmp 26)]) rfl rfl (by decide) (by decide) (by kernel_rfl) rfl) rfl rfl ?_))))
   rintro _ w ⟨b784, rfl, hS⟩
   obtain ⟨hq785, h⟩ := h.req
   refine RL.e (OW.append (E := E_lane_open) (xs := l685) (ys := [nth a2.open_ x688]) 6 hS rfl underlying53 type116 rfl rfl rfl rfl (by decide) rfl rfl rfl (hS.slW 0 rfl).2.2.flat (by simp only [maxLen, List.length_cons, List.length_nil] at *; omega) hq785 rfl) rfl rfl ?_
   rintro v788 w hS
   obtain ⟨A786, c787, rfl, _⟩ := hS.osShape 0 rfl
   have hS : St B w (_ :: _ :: _ :: _ :: _ :: _ :: _ :: _ :: _ :: _ :: _ :: _ :: l) hf := hS
   refine pn 1 rfl (RL.nil (RQ.inB_n ?_))
   exact fun a ha => ⟨(l682, (l685 ++ ([nth a2.open_ x688]))), l682, (l685 ++ ([nth a2.open_ x688])), rfl, A683, c684, A786, c787, ha.to ⟨rfl, rfl, rfl, rfl, rfl, rfl, rfl, trivial⟩, hS.d1.d2.p4.p4.p4, h⟩
  refine RC.condF rfl (RC.exit (RQ.exitT ?_))
  have h := h.inrS
  refine RQ.exitT (RQ.inB_hit (tsr (pn 3 rfl (RL.s (Vl.fa 13 underlying61 rfl sizeOf53 rfl rfl) rfl (RL.e0 (OW.store (vs := [.slice A686 l685.length c687]) 4 hS rfl rfl rfl rfl sizeOf53 rfl rfl rfl rfl) rfl ?_)))))
  rintro _ w ⟨rfl, hS⟩
  have hS : St B w (_ :: _ :: _ :: _ :: Cl _ [_, _, _, _, _, _, _, _, _, _, _, _, _, _, _, _, _, _, _, _, _, _, _, _, _, _, _] _ :: _ :: _ :: _ :: _ :: _ :: l) hf := hS
  refine lnsr (pn 2 rfl (lr ?_))
  have hS := O_lane_Lane.c (x := ({ a2 with open_ := l685 } : lane_Lane)) hr615 hr618 hr621 hr624 hS.p8.p8.p3.p5.p8.p8.p8
  obtain rfl := h.some
  exact rt results55 rfl ⟨A683, c684, rfl, hS.d1.p1⟩
def event_Twin.f (a1 : api_Message) : Option (api_Message) := some ({ a1 with Anti := !a1.Anti } : api_Message)
theorem event_Twin.ok {a1 : api_Message} {r : api_Message} (h : event_Twin.f a1 = some r) (hS : St B w (l) hf) :
    Calls prog 28 #[.agg (C_api_Message a1).toArray] w (Ret fun v w => v = .agg (C_api_Message r).toArray ∧ St B w (l) hf) := by
  have h := Holds.of h
  refine en func28 rfl ntmps28 rfl (sr (bx hS rfl rfl rfl rfl fun b4 w hS => al hS zeroValue48 rfl rfl rfl fun b5 w hS => lnsr (RL.s (Vl.fa 6 underlying48 rfl sizeOf4 rfl rfl) rfl (RL.s (Vl.ld 1 hS isAgg4 rfl rfl rfl) rfl (pn 1 rfl (RL.s (Vl.fa 6 underlying48 rfl sizeOf4 rfl rfl) rfl (RL.e0 (OW.store (vs := [.bool (!a1.Anti)]) 1 hS rfl rfl rfl rfl sizeOf4 rfl rfl rfl rfl) rfl ?_)))))))
  rintro _ w ⟨rfl, hS⟩
  have hS : St B w (_ :: Cl _ [_, _, _, _, _, _, _] _ :: l) hf := hS
  refine lnsr (RL.s (Vl.lw 1 hS isAgg48 sizeOf48 rfl rfl rfl) rfl (RL.e0 (OW.store (vs := [.int .i64 a1.Key.Time, .int .i64 a1.Key.From, .int .i64 a1.Key.Seq, .int .i64 a1.To, .int .i64 a1.Value, .int .i64 a1.Uid, .bool (!a1.Anti)]) 0 hS rfl rfl rfl rfl sizeOf48 rfl rfl rfl rfl) rfl ?_))
  rintro _ w ⟨rfl, hS⟩
  have hS : St B w (Cl _ [_, _, _, _, _, _, _] _ :: _ :: l) hf := hS
  refine lr ?_
  obtain rfl := h.some
  refine RQ.ret0 (vs := [.agg #[.int .i64 a1.Key.Time, .int .i64 a1.Key.From, .int .i64 a1.Key.Seq, .int .i64 a1.To, .int .i64 a1.Value, .int .i64 a1.Uid, .bool (!a1.Anti)]]) results28 ⟨⟨_, rfl, run_loadVarA (vs := [.int .i64 a1.Key.Time, .int .i64 a1.Key.From, .int .i64 a1.Key.Seq, .int .i64 a1.To, .int .i64 a1.Value, .int .i64 a1.Uid, .bool (!a1.Anti)]) isAgg48 sizeOf48 rfl (hS.cellsAt 0 rfl rfl)⟩, trivial⟩ ?_
  exact ⟨rfl, hS.d0.d0⟩
def lane_Lane_Step.j34 (x2018 : Int) (l2067 : List api_Message) : Option ((List api_Message × Int) ⊕ (List api_Message × Int × lane_Lane)) := some (.inl (l2067, IntKind.i64.wrap (x2018 + 1)))
def lane_Lane_Step.j44 (l2241 : List api_Message) (l2582 : List (Int × Bool)) (x2583 : Int) (l2687 : List api_Message) : Option ((List api_Message × List (Int × Bool) × Int) ⊕ (List api_Message × Int × lane_Lane)) := some (.inl (l2687, (mset l2582 ((nth l2241 x2583).Uid) true), IntKind.i64.wrap (x2583 + 1)))
def lane_Lane_Step.j52 (x3225 : Int) (y3399 : lane_Lane) (l3400 : List api_Message) : Option ((lane_Lane × List api_Message × Int) ⊕ (List api_Message × Int × lane_Lane)) := some (.inl (y3399, l3400, IntKind.i64.wrap (x3225 + 1)))
def lane_Lane_Step.l51b (l2125 : List api_Message) (l2582 : List (Int × Bool)) : lane_Lane × List api_Message × Int → Option ((lane_Lane × List api_Message × Int) ⊕ (List api_Message × Int × lane_Lane))
  | (y3221, l3222, x3225) => (if x3225 < (l2125.length : Int) then (if 0 ≤ x3225 then (if (mget l2582 ((nth l2125 x3225).Uid)).getD false = true then lane_Lane_Step.j52 x3225 ({ y3221 with stats := (⟨y3221.stats.Done, y3221.stats.Undone, IntKind.i64.wrap (y3221.stats.Hits + 1), y3221.stats.Held⟩ : api_Stats) } : lane_Lane) l3222 else ((event_Twin.f (nth l2125 x3225)).bind fun t3449 => (if (l3222.length + 1) * 56 ≤ 140737488355328 then lane_Lane_Step.j52 x3225 y3221 (l3222 ++ ([t3449])) else none))) else none) else some (.inr (l3222, 0, y3221)))
def lane_Lane_Step.l51 (l2125 : List api_Message) (l2582 : List (Int × Bool)) (s : lane_Lane × List api_Message × Int) : Option (List api_Message × Int × lane_Lane) := loopR (lane_Lane_Step.l51b l2125 l2582) s
def lane_Lane_Step.l43b (l2125 l2241 : List api_Message) (y2261 : lane_Lane) : List api_Message × List (Int × Bool) × Int → Option ((List api_Message × List (Int × Bool) × Int) ⊕ (List api_Message × Int × lane_Lane))
  | (l2579, l2582, x2583) => (if x2583 < (l2241.length : Int) then (if 0 ≤ x2583 then (if y2261.uid ≤ (nth l2241 x2583).Uid then (if (l2579.length + 1) * 56 ≤ 140737488355328 then lane_Lane_Step.j44 l2241 l2582 x2583 (l2579 ++ ([nth l2241 x2583])) else none) else lane_Lane_Step.j44 l2241 l2582 x2583 l2579) else none) else (Option.map Sum.inr (lane_Lane_Step.l51 l2125 l2582 (({ y2261 with uid := IntKind.i64.wrap (y2261.uid + (l2579.length : Int)), stats := (⟨IntKind.i64.wrap (y2261.stats.Done + 1), y2261.stats.Undone, y2261.stats.Hits, y2261.stats.Held⟩ : api_Stats) } : lane_Lane), l2579, 0))))
def lane_Lane_Step.l43 (l2125 l2241 : List api_Message) (y2261 : lane_Lane) (s : List api_Message × List (Int × Bool) × Int) : Option (List api_Message × Int × lane_Lane) := loopR (lane_Lane_Step.l43b l2125 l2241 y2261) s
def lane_Lane_Step.j36 (y1808 : api_Message) (l2125 : List api_Message) (y2221 : lane_Lane) (x2223 x2224 x2225 x2226 x2227 x2228 : Int) (q2229 : Bool) (x2230 x2231 x2232 x2233 x2234 x2235 x2236 x2237 x2238 x2239 x2240 : Int) (l2241 : List api_Message) : Option (List api_Message × Int × lane_Lane) := ((lane_Lane_release.f y2221 y1808).bind fun (y2250, y2251) => ((lane_Lane_part.f y2251 y1808).bind fun (y2260, y2261) => lane_Lane_Step.l43 l2125 l2241 y2261 ([], ([] : List (Int × Bool)), 0)))
def lane_Lane_Step.j35 (a2 : lane_Lane) (a4 : List Int) (y1808 : api_Message) (l2125 : List api_Message) (x2130 x2131 x2132 x2133 x2134 x2135 : Int) (q2136 : Bool) (x2137 x2138 x2139 x2140 x2141 x2142 x2143 x2144 x2145 x2146 x2147 : Int) (l2148 : List api_Message) : Option (List api_Message × Int × lane_Lane) := ((lane_Lane_fits.f a2 l2148 a4).bind fun t2161 => match t2161 with | .inl y2163 => ((lane_told.f y2163).bind fun t2164 => some (([] : List api_Message), t2164, a2)) | .inr (_) => ((log_Log_Do.f a2.log y1808 a2.uid l2125).bind fun (y3494, y3495, y3496) => lane_Lane_Step.j36 y1808 l2125 ({ a2 with log := y3496 } : lane_Lane) y3494.Event.Key.Time y3494.Event.Key.From y3494.Event.Key.Seq y3494.Event.To y3494.Event.Value y3494.Event.Uid y3494.Event.Anti y3494.Before.Regs.c0 y3494.Before.Regs.c1 y3494.Before.Regs.c2 y3494.Before.Regs.c3 y3494.Before.Regs.c4 y3494.Before.Regs.c5 y3494.Before.Regs.c6 y3494.Before.Regs.c7 y3494.Before.Draws y3494.Before.Sent y3494.Fault y3494.Sent))
def lane_Lane_Step.l33b (a2 : lane_Lane) (a4 : List Int) (y1808 : api_Message) : List api_Message × Int → Option ((List api_Message × Int) ⊕ (List api_Message × Int × lane_Lane))
  | (l2015, x2018) => (if x2018 < (a2.open_.length : Int) then (if 0 ≤ x2018 then ((lane_Lane_Step_1.f (nth a2.open_ x2018) y1808).bind fun t2074 => (if t2074 = true then (if (l2015.length + 1) * 56 ≤ 140737488355328 then lane_Lane_Step.j34 x2018 (l2015 ++ ([(nth a2.open_ x2018).m])) else none) else lane_Lane_Step.j34 x2018 l2015)) else none) else (Option.map Sum.inr ((log_Log_Try.f a2.log y1808 a2.uid l2015).bind fun (y3538, y3539) => lane_Lane_Step.j35 a2 a4 y1808 l2015 y3538.Event.Key.Time y3538.Event.Key.From y3538.Event.Key.Seq y3538.Event.To y3538.Event.Value y3538.Event.Uid y3538.Event.Anti y3538.Before.Regs.c0 y3538.Before.Regs.c1 y3538.Before.Regs.c2 y3538.Before.Regs.c3 y3538.Before.Regs.c4 y3538.Before.Regs.c5 y3538.Before.Regs.c6 y3538.Before.Regs.c7 y3538.Before.Draws y3538.Before.Sent y3538.Fault y3538.Sent)))
def lane_Lane_Step.l33 (a2 : lane_Lane) (a4 : List Int) (y1808 : api_Message) (s : List api_Message × Int) : Option (List api_Message × Int × lane_Lane) := loopR (lane_Lane_Step.l33b a2 a4 y1808) s
def lane_Lane_Step.f (a2 : lane_Lane) (a3 : Int) (a4 : List Int) : Option (List api_Message × Int × lane_Lane) := ((lane_Lane_none.f a2).bind fun _ => ((lane_Lane_next.f a2 a3).bind fun t1799 => match t1799 with | .inl (y1801, y1802) => ((lane_told.f y1802).bind fun t1806 => some (([] : List api_Message), t1806, a2)) | .inr (y1808) => lane_Lane_Step.l33 a2 a4 y1808 ([], 0)))
theorem lane_Lane_Step.ok {a2 : lane_Lane} {a3 : Int} {a4 : List Int} {b1 : Nat} {A5 : Option Addr} {c6 : Nat} (hr7 : SlR ((FI .i64).rep) hf A5 c6 a4) (hG0 : GlobAt hf 0 (.iface 215 (.agg #[.pointer (some ⟨1, 108, none⟩)]))) {r : List api_Message × Int × lane_Lane} (h : lane_Lane_Step.f a2 a3 a4 = some r) (hS : St B w (O_lane_Lane hf a2 b1 :: l) hf) :
    Calls prog 15 #[.pointer (some ⟨b1, 0, none⟩), .int .i64 a3, .slice A5 a4.length c6] w (Ret fun v w => ∃ hf_ : Hp, Sub hf hf_ ∧ ∃ (A_1 : Option Addr) (c_2 : Nat), v = .tuple #[.slice A_1 r.1.length c_2, .int .i64 r.2.1] ∧ St B w (OSf E_api_Message 48 (.slice A_1 r.1.length c_2) r.1 :: O_lane_Lane hf_ r.2.2 b1 :: l) hf_) := by
  have h := Holds.of h
  refine en func15 rfl ntmps15 rfl (sr (pn 2 rfl (ln (RC.seq (sr (pn 1 rfl (cF (fun _ hg => lane_Lane_none.ok hg hS) call45 h rfl rfl rfl ?_)))))))
  rintro _ h _ w ⟨rfl, hS⟩
  refine ln (RC.condF rfl (sk (sr (pn 2 rfl ?_))))
  obtain ⟨t1799, hg1800, h⟩ := h.bind
  have hc := lane_Lane_next.ok hg1800 hS
  rcases t1799 with ⟨y1801, y1802⟩ | y1808
  · refine RL.e (OW.callF (ls := [.tmp 28, .tmp 29]) rfl call48 hc) rfl rfl ?_
    rintro _ w ⟨rfl, hS⟩
    refine pn 3 rfl (al hS zeroValue48 rfl rfl rfl fun b1803 w hS => RL.e0 (OW.store (vs := (C_api_Message y1801)) 0 hS rfl rfl rfl rfl sizeOf48 rfl rfl rfl rfl) rfl ?_)
    rintro _ w ⟨rfl, hS⟩
    have hS : St B w (Cl _ [_, _, _, _, _, _, _] _ :: _ :: l) hf := hS
    refine pn 1 rfl (ln (RC.seq (sr (pn 1 rfl (RL.s (Vl.bin (v := .bool true) rfl rfl (by kernel_rfl)) rfl (ln (RC.condT rfl (sr (pn 1 rfl (cF (fun _ hg => lane_told.ok hg hS) call49 h rfl rfl rfl ?_))))))))))
    rintro t1806 h _ w ⟨rfl, hS⟩
    refine pn 2 rfl (lr (RQ.ret ?_))
    have hS := hS.nilSl E_api_Message 48
    obtain rfl := h.some
    exact rt results15 rfl ⟨_, (Sub.refl _), none, 0, rfl, hS.d1⟩
  refine RL.e (OW.callF (ls := [.tmp 28, .tmp 29]) rfl call48 hc) rfl rfl ?_
  rintro _ w ⟨rfl, hS⟩
  refine pn 3 rfl (al hS zeroValue48 rfl rfl rfl fun b1809 w hS => RL.e0 (OW.store (vs := (C_api_Message y1808)) 0 hS rfl rfl rfl rfl sizeOf48 rfl rfl rfl rfl) rfl ?_)
  rintro _ w ⟨rfl, hS⟩
  have hS : St B w (Cl _ [_, _, _, _, _, _, _] _ :: _ :: l) hf := hS
  refine pn 1 rfl (ln (RC.seq (sr (pn 1 rfl (RL.s (Vl.bin (v := .bool false) rfl rfl (by kernel_rfl)) rfl (ln (RC.condF rfl (sk (sr (pn 1 rfl ?_))))))))))
  refine lnsr (RL.s (Vl.makeFunc (fi := []) (ca := [.tmp 8]) rfl rfl) rfl (pn 1 rfl (ln (RC.seq (sr (pn 2 rfl (RL.s (Vl.fa 13 underlying61 rfl sizeOf53 rfl rfl) rfl ?_)))))))
  obtain ⟨A1966, c1967, A1969, c1970, A1972, c1973, A1975, c1976, b1978, b1979, A1980, c1981, A1982, c1983, b1984, b1985, hr1968, hr1971, hr1974, hr1977, hS⟩ := O_lane_Lane.o hS.p1
  refine RL.s (Vl.ld 0 hS isAgg53 rfl rfl rfl) rfl (RL.s (Vl.lenSl underlying53 rfl) rfl (pn 1 rfl (ln (RC.block ?_))))
  have hS := hS.nilSl E_api_Message 48
  refine fun a ha => RC.loop (N := 166) (body := (lane_Lane_Step.l33b a2 a4 y1808)) (φ := (· = r)) (fun (s : List api_Message × Int) a w => ∃ (l2015 : List api_Message) (x2018 : Int), s = (l2015, x2018) ∧ ∃ (A2016 : Option Addr) (c2017 : Nat), Has 166 [(0, .pointer (some ⟨b1, 0, none⟩)), (2, .slice A5 a4.length c6), (8, .pointer (some ⟨b1809, 0, none⟩)), (10, .slice A2016 l2015.length c2017), (11, .func (.func 50) #[] #[.pointer (some ⟨b1809, 0, none⟩)]), (41, .slice A1980 a2.open_.length c1981), (42, .int .i64 (a2.open_.length : Int)), (43, .int .i64 x2018)] a ∧ St B w (OSf E_lane_open 116 (.slice A1980 a2.open_.length c1981) a2.open_ :: OSf E_api_Message 48 (.slice A1982 a2.orphans.length c1983) a2.orphans :: OSf E_api_Message 48 (.slice A2016 l2015.length c2017) l2015 :: Cl b1 (C_lane_Lane a2 A1966 c1967 A1969 c1970 A1972 c1973 A1975 c1976 b1978 b1979 A1980 c1981 A1982 c1983 b1984 b1985) 61 :: O_log_Log hf a2.log b1978 :: O_pend_Pend hf a2.wait b1979 :: MapF kv_lane_sending (Value.int .i64) b1984 a2.early :: MapF kv_lane_sending Value.bool b1985 a2.held :: Cl b1809 (C_api_Message y1808) 48 :: l) hf) ?_ (s0 := ([], 0)) h ⟨([]), 0, rfl, none, 0, ha.to ⟨rfl, rfl, rfl, rfl, rfl, rfl, rfl, rfl, trivial⟩, hS.p5.p5⟩
  rintro G2052 _ a w ⟨l2015, x2018, rfl, A2016, c2017, ha, hS⟩ h
  revert a
  show RC _ _ _ _ _ _
  refine sr (pn 1 rfl (ln (RC.seq ?_)))
  refine RC.iteP 44 rfl h (fun hc2054 h => ?_) fun hc2054 h => ?_
  next =>
   refine RC.condT rfl (sk ?_)
   refine RC.join (fun (s : List api_Message) a w => ∃ (l2067 : List api_Message), s = (l2067) ∧ ∃ (A2068 : Option Addr) (c2069 : Nat), Has 166 [(0, .pointer (some ⟨b1, 0, none⟩)), (2, .slice A5 a4.length c6), (8, .pointer (some ⟨b1809, 0, none⟩)), (10, .slice A2068 l2067.length c2069), (11, .func (.func 50) #[] #[.pointer (some ⟨b1809, 0, none⟩)]), (41, .slice A1980 a2.open_.length c1981), (42, .int .i64 (a2.open_.length : Int)), (43, .int .i64 x2018)] a ∧ St B w (OSf E_lane_open 116 (.slice A1980 a2.open_.length c1981) a2.open_ :: OSf E_api_Message 48 (.slice A1982 a2.orphans.length c1983) a2.orphans :: OSf E_api_Message 48 (.slice A2068 l2067.length c2069) l2067 :: Cl b1809 (C_api_Message y1808) 48 :: Cl b1 (C_lane_Lane a2 A1966 c1967 A1969 c1970 A1972 c1973 A1975 c1976 b1978 b1979 A1980 c1981 A1982 c1983 b1984 b1985) 61 :: O_log_Log hf a2.log b1978 :: O_pend_Pend hf a2.wait b1979 :: MapF kv_lane_sending (Value.int .i64) b1984 a2.early :: MapF kv_lane_sending Value.bool b1985 a2.held :: l) hf ∧ Holds (Sum.elim G2052 (· = r)) (lane_Lane_Step.j34 x2018 l2067)) ?_ ?_
   · rintro l2067 a w ⟨_, rfl, A2068, c2069, ha, hS, h⟩
     revert a
     show RC _ _ _ _ _ _
     refine RC.region (pn 2 rfl (RL.nil ?_))
     exact fun a ha => ⟨(l2067, IntKind.i64.wrap (x2018 + 1)), ⟨l2067, (IntKind.i64.wrap (x2018 + 1)), rfl, A2068, c2069, ha.to ⟨rfl, rfl, rfl, rfl, rfl, rfl, rfl, rfl, trivial⟩, hS.p8.p8.p8.p8.p8.p7.p7.p7⟩, h.some⟩
   refine RC.block (sr ?_)
   obtain ⟨hq2072, h⟩ := h.req
   refine RL.s (Vl.indexOwn 0 hS rfl underlying53 sizeOf116 rfl rfl hq2072 hc2054) rfl (RL.s (Vl.loadA isAgg116 sizeOf116 rfl rfl ((hS.slW 0 rfl).2.2.cells hq2072 hc2054)) rfl (al hS zeroValue116 rfl rfl rfl fun b2073 w hS => RL.e0 (OW.store (vs := (C_lane_open (nth a2.open_ x2018))) 0 hS rfl rfl rfl rfl sizeOf116 rfl rfl rfl rfl) rfl ?_))
   rintro _ w ⟨rfl, hS⟩
   have hS : St B w (Cl _ [_, _, _, _, _, _, _, _, _, _, _, _, _, _] _ :: _ :: _ :: _ :: _ :: _ :: _ :: _ :: _ :: _ :: l) hf := hS
   refine lnsr (pn 1 rfl (RL.s (Vl.lw 0 hS isAgg116 sizeOf116 rfl rfl rfl) rfl ?_))
   obtain ⟨t2074, hg2075, h⟩ := h.bind
   have hc := lane_Lane_Step_1.ok hg2075 hS.p9
   refine RL.e (OW.call (ls := [.tmp 48]) rfl rfl call50 rfl hc) rfl rfl ?_
   rintro _ w ⟨rfl, hS⟩
   refine ln ?_
   refine RC.iteB 49 rfl h (fun hc2076 h => ?_) fun hc2076 h => ?_
   next =>
    refine RC.condT rfl (RC.region (pn 1 rfl (RL.s (Vl.fa 7 underlying116 rfl sizeOf48 rfl rfl) rfl (RL.s (Vl.loadA (vs := (C_api_Message ((nth a2.open_ x2018).m))) isAgg48 sizeOf48 rfl rfl (hS.cellsAt 1 rfl rfl)) rfl (RL.e (OW.buildSlice (E := E_api_Message) (xs := [(nth a2.open_ x2018).m]) (cs := (C_api_Message ((nth a2.open_ x2018).m))) hS underlying39 zeroValue48 sizeOf48 (parts := [(0, .tmp 52)]) rfl rfl (by decide) (by decide) (by kernel_rfl) rfl) rfl rfl ?_)))))
    rintro _ w ⟨b2077, rfl, hS⟩
    obtain ⟨hq2078, h⟩ := h.req
    refine RL.e (OW.append (E := E_api_Message) (xs := l2015) (ys := [(nth a2.open_ x2018).m]) 5 hS rfl underlying39 type48 rfl rfl rfl rfl (by decide) rfl rfl rfl (hS.slW 0 rfl).2.2.flat (by simp only [maxLen, List.length_cons, List.length_nil] at *; omega) hq2078 rfl) rfl rfl ?_
    rintro v2081 w hS
    obtain ⟨A2079, c2080, rfl, _⟩ := hS.osShape 0 rfl
    have hS : St B w (_ :: _ :: _ :: _ :: _ :: _ :: _ :: _ :: _ :: _ :: _ :: l) hf := hS
    refine pn 1 rfl (RL.nil (RQ.inB_n ?_))
    exact fun a ha => ⟨((l2015 ++ ([(nth a2.open_ x2018).m]))), (l2015 ++ ([(nth a2.open_ x2018).m])), rfl, A2079, c2080, ha.to ⟨rfl, rfl, rfl, rfl, rfl, rfl, rfl, rfl, trivial⟩, hS.d1.d2.p3.p3, h⟩
   refine RC.condF rfl (RC.skip (RQ.inB_n ?_))
   exact fun a ha => ⟨(l2015), l2015, rfl, A2016, c2017, ha.to ⟨rfl, rfl, rfl, rfl, rfl, rfl, rfl, rfl, trivial⟩, hS.d1.p3.p3.p3, h⟩
  refine RC.condF rfl (RC.exit (RQ.exitT ?_))
  have h := h.inr
  refine RQ.exitT (RQ.inB_hit (RQ.then_n ?_))
  refine RC.join (fun (s : List api_Message × Int × Int × Int × Int × Int × Int × Bool × Int × Int × Int × Int × Int × Int × Int × Int × Int × Int × Int × List api_Message) a w => ∃ (l2125 : List api_Message) (x2130 : Int) (x2131 : Int) (x2132 : Int) (x2133 : Int) (x2134 : Int) (x2135 : Int) (q2136 : Bool) (x2137 : Int) (x2138 : Int) (x2139 : Int) (x2140 : Int) (x2141 : Int) (x2142 : Int) (x2143 : Int) (x2144 : Int) (x2145 : Int) (x2146 : Int) (x2147 : Int) (l2148 : List api_Message), s = (l2125, x2130, x2131, x2132, x2133, x2134, x2135, q2136, x2137, x2138, x2139, x2140, x2141, x2142, x2143, x2144, x2145, x2146, x2147, l2148) ∧ ∃ hf_ : Hp, Sub hf hf_ ∧ ∃ (A2126 : Option Addr) (c2127 : Nat) (b2129 : Nat) (A2149 : Option Addr) (c2150 : Nat), Has 166 [(0, .pointer (some ⟨b1, 0, none⟩)), (2, .slice A5 a4.length c6), (8, .pointer (some ⟨b1809, 0, none⟩)), (10, .slice A2126 l2125.length c2127), (11, .func (.func 50) #[] #[.pointer (some ⟨b1809, 0, none⟩)]), (14, .pointer (some ⟨b2129, 0, none⟩))] a ∧ St B w (OSf E_api_Message 48 (.slice A2149 l2148.length c2150) l2148 :: O_lane_Lane hf_ a2 b1 :: Cl b1809 (C_api_Message y1808) 48 :: Cl b2129 [.int .i64 x2130, .int .i64 x2131, .int .i64 x2132, .int .i64 x2133, .int .i64 x2134, .int .i64 x2135, .bool q2136, .int .i64 x2137, .int .i64 x2138, .int .i64 x2139, .int .i64 x2140, .int .i64 x2141, .int .i64 x2142, .int .i64 x2143, .int .i64 x2144, .int .i64 x2145, .int .i64 x2146, .int .i64 x2147, .slice A2149 l2148.length c2150] 79 :: l) hf_ ∧ SlR E_api_Message.rep hf_ A2126 c2127 l2125 ∧ Holds (· = r) (lane_Lane_Step.j35 a2 a4 y1808 l2125 x2130 x2131 x2132 x2133 x2134 x2135 q2136 x2137 x2138 x2139 x2140 x2141 x2142 x2143 x2144 x2145 x2146 x2147 l2148)) ?_ ?_
  · rintro _ a w ⟨l2125, x2130, x2131, x2132, x2133, x2134, x2135, q2136, x2137, x2138, x2139, x2140, x2141, x2142, x2143, x2144, x2145, x2146, x2147, l2148, rfl, hf, hs2124, A2126, c2127, b2129, A2149, c2150, ha, hS, hr2128, h⟩
    revert a
    show RC _ _ _ _ _ _
    refine RC.seq (sr (pn 1 rfl (RL.s (Vl.fa 18 underlying79 rfl sizeOf39 rfl rfl) rfl (RL.s (Vl.ld 3 hS isAgg39 rfl rfl rfl) rfl (pn 1 rfl ?_)))))
    obtain ⟨hf, hs2159, hS, hr2160⟩ := St.promote hS
    have hS := O_lane_Lane.l hs2159 hS
    have hS : St B w (_ :: _ :: _ :: l) hf := hS
    obtain ⟨t2161, hg2162, h⟩ := h.bind
    have hc := lane_Lane_fits.ok hr2160 ((hr7.mono hs2124).mono hs2159) hg2162 hS
    rcases t2161 with y2163 | _
    · refine RL.e (OW.callF (ls := [.tmp 70, .tmp 72, .tmp 73]) rfl call52 hc) rfl rfl ?_
      rintro _ w ⟨rfl, hS⟩
      refine pn 1 rfl (lnsr (pn 1 rfl (RL.s (Vl.bin (v := .bool true) rfl rfl (by kernel_rfl)) rfl (ln (RC.condT rfl (sr (pn 1 rfl (cF (fun _ hg => lane_told.ok hg hS) call49 h rfl rfl rfl ?_))))))))
      rintro t2164 h _ w ⟨rfl, hS⟩
      refine pn 2 rfl (lr (RQ.ret ?_))
      have hS := hS.nilSl E_api_Message 48
      obtain rfl := h.some
      exact rt results15 rfl ⟨_, (hs2124.trans hs2159), none, 0, rfl, hS.d2.d2⟩
    refine RL.e (OW.callF (ls := [.tmp 70, .tmp 72, .tmp 73]) rfl call52 hc) rfl rfl ?_
    rintro _ w ⟨rfl, hS⟩
    refine pn 1 rfl (lnsr (pn 1 rfl (RL.s (Vl.bin (v := .bool false) rfl rfl (by kernel_rfl)) rfl (ln (RC.condF rfl (sk ?_))))))
    refine RC.join (fun (s : lane_Lane × Int × Int × Int × Int × Int × Int × Bool × Int × Int × Int × Int × Int × Int × Int × Int × Int × Int × Int × List api_Message) a w => ∃ (y2221 : lane_Lane) (x2223 : Int) (x2224 : Int) (x2225 : Int) (x2226 : Int) (x2227 : Int) (x2228 : Int) (q2229 : Bool) (x2230 : Int) (x2231 : Int) (x2232 : Int) (x2233 : Int) (x2234 : Int) (x2235 : Int) (x2236 : Int) (x2237 : Int) (x2238 : Int) (x2239 : Int) (x2240 : Int) (l2241 : List api_Message), s = (y2221, x2223, x2224, x2225, x2226, x2227, x2228, q2229, x2230, x2231, x2232, x2233, x2234, x2235, x2236, x2237, x2238, x2239, x2240, l2241) ∧ ∃ hf_ : Hp, Sub hf hf_ ∧ ∃ (b2222 : Nat) (A2242 : Option Addr) (c2243 : Nat), Has 166 [(0, .pointer (some ⟨b1, 0, none⟩)), (8, .pointer (some ⟨b1809, 0, none⟩)), (10, .slice A2126 l2125.length c2127), (11, .func (.func 50) #[] #[.pointer (some ⟨b1809, 0, none⟩)]), (17, .pointer (some ⟨b2222, 0, none⟩))] a ∧ St B w (OSf E_api_Message 48 (.slice A2242 l2241.length c2243) l2241 :: O_lane_Lane hf_ y2221 b1 :: Cl b1809 (C_api_Message y1808) 48 :: Cl b2222 [.int .i64 x2223, .int .i64 x2224, .int .i64 x2225, .int .i64 x2226, .int .i64 x2227, .int .i64 x2228, .bool q2229, .int .i64 x2230, .int .i64 x2231, .int .i64 x2232, .int .i64 x2233, .int .i64 x2234, .int .i64 x2235, .int .i64 x2236, .int .i64 x2237, .int .i64 x2238, .int .i64 x2239, .int .i64 x2240, .slice A2242 l2241.length c2243] 79 :: l) hf_ ∧ Holds (· = r) (lane_Lane_Step.j36 y1808 l2125 y2221 x2223 x2224 x2225 x2226 x2227 x2228 q2229 x2230 x2231 x2232 x2233 x2234 x2235 x2236 x2237 x2238 x2239 x2240 l2241)) ?_ ?_
    · rintro _ a w ⟨y2221, x2223, x2224, x2225, x2226, x2227, x2228, q2229, x2230, x2231, x2232, x2233, x2234, x2235, x2236, x2237, x2238, x2239, x2240, l2241, rfl, hf, hs2220, b2222, A2242, c2243, ha, hS, h⟩
      revert a
      show RC _ _ _ _ _ _
      refine sr (pn 1 rfl (RL.s (Vl.lw 2 hS isAgg48 sizeOf48 rfl rfl rfl) rfl (cF (fun _ hg => lane_Lane_release.ok hg hS.p1) call54 h rfl rfl rfl ?_)))
      rintro ⟨y2250, y2251⟩ h _ w ⟨rfl, hS⟩
      refine lnsr (pn 2 rfl (cF (fun _ hg => lane_Lane_part.ok hg hS.p2.p1) call55 h rfl rfl rfl ?_))
      rintro ⟨y2260, y2261⟩ h _ w ⟨A2262, c2263, rfl, hS⟩
      refine lnsr (pn 2 rfl (RL.s (Vl.fa 23 underlying61 rfl sizeOf59 rfl rfl) rfl (RL.s (Vl.fa 23 underlying59 rfl sizeOf3 rfl rfl) rfl ?_)))
      obtain ⟨A2284, c2285, A2287, c2288, A2290, c2291, A2293, c2294, b2296, b2297, A2298, c2299, A2300, c2301, b2302, b2303, hr2286, hr2289, hr2292, hr2295, hS⟩ := O_lane_Lane.o hS.p1
      refine RL.s (Vl.ld 0 hS isAgg3 rfl rfl rfl) rfl (pn 2 rfl (RL.s (Vl.fa 23 underlying61 rfl sizeOf59 rfl rfl) rfl (RL.s (Vl.fa 23 underlying59 rfl sizeOf3 rfl rfl) rfl (RL.e0 (OW.store (vs := [.int .i64 (IntKind.i64.wrap (y2261.stats.Done + 1))]) 0 hS rfl rfl rfl rfl sizeOf3 rfl rfl rfl rfl) rfl ?_))))
      rintro _ w ⟨rfl, hS⟩
      have hS : St B w (Cl _ [_, _, _, _, _, _, _, _, _, _, _, _, _, _, _, _, _, _, _, _, _, _, _, _, _, _, _] _ :: _ :: _ :: _ :: _ :: _ :: _ :: _ :: _ :: _ :: _ :: l) hf := hS
      refine lnsr (pn 1 rfl (lnsr (RL.e (OW.makeMapF (kv := (Value.int .i64)) (vv := Value.bool) hS) rfl rfl ?_)))
      rintro _ w ⟨b2305, rfl, hS⟩
      refine pn 1 rfl (ln (RC.seq (sr (RL.s (Vl.fa 18 underlying79 rfl sizeOf39 rfl rfl) rfl (RL.s (Vl.ld 11 hS isAgg39 rfl rfl rfl) rfl (RL.s (Vl.lenSl underlying39 rfl) rfl (pn 1 rfl (ln (RC.block ?_)))))))))
      have hS := O_lane_Lane.c (x := ({ y2261 with stats := (⟨IntKind.i64.wrap (y2261.stats.Done + 1), y2261.stats.Undone, y2261.stats.Hits, y2261.stats.Held⟩ : api_Stats) } : lane_Lane)) hr2286 hr2289 hr2292 hr2295 hS.p7.p7.p7.p7.p7.p7.p7
      have hS := hS.nilSl E_api_Message 48
      refine fun a ha => RC.loop (N := 166) (body := (lane_Lane_Step.l43b l2125 l2241 y2261)) (φ := (· = r)) (fun (s : List api_Message × List (Int × Bool) × Int) a w => ∃ (l2579 : List api_Message) (l2582 : List (Int × Bool)) (x2583 : Int), s = (l2579, l2582, x2583) ∧ ∃ (A2580 : Option Addr) (c2581 : Nat), Has 166 [(0, .pointer (some ⟨b1, 0, none⟩)), (10, .slice A2126 l2125.length c2127), (19, .slice A2580 l2579.length c2581), (20, .map (some b2305)), (110, .slice A2242 l2241.length c2243), (111, .int .i64 (l2241.length : Int)), (112, .int .i64 x2583)] a ∧ St B w (OSf E_api_Message 48 (.slice A2580 l2579.length c2581) l2579 :: OSf E_api_Message 48 (.slice A2242 l2241.length c2243) l2241 :: O_lane_Lane hf ({ y2261 with stats := (⟨IntKind.i64.wrap (y2261.stats.Done + 1), y2261.stats.Undone, y2261.stats.Hits, y2261.stats.Held⟩ : api_Stats) } : lane_Lane) b1 :: MapF (Value.int .i64) Value.bool b2305 l2582 :: l) hf) ?_ (s0 := ([], ([] : List (Int × Bool)), 0)) h ⟨([]), ([] : List (Int × Bool)), 0, rfl, none, 0, ha.to ⟨rfl, rfl, rfl, rfl, rfl, rfl, rfl, trivial⟩, hS.d3.d3.d4.p3.p1⟩
      rintro G2654 _ a w ⟨l2579, l2582, x2583, rfl, A2580, c2581, ha, hS⟩ h
      revert a
      show RC _ _ _ _ _ _
      refine sr (pn 1 rfl (ln (RC.seq ?_)))
      refine RC.iteP 113 rfl h (fun hc2656 h => ?_) fun hc2656 h => ?_
      next =>
       refine RC.condT rfl (sk ?_)
       refine RC.join (fun (s : List api_Message) a w => ∃ (l2687 : List api_Message), s = (l2687) ∧ ∃ (A2688 : Option Addr) (c2689 : Nat), Has 166 [(0, .pointer (some ⟨b1, 0, none⟩)), (10, .slice A2126 l2125.length c2127), (19, .slice A2688 l2687.length c2689), (20, .map (some b2305)), (110, .slice A2242 l2241.length c2243), (111, .int .i64 (l2241.length : Int)), (112, .int .i64 x2583)] a ∧ St B w (OSf E_api_Message 48 (.slice A2688 l2687.length c2689) l2687 :: OSf E_api_Message 48 (.slice A2242 l2241.length c2243) l2241 :: O_lane_Lane hf ({ y2261 with stats := (⟨IntKind.i64.wrap (y2261.stats.Done + 1), y2261.stats.Undone, y2261.stats.Hits, y2261.stats.Held⟩ : api_Stats) } : lane_Lane) b1 :: MapF (Value.int .i64) Value.bool b2305 (mset l2582 ((nth l2241 x2583).Uid) true) :: l) hf ∧ Holds (Sum.elim G2654 (· = r)) (lane_Lane_Step.j44 l2241 l2582 x2583 l2687)) ?_ ?_
       · rintro l2687 a w ⟨_, rfl, A2688, c2689, ha, hS, h⟩
         revert a
         show RC _ _ _ _ _ _
         refine RC.region (pn 2 rfl (RL.nil ?_))
         exact fun a ha => ⟨(l2687, (mset l2582 ((nth l2241 x2583).Uid) true), IntKind.i64.wrap (x2583 + 1)), ⟨l2687, (mset l2582 ((nth l2241 x2583).Uid) true), (IntKind.i64.wrap (x2583 + 1)), rfl, A2688, c2689, ha.to ⟨rfl, rfl, rfl, rfl, rfl, rfl, rfl, trivial⟩, hS⟩, h.some⟩
       refine RC.block (sr ?_)
       obtain ⟨hq2692, h⟩ := h.req
       refine RL.s (Vl.indexOwn 1 hS rfl underlying39 sizeOf48 rfl rfl hq2692 hc2656) rfl (RL.s (Vl.loadA isAgg48 sizeOf48 rfl rfl ((hS.slW 1 rfl).2.2.cells hq2692 hc2656)) rfl (al hS zeroValue48 rfl rfl rfl fun b2693 w hS => RL.e0 (OW.store (vs := (C_api_Message (nth l2241 x2583))) 0 hS rfl rfl rfl rfl sizeOf48 rfl rfl rfl rfl) rfl ?_))
       rintro _ w ⟨rfl, hS⟩
       have hS : St B w (Cl _ [_, _, _, _, _, _, _] _ :: _ :: _ :: _ :: _ :: l) hf := hS
       refine lnsr (pn 1 rfl (RL.s (Vl.fa 5 underlying48 rfl sizeOf3 rfl rfl) rfl (RL.s (Vl.ld 0 hS isAgg3 rfl rfl rfl) rfl (RL.e0 (OW.mapUpdF (k := (nth l2241 x2583).Uid) (v := true) 4 hS rfl (KeyOK.int underlying3) underlying123 rfl rfl rfl rfl) rfl ?_))))
       rintro _ w ⟨rfl, hS⟩
       have hS : St B w (_ :: _ :: _ :: _ :: _ :: l) hf := hS
       refine ln (RC.seq ?_)
       obtain ⟨A2694, c2695, A2697, c2698, A2700, c2701, A2703, c2704, b2706, b2707, A2708, c2709, A2710, c2711, b2712, b2713, hr2696, hr2699, hr2702, hr2705, hS⟩ := O_lane_Lane.o hS.p4
       refine RC.planS (plD [0, 4, 8, 11, 14, 17, 20]) [6] hS (fun w hS => hS) follows rfl (by kernel_rfl) (NoTmp.then (NoTmp.block (NoTmp.then (NoTmp.then (NoTmp.block (NoTmp.then NoTmp.body)))))) fun w hS => RP.s0 0 rfl (fun w => Vl.fa 5 underlying48 rfl sizeOf3 rfl rfl) rfl (RP.s 0 1 rfl rfl hS (fun w hS => Vl.ld 8 hS isAgg3 rfl rfl rfl) rfl (RP.v1 2 rfl (Vl.move rfl) rfl rfl (RP.v1 3 rfl (Vl.nilCheck rfl) rfl rfl (RP.v1 4 rfl (Vl.fa 17 underlying61 rfl sizeOf3 rfl rfl) rfl rfl (RP.v1 5 rfl (Vl.ld 0 hS isAgg3 rfl rfl rfl) rfl rfl (RP.v1 6 rfl (Vl.int rfl rfl rfl) rfl rfl (RP.nil (RQ.then_n ?_))))))))
       refine RC.iteP 125 rfl h (fun hc2714 h => ?_) fun hc2714 h => ?_
       next =>
        refine RC.condT rfl (RC.region (pn 1 rfl (RL.s (Vl.lw 8 hS isAgg48 sizeOf48 rfl rfl rfl) rfl (RL.e (OW.buildSlice (E := E_api_Message) (xs := [nth l2241 x2583]) (cs := (C_api_Message (nth l2241 x2583))) hS underlying39 zeroValue48 sizeOf48 (parts := [(0, .tmp 127)]) rfl rfl (by decide) (by decide) (by kernel_rfl) rfl) rfl rfl ?_))))
        rintro _ w ⟨b2715, rfl, hS⟩
        obtain ⟨hq2716, h⟩ := h.req
        refine RL.e (OW.append (E := E_api_Message) (xs := l2579) (ys := [nth l2241 x2583]) 10 hS rfl underlying39 type48 rfl rfl rfl rfl (by decide) rfl rfl rfl (hS.slW 0 rfl).2.2.flat (by simp only [maxLen, List.length_cons, List.length_nil] at *; omega) hq2716 rfl) rfl rfl ?_
        rintro v2719 w hS
        obtain ⟨A2717, c2718, rfl, _⟩ := hS.osShape 0 rfl
        have hS : St B w (_ :: _ :: _ :: _ :: _ :: _ :: _ :: _ :: _ :: _ :: _ :: _ :: l) hf := hS
        refine pn 1 rfl (RL.nil (RQ.inB_n ?_))
        have hS := O_lane_Lane.c (x := ({ y2261 with stats := (⟨IntKind.i64.wrap (y2261.stats.Done + 1), y2261.stats.Undone, y2261.stats.Hits, y2261.stats.Held⟩ : api_Stats) } : lane_Lane)) hr2696 hr2699 hr2702 hr2705 hS.p8.p8.p8.p8.p8.p8.p8
        exact fun a ha => ⟨((l2579 ++ ([nth l2241 x2583]))), (l2579 ++ ([nth l2241 x2583])), rfl, A2717, c2718, ha.to ⟨rfl, rfl, rfl, rfl, rfl, rfl, rfl, trivial⟩, hS.d2.d3.p3.p2, h⟩
       refine RC.condF rfl (RC.skip (RQ.inB_n ?_))
       have hS := O_lane_Lane.c (x := ({ y2261 with stats := (⟨IntKind.i64.wrap (y2261.stats.Done + 1), y2261.stats.Undone, y2261.stats.Hits, y2261.stats.Held⟩ : api_Stats) } : lane_Lane)) hr2696 hr2699 hr2702 hr2705 hS
       exact fun a ha => ⟨(l2579), l2579, rfl, A2580, c2581, ha.to ⟨rfl, rfl, rfl, rfl, rfl, rfl, rfl, trivial⟩, hS.d2.p3.p3, h⟩
      refine RC.condF rfl (RC.exit (RQ.exitT ?_))
      have h := h.inr
      refine RQ.exitT (RQ.inB_hit (tsr (pn 2 rfl (RL.s (Vl.fa 17 underlying61 rfl sizeOf3 rfl rfl) rfl ?_))))
      obtain ⟨A2740, c2741, A2743, c2744, A2746, c2747, A2749, c2750, b2752, b2753, A2754, c2755, A2756, c2757, b2758, b2759, hr2742, hr2745, hr2748, hr2751, hS⟩ := O_lane_Lane.o hS.p2
      refine RL.s (Vl.ld 0 hS isAgg3 rfl rfl rfl) rfl (pn 1 rfl (RL.s (Vl.lenSl underlying39 rfl) rfl (pn 2 rfl (RL.s (Vl.fa 17 underlying61 rfl sizeOf3 rfl rfl) rfl (RL.e0 (OW.store (vs := [.int .i64 (IntKind.i64.wrap (y2261.uid + (l2579.length : Int)))]) 0 hS rfl rfl rfl rfl sizeOf3 rfl rfl rfl rfl) rfl ?_)))))
      rintro _ w ⟨rfl, hS⟩
      have hS : St B w (Cl _ [_, _, _, _, _, _, _, _, _, _, _, _, _, _, _, _, _, _, _, _, _, _, _, _, _, _, _] _ :: _ :: _ :: _ :: _ :: _ :: _ :: _ :: _ :: _ :: l) hf := hS
      refine ln (RC.seq (sr (pn 1 rfl (RL.s (Vl.lenSl underlying39 rfl) rfl (pn 1 rfl (ln (RC.block ?_)))))))
      have hS := O_lane_Lane.c (x := ({ y2261 with uid := IntKind.i64.wrap (y2261.uid + (l2579.length : Int)), stats := (⟨IntKind.i64.wrap (y2261.stats.Done + 1), y2261.stats.Undone, y2261.stats.Hits, y2261.stats.Held⟩ : api_Stats) } : lane_Lane)) hr2742 hr2745 hr2748 hr2751 hS
      refine fun a ha => RC.loop (N := 166) (body := (lane_Lane_Step.l51b l2125 l2582)) (φ := (· = r)) (fun (s : lane_Lane × List api_Message × Int) a w => ∃ (y3221 : lane_Lane) (l3222 : List api_Message) (x3225 : Int), s = (y3221, l3222, x3225) ∧ ∃ (A3223 : Option Addr) (c3224 : Nat), Has 166 [(0, .pointer (some ⟨b1, 0, none⟩)), (19, .slice A3223 l3222.length c3224), (20, .map (some b2305)), (140, .slice A2126 l2125.length c2127), (141, .int .i64 (l2125.length : Int)), (142, .int .i64 x3225)] a ∧ St B w (OSf E_api_Message 48 (.slice A3223 l3222.length c3224) l3222 :: O_lane_Lane hf y3221 b1 :: MapF (Value.int .i64) Value.bool b2305 l2582 :: l) hf) ?_ (s0 := (({ y2261 with uid := IntKind.i64.wrap (y2261.uid + (l2579.length : Int)), stats := (⟨IntKind.i64.wrap (y2261.stats.Done + 1), y2261.stats.Undone, y2261.stats.Hits, y2261.stats.Held⟩ : api_Stats) } : lane_Lane), l2579, 0)) h ⟨({ y2261 with uid := IntKind.i64.wrap (y2261.uid + (l2579.length : Int)), stats := (⟨IntKind.i64.wrap (y2261.stats.Done + 1), y2261.stats.Undone, y2261.stats.Hits, y2261.stats.Held⟩ : api_Stats) } : lane_Lane), l2579, 0, rfl, A2580, c2581, ha.to ⟨rfl, rfl, rfl, rfl, rfl, rfl, trivial⟩, hS.d2.p1⟩
      rintro G3343 _ a w ⟨y3221, l3222, x3225, rfl, A3223, c3224, ha, hS⟩ h
      revert a
      show RC _ _ _ _ _ _
      refine sr (pn 1 rfl (ln (RC.seq ?_)))
      refine RC.iteP 143 rfl h (fun hc3345 h => ?_) fun hc3345 h => ?_
      next =>
       refine RC.condT rfl (sk ?_)
       refine RC.join (fun (s : lane_Lane × List api_Message) a w => ∃ (y3399 : lane_Lane) (l3400 : List api_Message), s = (y3399, l3400) ∧ ∃ (A3401 : Option Addr) (c3402 : Nat), Has 166 [(0, .pointer (some ⟨b1, 0, none⟩)), (19, .slice A3401 l3400.length c3402), (20, .map (some b2305)), (140, .slice A2126 l2125.length c2127), (141, .int .i64 (l2125.length : Int)), (142, .int .i64 x3225)] a ∧ St B w (OSf E_api_Message 48 (.slice A3401 l3400.length c3402) l3400 :: O_lane_Lane hf y3399 b1 :: MapF (Value.int .i64) Value.bool b2305 l2582 :: l) hf ∧ Holds (Sum.elim G3343 (· = r)) (lane_Lane_Step.j52 x3225 y3399 l3400)) ?_ ?_
       · rintro _ a w ⟨y3399, l3400, rfl, A3401, c3402, ha, hS, h⟩
         revert a
         show RC _ _ _ _ _ _
         refine RC.region (pn 2 rfl (RL.nil ?_))
         exact fun a ha => ⟨(y3399, l3400, IntKind.i64.wrap (x3225 + 1)), ⟨y3399, l3400, (IntKind.i64.wrap (x3225 + 1)), rfl, A3401, c3402, ha.to ⟨rfl, rfl, rfl, rfl, rfl, rfl, trivial⟩, hS⟩, h.some⟩
       refine RC.block (sr ?_)
       obtain ⟨hq3405, h⟩ := h.req
       refine RL.s (Vl.indexAddr underlying39 sizeOf48 rfl rfl ((((hr2128.mono hs2159).mono hs2220).2.world hS.sub).adr hq3405 hc3345) hq3405 hc3345 rfl) rfl (RL.s (Vl.loadA isAgg48 sizeOf48 rfl rfl ((((hr2128.mono hs2159).mono hs2220).2.world hS.sub).cells hq3405 hc3345)) rfl (al hS zeroValue48 rfl rfl rfl fun b3406 w hS => RL.e0 (OW.store (vs := (C_api_Message (nth l2125 x3225))) 0 hS rfl rfl rfl rfl sizeOf48 rfl rfl rfl rfl) rfl ?_))
       rintro _ w ⟨rfl, hS⟩
       have hS : St B w (Cl _ [_, _, _, _, _, _, _] _ :: _ :: _ :: _ :: l) hf := hS
       refine ln (RC.seq (sr (pn 1 rfl (RL.s (Vl.fa 5 underlying48 rfl sizeOf3 rfl rfl) rfl (RL.s (Vl.ld 0 hS isAgg3 rfl rfl rfl) rfl (RL.s (Vl.lookupF (k := (nth l2125 x3225).Uid) (z := false) 3 hS rfl (KeyOK.int underlying3) underlying123 zeroValue4 rfl rfl) rfl (ln ?_)))))))
       refine RC.iteB 149 rfl h (fun hc3428 h => ?_) fun hc3428 h => ?_
       next =>
        refine RC.condT rfl (sr (pn 2 rfl (RL.s (Vl.fa 23 underlying61 rfl sizeOf59 rfl rfl) rfl (RL.s (Vl.fa 25 underlying59 rfl sizeOf3 rfl rfl) rfl ?_))))
        obtain ⟨A3429, c3430, A3432, c3433, A3435, c3436, A3438, c3439, b3441, b3442, A3443, c3444, A3445, c3446, b3447, b3448, hr3431, hr3434, hr3437, hr3440, hS⟩ := O_lane_Lane.o hS.p2
        refine RL.s (Vl.ld 0 hS isAgg3 rfl rfl rfl) rfl (pn 2 rfl (RL.s (Vl.fa 23 underlying61 rfl sizeOf59 rfl rfl) rfl (RL.s (Vl.fa 25 underlying59 rfl sizeOf3 rfl rfl) rfl (RL.e0 (OW.store (vs := [.int .i64 (IntKind.i64.wrap (y3221.stats.Hits + 1))]) 0 hS rfl rfl rfl rfl sizeOf3 rfl rfl rfl rfl) rfl ?_))))
        rintro _ w ⟨rfl, hS⟩
        have hS : St B w (Cl _ [_, _, _, _, _, _, _, _, _, _, _, _, _, _, _, _, _, _, _, _, _, _, _, _, _, _, _] _ :: _ :: _ :: _ :: _ :: _ :: _ :: _ :: _ :: _ :: l) hf := hS
        refine ln (RC.exit (RQ.exitT (RQ.inB_hit ?_)))
        have hS := O_lane_Lane.c (x := ({ y3221 with stats := (⟨y3221.stats.Done, y3221.stats.Undone, IntKind.i64.wrap (y3221.stats.Hits + 1), y3221.stats.Held⟩ : api_Stats) } : lane_Lane)) hr3431 hr3434 hr3437 hr3440 hS
        exact fun a ha => ⟨(({ y3221 with stats := (⟨y3221.stats.Done, y3221.stats.Undone, IntKind.i64.wrap (y3221.stats.Hits + 1), y3221.stats.Held⟩ : api_Stats) } : lane_Lane), l3222), ({ y3221 with stats := (⟨y3221.stats.Done, y3221.stats.Undone, IntKind.i64.wrap (y3221.stats.Hits + 1), y3221.stats.Held⟩ : api_Stats) } : lane_Lane), l3222, rfl, A3223, c3224, ha.to ⟨rfl, rfl, rfl, rfl, rfl, rfl, trivial⟩, hS.d1.p1, h⟩
       refine RC.condF rfl (sk (RC.region (pn 1 rfl (RL.s (Vl.lw 0 hS isAgg48 sizeOf48 rfl rfl rfl) rfl (cF (fun _ hg => event_Twin.ok hg hS) call28 h rfl rfl rfl ?_)))))
       rintro t3449 h _ w ⟨rfl, hS⟩
       refine RL.e (OW.buildSlice (E := E_api_Message) (xs := [t3449]) (cs := (C_api_Message t3449)) hS underlying39 zeroValue48 sizeOf48 (parts := [(0, .tmp 161)]) rfl rfl (by decide) (by decide) (by kernel_rfl) rfl) rfl rfl ?_
       rintro _ w ⟨b3451, rfl, hS⟩
       obtain ⟨hq3452, h⟩ := h.req
       refine RL.e (OW.append (E := E_api_Message) (xs := l3222) (ys := [t3449]) 2 hS rfl underlying39 type48 rfl rfl rfl rfl (by decide) rfl rfl rfl (hS.slW 0 rfl).2.2.flat (by simp only [maxLen, List.length_cons, List.length_nil] at *; omega) hq3452 rfl) rfl rfl ?_
       rintro v3455 w hS
       obtain ⟨A3453, c3454, rfl, _⟩ := hS.osShape 0 rfl
       have hS : St B w (_ :: _ :: _ :: _ :: _ :: l) hf := hS
       refine pn 1 rfl (RL.nil (RQ.inB_n ?_))
       exact fun a ha => ⟨(y3221, (l3222 ++ ([t3449]))), y3221, (l3222 ++ ([t3449])), rfl, A3453, c3454, ha.to ⟨rfl, rfl, rfl, rfl, rfl, rfl, trivial⟩, hS.d1.d1, h⟩
      refine RC.condF rfl (RC.exit (RQ.exitT ?_))
      have h := h.inrS
      refine RQ.exitT (RQ.inB_hit (tsr (pn 3 rfl (lr ?_))))
      obtain rfl := h.some
      exact rt results15 rfl ⟨_, ((hs2124.trans hs2159).trans hs2220), A3223, c3224, rfl, hS.d2⟩
    obtain ⟨A3456, c3457, A3459, c3460, A3462, c3463, A3465, c3466, b3468, b3469, A3470, c3471, A3472, c3473, b3474, b3475, hr3458, hr3461, hr3464, hr3467, hS⟩ := O_lane_Lane.o hS
    refine RC.planS (.pure 0 (.pure 1 (.pure 2 (.early 3 0 (.early 4 0 (.pure 5 (.pure 6 (.pure 7 (.early 8 0 (.pure 9 (.fork 10 14 (.pure 11 (.pure 12 (.pure 13 (.last 14 (.last 15 (.last 16 .nil)))))) (.last 10 (.pure 11 (.pure 12 (.pure 13 (.last 15 (.last 16 .nil))))))))))))))))) [15, 16] hS (fun w hS => hS.d1.d1) follows rfl (by kernel_rfl) (NoTmp.then NoTmp.body) fun w hS => pp 2 rfl (RP.s0 2 rfl (fun w => Vl.fa 11 underlying61 rfl sizeOf51 rfl rfl) rfl (RP.s 0 3 rfl rfl hS.d1.d1 (fun w hS => Vl.ld 0 hS isAgg51 rfl rfl rfl) rfl (RP.s 0 4 rfl rfl hS.d1.d1 (fun w hS => Vl.lw 5 hS isAgg48 sizeOf48 rfl rfl rfl) rfl (pp 2 rfl (RP.s0 7 rfl (fun w => Vl.fa 17 underlying61 rfl sizeOf3 rfl rfl) rfl (RP.s 0 8 rfl rfl hS.d1.d1 (fun w hS => Vl.ld 0 hS isAgg3 rfl rfl rfl) rfl (pp 1 rfl ?_)))))))
    refine RP.fork ?_ ?_
    · obtain ⟨t3492, hg3493, h⟩ := h.bind
      have hc := log_Log_Do.ok (hr2128.mono hs2159) ((hG0.mono hs2124).mono hs2159) hg3493 hS.p1
      obtain ⟨y3494, y3495, y3496⟩ := t3492
      refine RPW.e 10 rfl (OW.callF (ls := [.tmp 83, .tmp 84, .tmp 88, .tmp 89]) rfl call53 hc) rfl rfl ?_
      rintro _ w ⟨hf, hs3499, A3497, c3498, rfl, hS⟩
      have hS := O_pend_Pend.l hs3499 hS.p3
      have hS : St B w (_ :: _ :: _ :: _ :: _ :: _ :: _ :: _ :: _ :: _ :: l) hf := hS
      refine ⟨kp ⟨fun _ => (St.down hS.d0.d0.d0 hs3499), trivial⟩, ?_⟩
      refine pp 3 rfl (RP.e 14 rfl (OW.alloc (cs := [.int .i64 0, .int .i64 0, .int .i64 0, .int .i64 0, .int .i64 0, .int .i64 0, .bool false, .int .i64 0, .int .i64 0, .int .i64 0, .int .i64 0, .int .i64 0, .int .i64 0, .int .i64 0, .int .i64 0, .int .i64 0, .int .i64 0, .int .i64 0, .slice none 0 0]) hS zeroValue79 rfl) rfl rfl ?_)
      rintro _ w ⟨b3500, rfl, hS⟩
      refine ⟨kp ⟨fun _ => (St.down hS.d0.d0.d0.d0 hs3499), trivial⟩, ?_⟩
      refine RP.e0 15 rfl (OW.store (vs := (C_api_Entry y3494 A3497 c3498)) 0 hS rfl rfl rfl rfl sizeOf79 rfl rfl rfl rfl) rfl ?_
      rintro _ w ⟨rfl, hS⟩
      have hS : St B w (Cl _ [_, _, _, _, _, _, _, _, _, _, _, _, _, _, _, _, _, _, _] _ :: _ :: _ :: _ :: _ :: _ :: _ :: _ :: _ :: _ :: _ :: l) hf := hS
      refine ⟨kp ⟨(by intro hx; cases hx), trivial⟩, ?_⟩
      refine RP.v1 16 rfl (Vl.assign rfl) rfl rfl (RP.nil ?_)
      have hS := O_lane_Lane.c (x := ({ a2 with log := y3496 } : lane_Lane)) (hr3458.mono hs3499) (hr3461.mono hs3499) (hr3464.mono hs3499) (hr3467.mono hs3499) hS.p8.p8.p8.p8.p5.p7.p8
      exact fun a ha => ⟨(({ a2 with log := y3496 } : lane_Lane), y3494.Event.Key.Time, y3494.Event.Key.From, y3494.Event.Key.Seq, y3494.Event.To, y3494.Event.Value, y3494.Event.Uid, y3494.Event.Anti, y3494.Before.Regs.c0, y3494.Before.Regs.c1, y3494.Before.Regs.c2, y3494.Before.Regs.c3, y3494.Before.Regs.c4, y3494.Before.Regs.c5, y3494.Before.Regs.c6, y3494.Before.Regs.c7, y3494.Before.Draws, y3494.Before.Sent, y3494.Fault, y3494.Sent), ({ a2 with log := y3496 } : lane_Lane), y3494.Event.Key.Time, y3494.Event.Key.From, y3494.Event.Key.Seq, y3494.Event.To, y3494.Event.Value, y3494.Event.Uid, y3494.Event.Anti, y3494.Before.Regs.c0, y3494.Before.Regs.c1, y3494.Before.Regs.c2, y3494.Before.Regs.c3, y3494.Before.Regs.c4, y3494.Before.Regs.c5, y3494.Before.Regs.c6, y3494.Before.Regs.c7, y3494.Before.Draws, y3494.Before.Sent, y3494.Fault, y3494.Sent, rfl, _, hs3499, b3500, A3497, c3498, ha.to ⟨rfl, rfl, rfl, rfl, rfl, trivial⟩, hS.d4.p3.p1.p3, h⟩
    · refine RPW.e 14 rfl (OW.alloc (cs := [.int .i64 0, .int .i64 0, .int .i64 0, .int .i64 0, .int .i64 0, .int .i64 0, .bool false, .int .i64 0, .int .i64 0, .int .i64 0, .int .i64 0, .int .i64 0, .int .i64 0, .int .i64 0, .int .i64 0, .int .i64 0, .int .i64 0, .int .i64 0, .slice none 0 0]) hS zeroValue79 rfl) rfl rfl ?_
      rintro _ w ⟨b3501, rfl, hS⟩
      refine ⟨kp ⟨fun _ => hS.d0.d1.d1, trivial⟩, ?_⟩
      obtain ⟨t3502, hg3503, h⟩ := h.bind
      have hc := log_Log_Do.ok (hr2128.mono hs2159) ((hG0.mono hs2124).mono hs2159) hg3503 hS.p2
      obtain ⟨y3504, y3505, y3506⟩ := t3502
      refine RP.e 10 rfl (OW.callF (ls := [.tmp 83, .tmp 84, .tmp 88, .tmp 89]) rfl call53 hc) rfl rfl ?_
      rintro _ w ⟨hf, hs3509, A3507, c3508, rfl, hS⟩
      have hS := O_pend_Pend.l hs3509 hS.p4
      have hS : St B w (_ :: _ :: _ :: _ :: _ :: _ :: _ :: _ :: _ :: _ :: _ :: l) hf := hS
      refine ⟨kp ⟨fun _ => (St.down hS.d0.d0.d0.d0 hs3509), trivial⟩, ?_⟩
      refine pp 3 rfl (RP.e0 15 rfl (OW.store (vs := (C_api_Entry y3504 A3507 c3508)) 3 hS rfl rfl rfl rfl sizeOf79 rfl rfl rfl rfl) rfl ?_)
      rintro _ w ⟨rfl, hS⟩
      have hS : St B w (_ :: _ :: _ :: Cl _ [_, _, _, _, _, _, _, _, _, _, _, _, _, _, _, _, _, _, _] _ :: _ :: _ :: _ :: _ :: _ :: _ :: _ :: l) hf := hS
      refine ⟨kp ⟨(by intro hx; cases hx), trivial⟩, ?_⟩
      refine RP.v1 16 rfl (Vl.assign rfl) rfl rfl (RP.nil ?_)
      have hS := O_lane_Lane.c (x := ({ a2 with log := y3506 } : lane_Lane)) (hr3458.mono hs3509) (hr3461.mono hs3509) (hr3464.mono hs3509) (hr3467.mono hs3509) hS.p8.p8.p8.p8.p4.p6.p8
      exact fun a ha => ⟨(({ a2 with log := y3506 } : lane_Lane), y3504.Event.Key.Time, y3504.Event.Key.From, y3504.Event.Key.Seq, y3504.Event.To, y3504.Event.Value, y3504.Event.Uid, y3504.Event.Anti, y3504.Before.Regs.c0, y3504.Before.Regs.c1, y3504.Before.Regs.c2, y3504.Before.Regs.c3, y3504.Before.Regs.c4, y3504.Before.Regs.c5, y3504.Before.Regs.c6, y3504.Before.Regs.c7, y3504.Before.Draws, y3504.Before.Sent, y3504.Fault, y3504.Sent), ({ a2 with log := y3506 } : lane_Lane), y3504.Event.Key.Time, y3504.Event.Key.From, y3504.Event.Key.Seq, y3504.Event.To, y3504.Event.Value, y3504.Event.Uid, y3504.Event.Anti, y3504.Before.Regs.c0, y3504.Before.Regs.c1, y3504.Before.Regs.c2, y3504.Before.Regs.c3, y3504.Before.Regs.c4, y3504.Before.Regs.c5, y3504.Before.Regs.c6, y3504.Before.Regs.c7, y3504.Before.Draws, y3504.Before.Sent, y3504.Fault, y3504.Sent, rfl, _, hs3509, b3501, A3507, c3508, ha.to ⟨rfl, rfl, rfl, rfl, rfl, trivial⟩, hS.d4.p3.p1.p2, h⟩
  refine RC.planS (.pure 0 (.pure 1 (.pure 2 (.early 3 0 (.early 4 0 (.pure 5 (.pure 6 (.pure 7 (.early 8 0 (.pure 9 (.fork 10 14 (.pure 11 (.pure 12 (.pure 13 (.last 14 (.last 15 (.last 16 .nil)))))) (.last 10 (.pure 11 (.pure 12 (.pure 13 (.last 15 (.last 16 .nil))))))))))))))))) [15, 16] hS (fun w hS => hS.d2.d3.d3) follows rfl (by kernel_rfl) (NoTmp.then NoTmp.body) fun w hS => pp 2 rfl (RP.s0 2 rfl (fun w => Vl.fa 11 underlying61 rfl sizeOf51 rfl rfl) rfl (RP.s 0 3 rfl rfl hS.d2.d3.d3 (fun w hS => Vl.ld 2 hS isAgg51 rfl rfl rfl) rfl (RP.s 0 4 rfl rfl hS.d2.d3.d3 (fun w hS => Vl.lw 5 hS isAgg48 sizeOf48 rfl rfl rfl) rfl (pp 2 rfl (RP.s0 7 rfl (fun w => Vl.fa 17 underlying61 rfl sizeOf3 rfl rfl) rfl (RP.s 0 8 rfl rfl hS.d2.d3.d3 (fun w hS => Vl.ld 2 hS isAgg3 rfl rfl rfl) rfl (pp 1 rfl ?_)))))))
  refine RP.fork ?_ ?_
  · obtain ⟨hf, hs3534, hS, hr3535⟩ := St.promote hS.p2
    have hS := O_log_Log.l hs3534 hS.p3
    have hS := O_pend_Pend.l hs3534 hS.p4
    have hS : St B w (_ :: _ :: _ :: _ :: _ :: _ :: _ :: _ :: l) hf := hS
    obtain ⟨t3536, hg3537, h⟩ := h.bind
    have hc := log_Log_Try.ok hr3535 (hG0.mono hs3534) hg3537 hS.p1
    obtain ⟨y3538, y3539⟩ := t3536
    refine RPW.e 10 rfl (OW.callF (ls := [.tmp 60, .tmp 61, .tmp 65, .tmp 66]) rfl call51 hc) rfl rfl ?_
    rintro _ w ⟨A3540, c3541, rfl, hS⟩
    refine ⟨kp ⟨fun _ => (St.down hS.d0.d0.d0 hs3534), trivial⟩, ?_⟩
    refine pp 3 rfl (RP.e 14 rfl (OW.alloc (cs := [.int .i64 0, .int .i64 0, .int .i64 0, .int .i64 0, .int .i64 0, .int .i64 0, .bool false, .int .i64 0, .int .i64 0, .int .i64 0, .int .i64 0, .int .i64 0, .int .i64 0, .int .i64 0, .int .i64 0, .int .i64 0, .int .i64 0, .int .i64 0, .slice none 0 0]) hS zeroValue79 rfl) rfl rfl ?_)
    rintro _ w ⟨b3542, rfl, hS⟩
    refine ⟨kp ⟨fun _ => (St.down hS.d0.d0.d0.d0 hs3534), trivial⟩, ?_⟩
    refine RP.e0 15 rfl (OW.store (vs := (C_api_Entry y3538 A3540 c3541)) 0 hS rfl rfl rfl rfl sizeOf79 rfl rfl rfl rfl) rfl ?_
    rintro _ w ⟨rfl, hS⟩
    have hS : St B w (Cl _ [_, _, _, _, _, _, _, _, _, _, _, _, _, _, _, _, _, _, _] _ :: _ :: _ :: _ :: _ :: _ :: _ :: _ :: _ :: _ :: l) hf := hS
    refine ⟨kp ⟨(by intro hx; cases hx), trivial⟩, ?_⟩
    refine RP.v1 16 rfl (Vl.assign rfl) rfl rfl (RP.nil ?_)
    have hS := O_lane_Lane.c (x := a2) (hr1968.mono hs3534) (hr1971.mono hs3534) (hr1974.mono hs3534) (hr1977.mono hs3534) hS.p8.p8.p7.p7.p7.p7.p8
    exact fun a ha => ⟨(l2015, y3538.Event.Key.Time, y3538.Event.Key.From, y3538.Event.Key.Seq, y3538.Event.To, y3538.Event.Value, y3538.Event.Uid, y3538.Event.Anti, y3538.Before.Regs.c0, y3538.Before.Regs.c1, y3538.Before.Regs.c2, y3538.Before.Regs.c3, y3538.Before.Regs.c4, y3538.Before.Regs.c5, y3538.Before.Regs.c6, y3538.Before.Regs.c7, y3538.Before.Draws, y3538.Before.Sent, y3538.Fault, y3538.Sent), l2015, y3538.Event.Key.Time, y3538.Event.Key.From, y3538.Event.Key.Seq, y3538.Event.To, y3538.Event.Value, y3538.Event.Uid, y3538.Event.Anti, y3538.Before.Regs.c0, y3538.Before.Regs.c1, y3538.Before.Regs.c2, y3538.Before.Regs.c3, y3538.Before.Regs.c4, y3538.Before.Regs.c5, y3538.Before.Regs.c6, y3538.Before.Regs.c7, y3538.Before.Draws, y3538.Before.Sent, y3538.Fault, y3538.Sent, rfl, _, hs3534, A2016, c2017, b3542, A3540, c3541, ha.to ⟨rfl, rfl, rfl, rfl, rfl, rfl, trivial⟩, hS.p3.p1.p3, hr3535, h⟩
  · refine RPW.e 14 rfl (OW.alloc (cs := [.int .i64 0, .int .i64 0, .int .i64 0, .int .i64 0, .int .i64 0, .int .i64 0, .bool false, .int .i64 0, .int .i64 0, .int .i64 0, .int .i64 0, .int .i64 0, .int .i64 0, .int .i64 0, .int .i64 0, .int .i64 0, .int .i64 0, .int .i64 0, .slice none 0 0]) hS zeroValue79 rfl) rfl rfl ?_
    rintro _ w ⟨b3543, rfl, hS⟩
    refine ⟨kp ⟨fun _ => hS.d0.d2.d3.d3, trivial⟩, ?_⟩
    obtain ⟨hf, hs3544, hS, hr3545⟩ := St.promote hS.p3
    have hS := O_log_Log.l hs3544 hS.p4
    have hS := O_pend_Pend.l hs3544 hS.p5
    have hS : St B w (_ :: _ :: _ :: _ :: _ :: _ :: _ :: _ :: _ :: l) hf := hS
    obtain ⟨t3546, hg3547, h⟩ := h.bind
    have hc := log_Log_Try.ok hr3545 (hG0.mono hs3544) hg3547 hS.p1
    obtain ⟨y3548, y3549⟩ := t3546
    refine RP.e 10 rfl (OW.callF (ls := [.tmp 60, .tmp 61, .tmp 65, .tmp 66]) rfl call51 hc) rfl rfl ?_
    rintro _ w ⟨A3550, c3551, rfl, hS⟩
    refine ⟨kp ⟨fun _ => (St.down hS.d0.d0.d0.d0 hs3544), trivial⟩, ?_⟩
    refine pp 3 rfl (RP.e0 15 rfl (OW.store (vs := (C_api_Entry y3548 A3550 c3551)) 3 hS rfl rfl rfl rfl sizeOf79 rfl rfl rfl rfl) rfl ?_)
    rintro _ w ⟨rfl, hS⟩
    have hS : St B w (_ :: _ :: _ :: Cl _ [_, _, _, _, _, _, _, _, _, _, _, _, _, _, _, _, _, _, _] _ :: _ :: _ :: _ :: _ :: _ :: _ :: l) hf := hS
    refine ⟨kp ⟨(by intro hx; cases hx), trivial⟩, ?_⟩
    refine RP.v1 16 rfl (Vl.assign rfl) rfl rfl (RP.nil ?_)
    have hS := O_lane_Lane.c (x := a2) (hr1968.mono hs3544) (hr1971.mono hs3544) (hr1974.mono hs3544) (hr1977.mono hs3544) hS.p8.p8.p7.p7.p6.p6.p8
    exact fun a ha => ⟨(l2015, y3548.Event.Key.Time, y3548.Event.Key.From, y3548.Event.Key.Seq, y3548.Event.To, y3548.Event.Value, y3548.Event.Uid, y3548.Event.Anti, y3548.Before.Regs.c0, y3548.Before.Regs.c1, y3548.Before.Regs.c2, y3548.Before.Regs.c3, y3548.Before.Regs.c4, y3548.Before.Regs.c5, y3548.Before.Regs.c6, y3548.Before.Regs.c7, y3548.Before.Draws, y3548.Before.Sent, y3548.Fault, y3548.Sent), l2015, y3548.Event.Key.Time, y3548.Event.Key.From, y3548.Event.Key.Seq, y3548.Event.To, y3548.Event.Value, y3548.Event.Uid, y3548.Event.Anti, y3548.Before.Regs.c0, y3548.Before.Regs.c1, y3548.Before.Regs.c2, y3548.Before.Regs.c3, y3548.Before.Regs.c4, y3548.Before.Regs.c5, y3548.Before.Regs.c6, y3548.Before.Regs.c7, y3548.Before.Draws, y3548.Before.Sent, y3548.Fault, y3548.Sent, rfl, _, hs3544, A2016, c2017, b3543, A3550, c3551, ha.to ⟨rfl, rfl, rfl, rfl, rfl, rfl, trivial⟩, hS.p3.p1.p2, hr3545, h⟩
def isochronlaw17vsame.l2b (a1 a5 : List api_Message) : Int → Option ((Int) ⊕ (Bool))
  | (x46) => (if x46 < (a1.length : Int) then (if 0 ≤ x46 then (if x46 < (a5.length : Int) then (if nth a1 x46 = nth a5 x46 then some (.inl (IntKind.i64.wrap (x46 + 1))) else some (.inr false)) else none) else none) else some (.inr true))
def isochronlaw17vsame.l2 (a1 a5 : List api_Message) (s : Int) : Option (Bool) := loopR (isochronlaw17vsame.l2b a1 a5) s
def isochronlaw17vsame.f (a1 a5 : List api_Message) : Option (Bool) := (if (a1.length : Int) = (a5.length : Int) then isochronlaw17vsame.l2 a1 a5 (0) else some false)
theorem isochronlaw17vsame.ok {a1 a5 : List api_Message} {A2 : Option Addr} {c3 : Nat} {A6 : Option Addr} {c7 : Nat} (hr4 : SlR E_api_Message.rep hf A2 c3 a1) (hr8 : SlR E_api_Message.rep hf A6 c7 a5) {r : Bool} (h : isochronlaw17vsame.f a1 a5 = some r) (hS : St B w (l) hf) :
    Calls prog 16 #[.slice A2 a1.length c3, .slice A6 a5.length c7] w (Ret fun v w => v = .bool r ∧ St B w (l) hf) := by
  have h := Holds.of h
  refine en func16 rfl ntmps16 rfl (sr (pn 1 rfl (ln (RC.seq (sr (pn 1 rfl (RL.s (Vl.lenSl underlying39 rfl) rfl (pn 1 rfl (RL.s (Vl.lenSl underlying39 rfl) rfl (pn 1 rfl (ln ?_)))))))))))
  refine RC.iteN 10 rfl h (fun hc38 h => ?_) fun hc38 h => ?_
  next =>
   refine RC.condF rfl (sk (RC.seq (sr (pn 1 rfl (ln (RC.block ?_))))))
   refine fun a ha => RC.loop (N := 26) (body := (isochronlaw17vsame.l2b a1 a5)) (φ := (· = r)) (fun (s : Int) a w => ∃ (x46 : Int), s = (x46) ∧ Has 26 [(0, .slice A2 a1.length c3), (1, .slice A6 a5.length c7), (5, .int .i64 x46)] a ∧ St B w (l) hf) ?_ (s0 := (0)) h ⟨0, rfl, ha.to ⟨rfl, rfl, rfl, trivial⟩, hS⟩
   rintro G56 x46 a w ⟨_, rfl, ha, hS⟩ h
   revert a
   show RC _ _ _ _ _ _
   refine RC.seq (sr (pn 2 rfl (RL.s (Vl.lenSl underlying39 rfl) rfl (pn 1 rfl (ln ?_)))))
   refine RC.iteP 14 rfl h (fun hc58 h => ?_) fun hc58 h => ?_
   next =>
    refine RC.condT rfl (sk (RC.seq (RC.block (RC.seq (RC.planS (plD [0, 3, 7, 10, 12, 17, 20, 23, 26]) [8] hS (fun w hS => hS) follows rfl (by kernel_rfl) (NoTmp.then (NoTmp.block (NoTmp.then (NoTmp.then (NoTmp.block (NoTmp.then NoTmp.body)))))) fun w hS => pp 2 rfl ?_)))))
    obtain ⟨hq62, h⟩ := h.req
    refine RP.s 0 2 rfl rfl hS (fun w hS => Vl.indexAddr underlying39 sizeOf48 rfl rfl ((hr4.2.world hS.sub).adr hq62 hc58) hq62 hc58 rfl) rfl (RP.s 0 3 rfl rfl hS (fun w hS => Vl.loadA isAgg48 sizeOf48 rfl rfl ((hr4.2.world hS.sub).cells hq62 hc58)) rfl (pp 1 rfl (RP.v1 5 rfl (Vl.move rfl) rfl rfl ?_)))
    obtain ⟨hq63, h⟩ := h.req
    refine RP.v1 6 rfl (Vl.indexAddr underlying39 sizeOf48 rfl rfl ((hr8.2.world hS.sub).adr hq62 hq63) hq62 hq63 rfl) rfl rfl (RP.v1 7 rfl (Vl.loadA isAgg48 sizeOf48 rfl rfl ((hr8.2.world hS.sub).cells hq62 hq63)) rfl rfl (RP.v1 8 rfl (Vl.neqS (run_neq_api_Message _ _ (nth a1 x46) (nth a5 x46)) rfl rfl) rfl rfl (RP.nil (RQ.then_n ?_))))
    refine RC.iteN 25 rfl h (fun hc64 h => ?_) fun hc64 h => ?_
    next =>
     refine RC.condF rfl (RC.skip (RQ.inB_n (RQ.then_n (RC.region (pn 3 rfl (RL.nil ?_))))))
     exact fun a ha => ⟨(IntKind.i64.wrap (x46 + 1)), ⟨(IntKind.i64.wrap (x46 + 1)), rfl, ha.to ⟨rfl, rfl, rfl, trivial⟩, hS⟩, h.some⟩
    refine RC.condT rfl (sr (pn 1 rfl (lr (RQ.inB_ret (RQ.ret ?_)))))
    have h := h.inrS
    refine RQ.ret (RQ.inB_ret (RQ.ret ?_))
    obtain rfl := h.some
    exact rt results16 rfl ⟨rfl, hS⟩
   refine RC.condF rfl (RC.exit (RQ.exitT ?_))
   have h := h.inrS
   refine RQ.exitT (RQ.inB_hit (tsr (pn 1 rfl (lr ?_))))
   obtain rfl := h.some
   exact rt results16 rfl ⟨rfl, hS⟩
  refine RC.condT rfl (sr (pn 1 rfl (lr (RQ.ret ?_))))
  obtain rfl := h.some
  exact rt results16 rfl ⟨rfl, hS⟩
def isochronlaw17vLaneLimits.j8 (a1 : api_Model) (y2372 : Int) : Option (Bool) := ((model_Check.f a1).bind fun t2381 => (if y2372 = t2381 then ((isochronlaw17vawake.f).bind fun t2384 => some t2384) else some false))
def isochronlaw17vLaneLimits.l12b (a1 : api_Model) (a11 : Int) (t2402 : List Int) : lane_Lane × Int → Option ((lane_Lane × Int) ⊕ (Bool))
  | (y4318, x4319) => (if x4319 < 200 then ((lane_Lane_Waiting.f y4318).bind fun t4609 => ((lane_Lane_Done.f y4318).bind fun t4621 => ((lane_Lane_Step.f y4318 a11 t2402).bind fun (y4639, y4640, y4641) => (if y4640 = 0 then (if (t4609.length : Int) = 0 then some (.inr false) else (if 0 < (t4609.length : Int) then (if a11 ≤ ((nth t4609 0).Key).Time then some (.inr false) else (if a1.End < ((nth t4609 0).Key).Time then some (.inr false) else ((lane_Lane_Done.f y4641).bind fun t4663 => (if (t4663.length : Int) = IntKind.i64.wrap ((t4621.length : Int) + 1) then some (.inl (y4641, IntKind.i64.wrap (x4319 + 1))) else some (.inr false))))) else none)) else (if y4640 = 180 then ((lane_Lane_Waiting.f y4641).bind fun t4672 => ((isochronlaw17vsame.f t4672 t4609).bind fun t4684 => (if t4684 = true then ((lane_Lane_Done.f y4641).bind fun t4687 => (if (t4687.length : Int) = (t4621.length : Int) then ((isochronlaw17vawake.f).bind fun t4695 => some (.inr t4695)) else some (.inr false))) else some (.inr false)))) else some (.inr false)))))) else (Option.map Sum.inr ((isochronlaw17vawake.f).bind fun t4697 => some t4697)))
def isochronlaw17vLaneLimits.l12 (a1 : api_Model) (a11 : Int) (t2402 : List Int) (s : lane_Lane × Int) : Option (Bool) := loopR (isochronlaw17vLaneLimits.l12b a1 a11 t2402) s
def isochronlaw17vLaneLimits.j10 (a1 : api_Model) (a11 : Int) (y2387 : lane_Lane) (q2396 : Bool) : Option (Bool) := (if q2396 = true then some false else ((isochronlaw17vroom.f a1 0).bind fun t2402 => isochronlaw17vLaneLimits.l12 a1 a11 t2402 (y2387, 0)))
def isochronlaw17vLaneLimits.f (a1 : api_Model) (a11 : Int) : Option (Bool) := ((isochronlaw17vwide.f).bind fun t2368 => ((lane_New.f a1 0 t2368).bind fun t2370 => match t2370 with | .inl y2372 => (if y2372 = 0 then isochronlaw17vLaneLimits.j8 a1 y2372 else isochronlaw17vLaneLimits.j8 a1 y2372) | .inr ((y2387, y2388)) => (if y2388 = 0 then isochronlaw17vLaneLimits.j10 a1 a11 y2387 false else isochronlaw17vLaneLimits.j10 a1 a11 y2387 true)))
theorem isochronlaw17vLaneLimits.ok {a1 : api_Model} {a11 : Int} {A2 : Option Addr} {c3 : Nat} {A5 : Option Addr} {c6 : Nat} {A8 : Option Addr} {c9 : Nat} (hr4 : SlR (Rep.sl E_api_Instr.rep) hf A2 c3 a1.Progs) (hr7 : SlR E_api_Link.rep hf A5 c6 a1.Links) (hr10 : SlR E_api_Start.rep hf A8 c9 a1.Starts) (hG0 : GlobAt hf 0 (.iface 215 (.agg #[.pointer (some ⟨1, 108, none⟩)]))) {r : Bool} (h : isochronlaw17vLaneLimits.f a1 a11 = some r) (hS : St B w (l) hf) :
    Calls prog 3 #[.agg (C_api_Model a1 A2 c3 A5 c6 A8 c9).toArray, .int .i64 a11] w (Ret fun v w => v = .bool r ∧ St B w (l) hf) := by
  have h := Holds.of h
  refine en func3 rfl ntmps3 rfl (sr (bx hS rfl rfl rfl rfl fun b2357 w hS => pn 1 rfl (ln (RC.seq (RC.planS (plD [1, 5, 8, 9, 12, 15, 20, 23]) [6, 7] hS (fun w hS => hS) follows rfl (by kernel_rfl) (NoTmp.then NoTmp.body) fun w hS => RP.s 0 0 rfl rfl hS (fun w hS => Vl.lw 0 hS isAgg27 sizeOf27 rfl rfl rfl) rfl ?_)))))
  obtain ⟨t2368, hg2369, h⟩ := h.bind
  have hc := isochronlaw17vwide.ok hg2369 hS
  refine RP.e 1 rfl (OW.callF (ls := []) rfl call9 hc) rfl rfl ?_
  rintro _ w ⟨rfl, hS⟩
  refine ⟨kp ⟨fun _ => hS, trivial⟩, ?_⟩
  obtain ⟨t2370, hg2371, h⟩ := h.bind
  have hc := lane_New.ok hr4 hr7 hr10 hG0 hg2371 hS
  rcases t2370 with y2372 | ⟨y2387, y2388⟩
  · refine RP.e 2 rfl (OW.callF (ls := [.tmp 14, .const (.int .i64 0), .tmp 15]) rfl call8 hc) rfl rfl ?_
    rintro _ w ⟨rfl, hS⟩
    refine ⟨kp ⟨fun _ => hS, trivial⟩, ?_⟩
    refine pp 3 rfl (RP.v1 6 rfl (Vl.assign rfl) rfl rfl (RP.v1 7 rfl (Vl.assign rfl) rfl rfl (RP.nil (RQ.then_n (RC.seq ?_)))))
    refine RC.join (fun (s : Unit) a w => s = () ∧ Has 105 [(1, .int .i64 a11), (2, .pointer (some ⟨b2357, 0, none⟩)), (5, .pointer none), (6, .int .i64 y2372), (24, .bool true)] a ∧ St B w (Cl b2357 (C_api_Model a1 A2 c3 A5 c6 A8 c9) 27 :: l) hf ∧ Holds (· = r) (isochronlaw17vLaneLimits.j8 a1 y2372)) ?_ ?_
    · rintro _ a w ⟨rfl, ha, hS, h⟩
      revert a
      show RC _ _ _ _ _ _
      refine RC.condT rfl (sr (pn 1 rfl (RL.s (Vl.bin (v := .bool true) rfl rfl (by kernel_rfl)) rfl (pn 2 rfl (RL.sg (Vl.lw 0 hS isAgg27 sizeOf27 rfl rfl rfl) rfl rfl (cF (fun _ hg => model_Check.ok hr4 hr7 hr10 hG0 hg hS) call10 h rfl rfl rfl ?_))))))
      rintro t2381 h _ w ⟨rfl, hS⟩
      refine pn 3 rfl ?_
      refine RL.iteP 33 rfl h (fun hc2383 h => ?_) fun hc2383 h => ?_
      next =>
       refine cF (fun _ hg => isochronlaw17vawake.ok hG0 hg hS) call11 h rfl rfl rfl ?_
       rintro t2384 h _ w ⟨rfl, hS⟩
       refine pn 2 rfl (lr (RQ.ret ?_))
       obtain rfl := h.some
       exact rt results3 rfl ⟨rfl, hS.d0⟩
      refine pn 3 rfl (lr (RQ.ret ?_))
      obtain rfl := h.some
      exact rt results3 rfl ⟨rfl, hS.d0⟩
    refine RC.region (pn 3 rfl ?_)
    refine RL.iteN 21 rfl h (fun hc2386 h => ?_) fun hc2386 h => ?_
    next =>
     refine pn 1 rfl (RL.sg (Vl.bin (v := .bool true) rfl rfl (by kernel_rfl)) rfl rfl (pn 1 rfl (RL.nil ?_)))
     exact fun a ha => ⟨(), rfl, ha.to ⟨rfl, rfl, rfl, rfl, rfl, trivial⟩, hS, h⟩
    refine pn 3 rfl (RL.nil ?_)
    exact fun a ha => ⟨(), rfl, ha.to ⟨rfl, rfl, rfl, rfl, rfl, trivial⟩, hS, h⟩
  refine RP.e 2 rfl (OW.callF (ls := [.tmp 14, .const (.int .i64 0), .tmp 15]) rfl call8 hc) rfl rfl ?_
  rintro _ w ⟨hf, hs2390, b2389, rfl, hS⟩
  refine ⟨kp ⟨fun _ => (St.down hS.d0 hs2390), trivial⟩, ?_⟩
  refine pp 3 rfl (RP.v1 6 rfl (Vl.assign rfl) rfl rfl (RP.v1 7 rfl (Vl.assign rfl) rfl rfl (RP.nil (RQ.then_n (RC.seq ?_)))))
  refine RC.join (fun (s : Bool) a w => ∃ (q2396 : Bool), s = (q2396) ∧ Has 105 [(1, .int .i64 a11), (2, .pointer (some ⟨b2357, 0, none⟩)), (5, .pointer (some ⟨b2389, 0, none⟩)), (6, .int .i64 y2388), (24, .bool q2396)] a ∧ St B w (O_lane_Lane hf y2387 b2389 :: Cl b2357 (C_api_Model a1 A2 c3 A5 c6 A8 c9) 27 :: l) hf ∧ Holds (· = r) (isochronlaw17vLaneLimits.j10 a1 a11 y2387 q2396)) ?_ ?_
  · rintro q2396 a w ⟨_, rfl, ha, hS, h⟩
    revert a
    show RC _ _ _ _ _ _
    refine RC.iteB 24 rfl h (fun hc2397 h => ?_) fun hc2397 h => ?_
    next =>
     refine RC.condT rfl (sr (pn 1 rfl (RL.s (Vl.bin (v := .bool false) rfl rfl (by kernel_rfl)) rfl (pn 10 rfl (lr (RQ.ret ?_))))))
     obtain rfl := h.some
     exact rt results3 rfl ⟨rfl, (hS.d0.d0).down hs2390⟩
    refine RC.condF rfl (sk (sr (RL.s (Vl.lw 1 hS isAgg27 sizeOf27 rfl rfl rfl) rfl (cF (fun _ hg => isochronlaw17vroom.ok (hr4.mono hs2390) (hr7.mono hs2390) (hr10.mono hs2390) hg hS) call12 h rfl rfl rfl ?_))))
    rintro t2402 h _ w ⟨A2404, c2405, rfl, hS⟩
    refine pn 1 rfl (ln (RC.seq (sr (pn 1 rfl (ln (RC.block ?_))))))
    obtain ⟨hf, hs3943, hS, hr3944⟩ := St.promote hS
    have hS := O_lane_Lane.l hs3943 hS
    have hS : St B w (_ :: _ :: l) hf := hS
    refine fun a ha => RC.loop (N := 105) (body := (isochronlaw17vLaneLimits.l12b a1 a11 t2402)) (φ := (· = r)) (fun (s : lane_Lane × Int) a w => ∃ (y4318 : lane_Lane) (x4319 : Int), s = (y4318, x4319) ∧ ∃ hf_ : Hp, Sub hf hf_ ∧ Has 105 [(1, .int .i64 a11), (2, .pointer (some ⟨b2357, 0, none⟩)), (5, .pointer (some ⟨b2389, 0, none⟩)), (7, .slice A2404 t2402.length c2405), (8, .int .i64 x4319)] a ∧ St B w (O_lane_Lane hf_ y4318 b2389 :: Cl b2357 (C_api_Model a1 A2 c3 A5 c6 A8 c9) 27 :: l) hf_) ?_ (s0 := (y2387, 0)) h ⟨y2387, 0, rfl, _, (Sub.refl _), ha.to ⟨rfl, rfl, rfl, rfl, rfl, trivial⟩, hS⟩
    rintro G4509 _ a w ⟨y4318, x4319, rfl, hf, hs4130, ha, hS⟩ h
    revert a
    show RC _ _ _ _ _ _
    refine RC.seq (sr (pn 2 rfl (ln ?_)))
    refine RC.iteP 39 rfl h (fun hc4511 h => ?_) fun hc4511 h => ?_
    next =>
     refine RC.condT rfl (sk (RC.seq (RC.block (sr (pn 1 rfl (cF (fun _ hg => lane_Lane_Waiting.ok hg hS) call13 h rfl rfl rfl ?_))))))
     rintro t4609 h _ w ⟨A4611, c4612, rfl, hS⟩
     refine pn 1 rfl (lnsr (pn 1 rfl (cF (fun _ hg => lane_Lane_Done.ok (((hG0.mono hs2390).mono hs3943).mono hs4130) hg hS.p1) call14 h rfl rfl rfl ?_)))
     rintro t4621 h _ w ⟨hf, hs4627, A4623, c4624, cs4625, rfl, hS, hx4626⟩
     refine RL.s (Vl.lenSl underlying41 rfl) rfl (pn 1 rfl (lnsr (pn 3 rfl (cF (fun _ hg => lane_Lane_Step.ok ((hr3944.mono hs4130).mono hs4627) ((((hG0.mono hs2390).mono hs3943).mono hs4130).mono hs4627) hg hS.p1) call15 h rfl rfl rfl ?_))))
     rintro ⟨y4639, y4640, y4641⟩ h _ w ⟨hf, hs4644, A4642, c4643, rfl, hS⟩
     refine pn 5 rfl (ln (RC.seq (sr (pn 2 rfl (ln ?_)))))
     refine RC.iteP 55 rfl h (fun hc4658 h => ?_) fun hc4658 h => ?_
     next =>
      refine RC.condT rfl (RC.seq (RC.seq (RC.planS (plD [0, 3, 6, 9, 12, 16, 18, 21, 25, 27, 30, 33, 36, 39, 43, 45, 48, 52, 54, 58, 60, 63, 66, 69, 78, 81, 74, 77, 86, 89]) [24, 25, 28, 29] hS (fun w hS => hS) follows rfl (by kernel_rfl) (NoTmp.then (NoTmp.then (NoTmp.then (NoTmp.block (NoTmp.then (NoTmp.then (NoTmp.block (NoTmp.then NoTmp.body)))))))) fun w hS => pp 1 rfl (RP.s0 1 rfl (fun w => Vl.lenSl underlying39 rfl) rfl (pp 2 rfl ?_)))))
      refine RP.iteP 59 rfl h (fun hc4659 h => ?_) fun hc4659 h => ?_
      next =>
       refine pp 1 rfl (RP.nn 0 5 rfl rfl rfl (pp 2 rfl (RP.nn 0 8 rfl rfl rfl (pp 5 rfl (RP.nn 0 14 rfl rfl rfl (pp 2 rfl (RP.nn 0 17 rfl rfl rfl (pp 1 rfl (RP.nn 0 19 rfl rfl rfl (pp 6 rfl (RP.n1 24 rfl rfl rfl (RP.n1 25 rfl rfl rfl (RP.n1 28 rfl rfl rfl (RP.v1 29 rfl (Vl.pickT rfl rfl) rfl rfl (RP.nil ?_)))))))))))))))
       refine RQ.then_n (RC.condT rfl (sr (pn 1 rfl (lr (RQ.ret (RQ.ret (RQ.inB_ret (RQ.ret ?_))))))))
       have h := h.inrS
       refine RQ.ret (RQ.inB_ret (RQ.ret ?_))
       obtain rfl := h.some
       exact rt results3 rfl ⟨rfl, (hS.d0.d0.d0.d0.d0).down ((((hs2390.trans hs3943).trans hs4130).trans hs4627).trans hs4644)⟩
      refine pp 1 rfl ?_
      obtain ⟨hq4660, h⟩ := h.req
      refine RP.sg 0 5 rfl rfl hS (fun w hS => Vl.indexOwn 3 hS rfl underlying39 sizeOf48 rfl rfl (by decide) hq4660) rfl rfl (RP.sg0 6 rfl (fun w => Vl.fieldAddr (a'' := (ad A4611).add ((0 : Int).toNat * 7 + 0)) underlying48 rfl sizeOf46 rfl (add_add _ _ _)) rfl rfl (RP.sg0 7 rfl (fun w => Vl.fieldAddr (a'' := (ad A4611).add ((0 : Int).toNat * 7 + 0)) underlying46 rfl sizeOf2 rfl (add_add _ _ _)) rfl rfl (RP.sg 0 8 rfl rfl hS (fun w hS => Vl.load isAgg2 rfl ((hS.slW 3 rfl).2.2.cell (j := 0) (by decide) hq4660 rfl)) rfl rfl (pp 4 rfl ?_))))
      refine RP.iteP 68 rfl h (fun hc4661 h => ?_) fun hc4661 h => ?_
      next =>
       refine pp 1 rfl (RP.nn 0 14 rfl rfl rfl (pp 2 rfl (RP.nn 0 17 rfl rfl rfl (pp 1 rfl (RP.nn 0 19 rfl rfl rfl (pp 6 rfl (RP.n1 24 rfl rfl rfl (RP.n1 25 rfl rfl rfl (RP.n1 28 rfl rfl rfl (RP.v1 29 rfl (Vl.pickT rfl rfl) rfl rfl (RP.nil (RQ.then_n (RC.condT rfl (sr ?_))))))))))))))
       refine pn 1 rfl (lr (RQ.ret (RQ.ret (RQ.inB_ret (RQ.ret ?_)))))
       have h := h.inrS
       refine RQ.ret (RQ.inB_ret (RQ.ret ?_))
       obtain rfl := h.some
       exact rt results3 rfl ⟨rfl, (hS.d0.d0.d0.d0.d0).down ((((hs2390.trans hs3943).trans hs4130).trans hs4627).trans hs4644)⟩
      refine pp 1 rfl (RP.sg 0 14 rfl rfl hS (fun w hS => Vl.indexOwn 3 hS rfl underlying39 sizeOf48 rfl rfl (by decide) hq4660) rfl rfl (RP.sg0 15 rfl (fun w => Vl.fieldAddr (a'' := (ad A4611).add ((0 : Int).toNat * 7 + 0)) underlying48 rfl sizeOf46 rfl (add_add _ _ _)) rfl rfl (RP.sg0 16 rfl (fun w => Vl.fieldAddr (a'' := (ad A4611).add ((0 : Int).toNat * 7 + 0)) underlying46 rfl sizeOf2 rfl (add_add _ _ _)) rfl rfl (RP.sg 0 17 rfl rfl hS (fun w hS => Vl.load isAgg2 rfl ((hS.slW 3 rfl).2.2.cell (j := 0) (by decide) hq4660 rfl)) rfl rfl (RP.sg0 18 rfl (fun w => Vl.fa 4 underlying27 rfl sizeOf2 rfl rfl) rfl rfl (RP.sg 0 19 rfl rfl hS (fun w hS => Vl.ld 4 hS isAgg2 rfl rfl rfl) rfl rfl (pp 3 rfl ?_)))))))
      refine RP.iteP 78 rfl h (fun hc4662 h => ?_) fun hc4662 h => ?_
      next =>
       refine pp 3 rfl (RP.n1 24 rfl rfl rfl (RP.n1 25 rfl rfl rfl (RP.n1 28 rfl rfl rfl (RP.v1 29 rfl (Vl.pickT rfl rfl) rfl rfl (RP.nil (RQ.then_n (RC.condT rfl (sr (pn 1 rfl (lr (RQ.ret (RQ.ret ?_))))))))))))
       refine RQ.inB_ret (RQ.ret ?_)
       have h := h.inrS
       refine RQ.ret (RQ.inB_ret (RQ.ret ?_))
       obtain rfl := h.some
       exact rt results3 rfl ⟨rfl, (hS.d0.d0.d0.d0.d0).down ((((hs2390.trans hs3943).trans hs4130).trans hs4627).trans hs4644)⟩
      refine pp 3 rfl ?_
      obtain ⟨t4663, hg4664, h⟩ := h.bind
      have hc := lane_Lane_Done.ok (((((hG0.mono hs2390).mono hs3943).mono hs4130).mono hs4627).mono hs4644) hg4664 hS.p1
      refine RP.e 24 rfl (OW.callF (ls := [.tmp 79]) rfl call14 hc) rfl rfl ?_
      rintro _ w ⟨hf, hs4669, A4665, c4666, cs4667, rfl, hS, hx4668⟩
      refine ⟨kp ⟨(by intro hx; cases hx), trivial⟩, ?_⟩
      refine RP.v1 25 rfl (Vl.lenSl underlying41 rfl) rfl rfl (RP.v1 28 rfl (Vl.int rfl rfl rfl) rfl rfl (RP.v1 29 rfl (Vl.pickF rfl rfl) rfl rfl (RP.nil (RQ.then_n ?_))))
      refine RC.iteN 85 rfl h (fun hc4670 h => ?_) fun hc4670 h => ?_
      next =>
       refine RC.condF rfl (sk (RC.exit (RQ.exitT (RQ.inB_hit (RQ.then_n (RC.region (pn 3 rfl (RL.nil ?_))))))))
       exact fun a ha => ⟨(y4641, IntKind.i64.wrap (x4319 + 1)), ⟨y4641, (IntKind.i64.wrap (x4319 + 1)), rfl, _, (((hs4130.trans hs4627).trans hs4644).trans hs4669), ha.to ⟨rfl, rfl, rfl, rfl, rfl, trivial⟩, hS.d0.d1.d1.d1⟩, h.some⟩
      refine RC.condT rfl (sr (pn 1 rfl (lr (RQ.ret (RQ.ret (RQ.inB_ret (RQ.ret ?_)))))))
      have h := h.inrS
      refine RQ.ret (RQ.inB_ret (RQ.ret ?_))
      obtain rfl := h.some
      exact rt results3 rfl ⟨rfl, (hS.d0.d0.d0.d0.d0.d0).down (((((hs2390.trans hs3943).trans hs4130).trans hs4627).trans hs4644).trans hs4669)⟩
     refine RC.condF rfl (sk (sr (pn 3 rfl ?_)))
     refine RL.iteP 88 rfl h (fun hc4671 h => ?_) fun hc4671 h => ?_
     next =>
      refine pn 1 rfl (cF (fun _ hg => lane_Lane_Waiting.ok hg hS.p1) call13 h rfl rfl rfl ?_)
      rintro t4672 h _ w ⟨A4674, c4675, rfl, hS⟩
      refine pn 1 rfl ?_
      obtain ⟨hf4679, hs4677, hS, hr4676, hb4678⟩ := St.lendSl hS.p4.p1
      obtain ⟨hf4683, hs4681, hS, hr4680, hb4682⟩ := St.lendSl hS
      obtain ⟨t4684, hg4685, h⟩ := h.bind
      have hc := isochronlaw17vsame.ok (hr4676.mono hs4681) hr4680 hg4685 hS
      refine RL.e (OW.callF (ls := [.tmp 90, .tmp 91]) rfl call16 hc) rfl rfl ?_
      rintro _ w ⟨rfl, hS⟩
      have hS := hb4682 _ _ hS
      have hS := hb4678 _ _ hS
      have hS : St B w (_ :: _ :: _ :: _ :: _ :: _ :: l) hf := hS
      refine pn 2 rfl ?_
      refine RL.iteB 94 rfl h (fun hc4686 h => ?_) fun hc4686 h => ?_
      next =>
       refine pn 1 rfl (cF (fun _ hg => lane_Lane_Done.ok (((((hG0.mono hs2390).mono hs3943).mono hs4130).mono hs4627).mono hs4644) hg hS.p2) call14 h rfl rfl rfl ?_)
       rintro t4687 h _ w ⟨hf, hs4693, A4689, c4690, cs4691, rfl, hS, hx4692⟩
       refine RL.sg (Vl.lenSl underlying41 rfl) rfl rfl (pn 4 rfl ?_)
       refine RL.iteP 101 rfl h (fun hc4694 h => ?_) fun hc4694 h => ?_
       next =>
        refine cF (fun _ hg => isochronlaw17vawake.ok ((((((hG0.mono hs2390).mono hs3943).mono hs4130).mono hs4627).mono hs4644).mono hs4693) hg hS) call11 h rfl rfl rfl ?_
        rintro t4695 h _ w ⟨rfl, hS⟩
        refine pn 2 rfl (lr (RQ.inB_ret (RQ.ret ?_)))
        have h := h.inrS
        refine RQ.ret (RQ.inB_ret (RQ.ret ?_))
        obtain rfl := h.some
        exact rt results3 rfl ⟨rfl, (hS.d0.d0.d0.d0.d0.d0.d0).down (((((hs2390.trans hs3943).trans hs4130).trans hs4627).trans hs4644).trans hs4693)⟩
       refine pn 3 rfl (lr (RQ.inB_ret (RQ.ret ?_)))
       have h := h.inrS
       refine RQ.ret (RQ.inB_ret (RQ.ret ?_))
       obtain rfl := h.some
       exact rt results3 rfl ⟨rfl, (hS.d0.d0.d0.d0.d0.d0.d0).down (((((hs2390.trans hs3943).trans hs4130).trans hs4627).trans hs4644).trans hs4693)⟩
      refine pn 10 rfl (lr (RQ.inB_ret (RQ.ret ?_)))
      have h := h.inrS
      refine RQ.ret (RQ.inB_ret (RQ.ret ?_))
      obtain rfl := h.some
      exact rt results3 rfl ⟨rfl, (hS.d0.d0.d0.d0.d0.d0).down ((((hs2390.trans hs3943).trans hs4130).trans hs4627).trans hs4644)⟩
     refine pn 16 rfl (lr (RQ.inB_ret (RQ.ret ?_)))
     have h := h.inrS
     refine RQ.ret (RQ.inB_ret (RQ.ret ?_))
     obtain rfl := h.some
     exact rt results3 rfl ⟨rfl, (hS.d0.d0.d0.d0.d0).down ((((hs2390.trans hs3943).trans hs4130).trans hs4627).trans hs4644)⟩
    refine RC.condF rfl (RC.exit (RQ.exitT ?_))
    have h := h.inr
    refine RQ.exitT (RQ.inB_hit (tsr (cF (fun _ hg => isochronlaw17vawake.ok (((hG0.mono hs2390).mono hs3943).mono hs4130) hg hS) call11 h rfl rfl rfl ?_)))
    rintro t4697 h _ w ⟨rfl, hS⟩
    refine pn 1 rfl (lr ?_)
    obtain rfl := h.some
    exact rt results3 rfl ⟨rfl, (hS.d0.d0).down ((hs2390.trans hs3943).trans hs4130)⟩
  refine RC.region (pn 3 rfl ?_)
  refine RL.iteN 21 rfl h (fun hc4699 h => ?_) fun hc4699 h => ?_
  next =>
   refine pn 1 rfl (RL.sg (Vl.bin (v := .bool false) rfl rfl (by kernel_rfl)) rfl rfl (pn 1 rfl (RL.nil ?_)))
   exact fun a ha => ⟨(false), false, rfl, ha.to ⟨rfl, rfl, rfl, rfl, rfl, trivial⟩, hS, h⟩
  refine pn 3 rfl (RL.nil ?_)
  exact fun a ha => ⟨(true), true, rfl, ha.to ⟨rfl, rfl, rfl, rfl, rfl, trivial⟩, hS, h⟩
end
end Go.Proofs.Gx
