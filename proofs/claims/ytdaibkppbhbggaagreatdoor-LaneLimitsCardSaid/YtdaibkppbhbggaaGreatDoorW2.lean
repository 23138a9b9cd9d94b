/-
  The walks of functions, each with what it computes: printed by wip/gx.py.
-/
import Derived.Test.YtdaibkppbhbggaaGreatDoorW1
set_option linter.unusedVariables false
set_option linter.unusedSimpArgs false
set_option maxRecDepth 100000
set_option maxHeartbeats 4000000
namespace Go.Proofs.Gx
open Go.Sl Tryz
variable {B : Base} {w : World} {l : List HProp} {hf : Hp}
noncomputable section
def event_Compare.f (a1 a2 : api_Key) : Option (Int) := (if a1 = a2 then some 0 else ((cmp_Compare_int64.f a1.Time a2.Time).bind fun t24 => ((cmp_Compare_int.f a1.From a2.From).bind fun t26 => ((cmp_Compare_int.f a1.Seq a2.Seq).bind fun t28 => ((cmp_Or_int.f ([t24, t26, t28] : List Int)).bind fun t35 => some t35)))))
theorem event_Compare.ok {a1 a2 : api_Key} {r : Int} (h : event_Compare.f a1 a2 = some r) (hS : St B w (l) hf) :
    Calls prog 111 #[.agg (C_api_Key a1).toArray, .agg (C_api_Key a2).toArray] w (Ret fun v w => v = .int .i64 r ∧ St B w (l) hf) := by
  have h := Holds.of h
  refine en func111 rfl ntmps111 rfl (sr (bx hS rfl rfl rfl rfl fun b20 w hS => bx hS rfl rfl rfl rfl fun b21 w hS => pn 1 rfl (ln (RC.seq (sr (RL.s (Vl.lw 1 hS isAgg46 sizeOf46 rfl rfl rfl) rfl (RL.s (Vl.lw 0 hS isAgg46 sizeOf46 rfl rfl rfl) rfl (RL.s (Vl.eqlS (run_eql_api_Key _ _ a1 a2) rfl rfl) rfl (ln ?_)))))))))
  refine RC.iteP 7 rfl h (fun hc23 h => ?_) fun hc23 h => ?_
  next =>
   refine RC.condT rfl (sr (pn 1 rfl (lr (RQ.ret ?_))))
   obtain rfl := h.some
   exact rt results111 rfl ⟨rfl, hS.d0.d0⟩
  refine RC.condF rfl (sk (RC.seq (RC.planS (plD [0, 4, 6, 10, 15, 19, 21, 25, 30, 34, 36, 40, 14, 29, 44, 47, 50, 53]) [14, 15, 16, 17] hS (fun w hS => hS) follows rfl (by kernel_rfl) (NoTmp.then NoTmp.body) fun w hS => RP.s0 0 rfl (fun w => Vl.fa 0 underlying46 rfl sizeOf2 rfl rfl) rfl (RP.s 0 1 rfl rfl hS (fun w hS => Vl.ld 1 hS isAgg2 rfl rfl rfl) rfl (RP.s0 2 rfl (fun w => Vl.fa 0 underlying46 rfl sizeOf2 rfl rfl) rfl (RP.s 0 3 rfl rfl hS (fun w hS => Vl.ld 0 hS isAgg2 rfl rfl rfl) rfl (RP.s0 5 rfl (fun w => Vl.fa 1 underlying46 rfl sizeOf3 rfl rfl) rfl (RP.s 0 6 rfl rfl hS (fun w hS => Vl.ld 1 hS isAgg3 rfl rfl rfl) rfl (RP.s0 7 rfl (fun w => Vl.fa 1 underlying46 rfl sizeOf3 rfl rfl) rfl (RP.s 0 8 rfl rfl hS (fun w hS => Vl.ld 0 hS isAgg3 rfl rfl rfl) rfl (RP.s0 10 rfl (fun w => Vl.fa 2 underlying46 rfl sizeOf3 rfl rfl) rfl (RP.s 0 11 rfl rfl hS (fun w hS => Vl.ld 1 hS isAgg3 rfl rfl rfl) rfl (RP.s0 12 rfl (fun w => Vl.fa 2 underlying46 rfl sizeOf3 rfl rfl) rfl ?_)))))))))))))
  refine RP.s 0 13 rfl rfl hS (fun w hS => Vl.ld 0 hS isAgg3 rfl rfl rfl) rfl ?_
  obtain ⟨t24, hg25, h⟩ := h.bind
  have hc := cmp_Compare_int64.ok hg25 hS
  refine RP.e 4 rfl (OW.callF (ls := [.tmp 9, .tmp 11]) rfl call126 hc) rfl rfl ?_
  rintro _ w ⟨rfl, hS⟩
  refine ⟨kp ⟨fun _ => hS, trivial⟩, ?_⟩
  obtain ⟨t26, hg27, h⟩ := h.bind
  have hc := cmp_Compare_int.ok hg27 hS
  refine RP.e 9 rfl (OW.callF (ls := [.tmp 14, .tmp 16]) rfl call112 hc) rfl rfl ?_
  rintro _ w ⟨rfl, hS⟩
  refine ⟨kp ⟨fun _ => hS, trivial⟩, ?_⟩
  obtain ⟨t28, hg29, h⟩ := h.bind
  have hc := cmp_Compare_int.ok hg29 hS
  refine RP.e 14 rfl (OW.callF (ls := [.tmp 19, .tmp 21]) rfl call112 hc) rfl rfl ?_
  rintro _ w ⟨rfl, hS⟩
  refine ⟨kp ⟨(by intro hx; cases hx), trivial⟩, ?_⟩
  refine RP.e 15 rfl (OW.buildSlice (E := (FI .i64)) (xs := ([t24, t26, t28] : List Int)) (cs := [.int .i64 t24, .int .i64 t26, .int .i64 t28]) hS underlying37 zeroValue3 sizeOf3 (parts := [(0, .tmp 12), (1, .tmp 17), (2, .tmp 22)]) rfl rfl (by decide) (by decide) (by kernel_rfl) rfl) rfl rfl ?_
  rintro _ w ⟨b30, rfl, hS⟩
  refine ⟨kp ⟨(by intro hx; cases hx), trivial⟩, ?_⟩
  obtain ⟨hf34, hs32, hS, hr31, hb33⟩ := St.lendSl hS
  obtain ⟨t35, hg36, h⟩ := h.bind
  have hc := cmp_Or_int.ok hr31 hg36 hS
  refine RP.e 16 rfl (OW.callF (ls := [.tmp 23]) rfl call110 hc) rfl rfl ?_
  rintro _ w ⟨rfl, hS⟩
  have hS := hb33 _ _ hS
  have hS : St B w (_ :: _ :: _ :: l) hf := hS
  refine ⟨kp ⟨(by intro hx; cases hx), trivial⟩, ?_⟩
  refine RP.v1 17 rfl (Vl.assign rfl) rfl rfl (RP.nil (tr ?_))
  obtain rfl := h.some
  exact rt results111 rfl ⟨rfl, hS.d0.d0.d0⟩
def event_order.f (a1 a2 : api_Message) : Option (Int) := ((event_Compare.f a1.Key a2.Key).bind fun t18 => ((cmp_Compare_int.f a1.Uid a2.Uid).bind fun t20 => ((cmp_Or_int.f ([t18, t20] : List Int)).bind fun t27 => some t27)))
theorem event_order.ok {a1 a2 : api_Message} {r : Int} (h : event_order.f a1 a2 = some r) (hS : St B w (l) hf) :
    Calls prog 76 #[.agg (C_api_Message a1).toArray, .agg (C_api_Message a2).toArray] w (Ret fun v w => v = .int .i64 r ∧ St B w (l) hf) := by
  have h := Holds.of h
  refine en func76 rfl ntmps76 rfl (sr (bx hS rfl rfl rfl rfl fun b16 w hS => bx hS rfl rfl rfl rfl fun b17 w hS => pn 1 rfl (ln (RC.seq (RC.planS (plD [0, 4, 6, 10, 15, 19, 21, 25, 14, 29, 32, 35, 38]) [9, 10, 11, 12] hS (fun w hS => hS) follows rfl (by kernel_rfl) (NoTmp.then NoTmp.body) fun w hS => RP.s0 0 rfl (fun w => Vl.fa 0 underlying48 rfl sizeOf46 rfl rfl) rfl (RP.s 0 1 rfl rfl hS (fun w hS => Vl.loadA (vs := (C_api_Key a1.Key)) isAgg46 sizeOf46 rfl rfl (hS.cellsAt 1 rfl rfl)) rfl (RP.s0 2 rfl (fun w => Vl.fa 0 underlying48 rfl sizeOf46 rfl rfl) rfl (RP.s 0 3 rfl rfl hS (fun w hS => Vl.loadA (vs := (C_api_Key a2.Key)) isAgg46 sizeOf46 rfl rfl (hS.cellsAt 0 rfl rfl)) rfl (RP.s0 5 rfl (fun w => Vl.fa 5 underlying48 rfl sizeOf3 rfl rfl) rfl (RP.s 0 6 rfl rfl hS (fun w hS => Vl.ld 1 hS isAgg3 rfl rfl rfl) rfl ?_))))))))))
  refine RP.s0 7 rfl (fun w => Vl.fa 5 underlying48 rfl sizeOf3 rfl rfl) rfl (RP.s 0 8 rfl rfl hS (fun w hS => Vl.ld 0 hS isAgg3 rfl rfl rfl) rfl ?_)
  obtain ⟨t18, hg19, h⟩ := h.bind
  have hc := event_Compare.ok hg19 hS
  refine RP.e 4 rfl (OW.callF (ls := [.tmp 6, .tmp 8]) rfl call111 hc) rfl rfl ?_
  rintro _ w ⟨rfl, hS⟩
  refine ⟨kp ⟨fun _ => hS, trivial⟩, ?_⟩
  obtain ⟨t20, hg21, h⟩ := h.bind
  have hc := cmp_Compare_int.ok hg21 hS
  refine RP.e 9 rfl (OW.callF (ls := [.tmp 11, .tmp 13]) rfl call112 hc) rfl rfl ?_
  rintro _ w ⟨rfl, hS⟩
  refine ⟨kp ⟨(by intro hx; cases hx), trivial⟩, ?_⟩
  refine RP.e 10 rfl (OW.buildSlice (E := (FI .i64)) (xs := ([t18, t20] : List Int)) (cs := [.int .i64 t18, .int .i64 t20]) hS underlying37 zeroValue3 sizeOf3 (parts := [(0, .tmp 9), (1, .tmp 14)]) rfl rfl (by decide) (by decide) (by kernel_rfl) rfl) rfl rfl ?_
  rintro _ w ⟨b22, rfl, hS⟩
  refine ⟨kp ⟨(by intro hx; cases hx), trivial⟩, ?_⟩
  obtain ⟨hf26, hs24, hS, hr23, hb25⟩ := St.lendSl hS
  obtain ⟨t27, hg28, h⟩ := h.bind
  have hc := cmp_Or_int.ok hr23 hg28 hS
  refine RP.e 11 rfl (OW.callF (ls := [.tmp 15]) rfl call110 hc) rfl rfl ?_
  rintro _ w ⟨rfl, hS⟩
  have hS := hb25 _ _ hS
  have hS : St B w (_ :: _ :: _ :: l) hf := hS
  refine ⟨kp ⟨(by intro hx; cases hx), trivial⟩, ?_⟩
  refine RP.v1 12 rfl (Vl.assign rfl) rfl rfl (RP.nil (tr ?_))
  obtain rfl := h.some
  exact rt results76 rfl ⟨rfl, hS.d0.d0.d0⟩
def event_Before.f (a1 a2 : api_Message) : Option (Bool) := ((event_order.f a1 a2).bind fun t9 => some (decide (t9 < 0)))
theorem event_Before.ok {a1 a2 : api_Message} {r : Bool} (h : event_Before.f a1 a2 = some r) (hS : St B w (l) hf) :
    Calls prog 62 #[.agg (C_api_Message a1).toArray, .agg (C_api_Message a2).toArray] w (Ret fun v w => v = .bool r ∧ St B w (l) hf) := by
  have h := Holds.of h
  refine en func62 rfl ntmps62 rfl (sr (bx hS rfl rfl rfl rfl fun b7 w hS => bx hS rfl rfl rfl rfl fun b8 w hS => pn 1 rfl (lnsr (RL.s (Vl.lw 1 hS isAgg48 sizeOf48 rfl rfl rfl) rfl (RL.s (Vl.lw 0 hS isAgg48 sizeOf48 rfl rfl rfl) rfl (cF (fun _ hg => event_order.ok hg hS) call76 h rfl rfl rfl ?_))))))
  rintro t9 h _ w ⟨rfl, hS⟩
  refine pn 2 rfl (lr ?_)
  obtain rfl := h.some
  exact rt results62 rfl ⟨rfl, hS.d0.d0⟩
def heap_pile_api_Message_up.l2b : List api_Message × Int → Option ((List api_Message × Int) ⊕ (List api_Message))
  | (l99, x102) => (if 0 < x102 then (if 0 ≤ x102 ∧ x102 < (l99.length : Int) then (if 0 ≤ IntKind.i64.wrap (Int.tdiv (IntKind.i64.wrap (x102 - 1)) 2) ∧ IntKind.i64.wrap (Int.tdiv (IntKind.i64.wrap (x102 - 1)) 2) < (l99.length : Int) then ((event_Before.f (nth l99 x102) (nth l99 (IntKind.i64.wrap (Int.tdiv (IntKind.i64.wrap (x102 - 1)) 2)))).bind fun t140 => (if t140 = true then (if IntKind.i64.wrap (Int.tdiv (IntKind.i64.wrap (x102 - 1)) 2) < ((setL l99 x102 (nth l99 (IntKind.i64.wrap (Int.tdiv (IntKind.i64.wrap (x102 - 1)) 2)))).length : Int) then some (.inl ((setL (setL l99 x102 (nth l99 (IntKind.i64.wrap (Int.tdiv (IntKind.i64.wrap (x102 - 1)) 2)))) (IntKind.i64.wrap (Int.tdiv (IntKind.i64.wrap (x102 - 1)) 2)) (nth l99 x102)), IntKind.i64.wrap (Int.tdiv (IntKind.i64.wrap (x102 - 1)) 2))) else none) else some (.inr l99))) else none) else none) else some (.inr l99))
def heap_pile_api_Message_up.l2 (s : List api_Message × Int) : Option (List api_Message) := loopR (heap_pile_api_Message_up.l2b) s
def heap_pile_api_Message_up.f (a4 : List api_Message) (a5 : Int) : Option (List api_Message) := heap_pile_api_Message_up.l2 (a4, a5)
theorem heap_pile_api_Message_up.ok {a4 : List api_Message} {a5 : Int} {b1 : Nat} {A2 : Option Addr} {c3 : Nat} {r : List api_Message} (h : heap_pile_api_Message_up.f a4 a5 = some r) (hS : St B w (Cl b1 [.slice A2 a4.length c3, .func (.func 62) #[] #[]] 245 :: OSf E_api_Message 48 (.slice A2 a4.length c3) a4 :: l) hf) :
    Calls prog 204 #[.pointer (some ⟨b1, 0, none⟩), .int .i64 a5] w (Ret fun v w => ∃ (A_1 : Option Addr) (c_2 : Nat), v = .tuple #[] ∧ St B w (OSf E_api_Message 48 (.slice A_1 r.length c_2) r :: Cl b1 [.slice A_1 r.length c_2, .func (.func 62) #[] #[]] 245 :: l) hf) := by
  have h := Holds.of h
  refine en func204 rfl ntmps204 rfl (RC.block ?_)
  refine fun a ha => RC.loop (N := 57) (body := (heap_pile_api_Message_up.l2b)) (φ := (· = r)) (fun (s : List api_Message × Int) a w => ∃ (l99 : List api_Message) (x102 : Int), s = (l99, x102) ∧ ∃ (A100 : Option Addr) (c101 : Nat), Has 57 [(0, .pointer (some ⟨b1, 0, none⟩)), (1, .int .i64 x102)] a ∧ St B w (OSf E_api_Message 48 (.slice A100 l99.length c101) l99 :: Cl b1 [.slice A100 l99.length c101, .func (.func 62) #[] #[]] 245 :: l) hf) ?_ (s0 := (a4, a5)) h ⟨a4, a5, rfl, A2, c3, ha.to ⟨rfl, rfl, trivial⟩, hS.p1⟩
  rintro G126 _ a w ⟨l99, x102, rfl, A100, c101, ha, hS⟩ h
  revert a
  show RC _ _ _ _ _ _
  refine RC.seq (sr (pn 2 rfl (ln ?_)))
  refine RC.iteP 6 rfl h (fun hc128 h => ?_) fun hc128 h => ?_
  next =>
   refine RC.condT rfl (sk (RC.block (sr (pn 2 rfl (RL.s (Vl.quo rfl rfl (by decide)) rfl (pn 1 rfl (ln (RC.seq (RC.seq (RC.planS (plD [0, 3, 6, 10, 12, 15, 18, 22, 24, 28, 31, 33, 36, 39, 43, 47, 50, 53, 56, 59]) [18, 19] hS (fun w hS => hS) follows rfl (by kernel_rfl) (NoTmp.then (NoTmp.then (NoTmp.block (NoTmp.then (NoTmp.block NoTmp.body))))) fun w hS => pp 2 rfl (RP.s0 2 rfl (fun w => Vl.fa 1 underlying243 rfl sizeOf77 rfl rfl) rfl ?_)))))))))))
   refine RP.s 0 3 rfl rfl hS (fun w hS => Vl.ld 1 hS isAgg77 rfl rfl rfl) rfl (pp 2 rfl (RP.s0 6 rfl (fun w => Vl.fa 0 underlying243 rfl sizeOf39 rfl rfl) rfl (RP.s 0 7 rfl rfl hS (fun w hS => Vl.ld 1 hS isAgg39 rfl rfl rfl) rfl (pp 1 rfl ?_))))
   obtain ⟨⟨hq136, hq137⟩, h⟩ := h.req
   refine RP.s 0 9 rfl rfl hS (fun w hS => Vl.indexOwn 0 hS rfl underlying39 sizeOf48 rfl rfl hq136 hq137) rfl (RP.s 0 10 rfl rfl hS (fun w hS => Vl.loadA isAgg48 sizeOf48 rfl rfl ((hS.slW 0 rfl).2.2.cells hq136 hq137)) rfl (pp 2 rfl (RP.s0 13 rfl (fun w => Vl.fa 0 underlying243 rfl sizeOf39 rfl rfl) rfl (RP.s 0 14 rfl rfl hS (fun w hS => Vl.ld 1 hS isAgg39 rfl rfl rfl) rfl (RP.v1 15 rfl (Vl.move rfl) rfl rfl ?_)))))
   obtain ⟨⟨hq138, hq139⟩, h⟩ := h.req
   refine RP.v1 16 rfl (Vl.indexOwn 0 hS rfl underlying39 sizeOf48 rfl rfl hq138 hq139) rfl rfl (RP.v1 17 rfl (Vl.loadA isAgg48 sizeOf48 rfl rfl ((hS.slW 0 rfl).2.2.cells hq138 hq139)) rfl rfl ?_)
   obtain ⟨t140, hg141, h⟩ := h.bind
   have hc := event_Before.ok hg141 hS
   refine RP.e 18 rfl (OW.call (ls := [.tmp 20, .tmp 27]) rfl rfl call62 rfl hc) rfl rfl ?_
   rintro _ w ⟨rfl, hS⟩
   refine ⟨kp ⟨(by intro hx; cases hx), trivial⟩, ?_⟩
   refine RP.v1 19 rfl (Vl.not rfl) rfl rfl (RP.nil (RQ.then_n ?_))
   refine RC.iteM 29 rfl h (fun hc142 h => ?_) fun hc142 h => ?_
   next =>
    refine RC.condF rfl (sk (RC.seq (RC.planS (plD [0, 3, 6, 10, 12, 15, 18, 21, 25, 27, 30, 33, 36, 40, 42, 46, 49, 51, 54, 57, 61, 65, 68, 71, 74, 77, 80, 83]) [24, 25, 26, 27] hS (fun w hS => hS) follows rfl (by kernel_rfl) (NoTmp.then (NoTmp.block (NoTmp.then (NoTmp.block NoTmp.body)))) fun w hS => pp 2 rfl (RP.s0 2 rfl (fun w => Vl.fa 0 underlying243 rfl sizeOf39 rfl rfl) rfl (RP.s 0 3 rfl rfl hS (fun w hS => Vl.ld 1 hS isAgg39 rfl rfl rfl) rfl (pp 3 rfl (RP.s0 7 rfl (fun w => Vl.fa 0 underlying243 rfl sizeOf39 rfl rfl) rfl (RP.s 0 8 rfl rfl hS (fun w hS => Vl.ld 1 hS isAgg39 rfl rfl rfl) rfl (pp 3 rfl (RP.s0 12 rfl (fun w => Vl.fa 0 underlying243 rfl sizeOf39 rfl rfl) rfl (RP.s 0 13 rfl rfl hS (fun w hS => Vl.ld 1 hS isAgg39 rfl rfl rfl) rfl (pp 1 rfl (RP.s 0 15 rfl rfl hS (fun w hS => Vl.indexOwn 0 hS rfl underlying39 sizeOf48 rfl rfl hq138 hq139) rfl ?_)))))))))))))
    refine RP.s 0 16 rfl rfl hS (fun w hS => Vl.loadA isAgg48 sizeOf48 rfl rfl ((hS.slW 0 rfl).2.2.cells hq138 hq139)) rfl (pp 2 rfl (RP.s0 19 rfl (fun w => Vl.fa 0 underlying243 rfl sizeOf39 rfl rfl) rfl (RP.s 0 20 rfl rfl hS (fun w hS => Vl.ld 1 hS isAgg39 rfl rfl rfl) rfl (RP.v1 21 rfl (Vl.move rfl) rfl rfl (RP.v1 22 rfl (Vl.indexOwn 0 hS rfl underlying39 sizeOf48 rfl rfl hq136 hq137) rfl rfl (RP.v1 23 rfl (Vl.loadA isAgg48 sizeOf48 rfl rfl ((hS.slW 0 rfl).2.2.cells hq136 hq137)) rfl rfl (RP.v1 24 rfl (Vl.indexOwn 0 hS rfl underlying39 sizeOf48 rfl rfl hq136 hq137) rfl rfl (RP.e0 25 rfl (OW.storeOwn (E := E_api_Message) (off := 0) (j := x102) (x' := nth l99 (IntKind.i64.wrap (Int.tdiv (IntKind.i64.wrap (x102 - 1)) 2))) (vs := (C_api_Message (nth l99 (IntKind.i64.wrap (Int.tdiv (IntKind.i64.wrap (x102 - 1)) 2))))) 0 hS rfl rfl rfl rfl sizeOf48 rfl (Nat.succ_pos _) hq136 hq137 (Nat.le_of_ble_eq_true rfl) rfl rfl) rfl ?_))))))))
    rintro _ w ⟨rfl, hS⟩
    have he143 := (hS.osN 0 rfl).1
    have hS : St B w (_ :: _ :: l) hf := (congrArg (fun k_ : Nat => St B w (OSf E_api_Message 48 (.slice A100 k_ c101) (setL l99 x102 (nth l99 (IntKind.i64.wrap (Int.tdiv (IntKind.i64.wrap (x102 - 1)) 2)))) :: Cl b1 [.slice A100 k_ c101, .func (.func 62) #[] #[]] 245 :: l) hf) he143).mp hS
    refine ⟨kp ⟨(by intro hx; cases hx), trivial⟩, ?_⟩
    refine RP.re 17 rfl (congrArg (fun k_ : Nat => (.slice A100 k_ c101 : Value)) he143) (RP.re 24 rfl (congrArg (fun k_ : Nat => (.slice A100 k_ c101 : Value)) he143) (RP.re 33 rfl (congrArg (fun k_ : Nat => (.slice A100 k_ c101 : Value)) he143) (RP.re 38 rfl (congrArg (fun k_ : Nat => (.slice A100 k_ c101 : Value)) he143) (RP.re 43 rfl (congrArg (fun k_ : Nat => (.slice A100 k_ c101 : Value)) he143) (RP.re 50 rfl (congrArg (fun k_ : Nat => (.slice A100 k_ c101 : Value)) he143) ?_)))))
    obtain ⟨hq144, h⟩ := h.req
    refine RP.v1 26 rfl (Vl.indexOwn 0 hS rfl underlying39 sizeOf48 rfl rfl hq138 hq144) rfl rfl (RP.e0 27 rfl (OW.storeOwn (E := E_api_Message) (off := 0) (j := IntKind.i64.wrap (Int.tdiv (IntKind.i64.wrap (x102 - 1)) 2)) (x' := nth l99 x102) (vs := (C_api_Message (nth l99 x102))) 0 hS rfl rfl rfl rfl sizeOf48 rfl (Nat.succ_pos _) hq138 hq144 (Nat.le_of_ble_eq_true rfl) rfl rfl) rfl ?_)
    rintro _ w ⟨rfl, hS⟩
    have he145 := (hS.osN 0 rfl).1
    have hS : St B w (_ :: _ :: l) hf := (congrArg (fun k_ : Nat => St B w (OSf E_api_Message 48 (.slice A100 k_ c101) (setL (setL l99 x102 (nth l99 (IntKind.i64.wrap (Int.tdiv (IntKind.i64.wrap (x102 - 1)) 2)))) (IntKind.i64.wrap (Int.tdiv (IntKind.i64.wrap (x102 - 1)) 2)) (nth l99 x102)) :: Cl b1 [.slice A100 k_ c101, .func (.func 62) #[] #[]] 245 :: l) hf) he145).mp hS
    refine ⟨kp ⟨(by intro hx; cases hx), trivial⟩, ?_⟩
    refine RP.re 17 rfl (congrArg (fun k_ : Nat => (.slice A100 k_ c101 : Value)) he145) (RP.re 24 rfl (congrArg (fun k_ : Nat => (.slice A100 k_ c101 : Value)) he145) (RP.re 33 rfl (congrArg (fun k_ : Nat => (.slice A100 k_ c101 : Value)) he145) (RP.re 38 rfl (congrArg (fun k_ : Nat => (.slice A100 k_ c101 : Value)) he145) (RP.re 43 rfl (congrArg (fun k_ : Nat => (.slice A100 k_ c101 : Value)) he145) (RP.re 50 rfl (congrArg (fun k_ : Nat => (.slice A100 k_ c101 : Value)) he145) (RP.nil (RQ.then_n (RC.region (pn 2 rfl (RL.nil (RQ.inB_n ?_)))))))))))
    exact fun a ha => ⟨((setL (setL l99 x102 (nth l99 (IntKind.i64.wrap (Int.tdiv (IntKind.i64.wrap (x102 - 1)) 2)))) (IntKind.i64.wrap (Int.tdiv (IntKind.i64.wrap (x102 - 1)) 2)) (nth l99 x102)), IntKind.i64.wrap (Int.tdiv (IntKind.i64.wrap (x102 - 1)) 2)), ⟨(setL (setL l99 x102 (nth l99 (IntKind.i64.wrap (Int.tdiv (IntKind.i64.wrap (x102 - 1)) 2)))) (IntKind.i64.wrap (Int.tdiv (IntKind.i64.wrap (x102 - 1)) 2)) (nth l99 x102)), (IntKind.i64.wrap (Int.tdiv (IntKind.i64.wrap (x102 - 1)) 2)), rfl, A100, c101, ha.to ⟨rfl, rfl, trivial⟩, hS⟩, h.some⟩
   refine RC.condT rfl (RC.ret (RQ.ret (RQ.inB_ret ?_)))
   have h := h.inrS
   refine RQ.ret (RQ.inB_ret ?_)
   obtain rfl := h.some
   exact rt results204 rfl ⟨A100, c101, rfl, hS⟩
  refine RC.condF rfl (RC.exit (RQ.exitT ?_))
  have h := h.inrS
  refine RQ.exitT (RQ.inB_hit ?_)
  obtain rfl := h.some
  exact rtE results204 rfl ⟨A100, c101, rfl, hS⟩
def heap_pile_api_Message_push.f (a4 : List api_Message) (a5 : api_Message) : Option (List api_Message) := (if (a4.length + 1) * 56 ≤ 140737488355328 then ((heap_pile_api_Message_up.f (a4 ++ ([a5])) (IntKind.i64.wrap (((a4 ++ ([a5])).length : Int) - 1))).bind fun t34 => some t34) else none)
theorem heap_pile_api_Message_push.ok {a4 : List api_Message} {a5 : api_Message} {b1 : Nat} {A2 : Option Addr} {c3 : Nat} {r : List api_Message} (h : heap_pile_api_Message_push.f a4 a5 = some r) (hS : St B w (Cl b1 [.slice A2 a4.length c3, .func (.func 62) #[] #[]] 245 :: OSf E_api_Message 48 (.slice A2 a4.length c3) a4 :: l) hf) :
    Calls prog 201 #[.pointer (some ⟨b1, 0, none⟩), .agg (C_api_Message a5).toArray] w (Ret fun v w => ∃ (A_1 : Option Addr) (c_2 : Nat), v = .tuple #[] ∧ St B w (OSf E_api_Message 48 (.slice A_1 r.length c_2) r :: Cl b1 [.slice A_1 r.length c_2, .func (.func 62) #[] #[]] 245 :: l) hf) := by
  have h := Holds.of h
  refine en func201 rfl ntmps201 rfl (sr (bx hS rfl rfl rfl rfl fun b23 w hS => ln (RC.seq (RC.planS (plD [0, 3, 6, 9, 13, 17, 20, 23, 26, 29, 32]) [7, 8, 9, 10] hS (fun w hS => hS) follows rfl (by kernel_rfl) (NoTmp.then NoTmp.body) fun w hS => pp 3 rfl (RP.s0 3 rfl (fun w => Vl.fa 0 underlying243 rfl sizeOf39 rfl rfl) rfl (RP.s 0 4 rfl rfl hS (fun w hS => Vl.ld 1 hS isAgg39 rfl rfl rfl) rfl (RP.v1 5 rfl (Vl.lw 0 hS isAgg48 sizeOf48 rfl rfl rfl) rfl rfl (RP.e 6 rfl (OW.buildSlice (E := E_api_Message) (xs := [a5]) (cs := (C_api_Message a5)) hS underlying39 zeroValue48 sizeOf48 (parts := [(0, .tmp 9)]) rfl rfl (by decide) (by decide) (by kernel_rfl) rfl) rfl rfl ?_))))))))
  rintro _ w ⟨b29, rfl, hS⟩
  refine ⟨kp ⟨fun _ => hS.d0, trivial⟩, ?_⟩
  obtain ⟨hq30, h⟩ := h.req
  refine RP.e 7 rfl (OW.append (E := E_api_Message) (xs := a4) (ys := [a5]) 3 hS rfl underlying39 type48 rfl rfl rfl rfl (by decide) rfl rfl rfl (hS.slW 0 rfl).2.2.flat (by simp only [maxLen, List.length_cons, List.length_nil] at *; omega) hq30 rfl) rfl rfl ?_
  rintro v33 w hS
  obtain ⟨A31, c32, rfl, _⟩ := hS.osShape 0 rfl
  have hS : St B w (_ :: _ :: _ :: _ :: l) hf := hS
  refine ⟨kp ⟨(by intro hx; cases hx), trivial⟩, ?_⟩
  refine RP.v1 8 rfl (Vl.nilCheck rfl) rfl rfl (RP.v1 9 rfl (Vl.fa 0 underlying243 rfl sizeOf39 rfl rfl) rfl rfl (RP.e0 10 rfl (OW.store (vs := [.slice A31 (a4 ++ ([a5])).length c32]) 3 hS rfl rfl rfl rfl sizeOf39 rfl rfl rfl rfl) rfl ?_))
  rintro _ w ⟨rfl, hS⟩
  have hS : St B w (_ :: _ :: _ :: Cl _ [_, _] _ :: l) hf := hS
  refine ⟨kp ⟨(by intro hx; cases hx), trivial⟩, ?_⟩
  refine RP.nil (RQ.then_n (RC.region (pn 3 rfl (RL.s (Vl.fa 0 underlying243 rfl sizeOf39 rfl rfl) rfl (RL.s (Vl.ld 3 hS isAgg39 rfl rfl rfl) rfl (RL.s (Vl.lenSl underlying39 rfl) rfl (pn 1 rfl (cF (fun _ hg => heap_pile_api_Message_up.ok hg hS.p3) call204 h rfl rfl rfl ?_))))))))
  rintro t34 h _ w ⟨A36, c37, rfl, hS⟩
  refine RL.nil ?_
  obtain rfl := h.some
  exact rtE results201 rfl ⟨A36, c37, rfl, hS.d2.d2⟩
def heap_Heap_Push.f (a2 : heap_Heap) (a3 : api_Message) : Option (Int × heap_Heap) := ((heap_Heap_none.f a2).bind fun _ => ((heap_Heap_find.f a2 a3.Key.From a3.Uid).bind fun t54 => (if 0 ≤ t54 then some (8, a2) else (if 16384 ≤ (a2.p_l.length : Int) then some (9, a2) else ((heap_pile_api_Message_push.f a2.p_l a3).bind fun t60 => some (0, (⟨t60⟩ : heap_Heap)))))))
theorem heap_Heap_Push.ok {a2 : heap_Heap} {a3 : api_Message} {b1 : Nat} {r : Int × heap_Heap} (h : heap_Heap_Push.f a2 a3 = some r) (hS : St B w (O_heap_Heap hf a2 b1 :: l) hf) :
    Calls prog 197 #[.pointer (some ⟨b1, 0, none⟩), .agg (C_api_Message a3).toArray] w (Ret fun v w => v = .int .i64 r.1 ∧ St B w (O_heap_Heap hf r.2 b1 :: l) hf) := by
  have h := Holds.of h
  refine en func197 rfl ntmps197 rfl (sr (bx hS rfl rfl rfl rfl fun b35 w hS => pn 1 rfl (ln (RC.seq (RC.block (sr (pn 1 rfl (cF (fun _ hg => heap_Heap_none.ok hg hS.p1) call198 h rfl rfl rfl ?_))))))))
  rintro _ h _ w ⟨rfl, hS⟩
  refine pn 1 rfl (ln (RC.condF rfl (sr (pn 1 rfl (RL.s (Vl.fa 0 underlying48 rfl sizeOf46 rfl rfl) rfl (RL.s (Vl.fa 1 underlying46 rfl sizeOf3 rfl rfl) rfl (RL.s (Vl.ld 1 hS isAgg3 rfl rfl rfl) rfl (RL.s (Vl.fa 5 underlying48 rfl sizeOf3 rfl rfl) rfl (RL.s (Vl.ld 1 hS isAgg3 rfl rfl rfl) rfl (cF (fun _ hg => heap_Heap_find.ok hg hS) call199 h rfl rfl rfl ?_))))))))))
  rintro t54 h _ w ⟨rfl, hS⟩
  refine pn 2 rfl (ln ?_)
  refine RC.iteP 8 rfl h (fun hc56 h => ?_) fun hc56 h => ?_
  next =>
   refine RC.condT rfl (sr (pn 1 rfl (lr (RQ.inB_ret (RQ.ret ?_)))))
   obtain rfl := h.some
   exact rt results197 rfl ⟨rfl, hS.d1⟩
  refine RC.condF rfl (sr (pn 2 rfl (RL.s (Vl.fa 0 underlying245 rfl sizeOf243 rfl rfl) rfl (RL.s (Vl.fa 0 underlying243 rfl sizeOf39 rfl rfl) rfl ?_))))
  obtain ⟨A57, c58, hS⟩ := O_heap_Heap.o hS
  refine RL.s (Vl.ld 0 hS isAgg39 rfl rfl rfl) rfl (RL.s (Vl.lenSl underlying39 rfl) rfl (pn 2 rfl (ln ?_)))
  refine RC.iteP 17 rfl h (fun hc59 h => ?_) fun hc59 h => ?_
  next =>
   refine RC.condT rfl (sr (pn 1 rfl (lr (RQ.inB_ret (RQ.ret ?_)))))
   have hS := O_heap_Heap.c (x := a2) hS
   obtain rfl := h.some
   exact rt results197 rfl ⟨rfl, hS.d1⟩
  refine RC.condF rfl (RC.skip (RQ.inB_n (RQ.then_n (RC.seq (RC.planS (plD [0, 3, 6, 11, 14]) [3, 4] hS (fun w hS => hS) follows rfl (by kernel_rfl) (NoTmp.then NoTmp.body) fun w hS => pp 2 rfl (RP.s0 2 rfl (fun w => Vl.fa 0 underlying245 rfl sizeOf243 rfl rfl) rfl (RP.v1 3 rfl (Vl.lw 2 hS isAgg48 sizeOf48 rfl rfl rfl) rfl rfl ?_)))))))
  obtain ⟨t60, hg61, h⟩ := h.bind
  have hc := heap_pile_api_Message_push.ok hg61 hS
  refine RP.e 4 rfl (OW.callF (ls := [.tmp 27, .tmp 28]) rfl call201 hc) rfl rfl ?_
  rintro _ w ⟨A62, c63, rfl, hS⟩
  refine ⟨kp ⟨(by intro hx; cases hx), trivial⟩, ?_⟩
  refine RP.nil (tsr (pn 1 rfl (lr ?_)))
  have hS := O_heap_Heap.c (x := (⟨t60⟩ : heap_Heap)) hS.p1
  obtain rfl := h.some
  exact rt results197 rfl ⟨rfl, hS.d1⟩
def pend_Pend_Push.f (a2 : pend_Pend) (a3 : api_Message) : Option (Int × pend_Pend) := ((pend_Pend_none.f a2).bind fun _ => ((heap_Heap_Push.f a2.q a3).bind fun (y24, y25) => some (y24, (⟨y25⟩ : pend_Pend))))
theorem pend_Pend_Push.ok {a2 : pend_Pend} {a3 : api_Message} {b1 : Nat} {r : Int × pend_Pend} (h : pend_Pend_Push.f a2 a3 = some r) (hS : St B w (O_pend_Pend hf a2 b1 :: l) hf) :
    Calls prog 82 #[.pointer (some ⟨b1, 0, none⟩), .agg (C_api_Message a3).toArray] w (Ret fun v w => v = .int .i64 r.1 ∧ St B w (O_pend_Pend hf r.2 b1 :: l) hf) := by
  have h := Holds.of h
  refine en func82 rfl ntmps82 rfl (sr (bx hS rfl rfl rfl rfl fun b16 w hS => pn 1 rfl (ln (RC.seq (sr (pn 1 rfl (cF (fun _ hg => pend_Pend_none.ok hg hS.p1) call93 h rfl rfl rfl ?_)))))))
  rintro _ h _ w ⟨rfl, hS⟩
  refine ln (RC.condF rfl (sk (RC.seq ?_)))
  obtain ⟨b21, hS⟩ := O_pend_Pend.o hS
  refine RC.planS (plD [0, 3, 6, 10, 14, 17, 20]) [5, 6] hS (fun w hS => hS) follows rfl (by kernel_rfl) (NoTmp.then NoTmp.body) fun w hS => pp 2 rfl (RP.s0 2 rfl (fun w => Vl.fa 0 underlying155 rfl sizeOf152 rfl rfl) rfl (RP.s 0 3 rfl rfl hS (fun w hS => Vl.ld 0 hS isAgg152 rfl rfl rfl) rfl (RP.v1 4 rfl (Vl.lw 2 hS isAgg48 sizeOf48 rfl rfl rfl) rfl rfl ?_)))
  obtain ⟨t22, hg23, h⟩ := h.bind
  have hc := heap_Heap_Push.ok hg23 hS.p1
  obtain ⟨y24, y25⟩ := t22
  refine RP.e 5 rfl (OW.invoke (F := 197) (u' := .pointer (some ⟨b21, 0, none⟩)) (ls := [.tmp 11]) rfl rfl (fun w => by kernel_rfl) call197 rfl hc) rfl rfl ?_
  rintro _ w ⟨rfl, hS⟩
  refine ⟨kp ⟨(by intro hx; cases hx), trivial⟩, ?_⟩
  refine RP.v1 6 rfl (Vl.assign rfl) rfl rfl (RP.nil (tr ?_))
  have hS := O_pend_Pend.c (x := (⟨y25⟩ : pend_Pend)) hS.p1
  obtain rfl := h.some
  exact rt results82 rfl ⟨rfl, hS.d1⟩
def lane_of.f (a1 : api_Message) : Option (lane_sending) := some (⟨a1.Key.From, a1.Uid⟩ : lane_sending)
theorem lane_of.ok {a1 : api_Message} {r : lane_sending} (h : lane_of.f a1 = some r) (hS : St B w (l) hf) :
    Calls prog 56 #[.agg (C_api_Message a1).toArray] w (Ret fun v w => v = .agg #[.int .i64 r.from_, .int .i64 r.uid] ∧ St B w (l) hf) := by
  have h := Holds.of h
  refine en func56 rfl ntmps56 rfl (sr (bx hS rfl rfl rfl rfl fun b4 w hS => al hS zeroValue126 rfl rfl rfl fun b5 w hS => lnsr (RL.s (Vl.fa 0 underlying48 rfl sizeOf46 rfl rfl) rfl (RL.s (Vl.fa 1 underlying46 rfl sizeOf3 rfl rfl) rfl (RL.s (Vl.ld 1 hS isAgg3 rfl rfl rfl) rfl (RL.s (Vl.fa 5 underlying48 rfl sizeOf3 rfl rfl) rfl (RL.s (Vl.ld 1 hS isAgg3 rfl rfl rfl) rfl (RL.s (Vl.build (v := .agg #[.int .i64 a1.Key.From, .int .i64 a1.Uid]) (parts := [(0, .tmp 5), (1, .tmp 7)]) rfl (by kernel_rfl)) rfl (RL.e0 (OW.store (vs := [.int .i64 a1.Key.From, .int .i64 a1.Uid]) 0 hS rfl rfl rfl rfl sizeOf126 rfl rfl rfl rfl) rfl ?_)))))))))
  rintro _ w ⟨rfl, hS⟩
  have hS : St B w (Cl _ [_, _] _ :: _ :: l) hf := hS
  refine lr ?_
  obtain rfl := h.some
  refine RQ.ret0 (vs := [.agg #[.int .i64 a1.Key.From, .int .i64 a1.Uid]]) results56 ⟨⟨_, rfl, run_loadVarA (vs := [.int .i64 a1.Key.From, .int .i64 a1.Uid]) isAgg126 sizeOf126 rfl (hS.cellsAt 0 rfl rfl)⟩, trivial⟩ ?_
  exact ⟨rfl, hS.d0.d0⟩
def lane_Lane_hold.f (a2 : lane_Lane) (a3 : api_Message) : Option (lane_Lane) := ((pend_Pend_Push.f a2.wait a3).bind fun (y57, y58) => (if y57 = 0 then ((lane_of.f a3).bind fun t60 => some ({ a2 with wait := y58, held := (mset a2.held t60 true) } : lane_Lane)) else some ({ a2 with wait := y58 } : lane_Lane)))
theorem lane_Lane_hold.ok {a2 : lane_Lane} {a3 : api_Message} {b1 : Nat} {r : lane_Lane} (h : lane_Lane_hold.f a2 a3 = some r) (hS : St B w (O_lane_Lane hf a2 b1 :: l) hf) :
    Calls prog 41 #[.pointer (some ⟨b1, 0, none⟩), .agg (C_api_Message a3).toArray] w (Ret fun v w => v = .tuple #[] ∧ St B w (O_lane_Lane hf r b1 :: l) hf) := by
  have h := Holds.of h
  refine en func41 rfl ntmps41 rfl (sr (bx hS rfl rfl rfl rfl fun b34 w hS => ln (RC.seq ?_)))
  obtain ⟨A35, c36, A38, c39, A41, c42, A44, c45, b47, b48, A49, c50, A51, c52, b53, b54, hr37, hr40, hr43, hr46, hS⟩ := O_lane_Lane.o hS.p1
  refine RC.planS (plD [0, 3, 6, 10, 14, 17, 20]) [5, 6] hS (fun w hS => hS) follows rfl (by kernel_rfl) (NoTmp.then NoTmp.body) fun w hS => pp 2 rfl (RP.s0 2 rfl (fun w => Vl.fa 12 underlying61 rfl sizeOf52 rfl rfl) rfl (RP.s 0 3 rfl rfl hS (fun w hS => Vl.ld 0 hS isAgg52 rfl rfl rfl) rfl (RP.v1 4 rfl (Vl.lw 7 hS isAgg48 sizeOf48 rfl rfl rfl) rfl rfl ?_)))
  obtain ⟨t55, hg56, h⟩ := h.bind
  have hc := pend_Pend_Push.ok hg56 hS.p2
  obtain ⟨y57, y58⟩ := t55
  refine RP.e 5 rfl (OW.callF (ls := [.tmp 7, .tmp 8]) rfl call82 hc) rfl rfl ?_
  rintro _ w ⟨rfl, hS⟩
  refine ⟨kp ⟨(by intro hx; cases hx), trivial⟩, ?_⟩
  refine RP.v1 6 rfl (Vl.int rfl rfl rfl) rfl rfl (RP.nil (RQ.then_n ?_))
  refine RC.iteP 10 rfl h (fun hc59 h => ?_) fun hc59 h => ?_
  next =>
   refine RC.condT rfl (RC.planS (plD [0, 3, 6, 10, 14, 17, 20]) [6] hS (fun w hS => hS) follows rfl (by kernel_rfl) NoTmp.body fun w hS => pp 2 rfl (RP.s0 2 rfl (fun w => Vl.fa 16 underlying61 rfl sizeOf55 rfl rfl) rfl (RP.s 0 3 rfl rfl hS (fun w hS => Vl.ld 1 hS isAgg55 rfl rfl rfl) rfl (RP.v1 4 rfl (Vl.lw 7 hS isAgg48 sizeOf48 rfl rfl rfl) rfl rfl ?_))))
   obtain ⟨t60, hg61, h⟩ := h.bind
   have hc := lane_of.ok hg61 hS
   refine RP.e 5 rfl (OW.callF (ls := [.tmp 15]) rfl call56 hc) rfl rfl ?_
   rintro _ w ⟨rfl, hS⟩
   refine ⟨kp ⟨fun _ => hS, trivial⟩, ?_⟩
   refine RP.e0 6 rfl (OW.mapUpdF (k := t60) (v := true) 6 hS rfl keyok_lane_sending underlying55 rfl rfl rfl rfl) rfl ?_
   rintro _ w ⟨rfl, hS⟩
   have hS : St B w (_ :: _ :: _ :: _ :: _ :: _ :: _ :: _ :: l) hf := hS
   refine ⟨kp ⟨(by intro hx; cases hx), trivial⟩, ?_⟩
   refine RP.nil ?_
   have hS := O_lane_Lane.c (x := ({ a2 with wait := y58, held := (mset a2.held t60 true) } : lane_Lane)) hr37 hr40 hr43 hr46 hS.p6.p6.p6.p4.p6.p6
   obtain rfl := h.some
   exact rtE results41 rfl ⟨rfl, hS.d1⟩
  refine RC.condF rfl (RC.skip ?_)
  have hS := O_lane_Lane.c (x := ({ a2 with wait := y58 } : lane_Lane)) hr37 hr40 hr43 hr46 hS.p2.p2
  obtain rfl := h.some
  exact rtE results41 rfl ⟨rfl, hS.d1⟩
def lane_New.j18 (x745 : Int) (y769 : lane_Lane) : Option ((lane_Lane × Int) ⊕ ((Int) ⊕ (lane_Lane × Int))) := some (.inl (y769, IntKind.i64.wrap (x745 + 1)))
def lane_New.l17b (a11 : Int) (t725 : List api_Message) : lane_Lane × Int → Option ((lane_Lane × Int) ⊕ ((Int) ⊕ (lane_Lane × Int)))
  | (y744, x745) => (if x745 < (t725.length : Int) then (if 0 ≤ x745 then (if (nth t725 x745).To = a11 then ((lane_Lane_hold.f y744 (nth t725 x745)).bind fun t773 => lane_New.j18 x745 t773) else lane_New.j18 x745 y744) else none) else some (.inr (.inr ((y744, 0)))))
def lane_New.l17 (a11 : Int) (t725 : List api_Message) (s : lane_Lane × Int) : Option ((Int) ⊕ (lane_Lane × Int)) := loopR (lane_New.l17b a11 t725) s
def lane_New.j10 (a1 : api_Model) (a11 : Int) (a12 : api_Caps) (y457 : api_World) (l572 : List Int) : Option ((Int) ⊕ (lane_Lane × Int)) := (if (([] : List api_Link).length + a1.Links.length) * 32 ≤ 140737488355328 then ((log_New.f y457 (⟨(⟨0, 0, 0, 0, 0, 0, 0, 0⟩ : Arr8xInti64), 0, 0⟩ : api_State) 4).bind fun t641 => match t641 with | .inl _ => none | .inr ((y643, y644)) => ((pend_New.f).bind fun (y657, y658) => ((model_Starts.f a1).bind fun t725 => lane_New.l17 a11 t725 ((⟨({ a1 with Links := (([] : List api_Link) ++ a1.Links) } : api_Model), a11, a12, l572, y643, y657, ([] : List lane_open), ([] : List api_Message), ([] : List (lane_sending × Int)), ([] : List (lane_sending × Bool)), 0, (⟨2, 4, 0, 1000, 0⟩ : api_Setting), (⟨0, 0, 0, 0⟩ : api_Stats)⟩ : lane_Lane), 0)))) else none)
def lane_New.f (a1 : api_Model) (a11 : Int) (a12 : api_Caps) : Option ((Int) ⊕ (lane_Lane × Int)) := ((model_World.f a1 a11).bind fun (y457, y458) => (if y458 = 0 then (if a12.Link < 1 then some (.inl 1) else (if 1024 < a12.Link then some (.inl 1) else (if (if a12.Log < a12.Wait then a12.Log else a12.Wait) < 1 then some (.inl 1) else (if 4096 < (if a12.Wait < a12.Log then a12.Log else a12.Wait) then some (.inl 1) else ((model_Ways.f a1 a11).bind fun t775 => ((tune_First.f).bind fun _ => lane_New.j10 a1 a11 a12 y457 t775)))))) else some (.inl y458)))
theorem lane_New.ok {a1 : api_Model} {a11 : Int} {a12 : api_Caps} {A2 : Option Addr} {c3 : Nat} {A5 : Option Addr} {c6 : Nat} {A8 : Option Addr} {c9 : Nat} (hr4 : SlR (Rep.sl E_api_Instr.rep) hf A2 c3 a1.Progs) (hr7 : SlR E_api_Link.rep hf A5 c6 a1.Links) (hr10 : SlR E_api_Start.rep hf A8 c9 a1.Starts) (hG0 : GlobAt hf 0 (.iface 215 (.agg #[.pointer (some ⟨1, 108, none⟩)]))) {r : (Int) ⊕ (lane_Lane × Int)} (h : lane_New.f a1 a11 a12 = some r) (hS : St B w (l) hf) :
    Calls prog 8 #[.agg (C_api_Model a1 A2 c3 A5 c6 A8 c9).toArray, .int .i64 a11, .agg (C_api_Caps a12).toArray] w (Ret fun v w => match (generalizing := false) r with | .inl r_ => v = .tuple #[.pointer none, .int .i64 r_] ∧ St B w (l) hf | .inr (r_) => ∃ hf_ : Hp, Sub hf hf_ ∧ ∃ (b_1 : Nat), v = .tuple #[.pointer (some ⟨b_1, 0, none⟩), .int .i64 r_.2] ∧ St B w (O_lane_Lane hf_ r_.1 b_1 :: l) hf_) := by
  have h := Holds.of h
  refine en func8 rfl ntmps8 rfl (sr (bx hS rfl rfl rfl rfl fun b444 w hS => bx hS rfl rfl rfl rfl fun b445 w hS => pn 2 rfl (lnsr (RL.s (Vl.lw 1 hS isAgg27 sizeOf27 rfl rfl rfl) rfl (pn 1 rfl (cF (fun _ hg => model_World.ok hr4 hr7 hr10 hG0 hg hS) call35 h rfl rfl rfl ?_))))))
  rintro ⟨y457, y458⟩ h _ w ⟨A459, c460, A461, c462, rfl, hS⟩
  refine pn 3 rfl (al hS zeroValue91 rfl rfl rfl fun b463 w hS => RL.e0 (OW.store (vs := (C_api_World y457 A459 c460 A461 c462)) 0 hS rfl rfl rfl rfl sizeOf91 rfl rfl rfl rfl) rfl ?_)
  rintro _ w ⟨rfl, hS⟩
  have hS : St B w (Cl _ [_, _, _, _] _ :: _ :: _ :: _ :: _ :: l) hf := hS
  refine pn 1 rfl (ln (RC.seq (sr (pn 2 rfl (ln ?_)))))
  refine RC.iteN 20 rfl h (fun hc465 h => ?_) fun hc465 h => ?_
  next =>
   refine RC.condF rfl (sk (RC.seq (sr (RL.s (Vl.fa 0 underlying33 rfl sizeOf3 rfl rfl) rfl (RL.s (Vl.ld 3 hS isAgg3 rfl rfl rfl) rfl (pn 2 rfl ?_))))))
   refine RL.iteP 25 rfl h (fun hc470 h => ?_) fun hc470 h => ?_
   next =>
    refine pn 20 rfl (ln (RC.condT rfl (sr (pn 2 rfl (lr (RQ.ret ?_))))))
    obtain rfl := h.some
    exact rt results8 rfl ⟨rfl, hS.d0.d0.d0.d0.d0⟩
   refine RL.sg (Vl.fa 0 underlying33 rfl sizeOf3 rfl rfl) rfl rfl (RL.sg (Vl.ld 3 hS isAgg3 rfl rfl rfl) rfl rfl (pn 3 rfl ?_))
   refine RL.iteP 30 rfl h (fun hc471 h => ?_) fun hc471 h => ?_
   next =>
    refine pn 15 rfl (ln (RC.condT rfl (sr (pn 2 rfl (lr (RQ.ret ?_))))))
    obtain rfl := h.some
    exact rt results8 rfl ⟨rfl, hS.d0.d0.d0.d0.d0⟩
   refine RL.sg (Vl.fa 1 underlying33 rfl sizeOf3 rfl rfl) rfl rfl (RL.sg (Vl.ld 3 hS isAgg3 rfl rfl rfl) rfl rfl (RL.sg (Vl.fa 2 underlying33 rfl sizeOf3 rfl rfl) rfl rfl (RL.sg (Vl.ld 3 hS isAgg3 rfl rfl rfl) rfl rfl (RL.sg (Vl.min2 rfl rfl) rfl rfl (pn 3 rfl ?_)))))
   refine RL.iteP 38 rfl h (fun hc472 h => ?_) fun hc472 h => ?_
   next =>
    refine pn 7 rfl (ln (RC.condT rfl (sr (pn 2 rfl (lr (RQ.ret ?_))))))
    obtain rfl := h.some
    exact rt results8 rfl ⟨rfl, hS.d0.d0.d0.d0.d0⟩
   refine RL.sg (Vl.fa 1 underlying33 rfl sizeOf3 rfl rfl) rfl rfl (RL.sg (Vl.ld 3 hS isAgg3 rfl rfl rfl) rfl rfl (RL.sg (Vl.fa 2 underlying33 rfl sizeOf3 rfl rfl) rfl rfl (RL.sg (Vl.ld 3 hS isAgg3 rfl rfl rfl) rfl rfl (RL.sg (Vl.max2 rfl rfl) rfl rfl (pn 2 rfl (ln ?_))))))
   refine RC.iteP 45 rfl h (fun hc473 h => ?_) fun hc473 h => ?_
   next =>
    refine RC.condT rfl (sr (pn 2 rfl (lr (RQ.ret ?_))))
    obtain rfl := h.some
    exact rt results8 rfl ⟨rfl, hS.d0.d0.d0.d0.d0⟩
   refine RC.condF rfl (sk ?_)
   refine RC.join (fun (s : List Int) a w => ∃ (l572 : List Int), s = (l572) ∧ ∃ hf_ : Hp, Sub hf hf_ ∧ ∃ (b571 : Nat) (A573 : Option Addr) (c574 : Nat) (b576 : Nat) (b577 : Nat), Has 106 [(1, .int .i64 a11), (3, .pointer (some ⟨b444, 0, none⟩)), (8, .pointer (some ⟨b463, 0, none⟩)), (10, .pointer (some ⟨b571, 0, none⟩))] a ∧ St B w (OSf E_api_Instr 269 (.slice A459 y457.Prog.length c460) y457.Prog :: OSf E_api_Link 144 (.slice A461 y457.Links.length c462) y457.Links :: Cl b463 (C_api_World y457 A459 c460 A461 c462) 91 :: Cl b444 (C_api_Model a1 A2 c3 A5 c6 A8 c9) 27 :: Cl b571 [.slice A2 a1.Progs.length c3, .slice A5 a1.Links.length c6, .slice A8 a1.Starts.length c9, .int .u64 a1.Seed, .int .i64 a1.End, .int .i64 a1.Budget, .int .i64 a11, .int .i64 a12.Link, .int .i64 a12.Wait, .int .i64 a12.Log, .slice A573 l572.length c574, .pointer none, .pointer none, .slice none 0 0, .slice none 0 0, .map (some b576), .map (some b577), .int .i64 0, .int .i64 2, .int .i64 4, .int .i64 0, .int .i64 1000, .int .i64 0, .int .i64 0, .int .i64 0, .int .i64 0, .int .i64 0] 61 :: MapF kv_lane_sending (Value.int .i64) b576 ([] : List (lane_sending × Int)) :: MapF kv_lane_sending Value.bool b577 ([] : List (lane_sending × Bool)) :: l) hf_ ∧ SlR ((FI .i64).rep) hf_ A573 c574 l572 ∧ Holds (· = r) (lane_New.j10 a1 a11 a12 y457 l572)) ?_ ?_
   · rintro l572 a w ⟨_, rfl, hf, hs570, b571, A573, c574, b576, b577, ha, hS, hr575, h⟩
     revert a
     show RC _ _ _ _ _ _
     refine sr (pn 1 rfl (RL.s (Vl.fa 1 underlying27 rfl sizeOf23 rfl rfl) rfl (RL.s (Vl.ld 3 hS isAgg23 rfl rfl rfl) rfl ?_)))
     obtain ⟨hq582, h⟩ := h.req
     have hS := hS.nilSl E_api_Link 144
     refine RL.e (OW.appendV (E := E_api_Link) (xs := ([] : List api_Link)) (ys := a1.Links) 0 hS rfl underlying23 type144 rfl rfl rfl rfl (by decide) (by decide) rfl rfl ((hr7.mono hs570).2.world hS.sub) hq582 rfl) rfl rfl ?_
     rintro v585 w hS
     obtain ⟨A583, c584, rfl, _⟩ := hS.osShape 0 rfl
     have hS : St B w (_ :: _ :: _ :: _ :: _ :: _ :: _ :: _ :: l) hf := hS
     refine pn 1 rfl (RL.s (Vl.fa 0 underlying61 rfl sizeOf27 rfl rfl) rfl (RL.s (Vl.fa 1 underlying27 rfl sizeOf23 rfl rfl) rfl (RL.e0 (OW.store (vs := [.slice A583 (([] : List api_Link) ++ a1.Links).length c584]) 5 hS rfl rfl rfl rfl sizeOf23 rfl rfl rfl rfl) rfl ?_)))
     rintro _ w ⟨rfl, hS⟩
     have hS : St B w (_ :: _ :: _ :: _ :: _ :: Cl _ [_, _, _, _, _, _, _, _, _, _, _, _, _, _, _, _, _, _, _, _, _, _, _, _, _, _, _] _ :: _ :: _ :: l) hf := hS
     refine ln (RC.seq (RC.planS (plD [0, 4, 6, 9, 12, 15, 18, 22, 26, 27, 30, 33, 38, 41, 44]) [12, 13, 14] hS (fun w hS => hS.d1.d1) follows rfl (by kernel_rfl) (NoTmp.then NoTmp.body) fun w hS => pp 1 rfl (RP.s 0 1 rfl rfl hS.d1.d1 (fun w hS => Vl.lw 1 hS isAgg91 sizeOf91 rfl rfl rfl) rfl (RP.s0 2 rfl (fun w => Vl.build (v := .agg #[.int .i64 0, .int .i64 0, .int .i64 0, .int .i64 0, .int .i64 0, .int .i64 0, .int .i64 0, .int .i64 0, .int .i64 0, .int .i64 0]) (parts := []) rfl (by kernel_rfl)) rfl (pp 2 rfl (RP.s0 5 rfl (fun w => Vl.fa 18 underlying61 rfl sizeOf57 rfl rfl) rfl (RP.s0 6 rfl (fun w => Vl.fa 19 underlying57 rfl sizeOf3 rfl rfl) rfl (RP.s 0 7 rfl rfl hS.d1.d1 (fun w hS => Vl.ld 3 hS isAgg3 rfl rfl rfl) rfl ?_))))))))
     obtain ⟨hf, hs637, hS, hr638⟩ := St.promote hS.p1
     have hS : St B w (_ :: _ :: _ :: _ :: _ :: _ :: _ :: l) hf := hS
     obtain ⟨hf, hs639, hS, hr640⟩ := St.promote hS.p1
     have hS : St B w (_ :: _ :: _ :: _ :: _ :: _ :: l) hf := hS
     obtain ⟨t641, hg642, h⟩ := h.bind
     have hc := log_New.ok (hr638.mono hs639) hr640 hg642 hS
     rcases t641 with _ | ⟨y643, y644⟩
     · exact h.none
     refine RP.e 8 rfl (OW.callF (ls := [.tmp 66, .tmp 67, .tmp 72]) rfl call38 hc) rfl rfl ?_
     rintro _ w ⟨hf, hs646, b645, rfl, hS⟩
     refine ⟨kp ⟨fun _ => (St.down hS.d0 ((hs637.trans hs639).trans hs646)), trivial⟩, ?_⟩
     refine pp 3 rfl (RP.v1 12 rfl (Vl.nilCheck rfl) rfl rfl (RP.v1 13 rfl (Vl.fa 11 underlying61 rfl sizeOf51 rfl rfl) rfl rfl (RP.e0 14 rfl (OW.store (vs := [.pointer (some ⟨b645, 0, none⟩)]) 4 hS rfl rfl rfl rfl sizeOf51 rfl rfl rfl rfl) rfl ?_)))
     rintro _ w ⟨rfl, hS⟩
     have hS : St B w (_ :: _ :: _ :: _ :: Cl _ [_, _, _, _, _, _, _, _, _, _, _, _, _, _, _, _, _, _, _, _, _, _, _, _, _, _, _] _ :: _ :: _ :: l) hf := hS
     refine ⟨kp ⟨(by intro hx; cases hx), trivial⟩, ?_⟩
     refine RP.nil (tsr (pn 3 rfl (RL.s (Vl.fa 18 underlying61 rfl sizeOf57 rfl rfl) rfl (RL.s (Vl.fa 22 underlying57 rfl sizeOf3 rfl rfl) rfl (RL.s (Vl.ld 4 hS isAgg3 rfl rfl rfl) rfl (cF (fun _ hg => pend_New.ok hg hS) call39 h rfl rfl rfl ?_))))))
     rintro ⟨y657, y658⟩ h _ w ⟨b659, rfl, hS⟩
     refine pn 4 rfl (RL.s (Vl.fa 12 underlying61 rfl sizeOf52 rfl rfl) rfl (RL.e0 (OW.store (vs := [.pointer (some ⟨b659, 0, none⟩)]) 5 hS rfl rfl rfl rfl sizeOf52 rfl rfl rfl rfl) rfl ?_))
     rintro _ w ⟨rfl, hS⟩
     have hS : St B w (_ :: _ :: _ :: _ :: _ :: Cl _ [_, _, _, _, _, _, _, _, _, _, _, _, _, _, _, _, _, _, _, _, _, _, _, _, _, _, _] _ :: _ :: _ :: l) hf := hS
     refine ln (RC.seq (sr (RL.s (Vl.lw 4 hS isAgg27 sizeOf27 rfl rfl rfl) rfl (cF (fun _ hg => model_Starts.ok ((((hr4.mono hs570).mono hs637).mono hs639).mono hs646) ((((hr7.mono hs570).mono hs637).mono hs639).mono hs646) ((((hr10.mono hs570).mono hs637).mono hs639).mono hs646) hg hS) call40 h rfl rfl rfl ?_))))
     rintro t725 h _ w ⟨A727, c728, rfl, hS⟩
     refine RL.s (Vl.lenSl underlying39 rfl) rfl (pn 1 rfl (ln (RC.block ?_)))
     obtain ⟨hf, hs729, hS, hr730⟩ := St.promote hS.p3
     have hS := O_pend_Pend.l hs729 hS.p1
     have hS := O_log_Log.l hs729 hS.p2
     have hS := hS.nilSl E_lane_open 116
     have hS := hS.nilSl E_api_Message 48
     have hS := O_lane_Lane.c (x := (⟨({ a1 with Links := (([] : List api_Link) ++ a1.Links) } : api_Model), a11, a12, l572, y643, y657, ([] : List lane_open), ([] : List api_Message), ([] : List (lane_sending × Int)), ([] : List (lane_sending × Bool)), 0, (⟨2, 4, 0, 1000, 0⟩ : api_Setting), (⟨0, 0, 0, 0⟩ : api_Stats)⟩ : lane_Lane)) (((((hr4.mono hs570).mono hs637).mono hs639).mono hs646).mono hs729) hr730 (((((hr10.mono hs570).mono hs637).mono hs639).mono hs646).mono hs729) ((((hr575.mono hs637).mono hs639).mono hs646).mono hs729) hS.p9.p9.p2.p3.p5.p5.p9
     refine fun a ha => RC.loop (N := 106) (body := (lane_New.l17b a11 t725)) (φ := (· = r)) (fun (s : lane_Lane × Int) a w => ∃ (y744 : lane_Lane) (x745 : Int), s = (y744, x745) ∧ Has 106 [(1, .int .i64 a11), (10, .pointer (some ⟨b571, 0, none⟩)), (91, .slice A727 t725.length c728), (92, .int .i64 (t725.length : Int)), (93, .int .i64 x745)] a ∧ St B w (OSf E_api_Message 48 (.slice A727 t725.length c728) t725 :: O_lane_Lane hf y744 b571 :: l) hf) ?_ (s0 := ((⟨({ a1 with Links := (([] : List api_Link) ++ a1.Links) } : api_Model), a11, a12, l572, y643, y657, ([] : List lane_open), ([] : List api_Message), ([] : List (lane_sending × Int)), ([] : List (lane_sending × Bool)), 0, (⟨2, 4, 0, 1000, 0⟩ : api_Setting), (⟨0, 0, 0, 0⟩ : api_Stats)⟩ : lane_Lane), 0)) h ⟨(⟨({ a1 with Links := (([] : List api_Link) ++ a1.Links) } : api_Model), a11, a12, l572, y643, y657, ([] : List lane_open), ([] : List api_Message), ([] : List (lane_sending × Int)), ([] : List (lane_sending × Bool)), 0, (⟨2, 4, 0, 1000, 0⟩ : api_Setting), (⟨0, 0, 0, 0⟩ : api_Stats)⟩ : lane_Lane), 0, rfl, ha.to ⟨rfl, rfl, rfl, rfl, rfl, trivial⟩, hS.d2.d2.p1⟩
     rintro G761 _ a w ⟨y744, x745, rfl, ha, hS⟩ h
     revert a
     show RC _ _ _ _ _ _
     refine sr (pn 1 rfl (ln (RC.seq ?_)))
     refine RC.iteP 94 rfl h (fun hc763 h => ?_) fun hc763 h => ?_
     next =>
      refine RC.condT rfl (sk ?_)
      refine RC.join (fun (s : lane_Lane) a w => ∃ (y769 : lane_Lane), s = (y769) ∧ Has 106 [(1, .int .i64 a11), (10, .pointer (some ⟨b571, 0, none⟩)), (91, .slice A727 t725.length c728), (92, .int .i64 (t725.length : Int)), (93, .int .i64 x745)] a ∧ St B w (OSf E_api_Message 48 (.slice A727 t725.length c728) t725 :: O_lane_Lane hf y769 b571 :: l) hf ∧ Holds (Sum.elim G761 (· = r)) (lane_New.j18 x745 y769)) ?_ ?_
      · rintro y769 a w ⟨_, rfl, ha, hS, h⟩
        revert a
        show RC _ _ _ _ _ _
        refine RC.region (pn 2 rfl (RL.nil ?_))
        exact fun a ha => ⟨(y769, IntKind.i64.wrap (x745 + 1)), ⟨y769, (IntKind.i64.wrap (x745 + 1)), rfl, ha.to ⟨rfl, rfl, rfl, rfl, rfl, trivial⟩, hS⟩, h.some⟩
      refine RC.block (sr ?_)
      obtain ⟨hq770, h⟩ := h.req
      refine RL.s (Vl.indexOwn 0 hS rfl underlying39 sizeOf48 rfl rfl hq770 hc763) rfl (RL.s (Vl.loadA isAgg48 sizeOf48 rfl rfl ((hS.slW 0 rfl).2.2.cells hq770 hc763)) rfl (al hS zeroValue48 rfl rfl rfl fun b771 w hS => RL.e0 (OW.store (vs := (C_api_Message (nth t725 x745))) 0 hS rfl rfl rfl rfl sizeOf48 rfl rfl rfl rfl) rfl ?_))
      rintro _ w ⟨rfl, hS⟩
      have hS : St B w (Cl _ [_, _, _, _, _, _, _] _ :: _ :: _ :: l) hf := hS
      refine lnsr (RL.s (Vl.fa 3 underlying48 rfl sizeOf3 rfl rfl) rfl (RL.s (Vl.ld 0 hS isAgg3 rfl rfl rfl) rfl (pn 2 rfl (ln ?_))))
      refine RC.iteP 100 rfl h (fun hc772 h => ?_) fun hc772 h => ?_
      next =>
       refine RC.condT rfl (RC.region (pn 1 rfl (RL.s (Vl.lw 0 hS isAgg48 sizeOf48 rfl rfl rfl) rfl (cF (fun _ hg => lane_Lane_hold.ok hg hS.p2) call41 h rfl rfl rfl ?_))))
       rintro t773 h _ w ⟨rfl, hS⟩
       refine RL.nil (RQ.inB_n ?_)
       exact fun a ha => ⟨(t773), t773, rfl, ha.to ⟨rfl, rfl, rfl, rfl, rfl, trivial⟩, hS.d1.p1, h⟩
      refine RC.condF rfl (RC.skip (RQ.inB_n ?_))
      exact fun a ha => ⟨(y744), y744, rfl, ha.to ⟨rfl, rfl, rfl, rfl, rfl, trivial⟩, hS.d0, h⟩
     refine RC.condF rfl (RC.exit (RQ.exitT ?_))
     have h := h.inrS
     refine RQ.exitT (RQ.inB_hit (tsr (pn 3 rfl (lr ?_))))
     obtain rfl := h.some
     exact rt results8 rfl ⟨_, ((((hs570.trans hs637).trans hs639).trans hs646).trans hs729), b571, rfl, hS.d0⟩
   refine RC.planS (.early 0 0 (.pure 1 (.early 2 0 (.early 3 0 (.pure 4 (.fork3 5 6 7 (.fork3 6 7 8 (.fork 7 8 (.last 8 (.last 9 (.last 10 (.last 11 .nil)))) (.last 7 (.last 9 (.last 10 (.last 11 .nil))))) (.fork 6 8 (.last 8 (.last 9 (.last 10 (.last 11 .nil)))) (.last 6 (.last 9 (.last 10 (.last 11 .nil))))) (.fork 6 7 (.last 7 (.last 9 (.last 10 (.last 11 .nil)))) (.last 6 (.last 9 (.last 10 (.last 11 .nil)))))) (.fork 5 7 (.fork 7 8 (.last 8 (.last 9 (.last 10 (.last 11 .nil)))) (.last 7 (.last 9 (.last 10 (.last 11 .nil))))) (.last 5 (.last 8 (.last 9 (.last 10 (.last 11 .nil)))))) (.fork 5 6 (.fork 6 8 (.last 8 (.last 9 (.last 10 (.last 11 .nil)))) (.last 6 (.last 9 (.last 10 (.last 11 .nil))))) (.last 5 (.last 8 (.last 9 (.last 10 (.last 11 .nil)))))))))))) [9, 10, 11] hS (fun w hS => hS) follows rfl (by kernel_rfl) (NoTmp.then NoTmp.body) fun w hS => RP.s 0 0 rfl rfl hS (fun w hS => Vl.lw 4 hS isAgg27 sizeOf27 rfl rfl rfl) rfl (pp 1 rfl (RP.s 0 2 rfl rfl hS (fun w hS => Vl.lw 3 hS isAgg33 sizeOf33 rfl rfl rfl) rfl (RP.s 0 3 rfl rfl hS (fun w hS => Vl.lw 4 hS isAgg27 sizeOf27 rfl rfl rfl) rfl (pp 1 rfl ?_))))
   refine RP.fork3 ?_ ?_ ?_
   · obtain ⟨t775, hg776, h⟩ := h.bind
     have hc := model_Ways.ok hr4 hr7 hr10 hg776 hS
     refine RPW.e 5 rfl (OW.callF (ls := [.tmp 49, .tmp 50]) rfl call36 hc) rfl rfl ?_
     rintro _ w ⟨A777, c778, rfl, hS⟩
     refine ⟨kp ⟨fun _ => hS.d0, trivial⟩, ?_⟩
     refine RP.fork3 ?_ ?_ ?_
     · refine RPW.e 6 rfl (OW.makeMapF (kv := kv_lane_sending) (vv := (Value.int .i64)) hS) rfl rfl ?_
       rintro _ w ⟨b779, rfl, hS⟩
       refine ⟨kp ⟨fun _ => hS.d0.d0, trivial⟩, ?_⟩
       refine RP.fork ?_ ?_
       · refine RPW.e 7 rfl (OW.makeMapF (kv := kv_lane_sending) (vv := Value.bool) hS) rfl rfl ?_
         rintro _ w ⟨b780, rfl, hS⟩
         refine ⟨kp ⟨fun _ => hS.d0.d0.d0, trivial⟩, ?_⟩
         obtain ⟨t781, hg782, h⟩ := h.bind
         have hc := tune_First.ok hg782 hS
         refine RP.e 8 rfl (OW.callF (ls := []) rfl call37 hc) rfl rfl ?_
         rintro _ w ⟨rfl, hS⟩
         refine ⟨kp ⟨fun _ => hS.d0.d0.d0, trivial⟩, ?_⟩
         refine RP.v1 9 rfl (Vl.build (v := .agg #[.slice A2 a1.Progs.length c3, .slice A5 a1.Links.length c6, .slice A8 a1.Starts.length c9, .int .u64 a1.Seed, .int .i64 a1.End, .int .i64 a1.Budget, .int .i64 a11, .int .i64 a12.Link, .int .i64 a12.Wait, .int .i64 a12.Log, .slice A777 t775.length c778, .pointer none, .pointer none, .slice none 0 0, .slice none 0 0, .map (some b779), .map (some b780), .int .i64 0, .int .i64 2, .int .i64 4, .int .i64 0, .int .i64 1000, .int .i64 0, .int .i64 0, .int .i64 0, .int .i64 0, .int .i64 0]) (parts := [(0, .tmp 46), (1, .tmp 47), (2, .tmp 48), (3, .tmp 51), (8, .tmp 52), (9, .tmp 53), (11, .tmp 54)]) rfl (by kernel_rfl)) rfl rfl ?_
         obtain ⟨hf, hs783, hS, hr784⟩ := St.promote hS.p2
         refine RP.e 10 rfl (OW.box (cs := [.slice A2 a1.Progs.length c3, .slice A5 a1.Links.length c6, .slice A8 a1.Starts.length c9, .int .u64 a1.Seed, .int .i64 a1.End, .int .i64 a1.Budget, .int .i64 a11, .int .i64 a12.Link, .int .i64 a12.Wait, .int .i64 a12.Log, .slice A777 t775.length c778, .pointer none, .pointer none, .slice none 0 0, .slice none 0 0, .map (some b779), .map (some b780), .int .i64 0, .int .i64 2, .int .i64 4, .int .i64 0, .int .i64 1000, .int .i64 0, .int .i64 0, .int .i64 0, .int .i64 0, .int .i64 0]) hS rfl rfl) rfl rfl ?_
         rintro _ w ⟨b785, rfl, hS⟩
         refine ⟨kp ⟨(by intro hx; cases hx), trivial⟩, ?_⟩
         refine RP.v1 11 rfl (Vl.assign rfl) rfl rfl (RP.nil ?_)
         exact fun a ha => ⟨(t775), t775, rfl, _, hs783, b785, A777, c778, b779, b780, ha.to ⟨rfl, rfl, rfl, rfl, trivial⟩, hS.d6.p2.p1.p6.p4.p6.p6, hr784, h⟩
       · obtain ⟨t786, hg787, h⟩ := h.bind
         have hc := tune_First.ok hg787 hS
         refine RPW.e 8 rfl (OW.callF (ls := []) rfl call37 hc) rfl rfl ?_
         rintro _ w ⟨rfl, hS⟩
         refine ⟨kp ⟨fun _ => hS.d0.d0, trivial⟩, ?_⟩
         refine RP.e 7 rfl (OW.makeMapF (kv := kv_lane_sending) (vv := Value.bool) hS) rfl rfl ?_
         rintro _ w ⟨b788, rfl, hS⟩
         refine ⟨kp ⟨fun _ => hS.d0.d0.d0, trivial⟩, ?_⟩
         refine RP.v1 9 rfl (Vl.build (v := .agg #[.slice A2 a1.Progs.length c3, .slice A5 a1.Links.length c6, .slice A8 a1.Starts.length c9, .int .u64 a1.Seed, .int .i64 a1.End, .int .i64 a1.Budget, .int .i64 a11, .int .i64 a12.Link, .int .i64 a12.Wait, .int .i64 a12.Log, .slice A777 t775.length c778, .pointer none, .pointer none, .slice none 0 0, .slice none 0 0, .map (some b779), .map (some b788), .int .i64 0, .int .i64 2, .int .i64 4, .int .i64 0, .int .i64 1000, .int .i64 0, .int .i64 0, .int .i64 0, .int .i64 0, .int .i64 0]) (parts := [(0, .tmp 46), (1, .tmp 47), (2, .tmp 48), (3, .tmp 51), (8, .tmp 52), (9, .tmp 53), (11, .tmp 54)]) rfl (by kernel_rfl)) rfl rfl ?_
         obtain ⟨hf, hs789, hS, hr790⟩ := St.promote hS.p2
         refine RP.e 10 rfl (OW.box (cs := [.slice A2 a1.Progs.length c3, .slice A5 a1.Links.length c6, .slice A8 a1.Starts.length c9, .int .u64 a1.Seed, .int .i64 a1.End, .int .i64 a1.Budget, .int .i64 a11, .int .i64 a12.Link, .int .i64 a12.Wait, .int .i64 a12.Log, .slice A777 t775.length c778, .pointer none, .pointer none, .slice none 0 0, .slice none 0 0, .map (some b779), .map (some b788), .int .i64 0, .int .i64 2, .int .i64 4, .int .i64 0, .int .i64 1000, .int .i64 0, .int .i64 0, .int .i64 0, .int .i64 0, .int .i64 0]) hS rfl rfl) rfl rfl ?_
         rintro _ w ⟨b791, rfl, hS⟩
         refine ⟨kp ⟨(by intro hx; cases hx), trivial⟩, ?_⟩
         refine RP.v1 11 rfl (Vl.assign rfl) rfl rfl (RP.nil ?_)
         exact fun a ha => ⟨(t775), t775, rfl, _, hs789, b791, A777, c778, b779, b788, ha.to ⟨rfl, rfl, rfl, rfl, trivial⟩, hS.d6.p2.p1.p6.p4.p6.p6, hr790, h⟩
     · refine RPW.e 7 rfl (OW.makeMapF (kv := kv_lane_sending) (vv := Value.bool) hS) rfl rfl ?_
       rintro _ w ⟨b792, rfl, hS⟩
       refine ⟨kp ⟨fun _ => hS.d0.d0, trivial⟩, ?_⟩
       refine RP.fork ?_ ?_
       · refine RPW.e 6 rfl (OW.makeMapF (kv := kv_lane_sending) (vv := (Value.int .i64)) hS) rfl rfl ?_
         rintro _ w ⟨b793, rfl, hS⟩
         refine ⟨kp ⟨fun _ => hS.d0.d0.d0, trivial⟩, ?_⟩
         obtain ⟨t794, hg795, h⟩ := h.bind
         have hc := tune_First.ok hg795 hS
         refine RP.e 8 rfl (OW.callF (ls := []) rfl call37 hc) rfl rfl ?_
         rintro _ w ⟨rfl, hS⟩
         refine ⟨kp ⟨fun _ => hS.d0.d0.d0, trivial⟩, ?_⟩
         refine RP.v1 9 rfl (Vl.build (v := .agg #[.slice A2 a1.Progs.length c3, .slice A5 a1.Links.length c6, .slice A8 a1.Starts.length c9, .int .u64 a1.Seed, .int .i64 a1.End, .int .i64 a1.Budget, .int .i64 a11, .int .i64 a12.Link, .int .i64 a12.Wait, .int .i64 a12.Log, .slice A777 t775.length c778, .pointer none, .pointer none, .slice none 0 0, .slice none 0 0, .map (some b793), .map (some b792), .int .i64 0, .int .i64 2, .int .i64 4, .int .i64 0, .int .i64 1000, .int .i64 0, .int .i64 0, .int .i64 0, .int .i64 0, .int .i64 0]) (parts := [(0, .tmp 46), (1, .tmp 47), (2, .tmp 48), (3, .tmp 51), (8, .tmp 52), (9, .tmp 53), (11, .tmp 54)]) rfl (by kernel_rfl)) rfl rfl ?_
         obtain ⟨hf, hs796, hS, hr797⟩ := St.promote hS.p2
         refine RP.e 10 rfl (OW.box (cs := [.slice A2 a1.Progs.length c3, .slice A5 a1.Links.length c6, .slice A8 a1.Starts.length c9, .int .u64 a1.Seed, .int .i64 a1.End, .int .i64 a1.Budget, .int .i64 a11, .int .i64 a12.Link, .int .i64 a12.Wait, .int .i64 a12.Log, .slice A777 t775.length c778, .pointer none, .pointer none, .slice none 0 0, .slice none 0 0, .map (some b793), .map (some b792), .int .i64 0, .int .i64 2, .int .i64 4, .int .i64 0, .int .i64 1000, .int .i64 0, .int .i64 0, .int .i64 0, .int .i64 0, .int .i64 0]) hS rfl rfl) rfl rfl ?_
         rintro _ w ⟨b798, rfl, hS⟩
         refine ⟨kp ⟨(by intro hx; cases hx), trivial⟩, ?_⟩
         refine RP.v1 11 rfl (Vl.assign rfl) rfl rfl (RP.nil ?_)
         exact fun a ha => ⟨(t775), t775, rfl, _, hs796, b798, A777, c778, b793, b792, ha.to ⟨rfl, rfl, rfl, rfl, trivial⟩, hS.d6.p6.p4.p6.p6, hr797, h⟩
       · obtain ⟨t799, hg800, h⟩ := h.bind
         have hc := tune_First.ok hg800 hS
         refine RPW.e 8 rfl (OW.callF (ls := []) rfl call37 hc) rfl rfl ?_
         rintro _ w ⟨rfl, hS⟩
         refine ⟨kp ⟨fun _ => hS.d0.d0, trivial⟩, ?_⟩
         refine RP.e 6 rfl (OW.makeMapF (kv := kv_lane_sending) (vv := (Value.int .i64)) hS) rfl rfl ?_
         rintro _ w ⟨b801, rfl, hS⟩
         refine ⟨kp ⟨fun _ => hS.d0.d0.d0, trivial⟩, ?_⟩
         refine RP.v1 9 rfl (Vl.build (v := .agg #[.slice A2 a1.Progs.length c3, .slice A5 a1.Links.length c6, .slice A8 a1.Starts.length c9, .int .u64 a1.Seed, .int .i64 a1.End, .int .i64 a1.Budget, .int .i64 a11, .int .i64 a12.Link, .int .i64 a12.Wait, .int .i64 a12.Log, .slice A777 t775.length c778, .pointer none, .pointer none, .slice none 0 0, .slice none 0 0, .map (some b801), .map (some b792), .int .i64 0, .int .i64 2, .int .i64 4, .int .i64 0, .int .i64 1000, .int .i64 0, .int .i64 0, .int .i64 0, .int .i64 0, .int .i64 0]) (parts := [(0, .tmp 46), (1, .tmp 47), (2, .tmp 48), (3, .tmp 51), (8, .tmp 52), (9, .tmp 53), (11, .tmp 54)]) rfl (by kernel_rfl)) rfl rfl ?_
         obtain ⟨hf, hs802, hS, hr803⟩ := St.promote hS.p2
         refine RP.e 10 rfl (OW.box (cs := [.slice A2 a1.Progs.length c3, .slice A5 a1.Links.length c6, .slice A8 a1.Starts.length c9, .int .u64 a1.Seed, .int .i64 a1.End, .int .i64 a1.Budget, .int .i64 a11, .int .i64 a12.Link, .int .i64 a12.Wait, .int .i64 a12.Log, .slice A777 t775.length c778, .pointer none, .pointer none, .slice none 0 0, .slice none 0 0, .map (some b801), .map (some b792), .int .i64 0, .int .i64 2, .int .i64 4, .int .i64 0, .int .i64 1000, .int .i64 0, .int .i64 0, .int .i64 0, .int .i64 0, .int .i64 0]) hS rfl rfl) rfl rfl ?_
         rintro _ w ⟨b804, rfl, hS⟩
         refine ⟨kp ⟨(by intro hx; cases hx), trivial⟩, ?_⟩
         refine RP.v1 11 rfl (Vl.assign rfl) rfl rfl (RP.nil ?_)
         exact fun a ha => ⟨(t775), t775, rfl, _, hs802, b804, A777, c778, b801, b792, ha.to ⟨rfl, rfl, rfl, rfl, trivial⟩, hS.d6.p6.p4.p6.p6, hr803, h⟩
     · obtain ⟨t805, hg806, h⟩ := h.bind
       have hc := tune_First.ok hg806 hS
       refine RPW.e 8 rfl (OW.callF (ls := []) rfl call37 hc) rfl rfl ?_
       rintro _ w ⟨rfl, hS⟩
       refine ⟨kp ⟨fun _ => hS.d0, trivial⟩, ?_⟩
       refine RP.fork ?_ ?_
       · refine RPW.e 6 rfl (OW.makeMapF (kv := kv_lane_sending) (vv := (Value.int .i64)) hS) rfl rfl ?_
         rintro _ w ⟨b807, rfl, hS⟩
         refine ⟨kp ⟨fun _ => hS.d0.d0, trivial⟩, ?_⟩
         refine RP.e 7 rfl (OW.makeMapF (kv := kv_lane_sending) (vv := Value.bool) hS) rfl rfl ?_
         rintro _ w ⟨b808, rfl, hS⟩
         refine ⟨kp ⟨fun _ => hS.d0.d0.d0, trivial⟩, ?_⟩
         refine RP.v1 9 rfl (Vl.build (v := .agg #[.slice A2 a1.Progs.length c3, .slice A5 a1.Links.length c6, .slice A8 a1.Starts.length c9, .int .u64 a1.Seed, .int .i64 a1.End, .int .i64 a1.Budget, .int .i64 a11, .int .i64 a12.Link, .int .i64 a12.Wait, .int .i64 a12.Log, .slice A777 t775.length c778, .pointer none, .pointer none, .slice none 0 0, .slice none 0 0, .map (some b807), .map (some b808), .int .i64 0, .int .i64 2, .int .i64 4, .int .i64 0, .int .i64 1000, .int .i64 0, .int .i64 0, .int .i64 0, .int .i64 0, .int .i64 0]) (parts := [(0, .tmp 46), (1, .tmp 47), (2, .tmp 48), (3, .tmp 51), (8, .tmp 52), (9, .tmp 53), (11, .tmp 54)]) rfl (by kernel_rfl)) rfl rfl ?_
         obtain ⟨hf, hs809, hS, hr810⟩ := St.promote hS.p2
         refine RP.e 10 rfl (OW.box (cs := [.slice A2 a1.Progs.length c3, .slice A5 a1.Links.length c6, .slice A8 a1.Starts.length c9, .int .u64 a1.Seed, .int .i64 a1.End, .int .i64 a1.Budget, .int .i64 a11, .int .i64 a12.Link, .int .i64 a12.Wait, .int .i64 a12.Log, .slice A777 t775.length c778, .pointer none, .pointer none, .slice none 0 0, .slice none 0 0, .map (some b807), .map (some b808), .int .i64 0, .int .i64 2, .int .i64 4, .int .i64 0, .int .i64 1000, .int .i64 0, .int .i64 0, .int .i64 0, .int .i64 0, .int .i64 0]) hS rfl rfl) rfl rfl ?_
         rintro _ w ⟨b811, rfl, hS⟩
         refine ⟨kp ⟨(by intro hx; cases hx), trivial⟩, ?_⟩
         refine RP.v1 11 rfl (Vl.assign rfl) rfl rfl (RP.nil ?_)
         exact fun a ha => ⟨(t775), t775, rfl, _, hs809, b811, A777, c778, b807, b808, ha.to ⟨rfl, rfl, rfl, rfl, trivial⟩, hS.d6.p2.p1.p6.p4.p6.p6, hr810, h⟩
       · refine RPW.e 7 rfl (OW.makeMapF (kv := kv_lane_sending) (vv := Value.bool) hS) rfl rfl ?_
         rintro _ w ⟨b812, rfl, hS⟩
         refine ⟨kp ⟨fun _ => hS.d0.d0, trivial⟩, ?_⟩
         refine RP.e 6 rfl (OW.makeMapF (kv := kv_lane_sending) (vv := (Value.int .i64)) hS) rfl rfl ?_
         rintro _ w ⟨b813, rfl, hS⟩
         refine ⟨kp ⟨fun _ => hS.d0.d0.d0, trivial⟩, ?_⟩
         refine RP.v1 9 rfl (Vl.build (v := .agg #[.slice A2 a1.Progs.length c3, .slice A5 a1.Links.length c6, .slice A8 a1.Starts.length c9, .int .u64 a1.Seed, .int .i64 a1.End, .int .i64 a1.Budget, .int .i64 a11, .int .i64 a12.Link, .int .i64 a12.Wait, .int .i64 a12.Log, .slice A777 t775.length c778, .pointer none, .pointer none, .slice none 0 0, .slice none 0 0, .map (some b813), .map (some b812), .int .i64 0, .int .i64 2, .int .i64 4, .int .i64 0, .int .i64 1000, .int .i64 0, .int .i64 0, .int .i64 0, .int .i64 0, .int .i64 0]) (parts := [(0, .tmp 46), (1, .tmp 47), (2, .tmp 48), (3, .tmp 51), (8, .tmp 52), (9, .tmp 53), (11, .tmp 54)]) rfl (by kernel_rfl)) rfl rfl ?_
         obtain ⟨hf, hs814, hS, hr815⟩ := St.promote hS.p2
         refine RP.e 10 rfl (OW.box (cs := [.slice A2 a1.Progs.length c3, .slice A5 a1.Links.length c6, .slice A8 a1.Starts.length c9, .int .u64 a1.Seed, .int .i64 a1.End, .int .i64 a1.Budget, .int .i64 a11, .int .i64 a12.Link, .int .i64 a12.Wait, .int .i64 a12.Log, .slice A777 t775.length c778, .pointer none, .pointer none, .slice none 0 0, .slice none 0 0, .map (some b813), .map (some b812), .int .i64 0, .int .i64 2, .int .i64 4, .int .i64 0, .int .i64 1000, .int .i64 0, .int .i64 0, .int .i64 0, .int .i64 0, .int .i64 0]) hS rfl rfl) rfl rfl ?_
         rintro _ w ⟨b816, rfl, hS⟩
         refine ⟨kp ⟨(by intro hx; cases hx), trivial⟩, ?_⟩
         refine RP.v1 11 rfl (Vl.assign rfl) rfl rfl (RP.nil ?_)
         exact fun a ha => ⟨(t775), t775, rfl, _, hs814, b816, A777, c778, b813, b812, ha.to ⟨rfl, rfl, rfl, rfl, trivial⟩, hS.d6.p6.p4.p6.p6, hr815, h⟩
   · refine RPW.e 6 rfl (OW.makeMapF (kv := kv_lane_sending) (vv := (Value.int .i64)) hS) rfl rfl ?_
     rintro _ w ⟨b817, rfl, hS⟩
     refine ⟨kp ⟨fun _ => hS.d0, trivial⟩, ?_⟩
     refine RP.fork ?_ ?_
     · obtain ⟨t818, hg819, h⟩ := h.bind
       have hc := model_Ways.ok hr4 hr7 hr10 hg819 hS
       refine RPW.e 5 rfl (OW.callF (ls := [.tmp 49, .tmp 50]) rfl call36 hc) rfl rfl ?_
       rintro _ w ⟨A820, c821, rfl, hS⟩
       refine ⟨kp ⟨fun _ => hS.d0.d0, trivial⟩, ?_⟩
       refine RP.fork ?_ ?_
       · refine RPW.e 7 rfl (OW.makeMapF (kv := kv_lane_sending) (vv := Value.bool) hS) rfl rfl ?_
         rintro _ w ⟨b822, rfl, hS⟩
         refine ⟨kp ⟨fun _ => hS.d0.d0.d0, trivial⟩, ?_⟩
         obtain ⟨t823, hg824, h⟩ := h.bind
         have hc := tune_First.ok hg824 hS
         refine RP.e 8 rfl (OW.callF (ls := []) rfl call37 hc) rfl rfl ?_
         rintro _ w ⟨rfl, hS⟩
         refine ⟨kp ⟨fun _ => hS.d0.d0.d0, trivial⟩, ?_⟩
         refine RP.v1 9 rfl (Vl.build (v := .agg #[.slice A2 a1.Progs.length c3, .slice A5 a1.Links.length c6, .slice A8 a1.Starts.length c9, .int .u64 a1.Seed, .int .i64 a1.End, .int .i64 a1.Budget, .int .i64 a11, .int .i64 a12.Link, .int .i64 a12.Wait, .int .i64 a12.Log, .slice A820 t818.length c821, .pointer none, .pointer none, .slice none 0 0, .slice none 0 0, .map (some b817), .map (some b822), .int .i64 0, .int .i64 2, .int .i64 4, .int .i64 0, .int .i64 1000, .int .i64 0, .int .i64 0, .int .i64 0, .int .i64 0, .int .i64 0]) (parts := [(0, .tmp 46), (1, .tmp 47), (2, .tmp 48), (3, .tmp 51), (8, .tmp 52), (9, .tmp 53), (11, .tmp 54)]) rfl (by kernel_rfl)) rfl rfl ?_
         obtain ⟨hf, hs825, hS, hr826⟩ := St.promote hS.p1
         refine RP.e 10 rfl (OW.box (cs := [.slice A2 a1.Progs.length c3, .slice A5 a1.Links.length c6, .slice A8 a1.Starts.length c9, .int .u64 a1.Seed, .int .i64 a1.End, .int .i64 a1.Budget, .int .i64 a11, .int .i64 a12.Link, .int .i64 a12.Wait, .int .i64 a12.Log, .slice A820 t818.length c821, .pointer none, .pointer none, .slice none 0 0, .slice none 0 0, .map (some b817), .map (some b822), .int .i64 0, .int .i64 2, .int .i64 4, .int .i64 0, .int .i64 1000, .int .i64 0, .int .i64 0, .int .i64 0, .int .i64 0, .int .i64 0]) hS rfl rfl) rfl rfl ?_
         rintro _ w ⟨b827, rfl, hS⟩
         refine ⟨kp ⟨(by intro hx; cases hx), trivial⟩, ?_⟩
         refine RP.v1 11 rfl (Vl.assign rfl) rfl rfl (RP.nil ?_)
         exact fun a ha => ⟨(t818), t818, rfl, _, hs825, b827, A820, c821, b817, b822, ha.to ⟨rfl, rfl, rfl, rfl, trivial⟩, hS.d6.p2.p1.p6.p4.p6.p6, hr826, h⟩
       · obtain ⟨t828, hg829, h⟩ := h.bind
         have hc := tune_First.ok hg829 hS
         refine RPW.e 8 rfl (OW.callF (ls := []) rfl call37 hc) rfl rfl ?_
         rintro _ w ⟨rfl, hS⟩
         refine ⟨kp ⟨fun _ => hS.d0.d0, trivial⟩, ?_⟩
         refine RP.e 7 rfl (OW.makeMapF (kv := kv_lane_sending) (vv := Value.bool) hS) rfl rfl ?_
         rintro _ w ⟨b830, rfl, hS⟩
         refine ⟨kp ⟨fun _ => hS.d0.d0.d0, trivial⟩, ?_⟩
         refine RP.v1 9 rfl (Vl.build (v := .agg #[.slice A2 a1.Progs.length c3, .slice A5 a1.Links.length c6, .slice A8 a1.Starts.length c9, .int .u64 a1.Seed, .int .i64 a1.End, .int .i64 a1.Budget, .int .i64 a11, .int .i64 a12.Link, .int .i64 a12.Wait, .int .i64 a12.Log, .slice A820 t818.length c821, .pointer none, .pointer none, .slice none 0 0, .slice none 0 0, .map (some b817), .map (some b830), .int .i64 0, .int .i64 2, .int .i64 4, .int .i64 0, .int .i64 1000, .int .i64 0, .int .i64 0, .int .i64 0, .int .i64 0, .int .i64 0]) (parts := [(0, .tmp 46), (1, .tmp 47), (2, .tmp 48), (3, .tmp 51), (8, .tmp 52), (9, .tmp 53), (11, .tmp 54)]) rfl (by kernel_rfl)) rfl rfl ?_
         obtain ⟨hf, hs831, hS, hr832⟩ := St.promote hS.p1
         refine RP.e 10 rfl (OW.box (cs := [.slice A2 a1.Progs.length c3, .slice A5 a1.Links.length c6, .slice A8 a1.Starts.length c9, .int .u64 a1.Seed, .int .i64 a1.End, .int .i64 a1.Budget, .int .i64 a11, .int .i64 a12.Link, .int .i64 a12.Wait, .int .i64 a12.Log, .slice A820 t818.length c821, .pointer none, .pointer none, .slice none 0 0, .slice none 0 0, .map (some b817), .map (some b830), .int .i64 0, .int .i64 2, .int .i64 4, .int .i64 0, .int .i64 1000, .int .i64 0, .int .i64 0, .int .i64 0, .int .i64 0, .int .i64 0]) hS rfl rfl) rfl rfl ?_
         rintro _ w ⟨b833, rfl, hS⟩
         refine ⟨kp ⟨(by intro hx; cases hx), trivial⟩, ?_⟩
         refine RP.v1 11 rfl (Vl.assign rfl) rfl rfl (RP.nil ?_)
         exact fun a ha => ⟨(t818), t818, rfl, _, hs831, b833, A820, c821, b817, b830, ha.to ⟨rfl, rfl, rfl, rfl, trivial⟩, hS.d6.p2.p1.p6.p4.p6.p6, hr832, h⟩
     · refine RPW.e 7 rfl (OW.makeMapF (kv := kv_lane_sending) (vv := Value.bool) hS) rfl rfl ?_
       rintro _ w ⟨b834, rfl, hS⟩
       refine ⟨kp ⟨fun _ => hS.d0.d0, trivial⟩, ?_⟩
       obtain ⟨t835, hg836, h⟩ := h.bind
       have hc := model_Ways.ok hr4 hr7 hr10 hg836 hS
       refine RP.e 5 rfl (OW.callF (ls := [.tmp 49, .tmp 50]) rfl call36 hc) rfl rfl ?_
       rintro _ w ⟨A837, c838, rfl, hS⟩
       refine ⟨kp ⟨fun _ => hS.d0.d0.d0, trivial⟩, ?_⟩
       obtain ⟨t839, hg840, h⟩ := h.bind
       have hc := tune_First.ok hg840 hS
       refine RP.e 8 rfl (OW.callF (ls := []) rfl call37 hc) rfl rfl ?_
       rintro _ w ⟨rfl, hS⟩
       refine ⟨kp ⟨fun _ => hS.d0.d0.d0, trivial⟩, ?_⟩
       refine RP.v1 9 rfl (Vl.build (v := .agg #[.slice A2 a1.Progs.length c3, .slice A5 a1.Links.length c6, .slice A8 a1.Starts.length c9, .int .u64 a1.Seed, .int .i64 a1.End, .int .i64 a1.Budget, .int .i64 a11, .int .i64 a12.Link, .int .i64 a12.Wait, .int .i64 a12.Log, .slice A837 t835.length c838, .pointer none, .pointer none, .slice none 0 0, .slice none 0 0, .map (some b817), .map (some b834), .int .i64 0, .int .i64 2, .int .i64 4, .int .i64 0, .int .i64 1000, .int .i64 0, .int .i64 0, .int .i64 0, .int .i64 0, .int .i64 0]) (parts := [(0, .tmp 46), (1, .tmp 47), (2, .tmp 48), (3, .tmp 51), (8, .tmp 52), (9, .tmp 53), (11, .tmp 54)]) rfl (by kernel_rfl)) rfl rfl ?_
       obtain ⟨hf, hs841, hS, hr842⟩ := St.promote hS
       refine RP.e 10 rfl (OW.box (cs := [.slice A2 a1.Progs.length c3, .slice A5 a1.Links.length c6, .slice A8 a1.Starts.length c9, .int .u64 a1.Seed, .int .i64 a1.End, .int .i64 a1.Budget, .int .i64 a11, .int .i64 a12.Link, .int .i64 a12.Wait, .int .i64 a12.Log, .slice A837 t835.length c838, .pointer none, .pointer none, .slice none 0 0, .slice none 0 0, .map (some b817), .map (some b834), .int .i64 0, .int .i64 2, .int .i64 4, .int .i64 0, .int .i64 1000, .int .i64 0, .int .i64 0, .int .i64 0, .int .i64 0, .int .i64 0]) hS rfl rfl) rfl rfl ?_
       rintro _ w ⟨b843, rfl, hS⟩
       refine ⟨kp ⟨(by intro hx; cases hx), trivial⟩, ?_⟩
       refine RP.v1 11 rfl (Vl.assign rfl) rfl rfl (RP.nil ?_)
       exact fun a ha => ⟨(t835), t835, rfl, _, hs841, b843, A837, c838, b817, b834, ha.to ⟨rfl, rfl, rfl, rfl, trivial⟩, hS.d6.p2.p1.p6.p4.p6.p6, hr842, h⟩
   · refine RPW.e 7 rfl (OW.makeMapF (kv := kv_lane_sending) (vv := Value.bool) hS) rfl rfl ?_
     rintro _ w ⟨b844, rfl, hS⟩
     refine ⟨kp ⟨fun _ => hS.d0, trivial⟩, ?_⟩
     refine RP.fork ?_ ?_
     · obtain ⟨t845, hg846, h⟩ := h.bind
       have hc := model_Ways.ok hr4 hr7 hr10 hg846 hS
       refine RPW.e 5 rfl (OW.callF (ls := [.tmp 49, .tmp 50]) rfl call36 hc) rfl rfl ?_
       rintro _ w ⟨A847, c848, rfl, hS⟩
       refine ⟨kp ⟨fun _ => hS.d0.d0, trivial⟩, ?_⟩
       refine RP.fork ?_ ?_
       · refine RPW.e 6 rfl (OW.makeMapF (kv := kv_lane_sending) (vv := (Value.int .i64)) hS) rfl rfl ?_
         rintro _ w ⟨b849, rfl, hS⟩
         refine ⟨kp ⟨fun _ => hS.d0.d0.d0, trivial⟩, ?_⟩
         obtain ⟨t850, hg851, h⟩ := h.bind
         have hc := tune_First.ok hg851 hS
         refine RP.e 8 rfl (OW.callF (ls := []) rfl call37 hc) rfl rfl ?_
         rintro _ w ⟨rfl, hS⟩
         refine ⟨kp ⟨fun _ => hS.d0.d0.d0, trivial⟩, ?_⟩
         refine RP.v1 9 rfl (Vl.build (v := .agg #[.slice A2 a1.Progs.length c3, .slice A5 a1.Links.length c6, .slice A8 a1.Starts.length c9, .int .u64 a1.Seed, .int .i64 a1.End, .int .i64 a1.Budget, .int .i64 a11, .int .i64 a12.Link, .int .i64 a12.Wait, .int .i64 a12.Log, .slice A847 t845.length c848, .pointer none, .pointer none, .slice none 0 0, .slice none 0 0, .map (some b849), .map (some b844), .int .i64 0, .int .i64 2, .int .i64 4, .int .i64 0, .int .i64 1000, .int .i64 0, .int .i64 0, .int .i64 0, .int .i64 0, .int .i64 0]) (parts := [(0, .tmp 46), (1, .tmp 47), (2, .tmp 48), (3, .tmp 51), (8, .tmp 52), (9, .tmp 53), (11, .tmp 54)]) rfl (by kernel_rfl)) rfl rfl ?_
         obtain ⟨hf, hs852, hS, hr853⟩ := St.promote hS.p1
         refine RP.e 10 rfl (OW.box (cs := [.slice A2 a1.Progs.length c3, .slice A5 a1.Links.length c6, .slice A8 a1.Starts.length c9, .int .u64 a1.Seed, .int .i64 a1.End, .int .i64 a1.Budget, .int .i64 a11, .int .i64 a12.Link, .int .i64 a12.Wait, .int .i64 a12.Log, .slice A847 t845.length c848, .pointer none, .pointer none, .slice none 0 0, .slice none 0 0, .map (some b849), .map (some b844), .int .i64 0, .int .i64 2, .int .i64 4, .int .i64 0, .int .i64 1000, .int .i64 0, .int .i64 0, .int .i64 0, .int .i64 0, .int .i64 0]) hS rfl rfl) rfl rfl ?_
         rintro _ w ⟨b854, rfl, hS⟩
         refine ⟨kp ⟨(by intro hx; cases hx), trivial⟩, ?_⟩
         refine RP.v1 11 rfl (Vl.assign rfl) rfl rfl (RP.nil ?_)
         exact fun a ha => ⟨(t845), t845, rfl, _, hs852, b854, A847, c848, b849, b844, ha.to ⟨rfl, rfl, rfl, rfl, trivial⟩, hS.d6.p6.p4.p6.p6, hr853, h⟩
       · obtain ⟨t855, hg856, h⟩ := h.bind
         have hc := tune_First.ok hg856 hS
         refine RPW.e 8 rfl (OW.callF (ls := []) rfl call37 hc) rfl rfl ?_
         rintro _ w ⟨rfl, hS⟩
         refine ⟨kp ⟨fun _ => hS.d0.d0, trivial⟩, ?_⟩
         refine RP.e 6 rfl (OW.makeMapF (kv := kv_lane_sending) (vv := (Value.int .i64)) hS) rfl rfl ?_
         rintro _ w ⟨b857, rfl, hS⟩
         refine ⟨kp ⟨fun _ => hS.d0.d0.d0, trivial⟩, ?_⟩
         refine RP.v1 9 rfl (Vl.build (v := .agg #[.slice A2 a1.Progs.length c3, .slice A5 a1.Links.length c6, .slice A8 a1.Starts.length c9, .int .u64 a1.Seed, .int .i64 a1.End, .int .i64 a1.Budget, .int .i64 a11, .int .i64 a12.Link, .int .i64 a12.Wait, .int .i64 a12.Log, .slice A847 t845.length c848, .pointer none, .pointer none, .slice none 0 0, .slice none 0 0, .map (some b857), .map (some b844), .int .i64 0, .int .i64 2, .int .i64 4, .int .i64 0, .int .i64 1000, .int .i64 0, .int .i64 0, .int .i64 0, .int .i64 0, .int .i64 0]) (parts := [(0, .tmp 46), (1, .tmp 47), (2, .tmp 48), (3, .tmp 51), (8, .tmp 52), (9, .tmp 53), (11, .tmp 54)]) rfl (by kernel_rfl)) rfl rfl ?_
         obtain ⟨hf, hs858, hS, hr859⟩ := St.promote hS.p1
         refine RP.e 10 rfl (OW.box (cs := [.slice A2 a1.Progs.length c3, .slice A5 a1.Links.length c6, .slice A8 a1.Starts.length c9, .int .u64 a1.Seed, .int .i64 a1.End, .int .i64 a1.Budget, .int .i64 a11, .int .i64 a12.Link, .int .i64 a12.Wait, .int .i64 a12.Log, .slice A847 t845.length c848, .pointer none, .pointer none, .slice none 0 0, .slice none 0 0, .map (some b857), .map (some b844), .int .i64 0, .int .i64 2, .int .i64 4, .int .i64 0, .int .i64 1000, .int .i64 0, .int .i64 0, .int .i64 0, .int .i64 0, .int .i64 0]) hS rfl rfl) rfl rfl ?_
         rintro _ w ⟨b860, rfl, hS⟩
         refine ⟨kp ⟨(by intro hx; cases hx), trivial⟩, ?_⟩
         refine RP.v1 11 rfl (Vl.assign rfl) rfl rfl (RP.nil ?_)
         exact fun a ha => ⟨(t845), t845, rfl, _, hs858, b860, A847, c848, b857, b844, ha.to ⟨rfl, rfl, rfl, rfl, trivial⟩, hS.d6.p6.p4.p6.p6, hr859, h⟩
     · refine RPW.e 6 rfl (OW.makeMapF (kv := kv_lane_sending) (vv := (Value.int .i64)) hS) rfl rfl ?_
       rintro _ w ⟨b861, rfl, hS⟩
       refine ⟨kp ⟨fun _ => hS.d0.d0, trivial⟩, ?_⟩
       obtain ⟨t862, hg863, h⟩ := h.bind
       have hc := model_Ways.ok hr4 hr7 hr10 hg863 hS
       refine RP.e 5 rfl (OW.callF (ls := [.tmp 49, .tmp 50]) rfl call36 hc) rfl rfl ?_
       rintro _ w ⟨A864, c865, rfl, hS⟩
       refine ⟨kp ⟨fun _ => hS.d0.d0.d0, trivial⟩, ?_⟩
       obtain ⟨t866, hg867, h⟩ := h.bind
       have hc := tune_First.ok hg867 hS
       refine RP.e 8 rfl (OW.callF (ls := []) rfl call37 hc) rfl rfl ?_
       rintro _ w ⟨rfl, hS⟩
       refine ⟨kp ⟨fun _ => hS.d0.d0.d0, trivial⟩, ?_⟩
       refine RP.v1 9 rfl (Vl.build (v := .agg #[.slice A2 a1.Progs.length c3, .slice A5 a1.Links.length c6, .slice A8 a1.Starts.length c9, .int .u64 a1.Seed, .int .i64 a1.End, .int .i64 a1.Budget, .int .i64 a11, .int .i64 a12.Link, .int .i64 a12.Wait, .int .i64 a12.Log, .slice A864 t862.length c865, .pointer none, .pointer none, .slice none 0 0, .slice none 0 0, .map (some b861), .map (some b844), .int .i64 0, .int .i64 2, .int .i64 4, .int .i64 0, .int .i64 1000, .int .i64 0, .int .i64 0, .int .i64 0, .int .i64 0, .int .i64 0]) (parts := [(0, .tmp 46), (1, .tmp 47), (2, .tmp 48), (3, .tmp 51), (8, .tmp 52), (9, .tmp 53), (11, .tmp 54)]) rfl (by kernel_rfl)) rfl rfl ?_
       obtain ⟨hf, hs868, hS, hr869⟩ := St.promote hS
       refine RP.e 10 rfl (OW.box (cs := [.slice A2 a1.Progs.length c3, .slice A5 a1.Links.length c6, .slice A8 a1.Starts.length c9, .int .u64 a1.Seed, .int .i64 a1.End, .int .i64 a1.Budget, .int .i64 a11, .int .i64 a12.Link, .int .i64 a12.Wait, .int .i64 a12.Log, .slice A864 t862.length c865, .pointer none, .pointer none, .slice none 0 0, .slice none 0 0, .map (some b861), .map (some b844), .int .i64 0, .int .i64 2, .int .i64 4, .int .i64 0, .int .i64 1000, .int .i64 0, .int .i64 0, .int .i64 0, .int .i64 0, .int .i64 0]) hS rfl rfl) rfl rfl ?_
       rintro _ w ⟨b870, rfl, hS⟩
       refine ⟨kp ⟨(by intro hx; cases hx), trivial⟩, ?_⟩
       refine RP.v1 11 rfl (Vl.assign rfl) rfl rfl (RP.nil ?_)
       exact fun a ha => ⟨(t862), t862, rfl, _, hs868, b870, A864, c865, b861, b844, ha.to ⟨rfl, rfl, rfl, rfl, trivial⟩, hS.d6.p6.p4.p6.p6, hr869, h⟩
  refine RC.condT rfl (sr (pn 3 rfl (lr (RQ.ret ?_))))
  obtain rfl := h.some
  exact rt results8 rfl ⟨rfl, hS.d0.d0.d0.d0.d0⟩
def vtime_Least.l2b (a1 : List Int) : Int × Int → Option ((Int × Int) ⊕ (Int))
  | (x26, x27) => (if x27 < (a1.length : Int) then (if 0 ≤ x27 then some (.inl ((if nth a1 x27 < x26 then nth a1 x27 else x26), IntKind.i64.wrap (x27 + 1))) else none) else some (.inr x26))
def vtime_Least.l2 (a1 : List Int) (s : Int × Int) : Option (Int) := loopR (vtime_Least.l2b a1) s
def vtime_Least.f (a1 : List Int) : Option (Int) := vtime_Least.l2 a1 (4611686018427387904, 0)
theorem vtime_Least.ok {a1 : List Int} {A2 : Option Addr} {c3 : Nat} (hr4 : SlR ((FI .i64).rep) hf A2 c3 a1) {r : Int} (h : vtime_Least.f a1 = some r) (hS : St B w (l) hf) :
    Calls prog 66 #[.slice A2 a1.length c3] w (Ret fun v w => v = .int .i64 r ∧ St B w (l) hf) := by
  have h := Holds.of h
  refine en func66 rfl ntmps66 rfl (sr (pn 1 rfl (lnsr (pn 1 rfl (ln (RC.seq (sr (pn 1 rfl (RL.s (Vl.lenSl underlying192 rfl) rfl ?_)))))))))
  refine pn 1 rfl (ln (RC.block ?_))
  refine fun a ha => RC.loop (N := 17) (body := (vtime_Least.l2b a1)) (φ := (· = r)) (fun (s : Int × Int) a w => ∃ (x26 : Int) (x27 : Int), s = (x26, x27) ∧ Has 17 [(3, .int .i64 x26), (6, .slice A2 a1.length c3), (7, .int .i64 (a1.length : Int)), (8, .int .i64 x27)] a ∧ St B w (l) hf) ?_ (s0 := (4611686018427387904, 0)) h ⟨4611686018427387904, 0, rfl, ha.to ⟨rfl, rfl, rfl, rfl, trivial⟩, hS⟩
  rintro G34 _ a w ⟨x26, x27, rfl, ha, hS⟩ h
  revert a
  show RC _ _ _ _ _ _
  refine sr (pn 1 rfl (ln (RC.seq ?_)))
  refine RC.iteP 9 rfl h (fun hc36 h => ?_) fun hc36 h => ?_
  next =>
   refine RC.condT rfl (sk (RC.seq (RC.block (sr ?_))))
   obtain ⟨hq38, h⟩ := h.req
   refine RL.s (Vl.indexAddr underlying192 sizeOf2 rfl rfl ((hr4.2.world hS.sub).adr hq38 hc36) hq38 hc36 rfl) rfl (RL.s (Vl.load isAgg2 rfl ((hr4.2.world hS.sub).cell (j := 0) hq38 hc36 rfl)) rfl (pn 1 rfl (ln (RC.region (pn 2 rfl (RL.s (Vl.min2 rfl rfl) rfl (pn 1 rfl (RL.nil (RQ.inB_n (RQ.then_n (RC.region (pn 2 rfl (RL.nil ?_)))))))))))))
   exact fun a ha => ⟨((if nth a1 x27 < x26 then nth a1 x27 else x26), IntKind.i64.wrap (x27 + 1)), ⟨(if nth a1 x27 < x26 then nth a1 x27 else x26), (IntKind.i64.wrap (x27 + 1)), rfl, ha.to ⟨rfl, rfl, rfl, rfl, trivial⟩, hS⟩, h.some⟩
  refine RC.condF rfl (RC.exit (RQ.exitT ?_))
  have h := h.inrS
  refine RQ.exitT (RQ.inB_hit (tsr (pn 2 rfl (lr ?_))))
  obtain rfl := h.some
  exact rt results66 rfl ⟨rfl, hS⟩
def lane_Lane_none.f (a2 : lane_Lane) : Option (Unit) := some ()
theorem lane_Lane_none.ok {a2 : lane_Lane} {b1 : Nat} {r : Unit} (h : lane_Lane_none.f a2 = some r) (hS : St B w (O_lane_Lane hf a2 b1 :: l) hf) :
    Calls prog 45 #[.pointer (some ⟨b1, 0, none⟩)] w (Ret fun v w => v = .bool false ∧ St B w (O_lane_Lane hf a2 b1 :: l) hf) := by
  have h := Holds.of h
  refine en func45 rfl ntmps45 rfl (sr (pn 1 rfl (lnsr (pn 1 rfl (RL.s (Vl.bin (v := .bool false) rfl rfl (by kernel_rfl)) rfl (pn 3 rfl (RL.sg (Vl.fa 11 underlying61 rfl sizeOf51 rfl rfl) rfl rfl ?_)))))))
  obtain ⟨A23, c24, A26, c27, A29, c30, A32, c33, b35, b36, A37, c38, A39, c40, b41, b42, hr25, hr28, hr31, hr34, hS⟩ := O_lane_Lane.o hS
  refine RL.sg (Vl.ld 0 hS isAgg51 rfl rfl rfl) rfl rfl (RL.sg (Vl.bin (v := .bool false) rfl rfl (by kernel_rfl)) rfl rfl (pn 2 rfl (lr ?_)))
  have hS := O_lane_Lane.c (x := a2) hr25 hr28 hr31 hr34 hS
  exact rt results45 rfl ⟨rfl, hS⟩
def heap_Heap_First.f (a2 : heap_Heap) : Option (api_Message × Int) := ((heap_Heap_none.f a2).bind fun _ => (if (a2.p_l.length : Int) = 0 then some ((⟨(⟨0, 0, 0⟩ : api_Key), 0, 0, 0, false⟩ : api_Message), 6) else (if 0 < (a2.p_l.length : Int) then some (nth a2.p_l 0, 0) else none)))
theorem heap_Heap_First.ok {a2 : heap_Heap} {b1 : Nat} {r : api_Message × Int} (h : heap_Heap_First.f a2 = some r) (hS : St B w (O_heap_Heap hf a2 b1 :: l) hf) :
    Calls prog 194 #[.pointer (some ⟨b1, 0, none⟩)] w (Ret fun v w => v = .tuple #[.agg (C_api_Message r.1).toArray, .int .i64 r.2] ∧ St B w (O_heap_Heap hf a2 b1 :: l) hf) := by
  have h := Holds.of h
  refine en func194 rfl ntmps194 rfl (sr (al hS zeroValue48 rfl rfl rfl fun b21 w hS => pn 1 rfl (ln (RC.seq (RC.block (sr (pn 1 rfl (cF (fun _ hg => heap_Heap_none.ok hg hS.p1) call198 h rfl rfl rfl ?_))))))))
  rintro _ h _ w ⟨rfl, hS⟩
  refine pn 1 rfl (ln (RC.condF rfl (sr (pn 2 rfl (RL.s (Vl.fa 0 underlying245 rfl sizeOf243 rfl rfl) rfl (RL.s (Vl.fa 0 underlying243 rfl sizeOf39 rfl rfl) rfl ?_))))))
  obtain ⟨A33, c34, hS⟩ := O_heap_Heap.o hS
  refine RL.s (Vl.ld 0 hS isAgg39 rfl rfl rfl) rfl (RL.s (Vl.lenSl underlying39 rfl) rfl (pn 2 rfl (ln ?_)))
  refine RC.iteP 8 rfl h (fun hc35 h => ?_) fun hc35 h => ?_
  next =>
   refine RC.condT rfl (sr (RL.s (Vl.build (v := .agg #[.int .i64 0, .int .i64 0, .int .i64 0, .int .i64 0, .int .i64 0, .int .i64 0, .bool false]) (parts := []) rfl (by kernel_rfl)) rfl (RL.e0 (OW.store (vs := [.int .i64 0, .int .i64 0, .int .i64 0, .int .i64 0, .int .i64 0, .int .i64 0, .bool false]) 2 hS rfl rfl rfl rfl sizeOf48 rfl rfl rfl rfl) rfl ?_)))
   rintro _ w ⟨rfl, hS⟩
   have hS : St B w (_ :: _ :: Cl _ [_, _, _, _, _, _, _] _ :: l) hf := hS
   refine pn 1 rfl (lr (RQ.inB_ret (RQ.ret ?_)))
   have hS := O_heap_Heap.c (x := a2) hS
   obtain rfl := h.some
   refine RQ.ret0 (vs := [.agg #[.int .i64 0, .int .i64 0, .int .i64 0, .int .i64 0, .int .i64 0, .int .i64 0, .bool false], .int .i64 6]) results194 ⟨⟨_, rfl, run_loadVarA (vs := [.int .i64 0, .int .i64 0, .int .i64 0, .int .i64 0, .int .i64 0, .int .i64 0, .bool false]) isAgg48 sizeOf48 rfl (hS.cellsAt 1 rfl rfl)⟩, rfl, trivial⟩ ?_
   exact ⟨rfl, hS.d1⟩
  refine RC.condF rfl (RC.skip (RQ.inB_n (tsr (pn 2 rfl (RL.s (Vl.fa 0 underlying245 rfl sizeOf243 rfl rfl) rfl (RL.s (Vl.fa 0 underlying243 rfl sizeOf39 rfl rfl) rfl (RL.s (Vl.ld 0 hS isAgg39 rfl rfl rfl) rfl ?_)))))))
  obtain ⟨hq36, h⟩ := h.req
  refine RL.s (Vl.indexOwn 1 hS rfl underlying39 sizeOf48 rfl rfl (by decide) hq36) rfl (RL.s (Vl.loadA isAgg48 sizeOf48 rfl rfl ((hS.slW 1 rfl).2.2.cells (by decide) hq36)) rfl (RL.e0 (OW.store (vs := (C_api_Message (nth a2.p_l 0))) 2 hS rfl rfl rfl rfl sizeOf48 rfl rfl rfl rfl) rfl ?_))
  rintro _ w ⟨rfl, hS⟩
  have hS : St B w (_ :: _ :: Cl _ [_, _, _, _, _, _, _] _ :: l) hf := hS
  refine pn 1 rfl (lr ?_)
  have hS := O_heap_Heap.c (x := a2) hS
  obtain rfl := h.some
  refine RQ.ret0 (vs := [.agg (C_api_Message (nth a2.p_l 0)).toArray, .int .i64 0]) results194 ⟨⟨_, rfl, run_loadVarA (vs := (C_api_Message (nth a2.p_l 0))) isAgg48 sizeOf48 rfl (hS.cellsAt 1 rfl rfl)⟩, rfl, trivial⟩ ?_
  exact ⟨rfl, hS.d1⟩
def pend_Pend_First.f (a2 : pend_Pend) : Option (api_Message × Int) := ((pend_Pend_none.f a2).bind fun _ => ((heap_Heap_First.f a2.q).bind fun (y23, y24) => some (y23, y24)))
theorem pend_Pend_First.ok {a2 : pend_Pend} {b1 : Nat} {r : api_Message × Int} (h : pend_Pend_First.f a2 = some r) (hS : St B w (O_pend_Pend hf a2 b1 :: l) hf) :
    Calls prog 63 #[.pointer (some ⟨b1, 0, none⟩)] w (Ret fun v w => v = .tuple #[.agg (C_api_Message r.1).toArray, .int .i64 r.2] ∧ St B w (O_pend_Pend hf a2 b1 :: l) hf) := by
  have h := Holds.of h
  refine en func63 rfl ntmps63 rfl (sr (al hS zeroValue48 rfl rfl rfl fun b15 w hS => pn 1 rfl (ln (RC.seq (sr (pn 1 rfl (cF (fun _ hg => pend_Pend_none.ok hg hS.p1) call93 h rfl rfl rfl ?_)))))))
  rintro _ h _ w ⟨rfl, hS⟩
  refine ln (RC.condF rfl (sk (sr (pn 2 rfl (RL.s (Vl.fa 0 underlying155 rfl sizeOf152 rfl rfl) rfl ?_)))))
  obtain ⟨b20, hS⟩ := O_pend_Pend.o hS
  refine RL.s (Vl.ld 0 hS isAgg152 rfl rfl rfl) rfl ?_
  obtain ⟨t21, hg22, h⟩ := h.bind
  have hc := heap_Heap_First.ok hg22 hS.p1
  obtain ⟨y23, y24⟩ := t21
  refine RL.e (OW.invoke (F := 194) (u' := .pointer (some ⟨b20, 0, none⟩)) (ls := []) rfl rfl (fun w => by kernel_rfl) call194 rfl hc) rfl rfl ?_
  rintro _ w ⟨rfl, hS⟩
  refine pn 2 rfl (RL.e0 (OW.store (vs := (C_api_Message y23)) 2 hS rfl rfl rfl rfl sizeOf48 rfl rfl rfl rfl) rfl ?_)
  rintro _ w ⟨rfl, hS⟩
  have hS : St B w (_ :: _ :: Cl _ [_, _, _, _, _, _, _] _ :: l) hf := hS
  refine pn 1 rfl (lr ?_)
  have hS := O_pend_Pend.c (x := a2) hS.p1
  obtain rfl := h.some
  refine RQ.ret0 (vs := [.agg (C_api_Message y23).toArray, .int .i64 y24]) results63 ⟨⟨_, rfl, run_loadVarA (vs := (C_api_Message y23)) isAgg48 sizeOf48 rfl (hS.cellsAt 1 rfl rfl)⟩, rfl, trivial⟩ ?_
  exact ⟨rfl, hS.d1⟩
def log_Log_none.f (a2 : log_Log) : Option (Bool) := some (!a2.made)
theorem log_Log_none.ok {a2 : log_Log} {b1 : Nat} {r : Bool} (h : log_Log_none.f a2 = some r) (hS : St B w (O_log_Log hf a2 b1 :: l) hf) :
    Calls prog 94 #[.pointer (some ⟨b1, 0, none⟩)] w (Ret fun v w => v = .bool r ∧ St B w (O_log_Log hf a2 b1 :: l) hf) := by
  have h := Holds.of h
  refine en func94 rfl ntmps94 rfl (sr (pn 1 rfl (lnsr (pn 1 rfl (RL.s (Vl.bin (v := .bool false) rfl rfl (by kernel_rfl)) rfl (pn 3 rfl (RL.sg (Vl.fa 4 underlying150 rfl sizeOf4 rfl rfl) rfl rfl ?_)))))))
  obtain ⟨A13, c14, A16, c17, A19, c20, cs21, hr15, hr18, hx22, hS⟩ := O_log_Log.o hS
  refine RL.sg (Vl.ld 0 hS isAgg4 rfl rfl rfl) rfl rfl (pn 3 rfl (lr ?_))
  have hS := O_log_Log.c (x := a2) hr15 hr18 hx22 hS
  obtain rfl := h.some
  exact rt results94 rfl ⟨rfl, hS⟩
def log_Log_Stuck.f (a2 : log_Log) : Option (Bool) := ((log_Log_none.f a2).bind fun t16 => (if t16 = true then some false else some a2.stuck))
theorem log_Log_Stuck.ok {a2 : log_Log} {b1 : Nat} {r : Bool} (h : log_Log_Stuck.f a2 = some r) (hS : St B w (O_log_Log hf a2 b1 :: l) hf) :
    Calls prog 67 #[.pointer (some ⟨b1, 0, none⟩)] w (Ret fun v w => v = .bool r ∧ St B w (O_log_Log hf a2 b1 :: l) hf) := by
  have h := Holds.of h
  refine en func67 rfl ntmps67 rfl (sr (pn 1 rfl (lnsr (pn 1 rfl (cF (fun _ hg => log_Log_none.ok hg hS) call94 h rfl rfl rfl ?_)))))
  rintro t16 h _ w ⟨rfl, hS⟩
  refine pn 2 rfl ?_
  refine RL.iteM 6 rfl h (fun hc18 h => ?_) fun hc18 h => ?_
  next =>
   refine pn 6 rfl (lr ?_)
   obtain rfl := h.some
   exact rt results67 rfl ⟨rfl, hS⟩
  refine pn 2 rfl (RL.sg (Vl.fa 17 underlying150 rfl sizeOf4 rfl rfl) rfl rfl ?_)
  obtain ⟨A19, c20, A22, c23, A25, c26, cs27, hr21, hr24, hx28, hS⟩ := O_log_Log.o hS
  refine RL.sg (Vl.ld 0 hS isAgg4 rfl rfl rfl) rfl rfl (pn 2 rfl (lr ?_))
  have hS := O_log_Log.c (x := a2) hr21 hr24 hx28 hS
  obtain rfl := h.some
  exact rt results67 rfl ⟨rfl, hS⟩
def lane_Lane_Local.l4b (a2 : lane_Lane) : Int × Int → Option ((Int × Int) ⊕ (Int))
  | (x381, x382) => (if x382 < (a2.open_.length : Int) then (if 0 ≤ x382 then ((vtime_Least.f ([x381, (((nth a2.open_ x382).m).Key).Time] : List Int)).bind fun t432 => some (.inl (t432, IntKind.i64.wrap (x382 + 1)))) else none) else some (.inr x381))
def lane_Lane_Local.l4 (a2 : lane_Lane) (s : Int × Int) : Option (Int) := loopR (lane_Lane_Local.l4b a2) s
def lane_Lane_Local.j3 (a2 : lane_Lane) (x318 : Int) : Option (Int) := lane_Lane_Local.l4 a2 (x318, 0)
def lane_Lane_Local.f (a2 : lane_Lane) : Option (Int) := ((vtime_Least.f ([])).bind fun t251 => ((lane_Lane_none.f a2).bind fun _ => ((pend_Pend_First.f a2.wait).bind fun (y481, y482) => (if y482 = 0 then ((log_Log_Stuck.f a2.log).bind fun t485 => (if t485 = true then lane_Lane_Local.j3 a2 t251 else ((vtime_Least.f ([y481.Key.Time] : List Int)).bind fun t493 => lane_Lane_Local.j3 a2 t493))) else lane_Lane_Local.j3 a2 t251))))
theorem lane_Lane_Local.ok {a2 : lane_Lane} {b1 : Nat} {r : Int} (h : lane_Lane_Local.f a2 = some r) (hS : St B w (O_lane_Lane hf a2 b1 :: l) hf) :
    Calls prog 20 #[.pointer (some ⟨b1, 0, none⟩)] w (Ret fun v w => v = .int .i64 r ∧ St B w (O_lane_Lane hf a2 b1 :: l) hf) := by
  have h := Holds.of h
  refine en func20 rfl ntmps20 rfl (sr (pn 1 rfl (lnsr (cF (fun _ hg => vtime_Least.ok (SlR.nil (A := none) (c := 0)) hg hS) call66 h rfl rfl rfl ?_))))
  rintro t251 h _ w ⟨rfl, hS⟩
  refine pn 1 rfl (ln (RC.seq (sr (pn 1 rfl (cF (fun _ hg => lane_Lane_none.ok hg hS) call45 h rfl rfl rfl ?_)))))
  rintro _ h _ w ⟨rfl, hS⟩
  refine ln (RC.condF rfl (sk ?_))
  refine RC.join (fun (s : Int) a w => ∃ (x318 : Int), s = (x318) ∧ Has 53 [(0, .pointer (some ⟨b1, 0, none⟩)), (3, .int .i64 x318)] a ∧ St B w (O_lane_Lane hf a2 b1 :: l) hf ∧ Holds (· = r) (lane_Lane_Local.j3 a2 x318)) ?_ ?_
  · rintro x318 a w ⟨_, rfl, ha, hS, h⟩
    revert a
    show RC _ _ _ _ _ _
    refine RC.seq (sr (pn 2 rfl (RL.s (Vl.fa 13 underlying61 rfl sizeOf53 rfl rfl) rfl ?_)))
    obtain ⟨A339, c340, A342, c343, A345, c346, A348, c349, b351, b352, A353, c354, A355, c356, b357, b358, hr341, hr344, hr347, hr350, hS⟩ := O_lane_Lane.o hS
    refine RL.s (Vl.ld 0 hS isAgg53 rfl rfl rfl) rfl (RL.s (Vl.lenSl underlying53 rfl) rfl (pn 1 rfl (ln (RC.block ?_))))
    refine fun a ha => RC.loop (N := 53) (body := (lane_Lane_Local.l4b a2)) (φ := (· = r)) (fun (s : Int × Int) a w => ∃ (x381 : Int) (x382 : Int), s = (x381, x382) ∧ Has 53 [(3, .int .i64 x381), (38, .slice A353 a2.open_.length c354), (39, .int .i64 (a2.open_.length : Int)), (40, .int .i64 x382)] a ∧ St B w (OSf E_lane_open 116 (.slice A353 a2.open_.length c354) a2.open_ :: OSf E_api_Message 48 (.slice A355 a2.orphans.length c356) a2.orphans :: Cl b1 (C_lane_Lane a2 A339 c340 A342 c343 A345 c346 A348 c349 b351 b352 A353 c354 A355 c356 b357 b358) 61 :: O_log_Log hf a2.log b351 :: O_pend_Pend hf a2.wait b352 :: MapF kv_lane_sending (Value.int .i64) b357 a2.early :: MapF kv_lane_sending Value.bool b358 a2.held :: l) hf) ?_ (s0 := (x318, 0)) h ⟨x318, 0, rfl, ha.to ⟨rfl, rfl, rfl, rfl, trivial⟩, hS.p4.p4⟩
    rintro G409 _ a w ⟨x381, x382, rfl, ha, hS⟩ h
    revert a
    show RC _ _ _ _ _ _
    refine sr (pn 1 rfl (ln (RC.seq ?_)))
    refine RC.iteP 41 rfl h (fun hc411 h => ?_) fun hc411 h => ?_
    next =>
     refine RC.condT rfl (sk (RC.seq (RC.block (sr ?_))))
     obtain ⟨hq425, h⟩ := h.req
     refine RL.s (Vl.indexOwn 0 hS rfl underlying53 sizeOf116 rfl rfl hq425 hc411) rfl (RL.s (Vl.loadA isAgg116 sizeOf116 rfl rfl ((hS.slW 0 rfl).2.2.cells hq425 hc411)) rfl (al hS zeroValue116 rfl rfl rfl fun b426 w hS => RL.e0 (OW.store (vs := (C_lane_open (nth a2.open_ x382))) 0 hS rfl rfl rfl rfl sizeOf116 rfl rfl rfl rfl) rfl ?_))
     rintro _ w ⟨rfl, hS⟩
     have hS : St B w (Cl _ [_, _, _, _, _, _, _, _, _, _, _, _, _, _] _ :: _ :: _ :: _ :: _ :: _ :: _ :: _ :: l) hf := hS
     refine ln (RC.region (pn 1 rfl (RL.s (Vl.fa 7 underlying116 rfl sizeOf48 rfl rfl) rfl (RL.s (Vl.fa 7 underlying48 rfl sizeOf46 rfl rfl) rfl (RL.s (Vl.fa 7 underlying46 rfl sizeOf2 rfl rfl) rfl (RL.s (Vl.ld 0 hS isAgg2 rfl rfl rfl) rfl (RL.e (OW.buildSlice (E := (FI .i64)) (xs := ([x381, (((nth a2.open_ x382).m).Key).Time] : List Int)) (cs := [.int .i64 x381, .int .i64 ((((nth a2.open_ x382).m).Key).Time)]) hS underlying192 zeroValue2 sizeOf2 (parts := [(0, .tmp 44), (1, .tmp 48)]) rfl rfl (by decide) (by decide) (by kernel_rfl) rfl) rfl rfl ?_)))))))
     rintro _ w ⟨b427, rfl, hS⟩
     obtain ⟨hf431, hs429, hS, hr428, hb430⟩ := St.lendSl hS
     obtain ⟨t432, hg433, h⟩ := h.bind
     have hc := vtime_Least.ok hr428 hg433 hS
     refine RL.e (OW.callF (ls := [.tmp 49]) rfl call66 hc) rfl rfl ?_
     rintro _ w ⟨rfl, hS⟩
     have hS := hb430 _ _ hS
     have hS : St B w (_ :: _ :: _ :: _ :: _ :: _ :: _ :: _ :: _ :: l) hf := hS
     refine pn 1 rfl (RL.nil (RQ.inB_n (RQ.then_n (RC.region (pn 2 rfl (RL.nil ?_))))))
     exact fun a ha => ⟨(t432, IntKind.i64.wrap (x382 + 1)), ⟨t432, (IntKind.i64.wrap (x382 + 1)), rfl, ha.to ⟨rfl, rfl, rfl, rfl, trivial⟩, hS.d0.d0⟩, h.some⟩
    refine RC.condF rfl (RC.exit (RQ.exitT ?_))
    have h := h.inrS
    refine RQ.exitT (RQ.inB_hit (tsr (pn 2 rfl (lr ?_))))
    have hS := O_lane_Lane.c (x := a2) hr341 hr344 hr347 hr350 hS.p4.p4.p4
    obtain rfl := h.some
    exact rt results20 rfl ⟨rfl, hS⟩
  refine sr (pn 2 rfl (RL.s (Vl.fa 12 underlying61 rfl sizeOf52 rfl rfl) rfl ?_))
  obtain ⟨A459, c460, A462, c463, A465, c466, A468, c469, b471, b472, A473, c474, A475, c476, b477, b478, hr461, hr464, hr467, hr470, hS⟩ := O_lane_Lane.o hS
  refine RL.s (Vl.ld 0 hS isAgg52 rfl rfl rfl) rfl (cF (fun _ hg => pend_Pend_First.ok hg hS.p2) call63 h rfl rfl rfl ?_)
  rintro ⟨y481, y482⟩ h _ w ⟨rfl, hS⟩
  refine pn 3 rfl (al hS zeroValue48 rfl rfl rfl fun b483 w hS => RL.e0 (OW.store (vs := (C_api_Message y481)) 0 hS rfl rfl rfl rfl sizeOf48 rfl rfl rfl rfl) rfl ?_)
  rintro _ w ⟨rfl, hS⟩
  have hS : St B w (Cl _ [_, _, _, _, _, _, _] _ :: _ :: _ :: _ :: _ :: _ :: _ :: _ :: l) hf := hS
  refine pn 1 rfl (lnsr (pn 3 rfl ?_))
  refine RL.iteP 22 rfl h (fun hc484 h => ?_) fun hc484 h => ?_
  next =>
   refine pn 2 rfl (RL.sg (Vl.fa 11 underlying61 rfl sizeOf51 rfl rfl) rfl rfl (RL.sg (Vl.ld 2 hS isAgg51 rfl rfl rfl) rfl rfl (cF (fun _ hg => log_Log_Stuck.ok hg hS.p3) call67 h rfl rfl rfl ?_)))
   rintro t485 h _ w ⟨rfl, hS⟩
   refine pn 2 rfl (ln ?_)
   refine RC.iteM 29 rfl h (fun hc487 h => ?_) fun hc487 h => ?_
   next =>
    refine RC.condF rfl (RC.skip ?_)
    have hS := O_lane_Lane.c (x := a2) hr461 hr464 hr467 hr470 hS.p7.p7.p7.p7.p6.p5.p7
    exact fun a ha => ⟨(t251), t251, rfl, ha.to ⟨rfl, rfl, trivial⟩, hS.d1, h⟩
   refine RC.condT rfl (RC.region (RL.s (Vl.fa 0 underlying48 rfl sizeOf46 rfl rfl) rfl (RL.s (Vl.fa 0 underlying46 rfl sizeOf2 rfl rfl) rfl (RL.s (Vl.ld 1 hS isAgg2 rfl rfl rfl) rfl (RL.e (OW.buildSlice (E := (FI .i64)) (xs := ([y481.Key.Time] : List Int)) (cs := [.int .i64 y481.Key.Time]) hS underlying192 zeroValue2 sizeOf2 (parts := [(0, .tmp 32)]) rfl rfl (by decide) (by decide) (by kernel_rfl) rfl) rfl rfl ?_)))))
   rintro _ w ⟨b488, rfl, hS⟩
   obtain ⟨hf492, hs490, hS, hr489, hb491⟩ := St.lendSl hS
   obtain ⟨t493, hg494, h⟩ := h.bind
   have hc := vtime_Least.ok hr489 hg494 hS
   refine RL.e (OW.callF (ls := [.tmp 33]) rfl call66 hc) rfl rfl ?_
   rintro _ w ⟨rfl, hS⟩
   have hS := hb491 _ _ hS
   have hS : St B w (_ :: _ :: _ :: _ :: _ :: _ :: _ :: _ :: _ :: l) hf := hS
   refine pn 1 rfl (RL.nil ?_)
   have hS := O_lane_Lane.c (x := a2) hr461 hr464 hr467 hr470 hS.p8.p8.p8.p8.p7.p6.p8
   exact fun a ha => ⟨(t493), t493, rfl, ha.to ⟨rfl, rfl, trivial⟩, hS.d1.d1, h⟩
  refine pn 7 rfl (ln (RC.condF rfl (RC.skip ?_)))
  have hS := O_lane_Lane.c (x := a2) hr461 hr464 hr467 hr470 hS.p7.p7.p7.p7.p5.p7.p7
  exact fun a ha => ⟨(t251), t251, rfl, ha.to ⟨rfl, rfl, trivial⟩, hS.d1, h⟩
def isochronlaw17vawake.f  : Option (Bool) := ((lane_New.f (⟨[([] : List api_Instr)], [], [], 0, 0, 0⟩ : api_Model) 0 (⟨1, 1, 1⟩ : api_Caps)).bind fun t43 => match t43 with | .inl y45 => some false | .inr ((y46, y47)) => (if y47 = 0 then ((lane_Lane_Local.f y46).bind fun t51 => some (decide (t51 = 4611686018427387904))) else some false))
theorem isochronlaw17vawake.ok (hG0 : GlobAt hf 0 (.iface 215 (.agg #[.pointer (some ⟨1, 108, none⟩)]))) {r : Bool} (h : isochronlaw17vawake.f = some r) (hS : St B w (l) hf) :
    Calls prog 11 #[] w (Ret fun v w => v = .bool r ∧ St B w (l) hf) := by
  have h := Holds.of h
  refine en func11 rfl ntmps11 rfl (sr (pn 1 rfl (lnsr ?_)))
  have hx40 : RepL (Rep.sl E_api_Instr.rep) hf [.slice none 0 0] [([] : List api_Instr)] := (RepL.cons (c := [.slice none 0 0]) (r := []) ⟨none, 0, rfl, SlR.nil⟩ RepL.nil)
  refine RL.e (OW.buildSliceR (sz := 1) (cs := [.slice none 0 0]) hS underlying22 zeroValue89 sizeOf89 (parts := [(0, .const (.slice none 0 0))]) rfl rfl (by decide) (by decide) (by kernel_rfl)) rfl rfl ?_
  rintro _ w ⟨b39, rfl, hS⟩
  refine RL.s (Vl.build (v := .agg #[.slice (some ⟨b39, 0, none⟩) ([([] : List api_Instr)]).length 1, .slice none 0 0, .slice none 0 0, .int .u64 0, .int .i64 0, .int .i64 0]) (parts := [(0, .tmp 4)]) rfl (by kernel_rfl)) rfl (RL.s (Vl.build (v := .agg #[.int .i64 1, .int .i64 1, .int .i64 1]) (parts := [(0, .const (.int .i64 1)), (1, .const (.int .i64 1)), (2, .const (.int .i64 1))]) rfl (by kernel_rfl)) rfl ?_)
  obtain ⟨hf, hs41, hS, hr42⟩ := St.promoteR (Rep.sl_ok E_api_Instr.rep) hS rfl hx40
  obtain ⟨t43, hg44, h⟩ := h.bind
  have hc := lane_New.ok (a1 := (⟨[([] : List api_Instr)], [], [], 0, 0, 0⟩ : api_Model)) hr42 (SlR.nil (A := none) (c := 0)) (SlR.nil (A := none) (c := 0)) (hG0.mono hs41) hg44 hS
  rcases t43 with y45 | ⟨y46, y47⟩
  · refine RL.e (OW.callF (ls := [.tmp 5, .const (.int .i64 0), .tmp 6]) rfl call8 hc) rfl rfl ?_
    rintro _ w ⟨rfl, hS⟩
    refine pn 5 rfl (lnsr (pn 1 rfl (RL.s (Vl.bin (v := .bool false) rfl rfl (by kernel_rfl)) rfl (pn 10 rfl (lr ?_)))))
    obtain rfl := h.some
    exact rt results11 rfl ⟨rfl, (hS).down hs41⟩
  refine RL.e (OW.callF (ls := [.tmp 5, .const (.int .i64 0), .tmp 6]) rfl call8 hc) rfl rfl ?_
  rintro _ w ⟨hf, hs49, b48, rfl, hS⟩
  refine pn 5 rfl (lnsr (pn 1 rfl (RL.s (Vl.bin (v := .bool true) rfl rfl (by kernel_rfl)) rfl (pn 5 rfl ?_))))
  refine RL.iteP 16 rfl h (fun hc50 h => ?_) fun hc50 h => ?_
  next =>
   refine pn 1 rfl (cF (fun _ hg => lane_Lane_Local.ok hg hS) call20 h rfl rfl rfl ?_)
   rintro t51 h _ w ⟨rfl, hS⟩
   refine pn 3 rfl (lr ?_)
   obtain rfl := h.some
   exact rt results11 rfl ⟨rfl, (hS.d0).down (hs41.trans hs49)⟩
  refine pn 5 rfl (lr ?_)
  obtain rfl := h.some
  exact rt results11 rfl ⟨rfl, (hS.d0).down (hs41.trans hs49)⟩
def isochronlaw17vroom.l2b (a1 : api_Model) (a11 : Int) : List Int × Int → Option ((List Int × Int) ⊕ (List Int))
  | (l113, x116) => ((model_Ways.f a1 a11).bind fun t147 => (if x116 < (t147.length : Int) then (if (l113.length + 1) * 8 ≤ 140737488355328 then some (.inl ((l113 ++ ([1000] : List Int)), IntKind.i64.wrap (x116 + 1))) else none) else some (.inr l113)))
def isochronlaw17vroom.l2 (a1 : api_Model) (a11 : Int) (s : List Int × Int) : Option (List Int) := loopR (isochronlaw17vroom.l2b a1 a11) s
def isochronlaw17vroom.f (a1 : api_Model) (a11 : Int) : Option (List Int) := isochronlaw17vroom.l2 a1 a11 ([], 0)
theorem isochronlaw17vroom.ok {a1 : api_Model} {a11 : Int} {A2 : Option Addr} {c3 : Nat} {A5 : Option Addr} {c6 : Nat} {A8 : Option Addr} {c9 : Nat} (hr4 : SlR (Rep.sl E_api_Instr.rep) hf A2 c3 a1.Progs) (hr7 : SlR E_api_Link.rep hf A5 c6 a1.Links) (hr10 : SlR E_api_Start.rep hf A8 c9 a1.Starts) {r : List Int} (h : isochronlaw17vroom.f a1 a11 = some r) (hS : St B w (l) hf) :
    Calls prog 12 #[.agg (C_api_Model a1 A2 c3 A5 c6 A8 c9).toArray, .int .i64 a11] w (Ret fun v w => ∃ (A_1 : Option Addr) (c_2 : Nat), v = .slice A_1 r.length c_2 ∧ St B w (OSf (FI .i64) 3 (.slice A_1 r.length c_2) r :: l) hf) := by
  have h := Holds.of h
  refine en func12 rfl ntmps12 rfl (sr (bx hS rfl rfl rfl rfl fun b88 w hS => pn 1 rfl (lnsr (pn 1 rfl (ln (RC.seq (sr (pn 1 rfl ?_))))))))
  refine ln (RC.block ?_)
  have hS := hS.nilSl (FI .i64) 3
  refine fun a ha => RC.loop (N := 19) (body := (isochronlaw17vroom.l2b a1 a11)) (φ := (· = r)) (fun (s : List Int × Int) a w => ∃ (l113 : List Int) (x116 : Int), s = (l113, x116) ∧ ∃ (A114 : Option Addr) (c115 : Nat), Has 19 [(1, .int .i64 a11), (2, .pointer (some ⟨b88, 0, none⟩)), (5, .slice A114 l113.length c115), (6, .int .i64 x116)] a ∧ St B w (OSf (FI .i64) 3 (.slice A114 l113.length c115) l113 :: Cl b88 (C_api_Model a1 A2 c3 A5 c6 A8 c9) 27 :: l) hf) ?_ (s0 := ([], 0)) h ⟨([]), 0, rfl, none, 0, ha.to ⟨rfl, rfl, rfl, rfl, trivial⟩, hS⟩
  rintro G141 _ a w ⟨l113, x116, rfl, A114, c115, ha, hS⟩ h
  revert a
  show RC _ _ _ _ _ _
  refine RC.seq (sr (pn 1 rfl (RL.s (Vl.lw 1 hS isAgg27 sizeOf27 rfl rfl rfl) rfl (pn 1 rfl (cF (fun _ hg => model_Ways.ok hr4 hr7 hr10 hg hS) call36 h rfl rfl rfl ?_)))))
  rintro t147 h _ w ⟨A149, c150, rfl, hS⟩
  refine RL.s (Vl.lenSl underlying37 rfl) rfl (pn 1 rfl (ln ?_))
  refine RC.iteP 12 rfl h (fun hc151 h => ?_) fun hc151 h => ?_
  next =>
   refine RC.condT rfl (sk (RC.seq (RC.block (RC.region (pn 1 rfl (RL.e (OW.buildSlice (E := (FI .i64)) (xs := ([1000] : List Int)) (cs := [.int .i64 1000]) hS underlying37 zeroValue3 sizeOf3 (parts := [(0, .const (.int .i64 1000))]) rfl rfl (by decide) (by decide) (by kernel_rfl) rfl) rfl rfl ?_))))))
   rintro _ w ⟨b157, rfl, hS⟩
   obtain ⟨hq158, h⟩ := h.req
   refine RL.e (OW.append (E := (FI .i64)) (xs := l113) (ys := ([1000] : List Int)) 2 hS rfl underlying37 type3 rfl rfl rfl rfl (by decide) rfl rfl rfl (hS.slW 0 rfl).2.2.flat (by simp only [maxLen, List.length_cons, List.length_nil] at *; omega) hq158 rfl) rfl rfl ?_
   rintro v161 w hS
   obtain ⟨A159, c160, rfl, _⟩ := hS.osShape 0 rfl
   have hS : St B w (_ :: _ :: _ :: _ :: l) hf := hS
   refine pn 1 rfl (RL.nil (RQ.inB_n (RQ.then_n (RC.region (pn 3 rfl (RL.nil ?_))))))
   exact fun a ha => ⟨((l113 ++ ([1000] : List Int)), IntKind.i64.wrap (x116 + 1)), ⟨(l113 ++ ([1000] : List Int)), (IntKind.i64.wrap (x116 + 1)), rfl, A159, c160, ha.to ⟨rfl, rfl, rfl, rfl, trivial⟩, hS.d1.d1⟩, h.some⟩
  refine RC.condF rfl (RC.exit (RQ.exitT ?_))
  have h := h.inrS
  refine RQ.exitT (RQ.inB_hit (tsr (pn 2 rfl (lr ?_))))
  obtain rfl := h.some
  exact rt results12 rfl ⟨A114, c115, rfl, hS.d0.d1⟩
def slices_Clone_api_Message_api_Message_2.f (a1 : List api_Message) : Option (Unit) := some ()
theorem slices_Clone_api_Message_api_Message_2.ok {a1 : List api_Message} {c3 : Nat} (hr4 : SlR E_api_Message.rep hf none c3 a1) {r : Unit} (h : slices_Clone_api_Message_api_Message_2.f a1 = some r) (hS : St B w (l) hf) :
    Calls prog 108 #[.slice none a1.length c3] w (Ret fun v w => v = .slice none 0 0 ∧ St B w (l) hf) := by
  have h := Holds.of h
  refine en func108 rfl ntmps108 rfl (sr (pn 1 rfl (ln (RC.seq (sr (pn 1 rfl (RL.s (Vl.bin (v := .bool true) rfl rfl (by kernel_rfl)) rfl (ln (RC.condT rfl (sr ?_))))))))))
  refine pn 1 rfl (lr (RQ.ret ?_))
  exact rt results108 rfl ⟨rfl, hS⟩
def slices_Clone_api_Message_api_Message_3.f (a1 : List api_Message) : Option (List api_Message) := (if (([] : List api_Message).length + a1.length) * 56 ≤ 140737488355328 then some (([] : List api_Message) ++ a1) else none)
theorem slices_Clone_api_Message_api_Message_3.ok {a1 : List api_Message} {A2 : Addr} {c3 : Nat} (hr4 : SlR E_api_Message.rep hf (some A2) c3 a1) {r : List api_Message} (h : slices_Clone_api_Message_api_Message_3.f a1 = some r) (hS : St B w (l) hf) :
    Calls prog 108 #[.slice (some A2) a1.length c3] w (Ret fun v w => ∃ (A_1 : Option Addr) (c_2 : Nat), v = .slice A_1 r.length c_2 ∧ St B w (OSf E_api_Message 48 (.slice A_1 r.length c_2) r :: l) hf) := by
  have h := Holds.of h
  refine en func108 rfl ntmps108 rfl (sr (pn 1 rfl (ln (RC.seq (sr (pn 1 rfl (RL.s (Vl.bin (v := .bool false) rfl rfl (by kernel_rfl)) rfl (ln (RC.condF rfl (sk ?_))))))))))
  refine sr (RL.e (OW.build0 (E := E_api_Message) hS underlying39 zeroValue48 sizeOf48) rfl rfl ?_)
  rintro _ w ⟨b12, rfl, hS⟩
  refine pn 1 rfl ?_
  obtain ⟨hq13, h⟩ := h.req
  refine RL.e (OW.appendV (E := E_api_Message) (xs := ([] : List api_Message)) (ys := a1) 0 hS rfl underlying39 type48 rfl rfl rfl rfl (by decide) (by decide) rfl rfl (hr4.2.world hS.sub) hq13 rfl) rfl rfl ?_
  rintro v16 w hS
  obtain ⟨A14, c15, rfl, _⟩ := hS.osShape 0 rfl
  have hS : St B w (_ :: l) hf := hS
  refine pn 1 rfl (lr ?_)
  obtain rfl := h.some
  exact rt results108 rfl ⟨A14, c15, rfl, hS⟩
def slices_Clone_api_Message_api_Message.f (a5 : List api_Message) : Option (List api_Message) := slices_Clone_api_Message_api_Message_3.f a5
theorem slices_Clone_api_Message_api_Message.ok {a5 : List api_Message} {A6 : Option Addr} {c7 : Nat} (hr8 : SlR E_api_Message.rep hf A6 c7 a5) {r : List api_Message} (h : slices_Clone_api_Message_api_Message.f a5 = some r) (hS : St B w (l) hf) :
    Calls prog 108 #[.slice A6 a5.length c7] w (Ret fun v w => ∃ (A_1 : Option Addr) (c_2 : Nat), v = .slice A_1 r.length c_2 ∧ St B w (OSf E_api_Message 48 (.slice A_1 r.length c_2) r :: l) hf) := by
  cases A6 with
  | some b => exact slices_Clone_api_Message_api_Message_3.ok hr8 h hS
  | none =>
    have e : a5 = [] := by
      cases a5 with
      | nil => rfl
      | cons x xs => have := (hr8.2 0 (Nat.succ_pos _)).1; cases this
    subst e
    have e : r = [] := by
      unfold slices_Clone_api_Message_api_Message.f slices_Clone_api_Message_api_Message_3.f at h
      simp at h
      first | exact h | exact h.symm
    subst e
    refine (slices_Clone_api_Message_api_Message_2.ok hr8 (r := ()) rfl hS).mono fun e w he => ?_
    cases e with
    | returned v => obtain ⟨rfl, hS⟩ := he; exact ⟨none, 0, rfl, hS.nilSl E_api_Message 48⟩
    | panicked c => exact he.elim
    | outgrown => exact he.elim
def slices_insertionSortCmpFunc_api_Message.l14b (a4 x612 : Int) : List api_Message × Int → Option ((List api_Message × Int) ⊕ ((List api_Message × Int) ⊕ (List api_Message)))
  | (l865, x866) => (if a4 < x866 then (if 0 ≤ x866 ∧ x866 < (l865.length : Int) then (if 0 ≤ IntKind.i64.wrap (x866 - 1) ∧ IntKind.i64.wrap (x866 - 1) < (l865.length : Int) then ((event_order.f (nth l865 x866) (nth l865 (IntKind.i64.wrap (x866 - 1)))).bind fun t905 => (if t905 < 0 then (if IntKind.i64.wrap (x866 - 1) < ((setL l865 x866 (nth l865 (IntKind.i64.wrap (x866 - 1)))).length : Int) then some (.inl ((setL (setL l865 x866 (nth l865 (IntKind.i64.wrap (x866 - 1)))) (IntKind.i64.wrap (x866 - 1)) (nth l865 x866)), IntKind.i64.wrap (x866 - 1))) else none) else some (.inr (.inl (l865, IntKind.i64.wrap (x612 + 1)))))) else none) else none) else some (.inr (.inl (l865, IntKind.i64.wrap (x612 + 1)))))
def slices_insertionSortCmpFunc_api_Message.l14 (a4 x612 : Int) (s : List api_Message × Int) : Option ((List api_Message × Int) ⊕ (List api_Message)) := loopR (slices_insertionSortCmpFunc_api_Message.l14b a4 x612) s
def slices_insertionSortCmpFunc_api_Message.l12b (a3 : List api_Message) (a4 a5 : Int) : List api_Message × Int → Option ((List api_Message × Int) ⊕ (List api_Message))
  | (l611, x612) => (if x612 < a5 then slices_insertionSortCmpFunc_api_Message.l14 a4 x612 (l611, x612) else (Option.map Sum.inr (if l611.length = a3.length then some l611 else none)))
def slices_insertionSortCmpFunc_api_Message.l12 (a3 : List api_Message) (a4 a5 : Int) (s : List api_Message × Int) : Option (List api_Message) := loopR (slices_insertionSortCmpFunc_api_Message.l12b a3 a4 a5) s
def slices_insertionSortCmpFunc_api_Message.f (a3 : List api_Message) (a4 a5 : Int) : Option (List api_Message) := slices_insertionSortCmpFunc_api_Message.l12 a3 a4 a5 (a3, IntKind.i64.wrap (a4 + 1))
theorem slices_insertionSortCmpFunc_api_Message.ok {a3 : List api_Message} {a4 a5 : Int} {A1 : Option Addr} {c2 : Nat} {r : List api_Message} (h : slices_insertionSortCmpFunc_api_Message.f a3 a4 a5 = some r) (hS : St B w (OSf E_api_Message 48 (.slice A1 a3.length c2) a3 :: l) hf) :
    Calls prog 130 #[.slice A1 a3.length c2, .int .i64 a4, .int .i64 a5, .func (.func 76) #[] #[]] w (Ret fun v w => v = .tuple #[] ∧ St B w (OSf E_api_Message 48 (.slice A1 a3.length c2) r :: l) hf) := by
  have h := Holds.of h
  refine en func130 rfl ntmps130 rfl (sr (pn 3 rfl (ln (RC.block ?_))))
  refine fun a ha => RC.loop (N := 53) (body := (slices_insertionSortCmpFunc_api_Message.l12b a3 a4 a5)) (φ := (· = r)) (fun (s : List api_Message × Int) a w => ∃ (l611 : List api_Message) (x612 : Int), s = (l611, x612) ∧ Has 53 [(0, .slice A1 l611.length c2), (1, .int .i64 a4), (2, .int .i64 a5), (3, .func (.func 76) #[] #[]), (8, .int .i64 x612)] a ∧ St B w (OSf E_api_Message 48 (.slice A1 l611.length c2) l611 :: l) hf) ?_ (s0 := (a3, IntKind.i64.wrap (a4 + 1))) h ⟨a3, (IntKind.i64.wrap (a4 + 1)), rfl, ha.to ⟨rfl, rfl, rfl, rfl, rfl, trivial⟩, hS⟩
  rintro G764 _ a w ⟨l611, x612, rfl, ha, hS⟩ h
  revert a
  show RC _ _ _ _ _ _
  refine RC.seq (sr (pn 3 rfl (ln ?_)))
  refine RC.iteP 14 rfl h (fun hc766 h => ?_) fun hc766 h => ?_
  next =>
   refine RC.condT rfl (sk (RC.seq (RC.block (sr (pn 2 rfl (ln (RC.block ?_)))))))
   refine fun a ha => RC.loop (N := 53) (body := (slices_insertionSortCmpFunc_api_Message.l14b a4 x612)) (φ := (Sum.elim G764 (· = r))) (fun (s : List api_Message × Int) a w => ∃ (l865 : List api_Message) (x866 : Int), s = (l865, x866) ∧ Has 53 [(0, .slice A1 l865.length c2), (1, .int .i64 a4), (2, .int .i64 a5), (3, .func (.func 76) #[] #[]), (8, .int .i64 x612), (9, .int .i64 x866)] a ∧ St B w (OSf E_api_Message 48 (.slice A1 l865.length c2) l865 :: l) hf) ?_ (s0 := (l611, x612)) h ⟨l611, x612, rfl, ha.to ⟨rfl, rfl, rfl, rfl, rfl, rfl, trivial⟩, hS⟩
   rintro G891 _ a w ⟨l865, x866, rfl, ha, hS⟩ h
   revert a
   show RC _ _ _ _ _ _
   refine RC.seq (RC.seq (RC.planS (plD [0, 3, 6, 9, 12, 15, 18, 22, 25, 27, 32, 35, 38, 41, 44, 47, 50]) [14, 15, 16] hS (fun w hS => hS) follows rfl (by kernel_rfl) (NoTmp.then (NoTmp.then (NoTmp.then (NoTmp.block (NoTmp.block (NoTmp.then (NoTmp.then (NoTmp.block NoTmp.body)))))))) fun w hS => pp 4 rfl ?_))
   refine RP.iteP 21 rfl h (fun hc900 h => ?_) fun hc900 h => ?_
   next =>
    refine pp 3 rfl ?_
    obtain ⟨⟨hq901, hq902⟩, h⟩ := h.req
    refine RP.sg 0 7 rfl rfl hS (fun w hS => Vl.indexOwn 0 hS rfl underlying39 sizeOf48 rfl rfl hq901 hq902) rfl rfl (RP.sg 0 8 rfl rfl hS (fun w hS => Vl.loadA isAgg48 sizeOf48 rfl rfl ((hS.slW 0 rfl).2.2.cells hq901 hq902)) rfl rfl (pp 1 rfl (RP.v1 10 rfl (Vl.move rfl) rfl rfl (RP.v1 11 rfl (Vl.int rfl rfl rfl) rfl rfl ?_))))
    obtain ⟨⟨hq903, hq904⟩, h⟩ := h.req
    refine RP.v1 12 rfl (Vl.indexOwn 0 hS rfl underlying39 sizeOf48 rfl rfl hq903 hq904) rfl rfl (RP.v1 13 rfl (Vl.loadA isAgg48 sizeOf48 rfl rfl ((hS.slW 0 rfl).2.2.cells hq903 hq904)) rfl rfl ?_)
    obtain ⟨t905, hg906, h⟩ := h.bind
    have hc := event_order.ok hg906 hS
    refine RP.e 14 rfl (OW.call (ls := [.tmp 26, .tmp 31]) rfl rfl call76 rfl hc) rfl rfl ?_
    rintro _ w ⟨rfl, hS⟩
    refine ⟨kp ⟨(by intro hx; cases hx), trivial⟩, ?_⟩
    refine RP.v1 15 rfl (Vl.int rfl rfl rfl) rfl rfl (RP.v1 16 rfl (Vl.pickT rfl rfl) rfl rfl (RP.nil (RQ.then_n ?_)))
    refine RC.iteP 34 rfl h (fun hc907 h => ?_) fun hc907 h => ?_
    next =>
     refine RC.condT rfl (sk (RC.seq (RC.block (RC.planS (plD [0, 3, 6, 9, 12, 15, 18, 21, 25, 28, 30, 35, 38, 41, 44, 47, 50, 53]) [14, 15, 16, 17] hS (fun w hS => hS) follows rfl (by kernel_rfl) (NoTmp.block (NoTmp.then (NoTmp.then (NoTmp.block (NoTmp.block (NoTmp.then (NoTmp.then (NoTmp.block NoTmp.body)))))))) fun w hS => pp 8 rfl (RP.s 0 8 rfl rfl hS (fun w hS => Vl.indexOwn 0 hS rfl underlying39 sizeOf48 rfl rfl hq903 hq904) rfl (RP.s 0 9 rfl rfl hS (fun w hS => Vl.loadA isAgg48 sizeOf48 rfl rfl ((hS.slW 0 rfl).2.2.cells hq903 hq904)) rfl (pp 1 rfl (RP.v1 11 rfl (Vl.move rfl) rfl rfl (RP.v1 12 rfl (Vl.indexOwn 0 hS rfl underlying39 sizeOf48 rfl rfl hq901 hq902) rfl rfl (RP.v1 13 rfl (Vl.loadA isAgg48 sizeOf48 rfl rfl ((hS.slW 0 rfl).2.2.cells hq901 hq902)) rfl rfl (RP.v1 14 rfl (Vl.indexOwn 0 hS rfl underlying39 sizeOf48 rfl rfl hq901 hq902) rfl rfl (RP.e0 15 rfl (OW.storeOwn (E := E_api_Message) (off := 0) (j := x866) (x' := nth l865 (IntKind.i64.wrap (x866 - 1))) (vs := (C_api_Message (nth l865 (IntKind.i64.wrap (x866 - 1))))) 0 hS rfl rfl rfl rfl sizeOf48 rfl (Nat.succ_pos _) hq901 hq902 (Nat.le_of_ble_eq_true rfl) rfl rfl) rfl ?_))))))))))))
     rintro _ w ⟨rfl, hS⟩
     have he911 := (hS.osN 0 rfl).1
     have hS : St B w (_ :: l) hf := (congrArg (fun k_ : Nat => St B w (OSf E_api_Message 48 (.slice A1 k_ c2) (setL l865 x866 (nth l865 (IntKind.i64.wrap (x866 - 1)))) :: l) hf) he911).mp hS
     refine ⟨kp ⟨(by intro hx; cases hx), trivial⟩, ?_⟩
     refine RP.re 0 rfl (congrArg (fun k_ : Nat => (.slice A1 k_ c2 : Value)) he911) (RP.re 23 rfl (congrArg (fun k_ : Nat => (.slice A1 k_ c2 : Value)) he911) (RP.re 27 rfl (congrArg (fun k_ : Nat => (.slice A1 k_ c2 : Value)) he911) (RP.re 37 rfl (congrArg (fun k_ : Nat => (.slice A1 k_ c2 : Value)) he911) (RP.re 39 rfl (congrArg (fun k_ : Nat => (.slice A1 k_ c2 : Value)) he911) (RP.re 42 rfl (congrArg (fun k_ : Nat => (.slice A1 k_ c2 : Value)) he911) (RP.re 47 rfl (congrArg (fun k_ : Nat => (.slice A1 k_ c2 : Value)) he911) ?_))))))
     obtain ⟨hq912, h⟩ := h.req
     refine RP.v1 16 rfl (Vl.indexOwn 0 hS rfl underlying39 sizeOf48 rfl rfl hq903 hq912) rfl rfl (RP.e0 17 rfl (OW.storeOwn (E := E_api_Message) (off := 0) (j := IntKind.i64.wrap (x866 - 1)) (x' := nth l865 x866) (vs := (C_api_Message (nth l865 x866))) 0 hS rfl rfl rfl rfl sizeOf48 rfl (Nat.succ_pos _) hq903 hq912 (Nat.le_of_ble_eq_true rfl) rfl rfl) rfl ?_)
     rintro _ w ⟨rfl, hS⟩
     have he913 := (hS.osN 0 rfl).1
     have hS : St B w (_ :: l) hf := (congrArg (fun k_ : Nat => St B w (OSf E_api_Message 48 (.slice A1 k_ c2) (setL (setL l865 x866 (nth l865 (IntKind.i64.wrap (x866 - 1)))) (IntKind.i64.wrap (x866 - 1)) (nth l865 x866)) :: l) hf) he913).mp hS
     refine ⟨kp ⟨(by intro hx; cases hx), trivial⟩, ?_⟩
     refine RP.re 0 rfl (congrArg (fun k_ : Nat => (.slice A1 k_ c2 : Value)) he913) (RP.re 23 rfl (congrArg (fun k_ : Nat => (.slice A1 k_ c2 : Value)) he913) (RP.re 27 rfl (congrArg (fun k_ : Nat => (.slice A1 k_ c2 : Value)) he913) (RP.re 37 rfl (congrArg (fun k_ : Nat => (.slice A1 k_ c2 : Value)) he913) (RP.re 39 rfl (congrArg (fun k_ : Nat => (.slice A1 k_ c2 : Value)) he913) (RP.re 42 rfl (congrArg (fun k_ : Nat => (.slice A1 k_ c2 : Value)) he913) (RP.re 47 rfl (congrArg (fun k_ : Nat => (.slice A1 k_ c2 : Value)) he913) (RP.nil (RQ.inB_n (RQ.then_n (RC.region (pn 3 rfl (RL.nil ?_))))))))))))
     exact fun a ha => ⟨((setL (setL l865 x866 (nth l865 (IntKind.i64.wrap (x866 - 1)))) (IntKind.i64.wrap (x866 - 1)) (nth l865 x866)), IntKind.i64.wrap (x866 - 1)), ⟨(setL (setL l865 x866 (nth l865 (IntKind.i64.wrap (x866 - 1)))) (IntKind.i64.wrap (x866 - 1)) (nth l865 x866)), (IntKind.i64.wrap (x866 - 1)), rfl, ha.to ⟨rfl, rfl, rfl, rfl, rfl, rfl, trivial⟩, hS⟩, h.some⟩
    refine RC.condF rfl (RC.exit (RQ.exitT ?_))
    have h := h.inrS
    refine RQ.exitT (RQ.inB_hit (RQ.inB_n (RQ.then_n (RC.region (pn 3 rfl (RL.nil ?_))))))
    exact fun a ha => ⟨(l865, IntKind.i64.wrap (x612 + 1)), ⟨l865, (IntKind.i64.wrap (x612 + 1)), rfl, ha.to ⟨rfl, rfl, rfl, rfl, rfl, trivial⟩, hS⟩, h.some⟩
   refine pp 3 rfl (RP.nn 0 7 rfl rfl rfl (RP.nn 0 8 rfl rfl rfl (pp 1 rfl (RP.n1 10 rfl rfl rfl (RP.n1 11 rfl rfl rfl (RP.n1 12 rfl rfl rfl (RP.n1 13 rfl rfl rfl (RP.n1 14 rfl rfl rfl (RP.n1 15 rfl rfl rfl (RP.v1 16 rfl (Vl.pickF rfl rfl) rfl rfl (RP.nil (RQ.then_n (RC.condF rfl (RC.exit (RQ.exitT ?_)))))))))))))))
   have h := h.inrS
   refine RQ.exitT (RQ.inB_hit (RQ.inB_n (RQ.then_n (RC.region (pn 3 rfl (RL.nil ?_))))))
   exact fun a ha => ⟨(l865, IntKind.i64.wrap (x612 + 1)), ⟨l865, (IntKind.i64.wrap (x612 + 1)), rfl, ha.to ⟨rfl, rfl, rfl, rfl, rfl, trivial⟩, hS⟩, h.some⟩
  refine RC.condF rfl (RC.exit (RQ.exitT ?_))
  have h := h.inr
  refine RQ.exitT (RQ.inB_hit ?_)
  obtain ⟨hq914, h⟩ := h.req
  have hS : St B w (_ :: l) hf := (congrArg (fun k_ : Nat => St B w (OSf E_api_Message 48 (.slice A1 k_ c2) l611 :: l) hf) hq914).mp hS
  obtain rfl := h.some
  exact rtE results130 rfl ⟨rfl, hS⟩
def slices_swapRangeCmpFunc_api_Message.l2b (a3 : List api_Message) (a4 a5 a6 : Int) : List api_Message × Int → Option ((List api_Message × Int) ⊕ (List api_Message))
  | (l80, x81) => (if x81 < a6 then (if 0 ≤ IntKind.i64.wrap (a5 + x81) ∧ IntKind.i64.wrap (a5 + x81) < (l80.length : Int) then (if 0 ≤ IntKind.i64.wrap (a4 + x81) ∧ IntKind.i64.wrap (a4 + x81) < (l80.length : Int) then (if IntKind.i64.wrap (a5 + x81) < ((setL l80 (IntKind.i64.wrap (a4 + x81)) (nth l80 (IntKind.i64.wrap (a5 + x81)))).length : Int) then some (.inl ((setL (setL l80 (IntKind.i64.wrap (a4 + x81)) (nth l80 (IntKind.i64.wrap (a5 + x81)))) (IntKind.i64.wrap (a5 + x81)) (nth l80 (IntKind.i64.wrap (a4 + x81)))), IntKind.i64.wrap (x81 + 1))) else none) else none) else none) else (Option.map Sum.inr (if l80.length = a3.length then some l80 else none)))
def slices_swapRangeCmpFunc_api_Message.l2 (a3 : List api_Message) (a4 a5 a6 : Int) (s : List api_Message × Int) : Option (List api_Message) := loopR (slices_swapRangeCmpFunc_api_Message.l2b a3 a4 a5 a6) s
def slices_swapRangeCmpFunc_api_Message.f (a3 : List api_Message) (a4 a5 a6 : Int) : Option (List api_Message) := slices_swapRangeCmpFunc_api_Message.l2 a3 a4 a5 a6 (a3, 0)
theorem slices_swapRangeCmpFunc_api_Message.ok {a3 : List api_Message} {a4 a5 a6 : Int} {A1 : Option Addr} {c2 : Nat} {r : List api_Message} (h : slices_swapRangeCmpFunc_api_Message.f a3 a4 a5 a6 = some r) (hS : St B w (OSf E_api_Message 48 (.slice A1 a3.length c2) a3 :: l) hf) :
    Calls prog 156 #[.slice A1 a3.length c2, .int .i64 a4, .int .i64 a5, .int .i64 a6, .func (.func 76) #[] #[]] w (Ret fun v w => v = .tuple #[] ∧ St B w (OSf E_api_Message 48 (.slice A1 a3.length c2) r :: l) hf) := by
  have h := Holds.of h
  refine en func156 rfl ntmps156 rfl (sr (pn 1 rfl (ln (RC.block ?_))))
  refine fun a ha => RC.loop (N := 38) (body := (slices_swapRangeCmpFunc_api_Message.l2b a3 a4 a5 a6)) (φ := (· = r)) (fun (s : List api_Message × Int) a w => ∃ (l80 : List api_Message) (x81 : Int), s = (l80, x81) ∧ Has 38 [(0, .slice A1 l80.length c2), (1, .int .i64 a4), (2, .int .i64 a5), (3, .int .i64 a6), (10, .int .i64 x81)] a ∧ St B w (OSf E_api_Message 48 (.slice A1 l80.length c2) l80 :: l) hf) ?_ (s0 := (a3, 0)) h ⟨a3, 0, rfl, ha.to ⟨rfl, rfl, rfl, rfl, rfl, trivial⟩, hS⟩
  rintro G100 _ a w ⟨l80, x81, rfl, ha, hS⟩ h
  revert a
  show RC _ _ _ _ _ _
  refine RC.seq (sr (pn 3 rfl (ln ?_)))
  refine RC.iteP 13 rfl h (fun hc102 h => ?_) fun hc102 h => ?_
  next =>
   refine RC.condT rfl (sk (RC.seq (RC.block (RC.planS (plD [0, 3, 6, 9, 12, 15, 18, 21, 24, 27, 30, 33, 37, 40, 42, 45, 50, 53, 56, 59, 62, 65, 68, 71]) [20, 21, 22, 23] hS (fun w hS => hS) follows rfl (by kernel_rfl) (NoTmp.block (NoTmp.then (NoTmp.then (NoTmp.block NoTmp.body)))) fun w hS => pp 12 rfl ?_))))
   obtain ⟨⟨hq110, hq111⟩, h⟩ := h.req
   refine RP.s 0 12 rfl rfl hS (fun w hS => Vl.indexOwn 0 hS rfl underlying39 sizeOf48 rfl rfl hq110 hq111) rfl (RP.s 0 13 rfl rfl hS (fun w hS => Vl.loadA isAgg48 sizeOf48 rfl rfl ((hS.slW 0 rfl).2.2.cells hq110 hq111)) rfl (pp 2 rfl (RP.v1 16 rfl (Vl.move rfl) rfl rfl (RP.v1 17 rfl (Vl.int rfl rfl rfl) rfl rfl ?_))))
   obtain ⟨⟨hq112, hq113⟩, h⟩ := h.req
   refine RP.v1 18 rfl (Vl.indexOwn 0 hS rfl underlying39 sizeOf48 rfl rfl hq112 hq113) rfl rfl (RP.v1 19 rfl (Vl.loadA isAgg48 sizeOf48 rfl rfl ((hS.slW 0 rfl).2.2.cells hq112 hq113)) rfl rfl (RP.v1 20 rfl (Vl.indexOwn 0 hS rfl underlying39 sizeOf48 rfl rfl hq112 hq113) rfl rfl (RP.e0 21 rfl (OW.storeOwn (E := E_api_Message) (off := 0) (j := IntKind.i64.wrap (a4 + x81)) (x' := nth l80 (IntKind.i64.wrap (a5 + x81))) (vs := (C_api_Message (nth l80 (IntKind.i64.wrap (a5 + x81))))) 0 hS rfl rfl rfl rfl sizeOf48 rfl (Nat.succ_pos _) hq112 hq113 (Nat.le_of_ble_eq_true rfl) rfl rfl) rfl ?_)))
   rintro _ w ⟨rfl, hS⟩
   have he114 := (hS.osN 0 rfl).1
   have hS : St B w (_ :: l) hf := (congrArg (fun k_ : Nat => St B w (OSf E_api_Message 48 (.slice A1 k_ c2) (setL l80 (IntKind.i64.wrap (a4 + x81)) (nth l80 (IntKind.i64.wrap (a5 + x81)))) :: l) hf) he114).mp hS
   refine ⟨kp ⟨(by intro hx; cases hx), trivial⟩, ?_⟩
   refine RP.re 0 rfl (congrArg (fun k_ : Nat => (.slice A1 k_ c2 : Value)) he114) (RP.re 16 rfl (congrArg (fun k_ : Nat => (.slice A1 k_ c2 : Value)) he114) (RP.re 20 rfl (congrArg (fun k_ : Nat => (.slice A1 k_ c2 : Value)) he114) (RP.re 24 rfl (congrArg (fun k_ : Nat => (.slice A1 k_ c2 : Value)) he114) (RP.re 30 rfl (congrArg (fun k_ : Nat => (.slice A1 k_ c2 : Value)) he114) ?_))))
   obtain ⟨hq115, h⟩ := h.req
   refine RP.v1 22 rfl (Vl.indexOwn 0 hS rfl underlying39 sizeOf48 rfl rfl hq110 hq115) rfl rfl (RP.e0 23 rfl (OW.storeOwn (E := E_api_Message) (off := 0) (j := IntKind.i64.wrap (a5 + x81)) (x' := nth l80 (IntKind.i64.wrap (a4 + x81))) (vs := (C_api_Message (nth l80 (IntKind.i64.wrap (a4 + x81))))) 0 hS rfl rfl rfl rfl sizeOf48 rfl (Nat.succ_pos _) hq110 hq115 (Nat.le_of_ble_eq_true rfl) rfl rfl) rfl ?_)
   rintro _ w ⟨rfl, hS⟩
   have he116 := (hS.osN 0 rfl).1
   have hS : St B w (_ :: l) hf := (congrArg (fun k_ : Nat => St B w (OSf E_api_Message 48 (.slice A1 k_ c2) (setL (setL l80 (IntKind.i64.wrap (a4 + x81)) (nth l80 (IntKind.i64.wrap (a5 + x81)))) (IntKind.i64.wrap (a5 + x81)) (nth l80 (IntKind.i64.wrap (a4 + x81)))) :: l) hf) he116).mp hS
   refine ⟨kp ⟨(by intro hx; cases hx), trivial⟩, ?_⟩
   refine RP.re 0 rfl (congrArg (fun k_ : Nat => (.slice A1 k_ c2 : Value)) he116) (RP.re 16 rfl (congrArg (fun k_ : Nat => (.slice A1 k_ c2 : Value)) he116) (RP.re 20 rfl (congrArg (fun k_ : Nat => (.slice A1 k_ c2 : Value)) he116) (RP.re 24 rfl (congrArg (fun k_ : Nat => (.slice A1 k_ c2 : Value)) he116) (RP.re 30 rfl (congrArg (fun k_ : Nat => (.slice A1 k_ c2 : Value)) he116) (RP.nil (RQ.inB_n (RQ.then_n (RC.region (pn 3 rfl (RL.nil ?_))))))))))
   exact fun a ha => ⟨((setL (setL l80 (IntKind.i64.wrap (a4 + x81)) (nth l80 (IntKind.i64.wrap (a5 + x81)))) (IntKind.i64.wrap (a5 + x81)) (nth l80 (IntKind.i64.wrap (a4 + x81)))), IntKind.i64.wrap (x81 + 1)), ⟨(setL (setL l80 (IntKind.i64.wrap (a4 + x81)) (nth l80 (IntKind.i64.wrap (a5 + x81)))) (IntKind.i64.wrap (a5 + x81)) (nth l80 (IntKind.i64.wrap (a4 + x81)))), (IntKind.i64.wrap (x81 + 1)), rfl, ha.to ⟨rfl, rfl, rfl, rfl, rfl, trivial⟩, hS⟩, h.some⟩
  refine RC.condF rfl (RC.exit (RQ.exitT ?_))
  have h := h.inr
  refine RQ.exitT (RQ.inB_hit ?_)
  obtain ⟨hq117, h⟩ := h.req
  have hS : St B w (_ :: l) hf := (congrArg (fun k_ : Nat => St B w (OSf E_api_Message 48 (.slice A1 k_ c2) l80 :: l) hf) hq117).mp hS
  obtain rfl := h.some
  exact rtE results156 rfl ⟨rfl, hS⟩
def slices_rotateCmpFunc_api_Message.l4b (a3 : List api_Message) (a5 : Int) : List api_Message × Int × Int → Option ((List api_Message × Int × Int) ⊕ (List api_Message))
  | (l133, x134, x135) => (if x134 = x135 then (Option.map Sum.inr ((slices_swapRangeCmpFunc_api_Message.f l133 (IntKind.i64.wrap (a5 - x134)) a5 x134).bind fun t151 => (if t151.length = a3.length then some t151 else none))) else (if x135 < x134 then ((slices_swapRangeCmpFunc_api_Message.f l133 (IntKind.i64.wrap (a5 - x134)) a5 x135).bind fun t156 => some (.inl (t156, IntKind.i64.wrap (x134 - x135), x135))) else ((slices_swapRangeCmpFunc_api_Message.f l133 (IntKind.i64.wrap (a5 - x134)) (IntKind.i64.wrap ((IntKind.i64.wrap (a5 + x135)) - x134)) x134).bind fun t159 => some (.inl (t159, x134, IntKind.i64.wrap (x135 - x134))))))
def slices_rotateCmpFunc_api_Message.l4 (a3 : List api_Message) (a5 : Int) (s : List api_Message × Int × Int) : Option (List api_Message) := loopR (slices_rotateCmpFunc_api_Message.l4b a3 a5) s
def slices_rotateCmpFunc_api_Message.f (a3 : List api_Message) (a4 a5 a6 : Int) : Option (List api_Message) := slices_rotateCmpFunc_api_Message.l4 a3 a5 (a3, IntKind.i64.wrap (a5 - a4), IntKind.i64.wrap (a6 - a5))
theorem slices_rotateCmpFunc_api_Message.ok {a3 : List api_Message} {a4 a5 a6 : Int} {A1 : Option Addr} {c2 : Nat} {r : List api_Message} (h : slices_rotateCmpFunc_api_Message.f a3 a4 a5 a6 = some r) (hS : St B w (OSf E_api_Message 48 (.slice A1 a3.length c2) a3 :: l) hf) :
    Calls prog 136 #[.slice A1 a3.length c2, .int .i64 a4, .int .i64 a5, .int .i64 a6, .func (.func 76) #[] #[]] w (Ret fun v w => v = .tuple #[] ∧ St B w (OSf E_api_Message 48 (.slice A1 a3.length c2) r :: l) hf) := by
  have h := Holds.of h
  refine en func136 rfl ntmps136 rfl (sr (pn 4 rfl (lnsr (pn 4 rfl (ln (RC.seq (RC.block ?_)))))))
  refine fun a ha => RC.loop (N := 58) (body := (slices_rotateCmpFunc_api_Message.l4b a3 a5)) (φ := (· = r)) (fun (s : List api_Message × Int × Int) a w => ∃ (l133 : List api_Message) (x134 : Int) (x135 : Int), s = (l133, x134, x135) ∧ Has 58 [(0, .slice A1 l133.length c2), (2, .int .i64 a5), (4, .func (.func 76) #[] #[]), (10, .int .i64 x134), (11, .int .i64 x135)] a ∧ St B w (OSf E_api_Message 48 (.slice A1 l133.length c2) l133 :: l) hf) ?_ (s0 := (a3, IntKind.i64.wrap (a5 - a4), IntKind.i64.wrap (a6 - a5))) h ⟨a3, (IntKind.i64.wrap (a5 - a4)), (IntKind.i64.wrap (a6 - a5)), rfl, ha.to ⟨rfl, rfl, rfl, rfl, rfl, trivial⟩, hS⟩
  rintro G148 _ a w ⟨l133, x134, x135, rfl, ha, hS⟩ h
  revert a
  show RC _ _ _ _ _ _
  refine RC.seq (sr (pn 3 rfl (ln ?_)))
  refine RC.iteN 20 rfl h (fun hc150 h => ?_) fun hc150 h => ?_
  next =>
   refine RC.condF rfl (RC.exit (RQ.exitT ?_))
   have h := h.inr
   refine RQ.exitT (RQ.inB_hit (RQ.then_n (RC.region (pn 7 rfl ?_))))
   obtain ⟨t151, hg152, h⟩ := h.bind
   have hc := slices_swapRangeCmpFunc_api_Message.ok hg152 hS
   refine RL.e (OW.callF (ls := [.tmp 50, .tmp 53, .tmp 54, .tmp 55, .tmp 56]) rfl call156 hc) rfl rfl ?_
   rintro _ w ⟨rfl, hS⟩
   have he153 := (hS.osN 0 rfl).1
   have hS : St B w (_ :: l) hf := (congrArg (fun k_ : Nat => St B w (OSf E_api_Message 48 (.slice A1 k_ c2) t151 :: l) hf) he153).mp hS
   refine RL.re 0 rfl (congrArg (fun k_ : Nat => (.slice A1 k_ c2 : Value)) he153) (RL.re 50 rfl (congrArg (fun k_ : Nat => (.slice A1 k_ c2 : Value)) he153) (RL.nil ?_))
   obtain ⟨hq154, h⟩ := h.req
   have hS : St B w (_ :: l) hf := (congrArg (fun k_ : Nat => St B w (OSf E_api_Message 48 (.slice A1 k_ c2) t151 :: l) hf) hq154).mp hS
   obtain rfl := h.some
   exact rtE results136 rfl ⟨rfl, hS⟩
  refine RC.condT rfl (sk (RC.block (sr (pn 3 rfl (ln ?_)))))
  refine RC.iteP 23 rfl h (fun hc155 h => ?_) fun hc155 h => ?_
  next =>
   refine RC.condT rfl (sr (pn 7 rfl ?_))
   obtain ⟨t156, hg157, h⟩ := h.bind
   have hc := slices_swapRangeCmpFunc_api_Message.ok hg157 hS
   refine RL.e (OW.callF (ls := [.tmp 24, .tmp 27, .tmp 28, .tmp 29, .tmp 30]) rfl call156 hc) rfl rfl ?_
   rintro _ w ⟨rfl, hS⟩
   have he158 := (hS.osN 0 rfl).1
   have hS : St B w (_ :: l) hf := (congrArg (fun k_ : Nat => St B w (OSf E_api_Message 48 (.slice A1 k_ c2) t156 :: l) hf) he158).mp hS
   refine RL.re 0 rfl (congrArg (fun k_ : Nat => (.slice A1 k_ c2 : Value)) he158) (RL.re 24 rfl (congrArg (fun k_ : Nat => (.slice A1 k_ c2 : Value)) he158) (ln (RC.region (pn 4 rfl (RL.nil (RQ.inB_n ?_))))))
   exact fun a ha => ⟨(t156, IntKind.i64.wrap (x134 - x135), x135), ⟨t156, (IntKind.i64.wrap (x134 - x135)), x135, rfl, ha.to ⟨rfl, rfl, rfl, rfl, rfl, trivial⟩, hS⟩, h.some⟩
  refine RC.condF rfl (sr (pn 11 rfl ?_))
  obtain ⟨t159, hg160, h⟩ := h.bind
  have hc := slices_swapRangeCmpFunc_api_Message.ok hg160 hS
  refine RL.e (OW.callF (ls := [.tmp 35, .tmp 38, .tmp 43, .tmp 44, .tmp 45]) rfl call156 hc) rfl rfl ?_
  rintro _ w ⟨rfl, hS⟩
  have he161 := (hS.osN 0 rfl).1
  have hS : St B w (_ :: l) hf := (congrArg (fun k_ : Nat => St B w (OSf E_api_Message 48 (.slice A1 k_ c2) t159 :: l) hf) he161).mp hS
  refine RL.re 0 rfl (congrArg (fun k_ : Nat => (.slice A1 k_ c2 : Value)) he161) (RL.re 35 rfl (congrArg (fun k_ : Nat => (.slice A1 k_ c2 : Value)) he161) (ln (RC.region (pn 4 rfl (RL.nil (RQ.inB_n ?_))))))
  exact fun a ha => ⟨(t159, x134, IntKind.i64.wrap (x135 - x134)), ⟨t159, x134, (IntKind.i64.wrap (x135 - x134)), rfl, ha.to ⟨rfl, rfl, rfl, rfl, rfl, trivial⟩, hS⟩, h.some⟩
def slices_symMergeCmpFunc_api_Message.l23b (a3 : List api_Message) (x772 : Int) : List api_Message × Int → Option ((List api_Message × Int) ⊕ (List api_Message))
  | (l813, x814) => (if x814 < IntKind.i64.wrap (x772 - 1) then (if 0 ≤ IntKind.i64.wrap (x814 + 1) ∧ IntKind.i64.wrap (x814 + 1) < (l813.length : Int) then (if 0 ≤ x814 ∧ x814 < (l813.length : Int) then (if IntKind.i64.wrap (x814 + 1) < ((setL l813 x814 (nth l813 (IntKind.i64.wrap (x814 + 1)))).length : Int) then some (.inl ((setL (setL l813 x814 (nth l813 (IntKind.i64.wrap (x814 + 1)))) (IntKind.i64.wrap (x814 + 1)) (nth l813 x814)), IntKind.i64.wrap (x814 + 1))) else none) else none) else none) else (Option.map Sum.inr (if l813.length = a3.length then some l813 else none)))
def slices_symMergeCmpFunc_api_Message.l23 (a3 : List api_Message) (x772 : Int) (s : List api_Message × Int) : Option (List api_Message) := loopR (slices_symMergeCmpFunc_api_Message.l23b a3 x772) s
def slices_symMergeCmpFunc_api_Message.l22b (a3 : List api_Message) (a4 : Int) : Int × Int → Option ((Int × Int) ⊕ (List api_Message))
  | (x772, x773) => (if x772 < x773 then (if 0 ≤ IntKind.i64.wrap (Int.fdiv (IntKind.u64.wrap (IntKind.i64.wrap (x772 + x773))) (2 ^ (min (1 : Int).toNat IntKind.u64.bits))) ∧ IntKind.i64.wrap (Int.fdiv (IntKind.u64.wrap (IntKind.i64.wrap (x772 + x773))) (2 ^ (min (1 : Int).toNat IntKind.u64.bits))) < (a3.length : Int) then (if 0 ≤ a4 ∧ a4 < (a3.length : Int) then ((event_order.f (nth a3 (IntKind.i64.wrap (Int.fdiv (IntKind.u64.wrap (IntKind.i64.wrap (x772 + x773))) (2 ^ (min (1 : Int).toNat IntKind.u64.bits))))) (nth a3 a4)).bind fun t792 => (if t792 < 0 then some (.inl (IntKind.i64.wrap ((IntKind.i64.wrap (Int.fdiv (IntKind.u64.wrap (IntKind.i64.wrap (x772 + x773))) (2 ^ (min (1 : Int).toNat IntKind.u64.bits)))) + 1), x773)) else some (.inl (x772, IntKind.i64.wrap (Int.fdiv (IntKind.u64.wrap (IntKind.i64.wrap (x772 + x773))) (2 ^ (min (1 : Int).toNat IntKind.u64.bits))))))) else none) else none) else (Option.map Sum.inr (slices_symMergeCmpFunc_api_Message.l23 a3 x772 (a3, a4))))
def slices_symMergeCmpFunc_api_Message.l22 (a3 : List api_Message) (a4 : Int) (s : Int × Int) : Option (List api_Message) := loopR (slices_symMergeCmpFunc_api_Message.l22b a3 a4) s
def slices_symMergeCmpFunc_api_Message.l29b (a3 : List api_Message) (x1021 : Int) : List api_Message × Int → Option ((List api_Message × Int) ⊕ (List api_Message))
  | (l1062, x1063) => (if x1021 < x1063 then (if 0 ≤ IntKind.i64.wrap (x1063 - 1) ∧ IntKind.i64.wrap (x1063 - 1) < (l1062.length : Int) then (if 0 ≤ x1063 ∧ x1063 < (l1062.length : Int) then (if IntKind.i64.wrap (x1063 - 1) < ((setL l1062 x1063 (nth l1062 (IntKind.i64.wrap (x1063 - 1)))).length : Int) then some (.inl ((setL (setL l1062 x1063 (nth l1062 (IntKind.i64.wrap (x1063 - 1)))) (IntKind.i64.wrap (x1063 - 1)) (nth l1062 x1063)), IntKind.i64.wrap (x1063 - 1))) else none) else none) else none) else (Option.map Sum.inr (if l1062.length = a3.length then some l1062 else none)))
def slices_symMergeCmpFunc_api_Message.l29 (a3 : List api_Message) (x1021 : Int) (s : List api_Message × Int) : Option (List api_Message) := loopR (slices_symMergeCmpFunc_api_Message.l29b a3 x1021) s
def slices_symMergeCmpFunc_api_Message.l28b (a3 : List api_Message) (a5 : Int) : Int × Int → Option ((Int × Int) ⊕ (List api_Message))
  | (x1021, x1022) => (if x1021 < x1022 then (if 0 ≤ a5 ∧ a5 < (a3.length : Int) then (if 0 ≤ IntKind.i64.wrap (Int.fdiv (IntKind.u64.wrap (IntKind.i64.wrap (x1021 + x1022))) (2 ^ (min (1 : Int).toNat IntKind.u64.bits))) ∧ IntKind.i64.wrap (Int.fdiv (IntKind.u64.wrap (IntKind.i64.wrap (x1021 + x1022))) (2 ^ (min (1 : Int).toNat IntKind.u64.bits))) < (a3.length : Int) then ((event_order.f (nth a3 a5) (nth a3 (IntKind.i64.wrap (Int.fdiv (IntKind.u64.wrap (IntKind.i64.wrap (x1021 + x1022))) (2 ^ (min (1 : Int).toNat IntKind.u64.bits)))))).bind fun t1041 => (if t1041 < 0 then some (.inl (x1021, IntKind.i64.wrap (Int.fdiv (IntKind.u64.wrap (IntKind.i64.wrap (x1021 + x1022))) (2 ^ (min (1 : Int).toNat IntKind.u64.bits))))) else some (.inl (IntKind.i64.wrap ((IntKind.i64.wrap (Int.fdiv (IntKind.u64.wrap (IntKind.i64.wrap (x1021 + x1022))) (2 ^ (min (1 : Int).toNat IntKind.u64.bits)))) + 1), x1022)))) else none) else none) else (Option.map Sum.inr (slices_symMergeCmpFunc_api_Message.l29 a3 x1021 (a3, a5))))
def slices_symMergeCmpFunc_api_Message.l28 (a3 : List api_Message) (a5 : Int) (s : Int × Int) : Option (List api_Message) := loopR (slices_symMergeCmpFunc_api_Message.l28b a3 a5) s
def slices_symMergeCmpFunc_api_Message.j34 (rec_ : (List api_Message) → Int → Int → Int → Option (List api_Message)) (a3 : List api_Message) (a4 a5 a6 x1148 : Int) (l1182 : List api_Message) : Option (List api_Message) := (if IntKind.i64.wrap (Int.fdiv (IntKind.u64.wrap (IntKind.i64.wrap (a4 + a6))) (2 ^ (min (1 : Int).toNat IntKind.u64.bits))) < IntKind.i64.wrap ((IntKind.i64.wrap ((IntKind.i64.wrap (Int.fdiv (IntKind.u64.wrap (IntKind.i64.wrap (a4 + a6))) (2 ^ (min (1 : Int).toNat IntKind.u64.bits)))) + a5)) - x1148) then (if IntKind.i64.wrap ((IntKind.i64.wrap ((IntKind.i64.wrap (Int.fdiv (IntKind.u64.wrap (IntKind.i64.wrap (a4 + a6))) (2 ^ (min (1 : Int).toNat IntKind.u64.bits)))) + a5)) - x1148) < a6 then ((rec_ l1182 (IntKind.i64.wrap (Int.fdiv (IntKind.u64.wrap (IntKind.i64.wrap (a4 + a6))) (2 ^ (min (1 : Int).toNat IntKind.u64.bits)))) (IntKind.i64.wrap ((IntKind.i64.wrap ((IntKind.i64.wrap (Int.fdiv (IntKind.u64.wrap (IntKind.i64.wrap (a4 + a6))) (2 ^ (min (1 : Int).toNat IntKind.u64.bits)))) + a5)) - x1148)) a6).bind fun t1185 => (if t1185.length = a3.length then some t1185 else none)) else (if l1182.length = a3.length then some l1182 else none)) else (if l1182.length = a3.length then some l1182 else none))
def slices_symMergeCmpFunc_api_Message.j33 (rec_ : (List api_Message) → Int → Int → Int → Option (List api_Message)) (a3 : List api_Message) (a4 a5 a6 x1148 : Int) (l1176 : List api_Message) : Option (List api_Message) := (if a4 < x1148 then (if x1148 < IntKind.i64.wrap (Int.fdiv (IntKind.u64.wrap (IntKind.i64.wrap (a4 + a6))) (2 ^ (min (1 : Int).toNat IntKind.u64.bits))) then ((rec_ l1176 a4 x1148 (IntKind.i64.wrap (Int.fdiv (IntKind.u64.wrap (IntKind.i64.wrap (a4 + a6))) (2 ^ (min (1 : Int).toNat IntKind.u64.bits))))).bind fun t1193 => slices_symMergeCmpFunc_api_Message.j34 rec_ a3 a4 a5 a6 x1148 t1193) else slices_symMergeCmpFunc_api_Message.j34 rec_ a3 a4 a5 a6 x1148 l1176) else slices_symMergeCmpFunc_api_Message.j34 rec_ a3 a4 a5 a6 x1148 l1176)
def slices_symMergeCmpFunc_api_Message.l32b (rec_ : (List api_Message) → Int → Int → Int → Option (List api_Message)) (a3 : List api_Message) (a4 a5 a6 : Int) : Int × Int → Option ((Int × Int) ⊕ (List api_Message))
  | (x1148, x1149) => (if x1148 < x1149 then (if 0 ≤ IntKind.i64.wrap ((IntKind.i64.wrap ((IntKind.i64.wrap ((IntKind.i64.wrap (Int.fdiv (IntKind.u64.wrap (IntKind.i64.wrap (a4 + a6))) (2 ^ (min (1 : Int).toNat IntKind.u64.bits)))) + a5)) - 1)) - (IntKind.i64.wrap (Int.fdiv (IntKind.u64.wrap (IntKind.i64.wrap (x1148 + x1149))) (2 ^ (min (1 : Int).toNat IntKind.u64.bits))))) ∧ IntKind.i64.wrap ((IntKind.i64.wrap ((IntKind.i64.wrap ((IntKind.i64.wrap (Int.fdiv (IntKind.u64.wrap (IntKind.i64.wrap (a4 + a6))) (2 ^ (min (1 : Int).toNat IntKind.u64.bits)))) + a5)) - 1)) - (IntKind.i64.wrap (Int.fdiv (IntKind.u64.wrap (IntKind.i64.wrap (x1148 + x1149))) (2 ^ (min (1 : Int).toNat IntKind.u64.bits))))) < (a3.length : Int) then (if 0 ≤ IntKind.i64.wrap (Int.fdiv (IntKind.u64.wrap (IntKind.i64.wrap (x1148 + x1149))) (2 ^ (min (1 : Int).toNat IntKind.u64.bits))) ∧ IntKind.i64.wrap (Int.fdiv (IntKind.u64.wrap (IntKind.i64.wrap (x1148 + x1149))) (2 ^ (min (1 : Int).toNat IntKind.u64.bits))) < (a3.length : Int) then ((event_order.f (nth a3 (IntKind.i64.wrap ((IntKind.i64.wrap ((IntKind.i64.wrap ((IntKind.i64.wrap (Int.fdiv (IntKind.u64.wrap (IntKind.i64.wrap (a4 + a6))) (2 ^ (min (1 : Int).toNat IntKind.u64.bits)))) + a5)) - 1)) - (IntKind.i64.wrap (Int.fdiv (IntKind.u64.wrap (IntKind.i64.wrap (x1148 + x1149))) (2 ^ (min (1 : Int).toNat IntKind.u64.bits))))))) (nth a3 (IntKind.i64.wrap (Int.fdiv (IntKind.u64.wrap (IntKind.i64.wrap (x1148 + x1149))) (2 ^ (min (1 : Int).toNat IntKind.u64.bits)))))).bind fun t1168 => (if t1168 < 0 then some (.inl (x1148, IntKind.i64.wrap (Int.fdiv (IntKind.u64.wrap (IntKind.i64.wrap (x1148 + x1149))) (2 ^ (min (1 : Int).toNat IntKind.u64.bits))))) else some (.inl (IntKind.i64.wrap ((IntKind.i64.wrap (Int.fdiv (IntKind.u64.wrap (IntKind.i64.wrap (x1148 + x1149))) (2 ^ (min (1 : Int).toNat IntKind.u64.bits)))) + 1), x1149)))) else none) else none) else (Option.map Sum.inr (if x1148 < a5 then (if a5 < IntKind.i64.wrap ((IntKind.i64.wrap ((IntKind.i64.wrap (Int.fdiv (IntKind.u64.wrap (IntKind.i64.wrap (a4 + a6))) (2 ^ (min (1 : Int).toNat IntKind.u64.bits)))) + a5)) - x1148) then ((slices_rotateCmpFunc_api_Message.f a3 x1148 a5 (IntKind.i64.wrap ((IntKind.i64.wrap ((IntKind.i64.wrap (Int.fdiv (IntKind.u64.wrap (IntKind.i64.wrap (a4 + a6))) (2 ^ (min (1 : Int).toNat IntKind.u64.bits)))) + a5)) - x1148))).bind fun t1198 => slices_symMergeCmpFunc_api_Message.j33 rec_ a3 a4 a5 a6 x1148 t1198) else slices_symMergeCmpFunc_api_Message.j33 rec_ a3 a4 a5 a6 x1148 a3) else slices_symMergeCmpFunc_api_Message.j33 rec_ a3 a4 a5 a6 x1148 a3)))
def slices_symMergeCmpFunc_api_Message.l32 (rec_ : (List api_Message) → Int → Int → Int → Option (List api_Message)) (a3 : List api_Message) (a4 a5 a6 : Int) (s : Int × Int) : Option (List api_Message) := loopR (slices_symMergeCmpFunc_api_Message.l32b rec_ a3 a4 a5 a6) s
def slices_symMergeCmpFunc_api_Message.j30 (rec_ : (List api_Message) → Int → Int → Int → Option (List api_Message)) (a3 : List api_Message) (a4 a5 a6 x1101 x1102 : Int) : Option (List api_Message) := slices_symMergeCmpFunc_api_Message.l32 rec_ a3 a4 a5 a6 (x1101, x1102)
def slices_symMergeCmpFunc_api_Message.f0 (rec_ : (List api_Message) → Int → Int → Int → Option (List api_Message)) (a3 : List api_Message) (a4 a5 a6 : Int) : Option (List api_Message) := (if IntKind.i64.wrap (a5 - a4) = 1 then slices_symMergeCmpFunc_api_Message.l22 a3 a4 (a5, a6) else (if IntKind.i64.wrap (a6 - a5) = 1 then slices_symMergeCmpFunc_api_Message.l28 a3 a5 (a4, a5) else (if IntKind.i64.wrap (Int.fdiv (IntKind.u64.wrap (IntKind.i64.wrap (a4 + a6))) (2 ^ (min (1 : Int).toNat IntKind.u64.bits))) < a5 then slices_symMergeCmpFunc_api_Message.j30 rec_ a3 a4 a5 a6 (IntKind.i64.wrap ((IntKind.i64.wrap ((IntKind.i64.wrap (Int.fdiv (IntKind.u64.wrap (IntKind.i64.wrap (a4 + a6))) (2 ^ (min (1 : Int).toNat IntKind.u64.bits)))) + a5)) - a6)) (IntKind.i64.wrap (Int.fdiv (IntKind.u64.wrap (IntKind.i64.wrap (a4 + a6))) (2 ^ (min (1 : Int).toNat IntKind.u64.bits)))) else slices_symMergeCmpFunc_api_Message.j30 rec_ a3 a4 a5 a6 a4 a5)))
theorem slices_symMergeCmpFunc_api_Message.ok0 {rec_ : (List api_Message) → Int → Int → Int → Option (List api_Message)} (ih_ : ∀ {a3 : List api_Message} {a4 a5 a6 : Int} {A1 : Option Addr} {c2 : Nat} {r : List api_Message} {B : Base} {w : World} {l : List HProp} {hf : Hp}, rec_ a3 a4 a5 a6 = some r → St B w (OSf E_api_Message 48 (.slice A1 a3.length c2) a3 :: l) hf → Calls prog 131 #[.slice A1 a3.length c2, .int .i64 a4, .int .i64 a5, .int .i64 a6, .func (.func 76) #[] #[]] w (Ret fun v w => v = .tuple #[] ∧ St B w (OSf E_api_Message 48 (.slice A1 a3.length c2) r :: l) hf)) {a3 : List api_Message} {a4 a5 a6 : Int} {A1 : Option Addr} {c2 : Nat} {r : List api_Message} (h : slices_symMergeCmpFunc_api_Message.f0 rec_ a3 a4 a5 a6 = some r) (hS : St B w (OSf E_api_Message 48 (.slice A1 a3.length c2) a3 :: l) hf) :
    Calls prog 131 #[.slice A1 a3.length c2, .int .i64 a4, .int .i64 a5, .int .i64 a6, .func (.func 76) #[] #[]] w (Ret fun v w => v = .tuple #[] ∧ St B w (OSf E_api_Message 48 (.slice A1 a3.length c2) r :: l) hf) := by
  have h := Holds.of h
  refine en func131 rfl ntmps131 rfl (RC.seq (sr (pn 4 rfl (ln ?_))))
  refine RC.iteP 28 rfl h (fun hc726 h => ?_) fun hc726 h => ?_
  next =>
   refine RC.condT rfl (sr (pn 2 rfl (lnsr (pn 2 rfl (ln (RC.seq (RC.block ?_)))))))
   refine fun a ha => RC.loop (N := 220) (body := (slices_symMergeCmpFunc_api_Message.l22b a3 a4)) (φ := (· = r)) (fun (s : Int × Int) a w => ∃ (x772 : Int) (x773 : Int), s = (x772, x773) ∧ Has 220 [(0, .slice A1 a3.length c2), (1, .int .i64 a4), (4, .func (.func 76) #[] #[]), (10, .int .i64 x772), (11, .int .i64 x773)] a ∧ St B w (OSf E_api_Message 48 (.slice A1 a3.length c2) a3 :: l) hf) ?_ (s0 := (a5, a6)) h ⟨a5, a6, rfl, ha.to ⟨rfl, rfl, rfl, rfl, rfl, trivial⟩, hS⟩
   rintro G785 _ a w ⟨x772, x773, rfl, ha, hS⟩ h
   revert a
   show RC _ _ _ _ _ _
   refine RC.seq (sr (pn 3 rfl (ln ?_)))
   refine RC.iteP 33 rfl h (fun hc787 h => ?_) fun hc787 h => ?_
   next =>
    refine RC.condT rfl (sk (RC.block (sr (pn 3 rfl (RL.s (Vl.conv underlying3 underlying278 rfl) rfl (RL.s (Vl.shr rfl rfl (by decide)) rfl (RL.s (Vl.conv underlying278 underlying3 rfl) rfl (pn 1 rfl (ln (RC.seq (RC.planS (plD [0, 3, 6, 10, 13, 15, 20, 23, 26, 29, 32]) [9, 10] hS (fun w hS => hS) follows rfl (by kernel_rfl) (NoTmp.then (NoTmp.block (NoTmp.then (NoTmp.block (NoTmp.then (NoTmp.then NoTmp.body)))))) fun w hS => pp 3 rfl ?_)))))))))))
    obtain ⟨⟨hq788, hq789⟩, h⟩ := h.req
    refine RP.s 0 3 rfl rfl hS (fun w hS => Vl.indexOwn 0 hS rfl underlying39 sizeOf48 rfl rfl hq788 hq789) rfl (RP.s 0 4 rfl rfl hS (fun w hS => Vl.loadA isAgg48 sizeOf48 rfl rfl ((hS.slW 0 rfl).2.2.cells hq788 hq789)) rfl (pp 1 rfl (RP.v1 6 rfl (Vl.move rfl) rfl rfl ?_)))
    obtain ⟨⟨hq790, hq791⟩, h⟩ := h.req
    refine RP.v1 7 rfl (Vl.indexOwn 0 hS rfl underlying39 sizeOf48 rfl rfl hq790 hq791) rfl rfl (RP.v1 8 rfl (Vl.loadA isAgg48 sizeOf48 rfl rfl ((hS.slW 0 rfl).2.2.cells hq790 hq791)) rfl rfl ?_)
    obtain ⟨t792, hg793, h⟩ := h.bind
    have hc := event_order.ok hg793 hS
    refine RP.e 9 rfl (OW.call (ls := [.tmp 44, .tmp 48]) rfl rfl call76 rfl hc) rfl rfl ?_
    rintro _ w ⟨rfl, hS⟩
    refine ⟨kp ⟨(by intro hx; cases hx), trivial⟩, ?_⟩
    refine RP.v1 10 rfl (Vl.int rfl rfl rfl) rfl rfl (RP.nil (RQ.then_n ?_))
    refine RC.iteP 50 rfl h (fun hc794 h => ?_) fun hc794 h => ?_
    next =>
     refine RC.condT rfl (RC.region (pn 3 rfl (RL.nil (RQ.inB_n ?_))))
     exact fun a ha => ⟨(IntKind.i64.wrap ((IntKind.i64.wrap (Int.fdiv (IntKind.u64.wrap (IntKind.i64.wrap (x772 + x773))) (2 ^ (min (1 : Int).toNat IntKind.u64.bits)))) + 1), x773), ⟨(IntKind.i64.wrap ((IntKind.i64.wrap (Int.fdiv (IntKind.u64.wrap (IntKind.i64.wrap (x772 + x773))) (2 ^ (min (1 : Int).toNat IntKind.u64.bits)))) + 1)), x773, rfl, ha.to ⟨rfl, rfl, rfl, rfl, rfl, trivial⟩, hS⟩, h.some⟩
    refine RC.condF rfl (RC.region (pn 2 rfl (RL.nil (RQ.inB_n ?_))))
    exact fun a ha => ⟨(x772, IntKind.i64.wrap (Int.fdiv (IntKind.u64.wrap (IntKind.i64.wrap (x772 + x773))) (2 ^ (min (1 : Int).toNat IntKind.u64.bits)))), ⟨x772, (IntKind.i64.wrap (Int.fdiv (IntKind.u64.wrap (IntKind.i64.wrap (x772 + x773))) (2 ^ (min (1 : Int).toNat IntKind.u64.bits)))), rfl, ha.to ⟨rfl, rfl, rfl, rfl, rfl, trivial⟩, hS⟩, h.some⟩
   refine RC.condF rfl (RC.exit (RQ.exitT ?_))
   have h := h.inr
   refine RQ.exitT (RQ.inB_hit (RQ.then_n (RC.seq (sr (pn 2 rfl (ln (RC.block ?_)))))))
   refine fun a ha => RC.loop (N := 220) (body := (slices_symMergeCmpFunc_api_Message.l23b a3 x772)) (φ := (· = r)) (fun (s : List api_Message × Int) a w => ∃ (l813 : List api_Message) (x814 : Int), s = (l813, x814) ∧ Has 220 [(0, .slice A1 l813.length c2), (10, .int .i64 x772), (13, .int .i64 x814)] a ∧ St B w (OSf E_api_Message 48 (.slice A1 l813.length c2) l813 :: l) hf) ?_ (s0 := (a3, a4)) h ⟨a3, a4, rfl, ha.to ⟨rfl, rfl, rfl, trivial⟩, hS⟩
   rintro G833 _ a w ⟨l813, x814, rfl, ha, hS⟩ h
   revert a
   show RC _ _ _ _ _ _
   refine RC.seq (sr (pn 4 rfl (ln ?_)))
   refine RC.iteP 58 rfl h (fun hc835 h => ?_) fun hc835 h => ?_
   next =>
    refine RC.condT rfl (sk (RC.seq (RC.block (RC.planS (plD [0, 3, 6, 9, 12, 15, 18, 21, 25, 28, 30, 35, 38, 41, 44, 47, 50, 53]) [14, 15, 16, 17] hS (fun w hS => hS) follows rfl (by kernel_rfl) (NoTmp.block (NoTmp.then (NoTmp.then (NoTmp.block (NoTmp.then (NoTmp.then NoTmp.body)))))) fun w hS => pp 8 rfl ?_))))
    obtain ⟨⟨hq843, hq844⟩, h⟩ := h.req
    refine RP.s 0 8 rfl rfl hS (fun w hS => Vl.indexOwn 0 hS rfl underlying39 sizeOf48 rfl rfl hq843 hq844) rfl (RP.s 0 9 rfl rfl hS (fun w hS => Vl.loadA isAgg48 sizeOf48 rfl rfl ((hS.slW 0 rfl).2.2.cells hq843 hq844)) rfl (pp 1 rfl (RP.v1 11 rfl (Vl.move rfl) rfl rfl ?_)))
    obtain ⟨⟨hq845, hq846⟩, h⟩ := h.req
    refine RP.v1 12 rfl (Vl.indexOwn 0 hS rfl underlying39 sizeOf48 rfl rfl hq845 hq846) rfl rfl (RP.v1 13 rfl (Vl.loadA isAgg48 sizeOf48 rfl rfl ((hS.slW 0 rfl).2.2.cells hq845 hq846)) rfl rfl (RP.v1 14 rfl (Vl.indexOwn 0 hS rfl underlying39 sizeOf48 rfl rfl hq845 hq846) rfl rfl (RP.e0 15 rfl (OW.storeOwn (E := E_api_Message) (off := 0) (j := x814) (x' := nth l813 (IntKind.i64.wrap (x814 + 1))) (vs := (C_api_Message (nth l813 (IntKind.i64.wrap (x814 + 1))))) 0 hS rfl rfl rfl rfl sizeOf48 rfl (Nat.succ_pos _) hq845 hq846 (Nat.le_of_ble_eq_true rfl) rfl rfl) rfl ?_)))
    rintro _ w ⟨rfl, hS⟩
    have he847 := (hS.osN 0 rfl).1
    have hS : St B w (_ :: l) hf := (congrArg (fun k_ : Nat => St B w (OSf E_api_Message 48 (.slice A1 k_ c2) (setL l813 x814 (nth l813 (IntKind.i64.wrap (x814 + 1)))) :: l) hf) he847).mp hS
    refine ⟨kp ⟨(by intro hx; cases hx), trivial⟩, ?_⟩
    refine RP.re 0 rfl (congrArg (fun k_ : Nat => (.slice A1 k_ c2 : Value)) he847) (RP.re 61 rfl (congrArg (fun k_ : Nat => (.slice A1 k_ c2 : Value)) he847) (RP.re 63 rfl (congrArg (fun k_ : Nat => (.slice A1 k_ c2 : Value)) he847) (RP.re 66 rfl (congrArg (fun k_ : Nat => (.slice A1 k_ c2 : Value)) he847) (RP.re 71 rfl (congrArg (fun k_ : Nat => (.slice A1 k_ c2 : Value)) he847) ?_))))
    obtain ⟨hq848, h⟩ := h.req
    refine RP.v1 16 rfl (Vl.indexOwn 0 hS rfl underlying39 sizeOf48 rfl rfl hq843 hq848) rfl rfl (RP.e0 17 rfl (OW.storeOwn (E := E_api_Message) (off := 0) (j := IntKind.i64.wrap (x814 + 1)) (x' := nth l813 x814) (vs := (C_api_Message (nth l813 x814))) 0 hS rfl rfl rfl rfl sizeOf48 rfl (Nat.succ_pos _) hq843 hq848 (Nat.le_of_ble_eq_true rfl) rfl rfl) rfl ?_)
    rintro _ w ⟨rfl, hS⟩
    have he849 := (hS.osN 0 rfl).1
    have hS : St B w (_ :: l) hf := (congrArg (fun k_ : Nat => St B w (OSf E_api_Message 48 (.slice A1 k_ c2) (setL (setL l813 x814 (nth l813 (IntKind.i64.wrap (x814 + 1)))) (IntKind.i64.wrap (x814 + 1)) (nth l813 x814)) :: l) hf) he849).mp hS
    refine ⟨kp ⟨(by intro hx; cases hx), trivial⟩, ?_⟩
    refine RP.re 0 rfl (congrArg (fun k_ : Nat => (.slice A1 k_ c2 : Value)) he849) (RP.re 61 rfl (congrArg (fun k_ : Nat => (.slice A1 k_ c2 : Value)) he849) (RP.re 63 rfl (congrArg (fun k_ : Nat => (.slice A1 k_ c2 : Value)) he849) (RP.re 66 rfl (congrArg (fun k_ : Nat => (.slice A1 k_ c2 : Value)) he849) (RP.re 71 rfl (congrArg (fun k_ : Nat => (.slice A1 k_ c2 : Value)) he849) (RP.nil (RQ.inB_n (RQ.then_n (RC.region (pn 3 rfl (RL.nil ?_))))))))))
    exact fun a ha => ⟨((setL (setL l813 x814 (nth l813 (IntKind.i64.wrap (x814 + 1)))) (IntKind.i64.wrap (x814 + 1)) (nth l813 x814)), IntKind.i64.wrap (x814 + 1)), ⟨(setL (setL l813 x814 (nth l813 (IntKind.i64.wrap (x814 + 1)))) (IntKind.i64.wrap (x814 + 1)) (nth l813 x814)), (IntKind.i64.wrap (x814 + 1)), rfl, ha.to ⟨rfl, rfl, rfl, trivial⟩, hS⟩, h.some⟩
   refine RC.condF rfl (RC.exit (RQ.exitT ?_))
   have h := h.inr
   refine RQ.exitT (RQ.inB_hit (tr (RQ.ret ?_)))
   obtain ⟨hq850, h⟩ := h.req
   have hS : St B w (_ :: l) hf := (congrArg (fun k_ : Nat => St B w (OSf E_api_Message 48 (.slice A1 k_ c2) l813 :: l) hf) hq850).mp hS
   obtain rfl := h.some
   exact rt results131 rfl ⟨rfl, hS⟩
  refine RC.condF rfl (sk (RC.seq (sr (pn 4 rfl (ln ?_)))))
  refine RC.iteP 80 rfl h (fun hc975 h => ?_) fun hc975 h => ?_
  next =>
   refine RC.condT rfl (sr (pn 2 rfl (lnsr (pn 2 rfl (ln (RC.seq (RC.block ?_)))))))
   refine fun a ha => RC.loop (N := 220) (body := (slices_symMergeCmpFunc_api_Message.l28b a3 a5)) (φ := (· = r)) (fun (s : Int × Int) a w => ∃ (x1021 : Int) (x1022 : Int), s = (x1021, x1022) ∧ Has 220 [(0, .slice A1 a3.length c2), (2, .int .i64 a5), (4, .func (.func 76) #[] #[]), (14, .int .i64 x1021), (15, .int .i64 x1022)] a ∧ St B w (OSf E_api_Message 48 (.slice A1 a3.length c2) a3 :: l) hf) ?_ (s0 := (a4, a5)) h ⟨a4, a5, rfl, ha.to ⟨rfl, rfl, rfl, rfl, rfl, trivial⟩, hS⟩
   rintro G1034 _ a w ⟨x1021, x1022, rfl, ha, hS⟩ h
   revert a
   show RC _ _ _ _ _ _
   refine RC.seq (sr (pn 3 rfl (ln ?_)))
   refine RC.iteP 85 rfl h (fun hc1036 h => ?_) fun hc1036 h => ?_
   next =>
    refine RC.condT rfl (sk (RC.block (sr (pn 3 rfl (RL.s (Vl.conv underlying3 underlying278 rfl) rfl (RL.s (Vl.shr rfl rfl (by decide)) rfl (RL.s (Vl.conv underlying278 underlying3 rfl) rfl (pn 1 rfl (ln (RC.seq (RC.planS (plD [0, 3, 6, 10, 13, 15, 20, 23, 26, 29, 32, 35]) [9, 10, 11] hS (fun w hS => hS) follows rfl (by kernel_rfl) (NoTmp.then (NoTmp.block (NoTmp.then (NoTmp.block (NoTmp.then (NoTmp.then NoTmp.body)))))) fun w hS => pp 3 rfl ?_)))))))))))
    obtain ⟨⟨hq1037, hq1038⟩, h⟩ := h.req
    refine RP.s 0 3 rfl rfl hS (fun w hS => Vl.indexOwn 0 hS rfl underlying39 sizeOf48 rfl rfl hq1037 hq1038) rfl (RP.s 0 4 rfl rfl hS (fun w hS => Vl.loadA isAgg48 sizeOf48 rfl rfl ((hS.slW 0 rfl).2.2.cells hq1037 hq1038)) rfl (pp 1 rfl (RP.v1 6 rfl (Vl.move rfl) rfl rfl ?_)))
    obtain ⟨⟨hq1039, hq1040⟩, h⟩ := h.req
    refine RP.v1 7 rfl (Vl.indexOwn 0 hS rfl underlying39 sizeOf48 rfl rfl hq1039 hq1040) rfl rfl (RP.v1 8 rfl (Vl.loadA isAgg48 sizeOf48 rfl rfl ((hS.slW 0 rfl).2.2.cells hq1039 hq1040)) rfl rfl ?_)
    obtain ⟨t1041, hg1042, h⟩ := h.bind
    have hc := event_order.ok hg1042 hS
    refine RP.e 9 rfl (OW.call (ls := [.tmp 96, .tmp 100]) rfl rfl call76 rfl hc) rfl rfl ?_
    rintro _ w ⟨rfl, hS⟩
    refine ⟨kp ⟨(by intro hx; cases hx), trivial⟩, ?_⟩
    refine RP.v1 10 rfl (Vl.int rfl rfl rfl) rfl rfl (RP.v1 11 rfl (Vl.not rfl) rfl rfl (RP.nil (RQ.then_n ?_)))
    refine RC.iteN 103 rfl h (fun hc1043 h => ?_) fun hc1043 h => ?_
    next =>
     refine RC.condF rfl (RC.region (pn 2 rfl (RL.nil (RQ.inB_n ?_))))
     exact fun a ha => ⟨(x1021, IntKind.i64.wrap (Int.fdiv (IntKind.u64.wrap (IntKind.i64.wrap (x1021 + x1022))) (2 ^ (min (1 : Int).toNat IntKind.u64.bits)))), ⟨x1021, (IntKind.i64.wrap (Int.fdiv (IntKind.u64.wrap (IntKind.i64.wrap (x1021 + x1022))) (2 ^ (min (1 : Int).toNat IntKind.u64.bits)))), rfl, ha.to ⟨rfl, rfl, rfl, rfl, rfl, trivial⟩, hS⟩, h.some⟩
    refine RC.condT rfl (RC.region (pn 3 rfl (RL.nil (RQ.inB_n ?_))))
    exact fun a ha => ⟨(IntKind.i64.wrap ((IntKind.i64.wrap (Int.fdiv (IntKind.u64.wrap (IntKind.i64.wrap (x1021 + x1022))) (2 ^ (min (1 : Int).toNat IntKind.u64.bits)))) + 1), x1022), ⟨(IntKind.i64.wrap ((IntKind.i64.wrap (Int.fdiv (IntKind.u64.wrap (IntKind.i64.wrap (x1021 + x1022))) (2 ^ (min (1 : Int).toNat IntKind.u64.bits)))) + 1)), x1022, rfl, ha.to ⟨rfl, rfl, rfl, rfl, rfl, trivial⟩, hS⟩, h.some⟩
   refine RC.condF rfl (RC.exit (RQ.exitT ?_))
   have h := h.inr
   refine RQ.exitT (RQ.inB_hit (RQ.then_n (RC.seq (sr (pn 2 rfl (ln (RC.block ?_)))))))
   refine fun a ha => RC.loop (N := 220) (body := (slices_symMergeCmpFunc_api_Message.l29b a3 x1021)) (φ := (· = r)) (fun (s : List api_Message × Int) a w => ∃ (l1062 : List api_Message) (x1063 : Int), s = (l1062, x1063) ∧ Has 220 [(0, .slice A1 l1062.length c2), (14, .int .i64 x1021), (17, .int .i64 x1063)] a ∧ St B w (OSf E_api_Message 48 (.slice A1 l1062.length c2) l1062 :: l) hf) ?_ (s0 := (a3, a5)) h ⟨a3, a5, rfl, ha.to ⟨rfl, rfl, rfl, trivial⟩, hS⟩
   rintro G1082 _ a w ⟨l1062, x1063, rfl, ha, hS⟩ h
   revert a
   show RC _ _ _ _ _ _
   refine RC.seq (sr (pn 3 rfl (ln ?_)))
   refine RC.iteP 110 rfl h (fun hc1084 h => ?_) fun hc1084 h => ?_
   next =>
    refine RC.condT rfl (sk (RC.seq (RC.block (RC.planS (plD [0, 3, 6, 9, 12, 15, 18, 21, 25, 28, 30, 35, 38, 41, 44, 47, 50, 53]) [14, 15, 16, 17] hS (fun w hS => hS) follows rfl (by kernel_rfl) (NoTmp.block (NoTmp.then (NoTmp.then (NoTmp.block (NoTmp.then (NoTmp.then NoTmp.body)))))) fun w hS => pp 8 rfl ?_))))
    obtain ⟨⟨hq1092, hq1093⟩, h⟩ := h.req
    refine RP.s 0 8 rfl rfl hS (fun w hS => Vl.indexOwn 0 hS rfl underlying39 sizeOf48 rfl rfl hq1092 hq1093) rfl (RP.s 0 9 rfl rfl hS (fun w hS => Vl.loadA isAgg48 sizeOf48 rfl rfl ((hS.slW 0 rfl).2.2.cells hq1092 hq1093)) rfl (pp 1 rfl (RP.v1 11 rfl (Vl.move rfl) rfl rfl ?_)))
    obtain ⟨⟨hq1094, hq1095⟩, h⟩ := h.req
    refine RP.v1 12 rfl (Vl.indexOwn 0 hS rfl underlying39 sizeOf48 rfl rfl hq1094 hq1095) rfl rfl (RP.v1 13 rfl (Vl.loadA isAgg48 sizeOf48 rfl rfl ((hS.slW 0 rfl).2.2.cells hq1094 hq1095)) rfl rfl (RP.v1 14 rfl (Vl.indexOwn 0 hS rfl underlying39 sizeOf48 rfl rfl hq1094 hq1095) rfl rfl (RP.e0 15 rfl (OW.storeOwn (E := E_api_Message) (off := 0) (j := x1063) (x' := nth l1062 (IntKind.i64.wrap (x1063 - 1))) (vs := (C_api_Message (nth l1062 (IntKind.i64.wrap (x1063 - 1))))) 0 hS rfl rfl rfl rfl sizeOf48 rfl (Nat.succ_pos _) hq1094 hq1095 (Nat.le_of_ble_eq_true rfl) rfl rfl) rfl ?_)))
    rintro _ w ⟨rfl, hS⟩
    have he1096 := (hS.osN 0 rfl).1
    have hS : St B w (_ :: l) hf := (congrArg (fun k_ : Nat => St B w (OSf E_api_Message 48 (.slice A1 k_ c2) (setL l1062 x1063 (nth l1062 (IntKind.i64.wrap (x1063 - 1)))) :: l) hf) he1096).mp hS
    refine ⟨kp ⟨(by intro hx; cases hx), trivial⟩, ?_⟩
    refine RP.re 0 rfl (congrArg (fun k_ : Nat => (.slice A1 k_ c2 : Value)) he1096) (RP.re 113 rfl (congrArg (fun k_ : Nat => (.slice A1 k_ c2 : Value)) he1096) (RP.re 115 rfl (congrArg (fun k_ : Nat => (.slice A1 k_ c2 : Value)) he1096) (RP.re 118 rfl (congrArg (fun k_ : Nat => (.slice A1 k_ c2 : Value)) he1096) (RP.re 123 rfl (congrArg (fun k_ : Nat => (.slice A1 k_ c2 : Value)) he1096) ?_))))
    obtain ⟨hq1097, h⟩ := h.req
    refine RP.v1 16 rfl (Vl.indexOwn 0 hS rfl underlying39 sizeOf48 rfl rfl hq1092 hq1097) rfl rfl (RP.e0 17 rfl (OW.storeOwn (E := E_api_Message) (off := 0) (j := IntKind.i64.wrap (x1063 - 1)) (x' := nth l1062 x1063) (vs := (C_api_Message (nth l1062 x1063))) 0 hS rfl rfl rfl rfl sizeOf48 rfl (Nat.succ_pos _) hq1092 hq1097 (Nat.le_of_ble_eq_true rfl) rfl rfl) rfl ?_)
    rintro _ w ⟨rfl, hS⟩
    have he1098 := (hS.osN 0 rfl).1
    have hS : St B w (_ :: l) hf := (congrArg (fun k_ : Nat => St B w (OSf E_api_Message 48 (.slice A1 k_ c2) (setL (setL l1062 x1063 (nth l1062 (IntKind.i64.wrap (x1063 - 1)))) (IntKind.i64.wrap (x1063 - 1)) (nth l1062 x1063)) :: l) hf) he1098).mp hS
    refine ⟨kp ⟨(by intro hx; cases hx), trivial⟩, ?_⟩
    refine RP.re 0 rfl (congrArg (fun k_ : Nat => (.slice A1 k_ c2 : Value)) he1098) (RP.re 113 rfl (congrArg (fun k_ : Nat => (.slice A1 k_ c2 : Value)) he1098) (RP.re 115 rfl (congrArg (fun k_ : Nat => (.slice A1 k_ c2 : Value)) he1098) (RP.re 118 rfl (congrArg (fun k_ : Nat => (.slice A1 k_ c2 : Value)) he1098) (RP.re 123 rfl (congrArg (fun k_ : Nat => (.slice A1 k_ c2 : Value)) he1098) (RP.nil (RQ.inB_n (RQ.then_n (RC.region (pn 3 rfl (RL.nil ?_))))))))))
    exact fun a ha => ⟨((setL (setL l1062 x1063 (nth l1062 (IntKind.i64.wrap (x1063 - 1)))) (IntKind.i64.wrap (x1063 - 1)) (nth l1062 x1063)), IntKind.i64.wrap (x1063 - 1)), ⟨(setL (setL l1062 x1063 (nth l1062 (IntKind.i64.wrap (x1063 - 1)))) (IntKind.i64.wrap (x1063 - 1)) (nth l1062 x1063)), (IntKind.i64.wrap (x1063 - 1)), rfl, ha.to ⟨rfl, rfl, rfl, trivial⟩, hS⟩, h.some⟩
   refine RC.condF rfl (RC.exit (RQ.exitT ?_))
   have h := h.inr
   refine RQ.exitT (RQ.inB_hit (tr (RQ.ret ?_)))
   obtain ⟨hq1099, h⟩ := h.req
   have hS : St B w (_ :: l) hf := (congrArg (fun k_ : Nat => St B w (OSf E_api_Message 48 (.slice A1 k_ c2) l1062 :: l) hf) hq1099).mp hS
   obtain rfl := h.some
   exact rt results131 rfl ⟨rfl, hS⟩
  refine RC.condF rfl (sk (sr (pn 3 rfl (RL.s (Vl.conv underlying3 underlying278 rfl) rfl (RL.s (Vl.shr rfl rfl (by decide)) rfl (RL.s (Vl.conv underlying278 underlying3 rfl) rfl (pn 1 rfl (lnsr (pn 4 rfl (RL.nil ?_))))))))))
  refine tsr (pn 2 rfl (ln ?_))
  refine RC.join (fun (s : Int × Int) a w => ∃ (x1101 : Int) (x1102 : Int), s = (x1101, x1102) ∧ Has 220 [(0, .slice A1 a3.length c2), (1, .int .i64 a4), (2, .int .i64 a5), (3, .int .i64 a6), (4, .func (.func 76) #[] #[]), (18, .int .i64 (IntKind.i64.wrap (Int.fdiv (IntKind.u64.wrap (IntKind.i64.wrap (a4 + a6))) (2 ^ (min (1 : Int).toNat IntKind.u64.bits))))), (19, .int .i64 (IntKind.i64.wrap ((IntKind.i64.wrap (Int.fdiv (IntKind.u64.wrap (IntKind.i64.wrap (a4 + a6))) (2 ^ (min (1 : Int).toNat IntKind.u64.bits)))) + a5))), (20, .int .i64 x1101), (21, .int .i64 x1102)] a ∧ St B w (OSf E_api_Message 48 (.slice A1 a3.length c2) a3 :: l) hf ∧ Holds (· = r) (slices_symMergeCmpFunc_api_Message.j30 rec_ a3 a4 a5 a6 x1101 x1102)) ?_ ?_
  · rintro _ a w ⟨x1101, x1102, rfl, ha, hS, h⟩
    revert a
    show RC _ _ _ _ _ _
    refine sr (pn 3 rfl (ln (RC.seq (RC.block ?_))))
    refine fun a ha => RC.loop (N := 220) (body := (slices_symMergeCmpFunc_api_Message.l32b rec_ a3 a4 a5 a6)) (φ := (· = r)) (fun (s : Int × Int) a w => ∃ (x1148 : Int) (x1149 : Int), s = (x1148, x1149) ∧ Has 220 [(0, .slice A1 a3.length c2), (1, .int .i64 a4), (2, .int .i64 a5), (3, .int .i64 a6), (4, .func (.func 76) #[] #[]), (18, .int .i64 (IntKind.i64.wrap (Int.fdiv (IntKind.u64.wrap (IntKind.i64.wrap (a4 + a6))) (2 ^ (min (1 : Int).toNat IntKind.u64.bits))))), (19, .int .i64 (IntKind.i64.wrap ((IntKind.i64.wrap (Int.fdiv (IntKind.u64.wrap (IntKind.i64.wrap (a4 + a6))) (2 ^ (min (1 : Int).toNat IntKind.u64.bits)))) + a5))), (20, .int .i64 x1148), (21, .int .i64 x1149), (22, .int .i64 (IntKind.i64.wrap ((IntKind.i64.wrap ((IntKind.i64.wrap (Int.fdiv (IntKind.u64.wrap (IntKind.i64.wrap (a4 + a6))) (2 ^ (min (1 : Int).toNat IntKind.u64.bits)))) + a5)) - 1)))] a ∧ St B w (OSf E_api_Message 48 (.slice A1 a3.length c2) a3 :: l) hf) ?_ (s0 := (x1101, x1102)) h ⟨x1101, x1102, rfl, ha.to ⟨rfl, rfl, rfl, rfl, rfl, rfl, rfl, rfl, rfl, rfl, trivial⟩, hS⟩
    rintro G1161 _ a w ⟨x1148, x1149, rfl, ha, hS⟩ h
    revert a
    show RC _ _ _ _ _ _
    refine RC.seq (sr (pn 3 rfl (ln ?_)))
    refine RC.iteP 151 rfl h (fun hc1163 h => ?_) fun hc1163 h => ?_
    next =>
     refine RC.condT rfl (sk (RC.block (sr (pn 3 rfl (RL.s (Vl.conv underlying3 underlying278 rfl) rfl (RL.s (Vl.shr rfl rfl (by decide)) rfl (RL.s (Vl.conv underlying278 underlying3 rfl) rfl (pn 1 rfl (ln (RC.seq (RC.planS (plD [0, 3, 6, 9, 12, 16, 19, 21, 26, 29, 32, 35, 38, 41]) [11, 12, 13] hS (fun w hS => hS) follows rfl (by kernel_rfl) (NoTmp.then (NoTmp.block (NoTmp.then (NoTmp.block (NoTmp.then NoTmp.body))))) fun w hS => pp 5 rfl ?_)))))))))))
     obtain ⟨⟨hq1164, hq1165⟩, h⟩ := h.req
     refine RP.s 0 5 rfl rfl hS (fun w hS => Vl.indexOwn 0 hS rfl underlying39 sizeOf48 rfl rfl hq1164 hq1165) rfl (RP.s 0 6 rfl rfl hS (fun w hS => Vl.loadA isAgg48 sizeOf48 rfl rfl ((hS.slW 0 rfl).2.2.cells hq1164 hq1165)) rfl (pp 1 rfl (RP.v1 8 rfl (Vl.move rfl) rfl rfl ?_)))
     obtain ⟨⟨hq1166, hq1167⟩, h⟩ := h.req
     refine RP.v1 9 rfl (Vl.indexOwn 0 hS rfl underlying39 sizeOf48 rfl rfl hq1166 hq1167) rfl rfl (RP.v1 10 rfl (Vl.loadA isAgg48 sizeOf48 rfl rfl ((hS.slW 0 rfl).2.2.cells hq1166 hq1167)) rfl rfl ?_)
     obtain ⟨t1168, hg1169, h⟩ := h.bind
     have hc := event_order.ok hg1169 hS
     refine RP.e 11 rfl (OW.call (ls := [.tmp 164, .tmp 168]) rfl rfl call76 rfl hc) rfl rfl ?_
     rintro _ w ⟨rfl, hS⟩
     refine ⟨kp ⟨(by intro hx; cases hx), trivial⟩, ?_⟩
     refine RP.v1 12 rfl (Vl.int rfl rfl rfl) rfl rfl (RP.v1 13 rfl (Vl.not rfl) rfl rfl (RP.nil (RQ.then_n ?_)))
     refine RC.iteN 171 rfl h (fun hc1170 h => ?_) fun hc1170 h => ?_
     next =>
      refine RC.condF rfl (RC.region (pn 2 rfl (RL.nil (RQ.inB_n ?_))))
      exact fun a ha => ⟨(x1148, IntKind.i64.wrap (Int.fdiv (IntKind.u64.wrap (IntKind.i64.wrap (x1148 + x1149))) (2 ^ (min (1 : Int).toNat IntKind.u64.bits)))), ⟨x1148, (IntKind.i64.wrap (Int.fdiv (IntKind.u64.wrap (IntKind.i64.wrap (x1148 + x1149))) (2 ^ (min (1 : Int).toNat IntKind.u64.bits)))), rfl, ha.to ⟨rfl, rfl, rfl, rfl, rfl, rfl, rfl, rfl, rfl, rfl, trivial⟩, hS⟩, h.some⟩
     refine RC.condT rfl (RC.region (pn 3 rfl (RL.nil (RQ.inB_n ?_))))
     exact fun a ha => ⟨(IntKind.i64.wrap ((IntKind.i64.wrap (Int.fdiv (IntKind.u64.wrap (IntKind.i64.wrap (x1148 + x1149))) (2 ^ (min (1 : Int).toNat IntKind.u64.bits)))) + 1), x1149), ⟨(IntKind.i64.wrap ((IntKind.i64.wrap (Int.fdiv (IntKind.u64.wrap (IntKind.i64.wrap (x1148 + x1149))) (2 ^ (min (1 : Int).toNat IntKind.u64.bits)))) + 1)), x1149, rfl, ha.to ⟨rfl, rfl, rfl, rfl, rfl, rfl, rfl, rfl, rfl, rfl, trivial⟩, hS⟩, h.some⟩
    refine RC.condF rfl (RC.exit (RQ.exitT ?_))
    have h := h.inr
    refine RQ.exitT (RQ.inB_hit (tsr (pn 4 rfl (ln ?_))))
    refine RC.join (fun (s : List api_Message) a w => ∃ (l1176 : List api_Message), s = (l1176) ∧ Has 220 [(0, .slice A1 l1176.length c2), (1, .int .i64 a4), (3, .int .i64 a6), (4, .func (.func 76) #[] #[]), (18, .int .i64 (IntKind.i64.wrap (Int.fdiv (IntKind.u64.wrap (IntKind.i64.wrap (a4 + a6))) (2 ^ (min (1 : Int).toNat IntKind.u64.bits))))), (20, .int .i64 x1148), (24, .int .i64 (IntKind.i64.wrap ((IntKind.i64.wrap ((IntKind.i64.wrap (Int.fdiv (IntKind.u64.wrap (IntKind.i64.wrap (a4 + a6))) (2 ^ (min (1 : Int).toNat IntKind.u64.bits)))) + a5)) - x1148)))] a ∧ St B w (OSf E_api_Message 48 (.slice A1 l1176.length c2) l1176 :: l) hf ∧ Holds (· = r) (slices_symMergeCmpFunc_api_Message.j33 rec_ a3 a4 a5 a6 x1148 l1176)) ?_ ?_
    · rintro l1176 a w ⟨_, rfl, ha, hS, h⟩
      revert a
      show RC _ _ _ _ _ _
      refine RC.join (fun (s : List api_Message) a w => ∃ (l1182 : List api_Message), s = (l1182) ∧ Has 220 [(0, .slice A1 l1182.length c2), (3, .int .i64 a6), (4, .func (.func 76) #[] #[]), (18, .int .i64 (IntKind.i64.wrap (Int.fdiv (IntKind.u64.wrap (IntKind.i64.wrap (a4 + a6))) (2 ^ (min (1 : Int).toNat IntKind.u64.bits))))), (24, .int .i64 (IntKind.i64.wrap ((IntKind.i64.wrap ((IntKind.i64.wrap (Int.fdiv (IntKind.u64.wrap (IntKind.i64.wrap (a4 + a6))) (2 ^ (min (1 : Int).toNat IntKind.u64.bits)))) + a5)) - x1148)))] a ∧ St B w (OSf E_api_Message 48 (.slice A1 l1182.length c2) l1182 :: l) hf ∧ Holds (· = r) (slices_symMergeCmpFunc_api_Message.j34 rec_ a3 a4 a5 a6 x1148 l1182)) ?_ ?_
      · rintro l1182 a w ⟨_, rfl, ha, hS, h⟩
        revert a
        show RC _ _ _ _ _ _
        refine sr (pn 4 rfl ?_)
        refine RL.iteP 209 rfl h (fun hc1183 h => ?_) fun hc1183 h => ?_
        next =>
         refine pn 4 rfl (ln ?_)
         refine RC.iteP 213 rfl h (fun hc1184 h => ?_) fun hc1184 h => ?_
         next =>
          refine RC.condT rfl (RC.region (pn 5 rfl ?_))
          obtain ⟨t1185, hg1186, h⟩ := h.bind
          have hc := ih_ hg1186 hS
          refine RL.e (OW.callF (ls := [.tmp 214, .tmp 215, .tmp 216, .tmp 217, .tmp 218]) rfl call131 hc) rfl rfl ?_
          rintro _ w ⟨rfl, hS⟩
          have he1187 := (hS.osN 0 rfl).1
          have hS : St B w (_ :: l) hf := (congrArg (fun k_ : Nat => St B w (OSf E_api_Message 48 (.slice A1 k_ c2) t1185 :: l) hf) he1187).mp hS
          refine RL.re 0 rfl (congrArg (fun k_ : Nat => (.slice A1 k_ c2 : Value)) he1187) (RL.re 214 rfl (congrArg (fun k_ : Nat => (.slice A1 k_ c2 : Value)) he1187) (RL.nil ?_))
          obtain ⟨hq1188, h⟩ := h.req
          have hS : St B w (_ :: l) hf := (congrArg (fun k_ : Nat => St B w (OSf E_api_Message 48 (.slice A1 k_ c2) t1185 :: l) hf) hq1188).mp hS
          obtain rfl := h.some
          exact rtE results131 rfl ⟨rfl, hS⟩
         refine RC.condF rfl (RC.skip ?_)
         obtain ⟨hq1189, h⟩ := h.req
         have hS : St B w (_ :: l) hf := (congrArg (fun k_ : Nat => St B w (OSf E_api_Message 48 (.slice A1 k_ c2) l1182 :: l) hf) hq1189).mp hS
         obtain rfl := h.some
         exact rtE results131 rfl ⟨rfl, hS⟩
        refine pn 4 rfl (ln (RC.condF rfl (RC.skip ?_)))
        obtain ⟨hq1190, h⟩ := h.req
        have hS : St B w (_ :: l) hf := (congrArg (fun k_ : Nat => St B w (OSf E_api_Message 48 (.slice A1 k_ c2) l1182 :: l) hf) hq1190).mp hS
        obtain rfl := h.some
        exact rtE results131 rfl ⟨rfl, hS⟩
      refine sr (pn 4 rfl ?_)
      refine RL.iteP 195 rfl h (fun hc1191 h => ?_) fun hc1191 h => ?_
      next =>
       refine pn 4 rfl (ln ?_)
       refine RC.iteP 199 rfl h (fun hc1192 h => ?_) fun hc1192 h => ?_
       next =>
        refine RC.condT rfl (RC.region (pn 5 rfl ?_))
        obtain ⟨t1193, hg1194, h⟩ := h.bind
        have hc := ih_ hg1194 hS
        refine RL.e (OW.callF (ls := [.tmp 200, .tmp 201, .tmp 202, .tmp 203, .tmp 204]) rfl call131 hc) rfl rfl ?_
        rintro _ w ⟨rfl, hS⟩
        have he1195 := (hS.osN 0 rfl).1
        have hS : St B w (_ :: l) hf := (congrArg (fun k_ : Nat => St B w (OSf E_api_Message 48 (.slice A1 k_ c2) t1193 :: l) hf) he1195).mp hS
        refine RL.re 0 rfl (congrArg (fun k_ : Nat => (.slice A1 k_ c2 : Value)) he1195) (RL.re 200 rfl (congrArg (fun k_ : Nat => (.slice A1 k_ c2 : Value)) he1195) (RL.nil ?_))
        exact fun a ha => ⟨(t1193), t1193, rfl, ha.to ⟨rfl, rfl, rfl, rfl, rfl, trivial⟩, hS, h⟩
       refine RC.condF rfl (RC.skip ?_)
       exact fun a ha => ⟨(l1176), l1176, rfl, ha.to ⟨rfl, rfl, rfl, rfl, rfl, trivial⟩, hS, h⟩
      refine pn 4 rfl (ln (RC.condF rfl (RC.skip ?_)))
      exact fun a ha => ⟨(l1176), l1176, rfl, ha.to ⟨rfl, rfl, rfl, rfl, rfl, trivial⟩, hS, h⟩
    refine sr (pn 4 rfl ?_)
    refine RL.iteP 181 rfl h (fun hc1196 h => ?_) fun hc1196 h => ?_
    next =>
     refine pn 4 rfl (ln ?_)
     refine RC.iteP 185 rfl h (fun hc1197 h => ?_) fun hc1197 h => ?_
     next =>
      refine RC.condT rfl (RC.region (pn 5 rfl ?_))
      obtain ⟨t1198, hg1199, h⟩ := h.bind
      have hc := slices_rotateCmpFunc_api_Message.ok hg1199 hS
      refine RL.e (OW.callF (ls := [.tmp 186, .tmp 187, .tmp 188, .tmp 189, .tmp 190]) rfl call136 hc) rfl rfl ?_
      rintro _ w ⟨rfl, hS⟩
      have he1200 := (hS.osN 0 rfl).1
      have hS : St B w (_ :: l) hf := (congrArg (fun k_ : Nat => St B w (OSf E_api_Message 48 (.slice A1 k_ c2) t1198 :: l) hf) he1200).mp hS
      refine RL.re 0 rfl (congrArg (fun k_ : Nat => (.slice A1 k_ c2 : Value)) he1200) (RL.re 186 rfl (congrArg (fun k_ : Nat => (.slice A1 k_ c2 : Value)) he1200) (RL.nil ?_))
      exact fun a ha => ⟨(t1198), t1198, rfl, ha.to ⟨rfl, rfl, rfl, rfl, rfl, rfl, rfl, trivial⟩, hS, h⟩
     refine RC.condF rfl (RC.skip ?_)
     exact fun a ha => ⟨(a3), a3, rfl, ha.to ⟨rfl, rfl, rfl, rfl, rfl, rfl, rfl, trivial⟩, hS, h⟩
    refine pn 4 rfl (ln (RC.condF rfl (RC.skip ?_)))
    exact fun a ha => ⟨(a3), a3, rfl, ha.to ⟨rfl, rfl, rfl, rfl, rfl, rfl, rfl, trivial⟩, hS, h⟩
  refine sr (pn 3 rfl (ln ?_))
  refine RC.iteP 140 rfl h (fun hc1201 h => ?_) fun hc1201 h => ?_
  next =>
   refine RC.condT rfl (sr (pn 4 rfl (ln (RC.region (pn 2 rfl (RL.nil ?_))))))
   exact fun a ha => ⟨(IntKind.i64.wrap ((IntKind.i64.wrap ((IntKind.i64.wrap (Int.fdiv (IntKind.u64.wrap (IntKind.i64.wrap (a4 + a6))) (2 ^ (min (1 : Int).toNat IntKind.u64.bits)))) + a5)) - a6), IntKind.i64.wrap (Int.fdiv (IntKind.u64.wrap (IntKind.i64.wrap (a4 + a6))) (2 ^ (min (1 : Int).toNat IntKind.u64.bits)))), (IntKind.i64.wrap ((IntKind.i64.wrap ((IntKind.i64.wrap (Int.fdiv (IntKind.u64.wrap (IntKind.i64.wrap (a4 + a6))) (2 ^ (min (1 : Int).toNat IntKind.u64.bits)))) + a5)) - a6)), (IntKind.i64.wrap (Int.fdiv (IntKind.u64.wrap (IntKind.i64.wrap (a4 + a6))) (2 ^ (min (1 : Int).toNat IntKind.u64.bits)))), rfl, ha.to ⟨rfl, rfl, rfl, rfl, rfl, rfl, rfl, rfl, rfl, trivial⟩, hS, h⟩
  refine RC.condF rfl (sr (pn 2 rfl (ln (RC.region (pn 2 rfl (RL.nil ?_))))))
  exact fun a ha => ⟨(a4, a5), a4, a5, rfl, ha.to ⟨rfl, rfl, rfl, rfl, rfl, rfl, rfl, rfl, rfl, trivial⟩, hS, h⟩
def slices_symMergeCmpFunc_api_Message.F : Nat → (List api_Message) → Int → Int → Int → Option (List api_Message)
  | 0, _, _, _, _ => none
  | n + 1, a3, a4, a5, a6 => slices_symMergeCmpFunc_api_Message.f0 (slices_symMergeCmpFunc_api_Message.F n) a3 a4 a5 a6
theorem slices_symMergeCmpFunc_api_Message.okF : ∀ (n : Nat) {a3 : List api_Message} {a4 a5 a6 : Int} {A1 : Option Addr} {c2 : Nat} {r : List api_Message} {B : Base} {w : World} {l : List HProp} {hf : Hp}, slices_symMergeCmpFunc_api_Message.F n a3 a4 a5 a6 = some r → St B w (OSf E_api_Message 48 (.slice A1 a3.length c2) a3 :: l) hf → Calls prog 131 #[.slice A1 a3.length c2, .int .i64 a4, .int .i64 a5, .int .i64 a6, .func (.func 76) #[] #[]] w (Ret fun v w => v = .tuple #[] ∧ St B w (OSf E_api_Message 48 (.slice A1 a3.length c2) r :: l) hf) := by
  intro n
  induction n with
  | zero => intro _ _ _ _ _ _ _ _ _ _ _ h; cases h
  | succ n ih => intro _ _ _ _ _ _ _ _ _ _ _ h hS; exact slices_symMergeCmpFunc_api_Message.ok0 ih h hS
def slices_symMergeCmpFunc_api_Message.f (a3 : List api_Message) (a4 a5 a6 : Int) : Option (List api_Message) := slices_symMergeCmpFunc_api_Message.F (a3.length + 1) a3 a4 a5 a6
theorem slices_symMergeCmpFunc_api_Message.ok {a3 : List api_Message} {a4 a5 a6 : Int} {A1 : Option Addr} {c2 : Nat} {r : List api_Message} (h : slices_symMergeCmpFunc_api_Message.f a3 a4 a5 a6 = some r) (hS : St B w (OSf E_api_Message 48 (.slice A1 a3.length c2) a3 :: l) hf) :
    Calls prog 131 #[.slice A1 a3.length c2, .int .i64 a4, .int .i64 a5, .int .i64 a6, .func (.func 76) #[] #[]] w (Ret fun v w => v = .tuple #[] ∧ St B w (OSf E_api_Message 48 (.slice A1 a3.length c2) r :: l) hf) := slices_symMergeCmpFunc_api_Message.okF _ h hS
def slices_stableCmpFunc_api_Message.j24 (x365 : Int) (l486 : List api_Message) : Option ((List api_Message × Int) ⊕ (List api_Message)) := some (.inl (l486, IntKind.i64.wrap (x365 * 2)))
def slices_stableCmpFunc_api_Message.l23b (a4 x365 : Int) : List api_Message × Int × Int → Option ((List api_Message × Int × Int) ⊕ ((List api_Message × Int) ⊕ (List api_Message)))
  | (l465, x466, x467) => (if x467 ≤ a4 then ((slices_symMergeCmpFunc_api_Message.f l465 x466 (IntKind.i64.wrap (x466 + x365)) x467).bind fun t479 => some (.inl (t479, x467, IntKind.i64.wrap (x467 + (IntKind.i64.wrap (2 * x365)))))) else (Option.map Sum.inr (if IntKind.i64.wrap (x466 + x365) < a4 then ((slices_symMergeCmpFunc_api_Message.f l465 x466 (IntKind.i64.wrap (x466 + x365)) a4).bind fun t488 => slices_stableCmpFunc_api_Message.j24 x365 t488) else slices_stableCmpFunc_api_Message.j24 x365 l465)))
def slices_stableCmpFunc_api_Message.l23 (a4 x365 : Int) (s : List api_Message × Int × Int) : Option ((List api_Message × Int) ⊕ (List api_Message)) := loopR (slices_stableCmpFunc_api_Message.l23b a4 x365) s
def slices_stableCmpFunc_api_Message.l21b (a3 : List api_Message) (a4 : Int) : List api_Message × Int → Option ((List api_Message × Int) ⊕ (List api_Message))
  | (l364, x365) => (if x365 < a4 then slices_stableCmpFunc_api_Message.l23 a4 x365 (l364, 0, IntKind.i64.wrap (2 * x365)) else (Option.map Sum.inr (if l364.length = a3.length then some l364 else none)))
def slices_stableCmpFunc_api_Message.l21 (a3 : List api_Message) (a4 : Int) (s : List api_Message × Int) : Option (List api_Message) := loopR (slices_stableCmpFunc_api_Message.l21b a3 a4) s
def slices_stableCmpFunc_api_Message.l14b (a3 : List api_Message) (a4 : Int) : List api_Message × Int × Int → Option ((List api_Message × Int × Int) ⊕ (List api_Message))
  | (l281, x282, x283) => (if x283 ≤ a4 then ((slices_insertionSortCmpFunc_api_Message.f l281 x282 x283).bind fun t295 => some (.inl (t295, x283, IntKind.i64.wrap (x283 + 20)))) else (Option.map Sum.inr ((slices_insertionSortCmpFunc_api_Message.f l281 x282 a4).bind fun t298 => slices_stableCmpFunc_api_Message.l21 a3 a4 (t298, 20))))
def slices_stableCmpFunc_api_Message.l14 (a3 : List api_Message) (a4 : Int) (s : List api_Message × Int × Int) : Option (List api_Message) := loopR (slices_stableCmpFunc_api_Message.l14b a3 a4) s
def slices_stableCmpFunc_api_Message.f (a3 : List api_Message) (a4 : Int) : Option (List api_Message) := slices_stableCmpFunc_api_Message.l14 a3 a4 (a3, 0, 20)
theorem slices_stableCmpFunc_api_Message.ok {a3 : List api_Message} {a4 : Int} {A1 : Option Addr} {c2 : Nat} {r : List api_Message} (h : slices_stableCmpFunc_api_Message.f a3 a4 = some r) (hS : St B w (OSf E_api_Message 48 (.slice A1 a3.length c2) a3 :: l) hf) :
    Calls prog 125 #[.slice A1 a3.length c2, .int .i64 a4, .func (.func 76) #[] #[]] w (Ret fun v w => v = .tuple #[] ∧ St B w (OSf E_api_Message 48 (.slice A1 a3.length c2) r :: l) hf) := by
  have h := Holds.of h
  refine en func125 rfl ntmps125 rfl (sr (pn 1 rfl (lnsr (pn 3 rfl (ln (RC.seq (RC.block ?_)))))))
  refine fun a ha => RC.loop (N := 63) (body := (slices_stableCmpFunc_api_Message.l14b a3 a4)) (φ := (· = r)) (fun (s : List api_Message × Int × Int) a w => ∃ (l281 : List api_Message) (x282 : Int) (x283 : Int), s = (l281, x282, x283) ∧ Has 63 [(0, .slice A1 l281.length c2), (1, .int .i64 a4), (2, .func (.func 76) #[] #[]), (6, .int .i64 20), (7, .int .i64 x282), (8, .int .i64 x283)] a ∧ St B w (OSf E_api_Message 48 (.slice A1 l281.length c2) l281 :: l) hf) ?_ (s0 := (a3, 0, 20)) h ⟨a3, 0, 20, rfl, ha.to ⟨rfl, rfl, rfl, rfl, rfl, rfl, trivial⟩, hS⟩
  rintro G292 _ a w ⟨l281, x282, x283, rfl, ha, hS⟩ h
  revert a
  show RC _ _ _ _ _ _
  refine RC.seq (sr (pn 3 rfl (ln ?_)))
  refine RC.iteP 13 rfl h (fun hc294 h => ?_) fun hc294 h => ?_
  next =>
   refine RC.condT rfl (sk (RC.block (sr (pn 4 rfl ?_))))
   obtain ⟨t295, hg296, h⟩ := h.bind
   have hc := slices_insertionSortCmpFunc_api_Message.ok hg296 hS
   refine RL.e (OW.callF (ls := [.tmp 14, .tmp 15, .tmp 16, .tmp 17]) rfl call130 hc) rfl rfl ?_
   rintro _ w ⟨rfl, hS⟩
   have he297 := (hS.osN 0 rfl).1
   have hS : St B w (_ :: l) hf := (congrArg (fun k_ : Nat => St B w (OSf E_api_Message 48 (.slice A1 k_ c2) t295 :: l) hf) he297).mp hS
   refine RL.re 0 rfl (congrArg (fun k_ : Nat => (.slice A1 k_ c2 : Value)) he297) (RL.re 14 rfl (congrArg (fun k_ : Nat => (.slice A1 k_ c2 : Value)) he297) (lnsr (pn 2 rfl (ln (RC.region (pn 4 rfl (RL.nil (RQ.inB_n ?_))))))))
   exact fun a ha => ⟨(t295, x283, IntKind.i64.wrap (x283 + 20)), ⟨t295, x283, (IntKind.i64.wrap (x283 + 20)), rfl, ha.to ⟨rfl, rfl, rfl, rfl, rfl, rfl, trivial⟩, hS⟩, h.some⟩
  refine RC.condF rfl (RC.exit (RQ.exitT ?_))
  have h := h.inr
  refine RQ.exitT (RQ.inB_hit (tsr (pn 4 rfl ?_)))
  obtain ⟨t298, hg299, h⟩ := h.bind
  have hc := slices_insertionSortCmpFunc_api_Message.ok hg299 hS
  refine RL.e (OW.callF (ls := [.tmp 23, .tmp 24, .tmp 25, .tmp 26]) rfl call130 hc) rfl rfl ?_
  rintro _ w ⟨rfl, hS⟩
  have he300 := (hS.osN 0 rfl).1
  have hS : St B w (_ :: l) hf := (congrArg (fun k_ : Nat => St B w (OSf E_api_Message 48 (.slice A1 k_ c2) t298 :: l) hf) he300).mp hS
  refine RL.re 0 rfl (congrArg (fun k_ : Nat => (.slice A1 k_ c2 : Value)) he300) (RL.re 23 rfl (congrArg (fun k_ : Nat => (.slice A1 k_ c2 : Value)) he300) (ln (RC.block ?_)))
  refine fun a ha => RC.loop (N := 63) (body := (slices_stableCmpFunc_api_Message.l21b a3 a4)) (φ := (· = r)) (fun (s : List api_Message × Int) a w => ∃ (l364 : List api_Message) (x365 : Int), s = (l364, x365) ∧ Has 63 [(0, .slice A1 l364.length c2), (1, .int .i64 a4), (2, .func (.func 76) #[] #[]), (6, .int .i64 x365)] a ∧ St B w (OSf E_api_Message 48 (.slice A1 l364.length c2) l364 :: l) hf) ?_ (s0 := (t298, 20)) h ⟨t298, 20, rfl, ha.to ⟨rfl, rfl, rfl, rfl, trivial⟩, hS⟩
  rintro G429 _ a w ⟨l364, x365, rfl, ha, hS⟩ h
  revert a
  show RC _ _ _ _ _ _
  refine RC.seq (sr (pn 3 rfl (ln ?_)))
  refine RC.iteP 30 rfl h (fun hc431 h => ?_) fun hc431 h => ?_
  next =>
   refine RC.condT rfl (sk (RC.block (sr (pn 4 rfl (ln (RC.seq (RC.block ?_)))))))
   refine fun a ha => RC.loop (N := 63) (body := (slices_stableCmpFunc_api_Message.l23b a4 x365)) (φ := (Sum.elim G429 (· = r))) (fun (s : List api_Message × Int × Int) a w => ∃ (l465 : List api_Message) (x466 : Int) (x467 : Int), s = (l465, x466, x467) ∧ Has 63 [(0, .slice A1 l465.length c2), (1, .int .i64 a4), (2, .func (.func 76) #[] #[]), (6, .int .i64 x365), (7, .int .i64 x466), (8, .int .i64 x467)] a ∧ St B w (OSf E_api_Message 48 (.slice A1 l465.length c2) l465 :: l) hf) ?_ (s0 := (l364, 0, IntKind.i64.wrap (2 * x365))) h ⟨l364, 0, (IntKind.i64.wrap (2 * x365)), rfl, ha.to ⟨rfl, rfl, rfl, rfl, rfl, rfl, trivial⟩, hS⟩
   rintro G476 _ a w ⟨l465, x466, x467, rfl, ha, hS⟩ h
   revert a
   show RC _ _ _ _ _ _
   refine RC.seq (sr (pn 3 rfl (ln ?_)))
   refine RC.iteP 35 rfl h (fun hc478 h => ?_) fun hc478 h => ?_
   next =>
    refine RC.condT rfl (sk (RC.block (sr (pn 7 rfl ?_))))
    obtain ⟨t479, hg480, h⟩ := h.bind
    have hc := slices_symMergeCmpFunc_api_Message.ok hg480 hS
    refine RL.e (OW.callF (ls := [.tmp 36, .tmp 37, .tmp 40, .tmp 41, .tmp 42]) rfl call131 hc) rfl rfl ?_
    rintro _ w ⟨rfl, hS⟩
    have he481 := (hS.osN 0 rfl).1
    have hS : St B w (_ :: l) hf := (congrArg (fun k_ : Nat => St B w (OSf E_api_Message 48 (.slice A1 k_ c2) t479 :: l) hf) he481).mp hS
    refine RL.re 0 rfl (congrArg (fun k_ : Nat => (.slice A1 k_ c2 : Value)) he481) (RL.re 36 rfl (congrArg (fun k_ : Nat => (.slice A1 k_ c2 : Value)) he481) (lnsr (pn 2 rfl (ln (RC.region (pn 5 rfl (RL.nil (RQ.inB_n ?_))))))))
    exact fun a ha => ⟨(t479, x467, IntKind.i64.wrap (x467 + (IntKind.i64.wrap (2 * x365)))), ⟨t479, x467, (IntKind.i64.wrap (x467 + (IntKind.i64.wrap (2 * x365)))), rfl, ha.to ⟨rfl, rfl, rfl, rfl, rfl, rfl, trivial⟩, hS⟩, h.some⟩
   refine RC.condF rfl (RC.exit (RQ.exitT ?_))
   have h := h.inr
   refine RQ.exitT (RQ.inB_hit (RQ.then_n ?_))
   refine RC.join (fun (s : List api_Message) a w => ∃ (l486 : List api_Message), s = (l486) ∧ Has 63 [(0, .slice A1 l486.length c2), (1, .int .i64 a4), (2, .func (.func 76) #[] #[]), (6, .int .i64 x365)] a ∧ St B w (OSf E_api_Message 48 (.slice A1 l486.length c2) l486 :: l) hf ∧ Holds (Sum.elim G429 (· = r)) (slices_stableCmpFunc_api_Message.j24 x365 l486)) ?_ ?_
   · rintro l486 a w ⟨_, rfl, ha, hS, h⟩
     revert a
     show RC _ _ _ _ _ _
     refine RC.region (pn 3 rfl (RL.nil (RQ.inB_n ?_)))
     exact fun a ha => ⟨(l486, IntKind.i64.wrap (x365 * 2)), ⟨l486, (IntKind.i64.wrap (x365 * 2)), rfl, ha.to ⟨rfl, rfl, rfl, rfl, trivial⟩, hS⟩, h.some⟩
   refine sr (pn 4 rfl (lnsr (pn 3 rfl (ln ?_))))
   refine RC.iteP 54 rfl h (fun hc487 h => ?_) fun hc487 h => ?_
   next =>
    refine RC.condT rfl (RC.region (pn 5 rfl ?_))
    obtain ⟨t488, hg489, h⟩ := h.bind
    have hc := slices_symMergeCmpFunc_api_Message.ok hg489 hS
    refine RL.e (OW.callF (ls := [.tmp 55, .tmp 56, .tmp 57, .tmp 58, .tmp 59]) rfl call131 hc) rfl rfl ?_
    rintro _ w ⟨rfl, hS⟩
    have he490 := (hS.osN 0 rfl).1
    have hS : St B w (_ :: l) hf := (congrArg (fun k_ : Nat => St B w (OSf E_api_Message 48 (.slice A1 k_ c2) t488 :: l) hf) he490).mp hS
    refine RL.re 0 rfl (congrArg (fun k_ : Nat => (.slice A1 k_ c2 : Value)) he490) (RL.re 55 rfl (congrArg (fun k_ : Nat => (.slice A1 k_ c2 : Value)) he490) (RL.nil ?_))
    exact fun a ha => ⟨(t488), t488, rfl, ha.to ⟨rfl, rfl, rfl, rfl, trivial⟩, hS, h⟩
   refine RC.condF rfl (RC.skip ?_)
   exact fun a ha => ⟨(l465), l465, rfl, ha.to ⟨rfl, rfl, rfl, rfl, trivial⟩, hS, h⟩
  refine RC.condF rfl (RC.exit (RQ.exitT ?_))
  have h := h.inr
  refine RQ.exitT (RQ.inB_hit ?_)
  obtain ⟨hq491, h⟩ := h.req
  have hS : St B w (_ :: l) hf := (congrArg (fun k_ : Nat => St B w (OSf E_api_Message 48 (.slice A1 k_ c2) l364 :: l) hf) hq491).mp hS
  obtain rfl := h.some
  exact rtE results125 rfl ⟨rfl, hS⟩
def slices_SortStableFunc_api_Message_api_Message.f (a3 : List api_Message) : Option (List api_Message) := ((slices_stableCmpFunc_api_Message.f a3 (a3.length : Int)).bind fun t7 => (if t7.length = a3.length then some t7 else none))
theorem slices_SortStableFunc_api_Message_api_Message.ok {a3 : List api_Message} {A1 : Option Addr} {c2 : Nat} {r : List api_Message} (h : slices_SortStableFunc_api_Message_api_Message.f a3 = some r) (hS : St B w (OSf E_api_Message 48 (.slice A1 a3.length c2) a3 :: l) hf) :
    Calls prog 109 #[.slice A1 a3.length c2, .func (.func 76) #[] #[]] w (Ret fun v w => v = .tuple #[] ∧ St B w (OSf E_api_Message 48 (.slice A1 a3.length c2) r :: l) hf) := by
  have h := Holds.of h
  refine en func109 rfl ntmps109 rfl (RC.region (pn 2 rfl (RL.s (Vl.lenSl underlying39 rfl) rfl (pn 1 rfl ?_))))
  obtain ⟨t7, hg8, h⟩ := h.bind
  have hc := slices_stableCmpFunc_api_Message.ok hg8 hS
  refine RL.e (OW.callF (ls := [.tmp 4, .tmp 6, .tmp 7]) rfl call125 hc) rfl rfl ?_
  rintro _ w ⟨rfl, hS⟩
  have he9 := (hS.osN 0 rfl).1
  have hS : St B w (_ :: l) hf := (congrArg (fun k_ : Nat => St B w (OSf E_api_Message 48 (.slice A1 k_ c2) t7 :: l) hf) he9).mp hS
  refine RL.re 0 rfl (congrArg (fun k_ : Nat => (.slice A1 k_ c2 : Value)) he9) (RL.re 4 rfl (congrArg (fun k_ : Nat => (.slice A1 k_ c2 : Value)) he9) (RL.re 5 rfl (congrArg (fun k_ : Nat => (.slice A1 k_ c2 : Value)) he9) (RL.nil ?_)))
  obtain ⟨hq10, h⟩ := h.req
  have hS : St B w (_ :: l) hf := (congrArg (fun k_ : Nat => St B w (OSf E_api_Message 48 (.slice A1 k_ c2) t7 :: l) hf) hq10).mp hS
  obtain rfl := h.some
  exact rtE results109 rfl ⟨rfl, hS⟩
def event_sorted_api_Message.f (a1 : List api_Message) : Option (List api_Message) := ((slices_Clone_api_Message_api_Message.f a1).bind fun t16 => ((slices_SortStableFunc_api_Message_api_Message.f t16).bind fun t20 => some t20))
theorem event_sorted_api_Message.ok {a1 : List api_Message} {A2 : Option Addr} {c3 : Nat} (hr4 : SlR E_api_Message.rep hf A2 c3 a1) {r : List api_Message} (h : event_sorted_api_Message.f a1 = some r) (hS : St B w (l) hf) :
    Calls prog 75 #[.slice A2 a1.length c3, .func (.func 76) #[] #[]] w (Ret fun v w => ∃ (A_1 : Option Addr) (c_2 : Nat), v = .slice A_1 r.length c_2 ∧ St B w (OSf E_api_Message 48 (.slice A_1 r.length c_2) r :: l) hf) := by
  have h := Holds.of h
  refine en func75 rfl ntmps75 rfl (sr (pn 1 rfl (lnsr (pn 1 rfl (cF (fun _ hg => slices_Clone_api_Message_api_Message.ok hr4 hg hS) call108 h rfl rfl rfl ?_)))))
  rintro t16 h _ w ⟨A18, c19, rfl, hS⟩
  refine pn 1 rfl (lnsr (pn 2 rfl ?_))
  obtain ⟨t20, hg21, h⟩ := h.bind
  have hc := slices_SortStableFunc_api_Message_api_Message.ok hg21 hS
  refine RL.e (OW.callF (ls := [.tmp 8, .tmp 9]) rfl call109 hc) rfl rfl ?_
  rintro _ w ⟨rfl, hS⟩
  have he22 := (hS.osN 0 rfl).1
  have hS : St B w (_ :: l) hf := (congrArg (fun k_ : Nat => St B w (OSf E_api_Message 48 (.slice A18 k_ c19) t20 :: l) hf) he22).mp hS
  refine RL.re 7 rfl (congrArg (fun k_ : Nat => (.slice A18 k_ c19 : Value)) he22) (RL.re 5 rfl (congrArg (fun k_ : Nat => (.slice A18 k_ c19 : Value)) he22) (RL.re 8 rfl (congrArg (fun k_ : Nat => (.slice A18 k_ c19 : Value)) he22) (lnsr (pn 2 rfl (lr ?_)))))
  obtain rfl := h.some
  exact rt results75 rfl ⟨A18, c19, rfl, hS⟩
def event_Sorted.f (a1 : List api_Message) : Option (List api_Message) := ((event_sorted_api_Message.f a1).bind fun t9 => some t9)
theorem event_Sorted.ok {a1 : List api_Message} {A2 : Option Addr} {c3 : Nat} (hr4 : SlR E_api_Message.rep hf A2 c3 a1) {r : List api_Message} (h : event_Sorted.f a1 = some r) (hS : St B w (l) hf) :
    Calls prog 34 #[.slice A2 a1.length c3] w (Ret fun v w => ∃ (A_1 : Option Addr) (c_2 : Nat), v = .slice A_1 r.length c_2 ∧ St B w (OSf E_api_Message 48 (.slice A_1 r.length c_2) r :: l) hf) := by
  have h := Holds.of h
  refine en func34 rfl ntmps34 rfl (sr (pn 1 rfl (lnsr (pn 1 rfl (cF (fun _ hg => event_sorted_api_Message.ok hr4 hg hS) call75 h rfl rfl rfl ?_)))))
  rintro t9 h _ w ⟨A11, c12, rfl, hS⟩
  refine pn 1 rfl (lr ?_)
  obtain rfl := h.some
  exact rt results34 rfl ⟨A11, c12, rfl, hS⟩
def heap_Heap_All.f (a2 : heap_Heap) : Option (List api_Message) := ((heap_Heap_none.f a2).bind fun _ => ((event_Sorted.f a2.p_l).bind fun t27 => some t27))
theorem heap_Heap_All.ok {a2 : heap_Heap} {b1 : Nat} {r : List api_Message} (h : heap_Heap_All.f a2 = some r) (hS : St B w (O_heap_Heap hf a2 b1 :: l) hf) :
    Calls prog 192 #[.pointer (some ⟨b1, 0, none⟩)] w (Ret fun v w => ∃ (A_1 : Option Addr) (c_2 : Nat), v = .slice A_1 r.length c_2 ∧ St B w (OSf E_api_Message 48 (.slice A_1 r.length c_2) r :: O_heap_Heap hf a2 b1 :: l) hf) := by
  have h := Holds.of h
  refine en func192 rfl ntmps192 rfl (sr (pn 1 rfl (ln (RC.seq (sr (pn 1 rfl (cF (fun _ hg => heap_Heap_none.ok hg hS) call198 h rfl rfl rfl ?_)))))))
  rintro _ h _ w ⟨rfl, hS⟩
  refine ln (RC.condF rfl (sk (sr (pn 2 rfl (RL.s (Vl.fa 0 underlying245 rfl sizeOf243 rfl rfl) rfl (RL.s (Vl.fa 0 underlying243 rfl sizeOf39 rfl rfl) rfl ?_))))))
  obtain ⟨A21, c22, hS⟩ := O_heap_Heap.o hS
  refine RL.s (Vl.ld 0 hS isAgg39 rfl rfl rfl) rfl ?_
  obtain ⟨hf26, hs24, hS, hr23, hb25⟩ := St.lendSl hS.p1
  obtain ⟨t27, hg28, h⟩ := h.bind
  have hc := event_Sorted.ok hr23 hg28 hS
  refine RL.e (OW.callF (ls := [.tmp 9]) rfl call34 hc) rfl rfl ?_
  rintro _ w ⟨A29, c30, rfl, hS⟩
  have hS := hb25 _ _ hS
  have hS : St B w (_ :: _ :: _ :: l) hf := hS
  refine pn 1 rfl (lr ?_)
  have hS := O_heap_Heap.c (x := a2) hS.p2
  obtain rfl := h.some
  exact rt results192 rfl ⟨A29, c30, rfl, hS.p1⟩
def pend_Pend_All.f (a2 : pend_Pend) : Option (List api_Message) := ((pend_Pend_none.f a2).bind fun _ => ((heap_Heap_All.f a2.q).bind fun t17 => some t17))
theorem pend_Pend_All.ok {a2 : pend_Pend} {b1 : Nat} {r : List api_Message} (h : pend_Pend_All.f a2 = some r) (hS : St B w (O_pend_Pend hf a2 b1 :: l) hf) :
    Calls prog 46 #[.pointer (some ⟨b1, 0, none⟩)] w (Ret fun v w => ∃ (A_1 : Option Addr) (c_2 : Nat), v = .slice A_1 r.length c_2 ∧ St B w (OSf E_api_Message 48 (.slice A_1 r.length c_2) r :: O_pend_Pend hf a2 b1 :: l) hf) := by
  have h := Holds.of h
  refine en func46 rfl ntmps46 rfl (sr (pn 1 rfl (ln (RC.seq (sr (pn 1 rfl (cF (fun _ hg => pend_Pend_none.ok hg hS) call93 h rfl rfl rfl ?_)))))))
  rintro _ h _ w ⟨rfl, hS⟩
  refine ln (RC.condF rfl (sk (sr (pn 2 rfl (RL.s (Vl.fa 0 underlying155 rfl sizeOf152 rfl rfl) rfl ?_)))))
  obtain ⟨b16, hS⟩ := O_pend_Pend.o hS
  refine RL.s (Vl.ld 0 hS isAgg152 rfl rfl rfl) rfl ?_
  obtain ⟨t17, hg18, h⟩ := h.bind
  have hc := heap_Heap_All.ok hg18 hS.p1
  refine RL.e (OW.invoke (F := 192) (u' := .pointer (some ⟨b16, 0, none⟩)) (ls := []) rfl rfl (fun w => by kernel_rfl) call192 rfl hc) rfl rfl ?_
  rintro _ w ⟨A19, c20, rfl, hS⟩
  refine pn 1 rfl (lr ?_)
  have hS := O_pend_Pend.c (x := a2) hS.p1.p2
  obtain rfl := h.some
  exact rt results46 rfl ⟨A19, c20, rfl, hS.p1⟩
def lane_Lane_Waiting.f (a2 : lane_Lane) : Option (List api_Message) := ((lane_Lane_none.f a2).bind fun _ => ((pend_Pend_All.f a2.wait).bind fun t55 => some t55))
theorem lane_Lane_Waiting.ok {a2 : lane_Lane} {b1 : Nat} {r : List api_Message} (h : lane_Lane_Waiting.f a2 = some r) (hS : St B w (O_lane_Lane hf a2 b1 :: l) hf) :
    Calls prog 13 #[.pointer (some ⟨b1, 0, none⟩)] w (Ret fun v w => ∃ (A_1 : Option Addr) (c_2 : Nat), v = .slice A_1 r.length c_2 ∧ St B w (OSf E_api_Message 48 (.slice A_1 r.length c_2) r :: O_lane_Lane hf a2 b1 :: l) hf) := by
  have h := Holds.of h
  refine en func13 rfl ntmps13 rfl (sr (pn 1 rfl (ln (RC.seq (sr (pn 1 rfl (cF (fun _ hg => lane_Lane_none.ok hg hS) call45 h rfl rfl rfl ?_)))))))
  rintro _ h _ w ⟨rfl, hS⟩
  refine ln (RC.condF rfl (sk (sr (pn 2 rfl (RL.s (Vl.fa 12 underlying61 rfl sizeOf52 rfl rfl) rfl ?_)))))
  obtain ⟨A35, c36, A38, c39, A41, c42, A44, c45, b47, b48, A49, c50, A51, c52, b53, b54, hr37, hr40, hr43, hr46, hS⟩ := O_lane_Lane.o hS
  refine RL.s (Vl.ld 0 hS isAgg52 rfl rfl rfl) rfl (cF (fun _ hg => pend_Pend_All.ok hg hS.p2) call46 h rfl rfl rfl ?_)
  rintro t55 h _ w ⟨A57, c58, rfl, hS⟩
  refine pn 1 rfl (lr ?_)
  have hS := O_lane_Lane.c (x := a2) hr37 hr40 hr43 hr46 hS.p7.p7.p7.p7.p5.p7.p7
  obtain rfl := h.some
  exact rt results13 rfl ⟨A57, c58, rfl, hS.p1⟩
def log_Log_states.f (a2 : log_Log) (a3 : Int) : Option (Int) := some a3
theorem log_Log_states.ok {a2 : log_Log} {a3 : Int} {b1 : Nat} {r : Int} (h : log_Log_states.f a2 a3 = some r) (hS : St B w (O_log_Log hf a2 b1 :: l) hf) :
    Calls prog 95 #[.pointer (some ⟨b1, 0, none⟩), .int .i64 a3] w (Ret fun v w => ∃ (b_1 : Nat) (b_2 : Nat), v = .func (.func 121) #[] #[.pointer (some ⟨b_1, 0, none⟩), .pointer (some ⟨b_2, 0, none⟩)] ∧ St B w (Cl b_1 [.int .i64 r] 3 :: Cl b_2 [.pointer (some ⟨b1, 0, none⟩)] 51 :: O_log_Log hf a2 b1 :: l) hf) := by
  have h := Holds.of h
  refine en func95 rfl ntmps95 rfl (sr (bx hS rfl rfl rfl rfl fun b6 w hS => bx hS rfl rfl rfl rfl fun b7 w hS => pn 1 rfl (lnsr (RL.s (Vl.makeFunc (fi := []) (ca := [.tmp 3, .tmp 2]) rfl rfl) rfl (pn 1 rfl (lr ?_))))))
  obtain rfl := h.some
  exact rt results95 rfl ⟨b7, b6, rfl, hS⟩
def log_done_entry.f (a1 : log_done) (a7 : api_State) : Option (api_Entry) := (if (([] : List api_Message).length + a1.sent.length) * 56 ≤ 140737488355328 then some (⟨a1.event, a7, a1.fault, (([] : List api_Message) ++ a1.sent)⟩ : api_Entry) else none)
theorem log_done_entry.ok {a1 : log_done} {a7 : api_State} {A2 : Option Addr} {c3 b5 : Nat} (hr4 : SlR E_api_Message.rep hf A2 c3 a1.sent) (hr6 : PtR E_api_State hf b5 70 a1.ahead) {r : api_Entry} (h : log_done_entry.f a1 a7 = some r) (hS : St B w (l) hf) :
    Calls prog 96 #[.agg (C_log_done a1 A2 c3 b5).toArray, .agg (C_api_State a7).toArray] w (Ret fun v w => ∃ (A_1 : Option Addr) (c_2 : Nat), v = .agg (C_api_Entry r A_1 c_2).toArray ∧ St B w (OSf E_api_Message 48 (.slice A_1 r.Sent.length c_2) r.Sent :: l) hf) := by
  have h := Holds.of h
  refine en func96 rfl ntmps96 rfl (sr (bx hS rfl rfl rfl rfl fun b15 w hS => bx hS rfl rfl rfl rfl fun b16 w hS => al hS zeroValue79 rfl rfl rfl fun b17 w hS => ln (RC.seq (RC.planS (plD [0, 4, 7, 9, 13, 17, 20, 23, 26, 29]) [8, 9] hS (fun w hS => hS) follows rfl (by kernel_rfl) (NoTmp.then NoTmp.body) fun w hS => RP.s0 0 rfl (fun w => Vl.fa 0 underlying176 rfl sizeOf48 rfl rfl) rfl (RP.s 0 1 rfl rfl hS (fun w hS => Vl.loadA (vs := (C_api_Message a1.event)) isAgg48 sizeOf48 rfl rfl (hS.cellsAt 2 rfl rfl)) rfl (RP.s 0 2 rfl rfl hS (fun w hS => Vl.lw 1 hS isAgg70 sizeOf70 rfl rfl rfl) rfl (RP.s0 3 rfl (fun w => Vl.fa 7 underlying176 rfl sizeOf29 rfl rfl) rfl (RP.s 0 4 rfl rfl hS (fun w hS => Vl.ld 2 hS isAgg29 rfl rfl rfl) rfl (RP.v1 5 rfl (Vl.fa 8 underlying176 rfl sizeOf39 rfl rfl) rfl rfl ?_)))))))))
  refine RP.v1 6 rfl (Vl.ld 2 hS isAgg39 rfl rfl rfl) rfl rfl ?_
  obtain ⟨hq18, h⟩ := h.req
  have hS := hS.nilSl E_api_Message 48
  refine RP.e 7 rfl (OW.appendV (E := E_api_Message) (xs := ([] : List api_Message)) (ys := a1.sent) 0 hS rfl underlying39 type48 rfl rfl rfl rfl (by decide) (by decide) rfl rfl (hr4.2.world hS.sub) hq18 rfl) rfl rfl ?_
  rintro v21 w hS
  obtain ⟨A19, c20, rfl, _⟩ := hS.osShape 0 rfl
  have hS : St B w (_ :: _ :: _ :: _ :: l) hf := hS
  refine ⟨kp ⟨fun _ => hS.d0, trivial⟩, ?_⟩
  refine RP.v1 8 rfl (Vl.build (v := .agg #[.int .i64 a1.event.Key.Time, .int .i64 a1.event.Key.From, .int .i64 a1.event.Key.Seq, .int .i64 a1.event.To, .int .i64 a1.event.Value, .int .i64 a1.event.Uid, .bool a1.event.Anti, .int .i64 a7.Regs.c0, .int .i64 a7.Regs.c1, .int .i64 a7.Regs.c2, .int .i64 a7.Regs.c3, .int .i64 a7.Regs.c4, .int .i64 a7.Regs.c5, .int .i64 a7.Regs.c6, .int .i64 a7.Regs.c7, .int .i64 a7.Draws, .int .i64 a7.Sent, .int .i64 a1.fault, .slice A19 (([] : List api_Message) ++ a1.sent).length c20]) (parts := [(0, .tmp 6), (1, .tmp 7), (2, .tmp 9), (3, .tmp 12)]) rfl (by kernel_rfl)) rfl rfl (RP.e0 9 rfl (OW.store (vs := [.int .i64 a1.event.Key.Time, .int .i64 a1.event.Key.From, .int .i64 a1.event.Key.Seq, .int .i64 a1.event.To, .int .i64 a1.event.Value, .int .i64 a1.event.Uid, .bool a1.event.Anti, .int .i64 a7.Regs.c0, .int .i64 a7.Regs.c1, .int .i64 a7.Regs.c2, .int .i64 a7.Regs.c3, .int .i64 a7.Regs.c4, .int .i64 a7.Regs.c5, .int .i64 a7.Regs.c6, .int .i64 a7.Regs.c7, .int .i64 a7.Draws, .int .i64 a7.Sent, .int .i64 a1.fault, .slice A19 (([] : List api_Message) ++ a1.sent).length c20]) 1 hS rfl rfl rfl rfl sizeOf79 rfl rfl rfl rfl) rfl ?_)
  rintro _ w ⟨rfl, hS⟩
  have hS : St B w (_ :: Cl _ [_, _, _, _, _, _, _, _, _, _, _, _, _, _, _, _, _, _, _] _ :: _ :: _ :: l) hf := hS
  refine ⟨kp ⟨(by intro hx; cases hx), trivial⟩, ?_⟩
  refine RP.nil (tr ?_)
  obtain rfl := h.some
  refine RQ.ret0 (vs := [.agg #[.int .i64 a1.event.Key.Time, .int .i64 a1.event.Key.From, .int .i64 a1.event.Key.Seq, .int .i64 a1.event.To, .int .i64 a1.event.Value, .int .i64 a1.event.Uid, .bool a1.event.Anti, .int .i64 a7.Regs.c0, .int .i64 a7.Regs.c1, .int .i64 a7.Regs.c2, .int .i64 a7.Regs.c3, .int .i64 a7.Regs.c4, .int .i64 a7.Regs.c5, .int .i64 a7.Regs.c6, .int .i64 a7.Regs.c7, .int .i64 a7.Draws, .int .i64 a7.Sent, .int .i64 a1.fault, .slice A19 (([] : List api_Message) ++ a1.sent).length c20]]) results96 ⟨⟨_, rfl, run_loadVarA (vs := [.int .i64 a1.event.Key.Time, .int .i64 a1.event.Key.From, .int .i64 a1.event.Key.Seq, .int .i64 a1.event.To, .int .i64 a1.event.Value, .int .i64 a1.event.Uid, .bool a1.event.Anti, .int .i64 a7.Regs.c0, .int .i64 a7.Regs.c1, .int .i64 a7.Regs.c2, .int .i64 a7.Regs.c3, .int .i64 a7.Regs.c4, .int .i64 a7.Regs.c5, .int .i64 a7.Regs.c6, .int .i64 a7.Regs.c7, .int .i64 a7.Draws, .int .i64 a7.Sent, .int .i64 a1.fault, .slice A19 (([] : List api_Message) ++ a1.sent).length c20]) isAgg79 sizeOf79 rfl (hS.cellsAt 1 rfl rfl)⟩, trivial⟩ ?_
  exact ⟨A19, c20, rfl, hS.d1.d1.d1⟩
end
end Go.Proofs.Gx
