/-
  The walks of functions, each with what it computes: printed by wip/gx.py.
-/
import Derived.Test.YtofgeidjbfmmdaaGreatDoorW0
import Derived.Test.YtofgeidjbfmmdaaGreatDoorW4
set_option linter.unusedVariables false
set_option maxRecDepth 100000
set_option maxHeartbeats 4000000
namespace Go.Proofs.Gx
open Go.Sl Tryz
variable {B : Base} {w : World} {l : List HProp} {hf : Hp}
/-! ### slices.Clone[[]isochron/api.Message,isochron/api.Message]: function 53 -/
noncomputable def slices_Clone_api_Message_api_Message_2.f (a1 : List api_Message) : Option (Unit) := some ()
theorem slices_Clone_api_Message_api_Message_2.ok {a1 : List api_Message} {c3 : Nat} (hr4 : SlR E_api_Message.rep hf none c3 a1) {r : Unit} (h : slices_Clone_api_Message_api_Message_2.f a1 = some r) (hS : St B w (l) hf) :
    Calls prog 53 #[.slice none a1.length c3] w (Ret fun v w => v = .slice none 0 0 ∧ St B w (l) hf) := by
  have h := Holds.of h
  refine en func53 rfl ntmps53 rfl (sr (pn 1 rfl (ln (RC.seq (sr (pn 1 rfl (RL.s (Vl.bin (v := .bool true) rfl rfl (by kernel_rfl)) rfl (ln (RC.condT rfl (sr ?_))))))))))
  refine pn 1 rfl (lr (RQ.ret ?_))
  exact rt results53 rfl ⟨rfl, hS⟩

/-! ### slices.Clone[[]isochron/api.Message,isochron/api.Message]: function 53 -/
noncomputable def slices_Clone_api_Message_api_Message_3.f (a1 : List api_Message) : Option (List api_Message) := (if (([] : List api_Message).length + a1.length) * 56 ≤ 140737488355328 then some (([] : List api_Message) ++ a1) else none)
theorem slices_Clone_api_Message_api_Message_3.ok {a1 : List api_Message} {A2 : Addr} {c3 : Nat} (hr4 : SlR E_api_Message.rep hf (some A2) c3 a1) {r : List api_Message} (h : slices_Clone_api_Message_api_Message_3.f a1 = some r) (hS : St B w (l) hf) :
    Calls prog 53 #[.slice (some A2) a1.length c3] w (Ret fun v w => ∃ (A_1 : Option Addr) (c_2 : Nat), v = .slice A_1 r.length c_2 ∧ St B w (OSf E_api_Message 53 (.slice A_1 r.length c_2) r :: l) hf) := by
  have h := Holds.of h
  refine en func53 rfl ntmps53 rfl (sr (pn 1 rfl (ln (RC.seq (sr (pn 1 rfl (RL.s (Vl.bin (v := .bool false) rfl rfl (by kernel_rfl)) rfl (ln (RC.condF rfl (sk ?_))))))))))
  refine sr (RL.e (OW.build0 (E := E_api_Message) hS underlying49 zeroValue53 sizeOf53) rfl rfl ?_)
  rintro _ w ⟨b12, rfl, hS⟩
  refine pn 1 rfl ?_
  obtain ⟨hq13, h⟩ := h.req
  refine RL.e (OW.appendV (E := E_api_Message) (xs := ([] : List api_Message)) (ys := a1) 0 hS rfl underlying49 type53 rfl rfl rfl rfl (by decide) (by decide) rfl rfl (hr4.2.world hS.sub) hq13 rfl) rfl rfl ?_
  rintro v16 w hS
  obtain ⟨A14, c15, rfl, _⟩ := hS.osShape 0 rfl
  have hS : St B w (_ :: l) hf := hS
  refine pn 1 rfl (lr ?_)
  obtain rfl := h.some
  exact rt results53 rfl ⟨A14, c15, rfl, hS⟩

/-! ### slices.Clone[[]isochron/api.Message,isochron/api.Message]: function 53 -/
noncomputable def slices_Clone_api_Message_api_Message.f (a5 : List api_Message) : Option (List api_Message) := slices_Clone_api_Message_api_Message_3.f a5
theorem slices_Clone_api_Message_api_Message.ok {a5 : List api_Message} {A6 : Option Addr} {c7 : Nat} (hr8 : SlR E_api_Message.rep hf A6 c7 a5) {r : List api_Message} (h : slices_Clone_api_Message_api_Message.f a5 = some r) (hS : St B w (l) hf) :
    Calls prog 53 #[.slice A6 a5.length c7] w (Ret fun v w => ∃ (A_1 : Option Addr) (c_2 : Nat), v = .slice A_1 r.length c_2 ∧ St B w (OSf E_api_Message 53 (.slice A_1 r.length c_2) r :: l) hf) := by
  cases A6 with
  | some b => exact slices_Clone_api_Message_api_Message_3.ok hr8 h hS
  | none =>
    have e : a5 = [] := by
      cases a5 with
      | nil => rfl
      | cons x xs => have := (hr8.2 0 (Nat.succ_pos _)).1; cases this
    subst e
    have e : r = [] := by
      unfold slices_Clone_api_Message_api_Message.f slices_Clone_api_Message_api_Message_3.f at h
      simp at h
      first | exact h | exact h.symm
    subst e
    refine (slices_Clone_api_Message_api_Message_2.ok hr8 (r := ()) rfl hS).mono fun e w he => ?_
    cases e with
    | returned v => obtain ⟨rfl, hS⟩ := he; exact ⟨none, 0, rfl, hS.nilSl E_api_Message 53⟩
    | panicked c => exact he.elim
    | outgrown => exact he.elim

/-! ### slices.insertionSortCmpFunc[isochron/api.Message]: function 86 -/
noncomputable def slices_insertionSortCmpFunc_api_Message.l14b (a4 x612 : Int) : List api_Message × Int → Option ((List api_Message × Int) ⊕ ((List api_Message × Int) ⊕ (List api_Message)))
  | (l865, x866) => (if a4 < x866 then (if 0 ≤ x866 ∧ x866 < (l865.length : Int) then (if 0 ≤ IntKind.i64.wrap (x866 - 1) ∧ IntKind.i64.wrap (x866 - 1) < (l865.length : Int) then ((event_order.f (⟨(nth l865 x866).Key, (nth l865 x866).To, (nth l865 x866).Value, (nth l865 x866).Uid, ((nth l865 x866).Anti)⟩ : api_Message) (⟨(nth l865 (IntKind.i64.wrap (x866 - 1))).Key, (nth l865 (IntKind.i64.wrap (x866 - 1))).To, (nth l865 (IntKind.i64.wrap (x866 - 1))).Value, (nth l865 (IntKind.i64.wrap (x866 - 1))).Uid, ((nth l865 (IntKind.i64.wrap (x866 - 1))).Anti)⟩ : api_Message)).bind fun t905 => (if t905 < 0 then (if IntKind.i64.wrap (x866 - 1) < ((setL l865 x866 (⟨(nth l865 (IntKind.i64.wrap (x866 - 1))).Key, (nth l865 (IntKind.i64.wrap (x866 - 1))).To, (nth l865 (IntKind.i64.wrap (x866 - 1))).Value, (nth l865 (IntKind.i64.wrap (x866 - 1))).Uid, ((nth l865 (IntKind.i64.wrap (x866 - 1))).Anti)⟩ : api_Message)).length : Int) then some (.inl ((setL (setL l865 x866 (⟨(nth l865 (IntKind.i64.wrap (x866 - 1))).Key, (nth l865 (IntKind.i64.wrap (x866 - 1))).To, (nth l865 (IntKind.i64.wrap (x866 - 1))).Value, (nth l865 (IntKind.i64.wrap (x866 - 1))).Uid, ((nth l865 (IntKind.i64.wrap (x866 - 1))).Anti)⟩ : api_Message)) (IntKind.i64.wrap (x866 - 1)) (⟨(nth l865 x866).Key, (nth l865 x866).To, (nth l865 x866).Value, (nth l865 x866).Uid, ((nth l865 x866).Anti)⟩ : api_Message)), IntKind.i64.wrap (x866 - 1))) else none) else some (.inr (.inl (l865, IntKind.i64.wrap (x612 + 1)))))) else none) else none) else some (.inr (.inl (l865, IntKind.i64.wrap (x612 + 1)))))
noncomputable def slices_insertionSortCmpFunc_api_Message.l14 (a4 x612 : Int) (s : List api_Message × Int) : Option ((List api_Message × Int) ⊕ (List api_Message)) := loopR (slices_insertionSortCmpFunc_api_Message.l14b a4 x612) s
noncomputable def slices_insertionSortCmpFunc_api_Message.l12b (a3 : List api_Message) (a4 a5 : Int) : List api_Message × Int → Option ((List api_Message × Int) ⊕ (List api_Message))
  | (l611, x612) => (if x612 < a5 then slices_insertionSortCmpFunc_api_Message.l14 a4 x612 (l611, x612) else (Option.map Sum.inr (if l611.length = a3.length then some l611 else none)))
noncomputable def slices_insertionSortCmpFunc_api_Message.l12 (a3 : List api_Message) (a4 a5 : Int) (s : List api_Message × Int) : Option (List api_Message) := loopR (slices_insertionSortCmpFunc_api_Message.l12b a3 a4 a5) s
noncomputable def slices_insertionSortCmpFunc_api_Message.f (a3 : List api_Message) (a4 a5 : Int) : Option (List api_Message) := slices_insertionSortCmpFunc_api_Message.l12 a3 a4 a5 (a3, IntKind.i64.wrap (a4 + 1))
theorem slices_insertionSortCmpFunc_api_Message.ok {a3 : List api_Message} {a4 a5 : Int} {A1 : Option Addr} {c2 : Nat} {r : List api_Message} (h : slices_insertionSortCmpFunc_api_Message.f a3 a4 a5 = some r) (hS : St B w (OSf E_api_Message 53 (.slice A1 a3.length c2) a3 :: l) hf) :
    Calls prog 86 #[.slice A1 a3.length c2, .int .i64 a4, .int .i64 a5, .func (.func 32) #[] #[]] w (Ret fun v w => v = .tuple #[] ∧ St B w (OSf E_api_Message 53 (.slice A1 a3.length c2) r :: l) hf) := by
  have h := Holds.of h
  refine en func86 rfl ntmps86 rfl (sr (pn 3 rfl (ln (RC.block ?_))))
  refine fun a ha => RC.loop (N := 53) (body := (slices_insertionSortCmpFunc_api_Message.l12b a3 a4 a5)) (φ := (· = r)) (fun (s : List api_Message × Int) a w => ∃ (l611 : List api_Message) (x612 : Int), s = (l611, x612) ∧ Has 53 [(0, .slice A1 l611.length c2), (1, .int .i64 a4), (2, .int .i64 a5), (3, .func (.func 32) #[] #[]), (8, .int .i64 x612)] a ∧ St B w (OSf E_api_Message 53 (.slice A1 l611.length c2) l611 :: l) hf) ?_ (s0 := (a3, IntKind.i64.wrap (a4 + 1))) h ⟨a3, (IntKind.i64.wrap (a4 + 1)), rfl, ha.to ⟨rfl, rfl, rfl, rfl, rfl, trivial⟩, hS⟩
  rintro G764 _ a w ⟨l611, x612, rfl, ha, hS⟩ h
  revert a
  show RC _ _ _ _ _ _
  refine RC.seq (sr (pn 3 rfl (ln ?_)))
  refine RC.iteP 14 rfl h (fun hc766 h => ?_) fun hc766 h => ?_
  next =>
   refine RC.condT rfl (sk (RC.seq (RC.block (sr (pn 2 rfl (ln (RC.block ?_)))))))
   refine fun a ha => RC.loop (N := 53) (body := (slices_insertionSortCmpFunc_api_Message.l14b a4 x612)) (φ := (Sum.elim G764 (· = r))) (fun (s : List api_Message × Int) a w => ∃ (l865 : List api_Message) (x866 : Int), s = (l865, x866) ∧ Has 53 [(0, .slice A1 l865.length c2), (1, .int .i64 a4), (2, .int .i64 a5), (3, .func (.func 32) #[] #[]), (8, .int .i64 x612), (9, .int .i64 x866)] a ∧ St B w (OSf E_api_Message 53 (.slice A1 l865.length c2) l865 :: l) hf) ?_ (s0 := (l611, x612)) h ⟨l611, x612, rfl, ha.to ⟨rfl, rfl, rfl, rfl, rfl, rfl, trivial⟩, hS⟩
   rintro G891 _ a w ⟨l865, x866, rfl, ha, hS⟩ h
   revert a
   show RC _ _ _ _ _ _
   refine RC.seq (RC.seq (RC.planS (plD [0, 3, 6, 9, 12, 15, 18, 22, 25, 27, 32, 35, 38, 41, 44, 47, 50]) [14, 15, 16] hS (fun w hS => hS) follows rfl (by kernel_rfl) (NoTmp.then (NoTmp.then (NoTmp.then (NoTmp.block (NoTmp.block (NoTmp.then (NoTmp.then (NoTmp.block NoTmp.body)))))))) fun w hS => pp 4 rfl ?_))
   refine RP.iteP 21 rfl h (fun hc900 h => ?_) fun hc900 h => ?_
   next =>
    refine pp 3 rfl ?_
    obtain ⟨⟨hq901, hq902⟩, h⟩ := h.req
    refine RP.sg 0 7 rfl rfl hS (fun w hS => Vl.indexOwn 0 hS rfl underlying49 sizeOf53 rfl rfl hq901 hq902) rfl rfl (RP.sg 0 8 rfl rfl hS (fun w hS => Vl.loadA isAgg53 sizeOf53 rfl rfl ((hS.slW 0 rfl).2.2.cells hq901 hq902)) rfl rfl (pp 1 rfl (RP.v1 10 rfl (Vl.move rfl) rfl rfl (RP.v1 11 rfl (Vl.int rfl rfl rfl) rfl rfl ?_))))
    obtain ⟨⟨hq903, hq904⟩, h⟩ := h.req
    refine RP.v1 12 rfl (Vl.indexOwn 0 hS rfl underlying49 sizeOf53 rfl rfl hq903 hq904) rfl rfl (RP.v1 13 rfl (Vl.loadA isAgg53 sizeOf53 rfl rfl ((hS.slW 0 rfl).2.2.cells hq903 hq904)) rfl rfl ?_)
    obtain ⟨t905, hg906, h⟩ := h.bind
    have hc := event_order.ok hg906 hS
    refine RP.e 14 rfl (OW.call (ls := [.tmp 26, .tmp 31]) rfl rfl call32 rfl hc) rfl rfl ?_
    rintro _ w ⟨rfl, hS⟩
    refine ⟨kp ⟨(by intro hx; cases hx), trivial⟩, ?_⟩
    refine RP.v1 15 rfl (Vl.int rfl rfl rfl) rfl rfl (RP.v1 16 rfl (Vl.pickT rfl rfl) rfl rfl (RP.nil (RQ.then_n ?_)))
    refine RC.iteP 34 rfl h (fun hc907 h => ?_) fun hc907 h => ?_
    next =>
     refine RC.condT rfl (sk (RC.seq (RC.block (RC.planS (plD [0, 3, 6, 9, 12, 15, 18, 21, 25, 28, 30, 35, 38, 41, 44, 47, 50, 53]) [14, 15, 16, 17] hS (fun w hS => hS) follows rfl (by kernel_rfl) (NoTmp.block (NoTmp.then (NoTmp.then (NoTmp.block (NoTmp.block (NoTmp.then (NoTmp.then (NoTmp.block NoTmp.body)))))))) fun w hS => pp 8 rfl (RP.s 0 8 rfl rfl hS (fun w hS => Vl.indexOwn 0 hS rfl underlying49 sizeOf53 rfl rfl hq903 hq904) rfl (RP.s 0 9 rfl rfl hS (fun w hS => Vl.loadA isAgg53 sizeOf53 rfl rfl ((hS.slW 0 rfl).2.2.cells hq903 hq904)) rfl (pp 1 rfl (RP.v1 11 rfl (Vl.move rfl) rfl rfl (RP.v1 12 rfl (Vl.indexOwn 0 hS rfl underlying49 sizeOf53 rfl rfl hq901 hq902) rfl rfl (RP.v1 13 rfl (Vl.loadA isAgg53 sizeOf53 rfl rfl ((hS.slW 0 rfl).2.2.cells hq901 hq902)) rfl rfl (RP.v1 14 rfl (Vl.indexOwn 0 hS rfl underlying49 sizeOf53 rfl rfl hq901 hq902) rfl rfl (RP.e0 15 rfl (OW.storeOwn (E := E_api_Message) (off := 0) (j := x866) (x' := (⟨(nth l865 (IntKind.i64.wrap (x866 - 1))).Key, (nth l865 (IntKind.i64.wrap (x866 - 1))).To, (nth l865 (IntKind.i64.wrap (x866 - 1))).Value, (nth l865 (IntKind.i64.wrap (x866 - 1))).Uid, ((nth l865 (IntKind.i64.wrap (x866 - 1))).Anti)⟩ : api_Message)) (vs := [.int .i64 (((nth l865 (IntKind.i64.wrap (x866 - 1))).Key).Time), .int .i64 (((nth l865 (IntKind.i64.wrap (x866 - 1))).Key).From), .int .i64 (((nth l865 (IntKind.i64.wrap (x866 - 1))).Key).Seq), .int .i64 ((nth l865 (IntKind.i64.wrap (x866 - 1))).To), .int .i64 ((nth l865 (IntKind.i64.wrap (x866 - 1))).Value), .int .i64 ((nth l865 (IntKind.i64.wrap (x866 - 1))).Uid), .bool ((nth l865 (IntKind.i64.wrap (x866 - 1))).Anti)]) 0 hS rfl rfl rfl rfl sizeOf53 rfl (Nat.succ_pos _) hq901 hq902 (Nat.le_of_ble_eq_true rfl) rfl rfl) rfl ?_))))))))))))
     rintro _ w ⟨rfl, hS⟩
     have he911 := (hS.osN 0 rfl).1
     have hS : St B w (_ :: l) hf := (congrArg (fun k_ : Nat => St B w (OSf E_api_Message 53 (.slice A1 k_ c2) (setL l865 x866 (⟨(nth l865 (IntKind.i64.wrap (x866 - 1))).Key, (nth l865 (IntKind.i64.wrap (x866 - 1))).To, (nth l865 (IntKind.i64.wrap (x866 - 1))).Value, (nth l865 (IntKind.i64.wrap (x866 - 1))).Uid, ((nth l865 (IntKind.i64.wrap (x866 - 1))).Anti)⟩ : api_Message)) :: l) hf) he911).mp hS
     refine ⟨kp ⟨(by intro hx; cases hx), trivial⟩, ?_⟩
     refine RP.re 0 rfl (congrArg (fun k_ : Nat => (.slice A1 k_ c2 : Value)) he911) (RP.re 23 rfl (congrArg (fun k_ : Nat => (.slice A1 k_ c2 : Value)) he911) (RP.re 27 rfl (congrArg (fun k_ : Nat => (.slice A1 k_ c2 : Value)) he911) (RP.re 37 rfl (congrArg (fun k_ : Nat => (.slice A1 k_ c2 : Value)) he911) (RP.re 39 rfl (congrArg (fun k_ : Nat => (.slice A1 k_ c2 : Value)) he911) (RP.re 42 rfl (congrArg (fun k_ : Nat => (.slice A1 k_ c2 : Value)) he911) (RP.re 47 rfl (congrArg (fun k_ : Nat => (.slice A1 k_ c2 : Value)) he911) ?_))))))
     obtain ⟨hq912, h⟩ := h.req
     refine RP.v1 16 rfl (Vl.indexOwn 0 hS rfl underlying49 sizeOf53 rfl rfl hq903 hq912) rfl rfl (RP.e0 17 rfl (OW.storeOwn (E := E_api_Message) (off := 0) (j := IntKind.i64.wrap (x866 - 1)) (x' := (⟨(nth l865 x866).Key, (nth l865 x866).To, (nth l865 x866).Value, (nth l865 x866).Uid, ((nth l865 x866).Anti)⟩ : api_Message)) (vs := [.int .i64 (((nth l865 x866).Key).Time), .int .i64 (((nth l865 x866).Key).From), .int .i64 (((nth l865 x866).Key).Seq), .int .i64 ((nth l865 x866).To), .int .i64 ((nth l865 x866).Value), .int .i64 ((nth l865 x866).Uid), .bool ((nth l865 x866).Anti)]) 0 hS rfl rfl rfl rfl sizeOf53 rfl (Nat.succ_pos _) hq903 hq912 (Nat.le_of_ble_eq_true rfl) rfl rfl) rfl ?_)
     rintro _ w ⟨rfl, hS⟩
     have he913 := (hS.osN 0 rfl).1
     have hS : St B w (_ :: l) hf := (congrArg (fun k_ : Nat => St B w (OSf E_api_Message 53 (.slice A1 k_ c2) (setL (setL l865 x866 (⟨(nth l865 (IntKind.i64.wrap (x866 - 1))).Key, (nth l865 (IntKind.i64.wrap (x866 - 1))).To, (nth l865 (IntKind.i64.wrap (x866 - 1))).Value, (nth l865 (IntKind.i64.wrap (x866 - 1))).Uid, ((nth l865 (IntKind.i64.wrap (x866 - 1))).Anti)⟩ : api_Message)) (IntKind.i64.wrap (x866 - 1)) (⟨(nth l865 x866).Key, (nth l865 x866).To, (nth l865 x866).Value, (nth l865 x866).Uid, ((nth l865 x866).Anti)⟩ : api_Message)) :: l) hf) he913).mp hS
     refine ⟨kp ⟨(by intro hx; cases hx), trivial⟩, ?_⟩
     refine RP.re 0 rfl (congrArg (fun k_ : Nat => (.slice A1 k_ c2 : Value)) he913) (RP.re 23 rfl (congrArg (fun k_ : Nat => (.slice A1 k_ c2 : Value)) he913) (RP.re 27 rfl (congrArg (fun k_ : Nat => (.slice A1 k_ c2 : Value)) he913) (RP.re 37 rfl (congrArg (fun k_ : Nat => (.slice A1 k_ c2 : Value)) he913) (RP.re 39 rfl (congrArg (fun k_ : Nat => (.slice A1 k_ c2 : Value)) he913) (RP.re 42 rfl (congrArg (fun k_ : Nat => (.slice A1 k_ c2 : Value)) he913) (RP.re 47 rfl (congrArg (fun k_ : Nat => (.slice A1 k_ c2 : Value)) he913) (RP.nil (RQ.inB_n (RQ.then_n (RC.region (pn 3 rfl (RL.nil ?_))))))))))))
     exact fun a ha => ⟨((setL (setL l865 x866 (⟨(nth l865 (IntKind.i64.wrap (x866 - 1))).Key, (nth l865 (IntKind.i64.wrap (x866 - 1))).To, (nth l865 (IntKind.i64.wrap (x866 - 1))).Value, (nth l865 (IntKind.i64.wrap (x866 - 1))).Uid, ((nth l865 (IntKind.i64.wrap (x866 - 1))).Anti)⟩ : api_Message)) (IntKind.i64.wrap (x866 - 1)) (⟨(nth l865 x866).Key, (nth l865 x866).To, (nth l865 x866).Value, (nth l865 x866).Uid, ((nth l865 x866).Anti)⟩ : api_Message)), IntKind.i64.wrap (x866 - 1)), ⟨(setL (setL l865 x866 (⟨(nth l865 (IntKind.i64.wrap (x866 - 1))).Key, (nth l865 (IntKind.i64.wrap (x866 - 1))).To, (nth l865 (IntKind.i64.wrap (x866 - 1))).Value, (nth l865 (IntKind.i64.wrap (x866 - 1))).Uid, ((nth l865 (IntKind.i64.wrap (x866 - 1))).Anti)⟩ : api_Message)) (IntKind.i64.wrap (x866 - 1)) (⟨(nth l865 x866).Key, (nth l865 x866).To, (nth l865 x866).Value, (nth l865 x866).Uid, ((nth l865 x866).Anti)⟩ : api_Message)), (IntKind.i64.wrap (x866 - 1)), rfl, ha.to ⟨rfl, rfl, rfl, rfl, rfl, rfl, trivial⟩, hS⟩, h.some⟩
    next =>
     refine RC.condF rfl (RC.exit (RQ.exitT ?_))
     have h := h.inrS
     refine RQ.exitT (RQ.inB_hit (RQ.inB_n (RQ.then_n (RC.region (pn 3 rfl (RL.nil ?_))))))
     exact fun a ha => ⟨(l865, IntKind.i64.wrap (x612 + 1)), ⟨l865, (IntKind.i64.wrap (x612 + 1)), rfl, ha.to ⟨rfl, rfl, rfl, rfl, rfl, trivial⟩, hS⟩, h.some⟩
   next =>
    refine pp 3 rfl (RP.nn 0 7 rfl rfl rfl (RP.nn 0 8 rfl rfl rfl (pp 1 rfl (RP.n1 10 rfl rfl rfl (RP.n1 11 rfl rfl rfl (RP.n1 12 rfl rfl rfl (RP.n1 13 rfl rfl rfl (RP.n1 14 rfl rfl rfl (RP.n1 15 rfl rfl rfl (RP.v1 16 rfl (Vl.pickF rfl rfl) rfl rfl (RP.nil (RQ.then_n (RC.condF rfl (RC.exit (RQ.exitT ?_)))))))))))))))
    have h := h.inrS
    refine RQ.exitT (RQ.inB_hit (RQ.inB_n (RQ.then_n (RC.region (pn 3 rfl (RL.nil ?_))))))
    exact fun a ha => ⟨(l865, IntKind.i64.wrap (x612 + 1)), ⟨l865, (IntKind.i64.wrap (x612 + 1)), rfl, ha.to ⟨rfl, rfl, rfl, rfl, rfl, trivial⟩, hS⟩, h.some⟩
  next =>
   refine RC.condF rfl (RC.exit (RQ.exitT ?_))
   have h := h.inr
   refine RQ.exitT (RQ.inB_hit ?_)
   obtain ⟨hq914, h⟩ := h.req
   have hS : St B w (_ :: l) hf := (congrArg (fun k_ : Nat => St B w (OSf E_api_Message 53 (.slice A1 k_ c2) l611 :: l) hf) hq914).mp hS
   obtain rfl := h.some
   exact rtE results86 rfl ⟨rfl, hS⟩

/-! ### slices.swapRangeCmpFunc[isochron/api.Message]: function 122 -/
noncomputable def slices_swapRangeCmpFunc_api_Message.l2b (a3 : List api_Message) (a4 a5 a6 : Int) : List api_Message × Int → Option ((List api_Message × Int) ⊕ (List api_Message))
  | (l80, x81) => (if x81 < a6 then (if 0 ≤ IntKind.i64.wrap (a5 + x81) ∧ IntKind.i64.wrap (a5 + x81) < (l80.length : Int) then (if 0 ≤ IntKind.i64.wrap (a4 + x81) ∧ IntKind.i64.wrap (a4 + x81) < (l80.length : Int) then (if IntKind.i64.wrap (a5 + x81) < ((setL l80 (IntKind.i64.wrap (a4 + x81)) (⟨(nth l80 (IntKind.i64.wrap (a5 + x81))).Key, (nth l80 (IntKind.i64.wrap (a5 + x81))).To, (nth l80 (IntKind.i64.wrap (a5 + x81))).Value, (nth l80 (IntKind.i64.wrap (a5 + x81))).Uid, ((nth l80 (IntKind.i64.wrap (a5 + x81))).Anti)⟩ : api_Message)).length : Int) then some (.inl ((setL (setL l80 (IntKind.i64.wrap (a4 + x81)) (⟨(nth l80 (IntKind.i64.wrap (a5 + x81))).Key, (nth l80 (IntKind.i64.wrap (a5 + x81))).To, (nth l80 (IntKind.i64.wrap (a5 + x81))).Value, (nth l80 (IntKind.i64.wrap (a5 + x81))).Uid, ((nth l80 (IntKind.i64.wrap (a5 + x81))).Anti)⟩ : api_Message)) (IntKind.i64.wrap (a5 + x81)) (⟨(nth l80 (IntKind.i64.wrap (a4 + x81))).Key, (nth l80 (IntKind.i64.wrap (a4 + x81))).To, (nth l80 (IntKind.i64.wrap (a4 + x81))).Value, (nth l80 (IntKind.i64.wrap (a4 + x81))).Uid, ((nth l80 (IntKind.i64.wrap (a4 + x81))).Anti)⟩ : api_Message)), IntKind.i64.wrap (x81 + 1))) else none) else none) else none) else (Option.map Sum.inr (if l80.length = a3.length then some l80 else none)))
noncomputable def slices_swapRangeCmpFunc_api_Message.l2 (a3 : List api_Message) (a4 a5 a6 : Int) (s : List api_Message × Int) : Option (List api_Message) := loopR (slices_swapRangeCmpFunc_api_Message.l2b a3 a4 a5 a6) s
noncomputable def slices_swapRangeCmpFunc_api_Message.f (a3 : List api_Message) (a4 a5 a6 : Int) : Option (List api_Message) := slices_swapRangeCmpFunc_api_Message.l2 a3 a4 a5 a6 (a3, 0)
theorem slices_swapRangeCmpFunc_api_Message.ok {a3 : List api_Message} {a4 a5 a6 : Int} {A1 : Option Addr} {c2 : Nat} {r : List api_Message} (h : slices_swapRangeCmpFunc_api_Message.f a3 a4 a5 a6 = some r) (hS : St B w (OSf E_api_Message 53 (.slice A1 a3.length c2) a3 :: l) hf) :
    Calls prog 122 #[.slice A1 a3.length c2, .int .i64 a4, .int .i64 a5, .int .i64 a6, .func (.func 32) #[] #[]] w (Ret fun v w => v = .tuple #[] ∧ St B w (OSf E_api_Message 53 (.slice A1 a3.length c2) r :: l) hf) := by
  have h := Holds.of h
  refine en func122 rfl ntmps122 rfl (sr (pn 1 rfl (ln (RC.block ?_))))
  refine fun a ha => RC.loop (N := 38) (body := (slices_swapRangeCmpFunc_api_Message.l2b a3 a4 a5 a6)) (φ := (· = r)) (fun (s : List api_Message × Int) a w => ∃ (l80 : List api_Message) (x81 : Int), s = (l80, x81) ∧ Has 38 [(0, .slice A1 l80.length c2), (1, .int .i64 a4), (2, .int .i64 a5), (3, .int .i64 a6), (10, .int .i64 x81)] a ∧ St B w (OSf E_api_Message 53 (.slice A1 l80.length c2) l80 :: l) hf) ?_ (s0 := (a3, 0)) h ⟨a3, 0, rfl, ha.to ⟨rfl, rfl, rfl, rfl, rfl, trivial⟩, hS⟩
  rintro G100 _ a w ⟨l80, x81, rfl, ha, hS⟩ h
  revert a
  show RC _ _ _ _ _ _
  refine RC.seq (sr (pn 3 rfl (ln ?_)))
  refine RC.iteP 13 rfl h (fun hc102 h => ?_) fun hc102 h => ?_
  next =>
   refine RC.condT rfl (sk (RC.seq (RC.block (RC.planS (plD [0, 3, 6, 9, 12, 15, 18, 21, 24, 27, 30, 33, 37, 40, 42, 45, 50, 53, 56, 59, 62, 65, 68, 71]) [20, 21, 22, 23] hS (fun w hS => hS) follows rfl (by kernel_rfl) (NoTmp.block (NoTmp.then (NoTmp.then (NoTmp.block NoTmp.body)))) fun w hS => pp 12 rfl ?_))))
   obtain ⟨⟨hq110, hq111⟩, h⟩ := h.req
   refine RP.s 0 12 rfl rfl hS (fun w hS => Vl.indexOwn 0 hS rfl underlying49 sizeOf53 rfl rfl hq110 hq111) rfl (RP.s 0 13 rfl rfl hS (fun w hS => Vl.loadA isAgg53 sizeOf53 rfl rfl ((hS.slW 0 rfl).2.2.cells hq110 hq111)) rfl (pp 2 rfl (RP.v1 16 rfl (Vl.move rfl) rfl rfl (RP.v1 17 rfl (Vl.int rfl rfl rfl) rfl rfl ?_))))
   obtain ⟨⟨hq112, hq113⟩, h⟩ := h.req
   refine RP.v1 18 rfl (Vl.indexOwn 0 hS rfl underlying49 sizeOf53 rfl rfl hq112 hq113) rfl rfl (RP.v1 19 rfl (Vl.loadA isAgg53 sizeOf53 rfl rfl ((hS.slW 0 rfl).2.2.cells hq112 hq113)) rfl rfl (RP.v1 20 rfl (Vl.indexOwn 0 hS rfl underlying49 sizeOf53 rfl rfl hq112 hq113) rfl rfl (RP.e0 21 rfl (OW.storeOwn (E := E_api_Message) (off := 0) (j := IntKind.i64.wrap (a4 + x81)) (x' := (⟨(nth l80 (IntKind.i64.wrap (a5 + x81))).Key, (nth l80 (IntKind.i64.wrap (a5 + x81))).To, (nth l80 (IntKind.i64.wrap (a5 + x81))).Value, (nth l80 (IntKind.i64.wrap (a5 + x81))).Uid, ((nth l80 (IntKind.i64.wrap (a5 + x81))).Anti)⟩ : api_Message)) (vs := [.int .i64 (((nth l80 (IntKind.i64.wrap (a5 + x81))).Key).Time), .int .i64 (((nth l80 (IntKind.i64.wrap (a5 + x81))).Key).From), .int .i64 (((nth l80 (IntKind.i64.wrap (a5 + x81))).Key).Seq), .int .i64 ((nth l80 (IntKind.i64.wrap (a5 + x81))).To), .int .i64 ((nth l80 (IntKind.i64.wrap (a5 + x81))).Value), .int .i64 ((nth l80 (IntKind.i64.wrap (a5 + x81))).Uid), .bool ((nth l80 (IntKind.i64.wrap (a5 + x81))).Anti)]) 0 hS rfl rfl rfl rfl sizeOf53 rfl (Nat.succ_pos _) hq112 hq113 (Nat.le_of_ble_eq_true rfl) rfl rfl) rfl ?_)))
   rintro _ w ⟨rfl, hS⟩
   have he114 := (hS.osN 0 rfl).1
   have hS : St B w (_ :: l) hf := (congrArg (fun k_ : Nat => St B w (OSf E_api_Message 53 (.slice A1 k_ c2) (setL l80 (IntKind.i64.wrap (a4 + x81)) (⟨(nth l80 (IntKind.i64.wrap (a5 + x81))).Key, (nth l80 (IntKind.i64.wrap (a5 + x81))).To, (nth l80 (IntKind.i64.wrap (a5 + x81))).Value, (nth l80 (IntKind.i64.wrap (a5 + x81))).Uid, ((nth l80 (IntKind.i64.wrap (a5 + x81))).Anti)⟩ : api_Message)) :: l) hf) he114).mp hS
   refine ⟨kp ⟨(by intro hx; cases hx), trivial⟩, ?_⟩
   refine RP.re 0 rfl (congrArg (fun k_ : Nat => (.slice A1 k_ c2 : Value)) he114) (RP.re 16 rfl (congrArg (fun k_ : Nat => (.slice A1 k_ c2 : Value)) he114) (RP.re 20 rfl (congrArg (fun k_ : Nat => (.slice A1 k_ c2 : Value)) he114) (RP.re 24 rfl (congrArg (fun k_ : Nat => (.slice A1 k_ c2 : Value)) he114) (RP.re 30 rfl (congrArg (fun k_ : Nat => (.slice A1 k_ c2 : Value)) he114) ?_))))
   obtain ⟨hq115, h⟩ := h.req
   refine RP.v1 22 rfl (Vl.indexOwn 0 hS rfl underlying49 sizeOf53 rfl rfl hq110 hq115) rfl rfl (RP.e0 23 rfl (OW.storeOwn (E := E_api_Message) (off := 0) (j := IntKind.i64.wrap (a5 + x81)) (x' := (⟨(nth l80 (IntKind.i64.wrap (a4 + x81))).Key, (nth l80 (IntKind.i64.wrap (a4 + x81))).To, (nth l80 (IntKind.i64.wrap (a4 + x81))).Value, (nth l80 (IntKind.i64.wrap (a4 + x81))).Uid, ((nth l80 (IntKind.i64.wrap (a4 + x81))).Anti)⟩ : api_Message)) (vs := [.int .i64 (((nth l80 (IntKind.i64.wrap (a4 + x81))).Key).Time), .int .i64 (((nth l80 (IntKind.i64.wrap (a4 + x81))).Key).From), .int .i64 (((nth l80 (IntKind.i64.wrap (a4 + x81))).Key).Seq), .int .i64 ((nth l80 (IntKind.i64.wrap (a4 + x81))).To), .int .i64 ((nth l80 (IntKind.i64.wrap (a4 + x81))).Value), .int .i64 ((nth l80 (IntKind.i64.wrap (a4 + x81))).Uid), .bool ((nth l80 (IntKind.i64.wrap (a4 + x81))).Anti)]) 0 hS rfl rfl rfl rfl sizeOf53 rfl (Nat.succ_pos _) hq110 hq115 (Nat.le_of_ble_eq_true rfl) rfl rfl) rfl ?_)
   rintro _ w ⟨rfl, hS⟩
   have he116 := (hS.osN 0 rfl).1
   have hS : St B w (_ :: l) hf := (congrArg (fun k_ : Nat => St B w (OSf E_api_Message 53 (.slice A1 k_ c2) (setL (setL l80 (IntKind.i64.wrap (a4 + x81)) (⟨(nth l80 (IntKind.i64.wrap (a5 + x81))).Key, (nth l80 (IntKind.i64.wrap (a5 + x81))).To, (nth l80 (IntKind.i64.wrap (a5 + x81))).Value, (nth l80 (IntKind.i64.wrap (a5 + x81))).Uid, ((nth l80 (IntKind.i64.wrap (a5 + x81))).Anti)⟩ : api_Message)) (IntKind.i64.wrap (a5 + x81)) (⟨(nth l80 (IntKind.i64.wrap (a4 + x81))).Key, (nth l80 (IntKind.i64.wrap (a4 + x81))).To, (nth l80 (IntKind.i64.wrap (a4 + x81))).Value, (nth l80 (IntKind.i64.wrap (a4 + x81))).Uid, ((nth l80 (IntKind.i64.wrap (a4 + x81))).Anti)⟩ : api_Message)) :: l) hf) he116).mp hS
   refine ⟨kp ⟨(by intro hx; cases hx), trivial⟩, ?_⟩
   refine RP.re 0 rfl (congrArg (fun k_ : Nat => (.slice A1 k_ c2 : Value)) he116) (RP.re 16 rfl (congrArg (fun k_ : Nat => (.slice A1 k_ c2 : Value)) he116) (RP.re 20 rfl (congrArg (fun k_ : Nat => (.slice A1 k_ c2 : Value)) he116) (RP.re 24 rfl (congrArg (fun k_ : Nat => (.slice A1 k_ c2 : Value)) he116) (RP.re 30 rfl (congrArg (fun k_ : Nat => (.slice A1 k_ c2 : Value)) he116) (RP.nil (RQ.inB_n (RQ.then_n (RC.region (pn 3 rfl (RL.nil ?_))))))))))
   exact fun a ha => ⟨((setL (setL l80 (IntKind.i64.wrap (a4 + x81)) (⟨(nth l80 (IntKind.i64.wrap (a5 + x81))).Key, (nth l80 (IntKind.i64.wrap (a5 + x81))).To, (nth l80 (IntKind.i64.wrap (a5 + x81))).Value, (nth l80 (IntKind.i64.wrap (a5 + x81))).Uid, ((nth l80 (IntKind.i64.wrap (a5 + x81))).Anti)⟩ : api_Message)) (IntKind.i64.wrap (a5 + x81)) (⟨(nth l80 (IntKind.i64.wrap (a4 + x81))).Key, (nth l80 (IntKind.i64.wrap (a4 + x81))).To, (nth l80 (IntKind.i64.wrap (a4 + x81))).Value, (nth l80 (IntKind.i64.wrap (a4 + x81))).Uid, ((nth l80 (IntKind.i64.wrap (a4 + x81))).Anti)⟩ : api_Message)), IntKind.i64.wrap (x81 + 1)), ⟨(setL (setL l80 (IntKind.i64.wrap (a4 + x81)) (⟨(nth l80 (IntKind.i64.wrap (a5 + x81))).Key, (nth l80 (IntKind.i64.wrap (a5 + x81))).To, (nth l80 (IntKind.i64.wrap (a5 + x81))).Value, (nth l80 (IntKind.i64.wrap (a5 + x81))).Uid, ((nth l80 (IntKind.i64.wrap (a5 + x81))).Anti)⟩ : api_Message)) (IntKind.i64.wrap (a5 + x81)) (⟨(nth l80 (IntKind.i64.wrap (a4 + x81))).Key, (nth l80 (IntKind.i64.wrap (a4 + x81))).To, (nth l80 (IntKind.i64.wrap (a4 + x81))).Value, (nth l80 (IntKind.i64.wrap (a4 + x81))).Uid, ((nth l80 (IntKind.i64.wrap (a4 + x81))).Anti)⟩ : api_Message)), (IntKind.i64.wrap (x81 + 1)), rfl, ha.to ⟨rfl, rfl, rfl, rfl, rfl, trivial⟩, hS⟩, h.some⟩
  next =>
   refine RC.condF rfl (RC.exit (RQ.exitT ?_))
   have h := h.inr
   refine RQ.exitT (RQ.inB_hit ?_)
   obtain ⟨hq117, h⟩ := h.req
   have hS : St B w (_ :: l) hf := (congrArg (fun k_ : Nat => St B w (OSf E_api_Message 53 (.slice A1 k_ c2) l80 :: l) hf) hq117).mp hS
   obtain rfl := h.some
   exact rtE results122 rfl ⟨rfl, hS⟩

/-! ### slices.rotateCmpFunc[isochron/api.Message]: function 99 -/
noncomputable def slices_rotateCmpFunc_api_Message.l4b (a3 : List api_Message) (a5 : Int) : List api_Message × Int × Int → Option ((List api_Message × Int × Int) ⊕ (List api_Message))
  | (l133, x134, x135) => (if x134 = x135 then (Option.map Sum.inr ((slices_swapRangeCmpFunc_api_Message.f l133 (IntKind.i64.wrap (a5 - x134)) a5 x134).bind fun t151 => (if t151.length = a3.length then some t151 else none))) else (if x135 < x134 then ((slices_swapRangeCmpFunc_api_Message.f l133 (IntKind.i64.wrap (a5 - x134)) a5 x135).bind fun t156 => some (.inl (t156, IntKind.i64.wrap (x134 - x135), x135))) else ((slices_swapRangeCmpFunc_api_Message.f l133 (IntKind.i64.wrap (a5 - x134)) (IntKind.i64.wrap ((IntKind.i64.wrap (a5 + x135)) - x134)) x134).bind fun t159 => some (.inl (t159, x134, IntKind.i64.wrap (x135 - x134))))))
noncomputable def slices_rotateCmpFunc_api_Message.l4 (a3 : List api_Message) (a5 : Int) (s : List api_Message × Int × Int) : Option (List api_Message) := loopR (slices_rotateCmpFunc_api_Message.l4b a3 a5) s
noncomputable def slices_rotateCmpFunc_api_Message.f (a3 : List api_Message) (a4 a5 a6 : Int) : Option (List api_Message) := slices_rotateCmpFunc_api_Message.l4 a3 a5 (a3, IntKind.i64.wrap (a5 - a4), IntKind.i64.wrap (a6 - a5))
theorem slices_rotateCmpFunc_api_Message.ok {a3 : List api_Message} {a4 a5 a6 : Int} {A1 : Option Addr} {c2 : Nat} {r : List api_Message} (h : slices_rotateCmpFunc_api_Message.f a3 a4 a5 a6 = some r) (hS : St B w (OSf E_api_Message 53 (.slice A1 a3.length c2) a3 :: l) hf) :
    Calls prog 99 #[.slice A1 a3.length c2, .int .i64 a4, .int .i64 a5, .int .i64 a6, .func (.func 32) #[] #[]] w (Ret fun v w => v = .tuple #[] ∧ St B w (OSf E_api_Message 53 (.slice A1 a3.length c2) r :: l) hf) := by
  have h := Holds.of h
  refine en func99 rfl ntmps99 rfl (sr (pn 4 rfl (lnsr (pn 4 rfl (ln (RC.seq (RC.block ?_)))))))
  refine fun a ha => RC.loop (N := 58) (body := (slices_rotateCmpFunc_api_Message.l4b a3 a5)) (φ := (· = r)) (fun (s : List api_Message × Int × Int) a w => ∃ (l133 : List api_Message) (x134 : Int) (x135 : Int), s = (l133, x134, x135) ∧ Has 58 [(0, .slice A1 l133.length c2), (2, .int .i64 a5), (4, .func (.func 32) #[] #[]), (10, .int .i64 x134), (11, .int .i64 x135)] a ∧ St B w (OSf E_api_Message 53 (.slice A1 l133.length c2) l133 :: l) hf) ?_ (s0 := (a3, IntKind.i64.wrap (a5 - a4), IntKind.i64.wrap (a6 - a5))) h ⟨a3, (IntKind.i64.wrap (a5 - a4)), (IntKind.i64.wrap (a6 - a5)), rfl, ha.to ⟨rfl, rfl, rfl, rfl, rfl, trivial⟩, hS⟩
  rintro G148 _ a w ⟨l133, x134, x135, rfl, ha, hS⟩ h
  revert a
  show RC _ _ _ _ _ _
  refine RC.seq (sr (pn 3 rfl (ln ?_)))
  refine RC.iteN 20 rfl h (fun hc150 h => ?_) fun hc150 h => ?_
  next =>
   refine RC.condF rfl (RC.exit (RQ.exitT ?_))
   have h := h.inr
   refine RQ.exitT (RQ.inB_hit (RQ.then_n (RC.region (pn 7 rfl ?_))))
   obtain ⟨t151, hg152, h⟩ := h.bind
   have hc := slices_swapRangeCmpFunc_api_Message.ok hg152 hS
   refine RL.e (OW.callF (ls := [.tmp 50, .tmp 53, .tmp 54, .tmp 55, .tmp 56]) rfl call122 hc) rfl rfl ?_
   rintro _ w ⟨rfl, hS⟩
   have he153 := (hS.osN 0 rfl).1
   have hS : St B w (_ :: l) hf := (congrArg (fun k_ : Nat => St B w (OSf E_api_Message 53 (.slice A1 k_ c2) t151 :: l) hf) he153).mp hS
   refine RL.re 0 rfl (congrArg (fun k_ : Nat => (.slice A1 k_ c2 : Value)) he153) (RL.re 50 rfl (congrArg (fun k_ : Nat => (.slice A1 k_ c2 : Value)) he153) (RL.nil ?_))
   obtain ⟨hq154, h⟩ := h.req
   have hS : St B w (_ :: l) hf := (congrArg (fun k_ : Nat => St B w (OSf E_api_Message 53 (.slice A1 k_ c2) t151 :: l) hf) hq154).mp hS
   obtain rfl := h.some
   exact rtE results99 rfl ⟨rfl, hS⟩
  next =>
   refine RC.condT rfl (sk (RC.block (sr (pn 3 rfl (ln ?_)))))
   refine RC.iteP 23 rfl h (fun hc155 h => ?_) fun hc155 h => ?_
   next =>
    refine RC.condT rfl (sr (pn 7 rfl ?_))
    obtain ⟨t156, hg157, h⟩ := h.bind
    have hc := slices_swapRangeCmpFunc_api_Message.ok hg157 hS
    refine RL.e (OW.callF (ls := [.tmp 24, .tmp 27, .tmp 28, .tmp 29, .tmp 30]) rfl call122 hc) rfl rfl ?_
    rintro _ w ⟨rfl, hS⟩
    have he158 := (hS.osN 0 rfl).1
    have hS : St B w (_ :: l) hf := (congrArg (fun k_ : Nat => St B w (OSf E_api_Message 53 (.slice A1 k_ c2) t156 :: l) hf) he158).mp hS
    refine RL.re 0 rfl (congrArg (fun k_ : Nat => (.slice A1 k_ c2 : Value)) he158) (RL.re 24 rfl (congrArg (fun k_ : Nat => (.slice A1 k_ c2 : Value)) he158) (ln (RC.region (pn 4 rfl (RL.nil (RQ.inB_n ?_))))))
    exact fun a ha => ⟨(t156, IntKind.i64.wrap (x134 - x135), x135), ⟨t156, (IntKind.i64.wrap (x134 - x135)), x135, rfl, ha.to ⟨rfl, rfl, rfl, rfl, rfl, trivial⟩, hS⟩, h.some⟩
   next =>
    refine RC.condF rfl (sr (pn 11 rfl ?_))
    obtain ⟨t159, hg160, h⟩ := h.bind
    have hc := slices_swapRangeCmpFunc_api_Message.ok hg160 hS
    refine RL.e (OW.callF (ls := [.tmp 35, .tmp 38, .tmp 43, .tmp 44, .tmp 45]) rfl call122 hc) rfl rfl ?_
    rintro _ w ⟨rfl, hS⟩
    have he161 := (hS.osN 0 rfl).1
    have hS : St B w (_ :: l) hf := (congrArg (fun k_ : Nat => St B w (OSf E_api_Message 53 (.slice A1 k_ c2) t159 :: l) hf) he161).mp hS
    refine RL.re 0 rfl (congrArg (fun k_ : Nat => (.slice A1 k_ c2 : Value)) he161) (RL.re 35 rfl (congrArg (fun k_ : Nat => (.slice A1 k_ c2 : Value)) he161) (ln (RC.region (pn 4 rfl (RL.nil (RQ.inB_n ?_))))))
    exact fun a ha => ⟨(t159, x134, IntKind.i64.wrap (x135 - x134)), ⟨t159, x134, (IntKind.i64.wrap (x135 - x134)), rfl, ha.to ⟨rfl, rfl, rfl, rfl, rfl, trivial⟩, hS⟩, h.some⟩

end Go.Proofs.Gx
