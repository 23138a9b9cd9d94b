/-
  The walks of functions, each with what it computes: printed by wip/gx.py.
-/
import Derived.Test.YtbmjfgdefniaaaaGreatDoorW0
set_option linter.unusedVariables false
set_option maxRecDepth 100000
set_option maxHeartbeats 4000000
namespace Go.Proofs.Gx
open Go.Sl Tryz
variable {B : Base} {w : World} {l : List HProp} {hf : Hp}
/-! ### (*isochron/lane.Lane).none: function 18 -/
noncomputable def lane_Lane_none.f  : Option (Unit) := some ()
theorem lane_Lane_none.ok {r : Unit} (h : lane_Lane_none.f = some r) (hS : St B w (l) hf) :
    Calls prog 18 #[.pointer none] w (Ret fun v w => v = .bool true ∧ St B w (l) hf) := by
  have h := Holds.of h
  refine en func18 rfl ntmps18 rfl (sr (pn 1 rfl (lnsr (pn 1 rfl (RL.s (Vl.bin (v := .bool true) rfl rfl (by kernel_rfl)) rfl (pn 8 rfl (lr ?_)))))))
  exact rt results18 rfl ⟨rfl, hS⟩

/-! ### (*isochron/lane.Lane).Get: function 4 -/
noncomputable def lane_Lane_Get.f (a1 : api_Message) : Option (Int) := ((lane_Lane_none.f).bind fun _ => some 7)
theorem lane_Lane_Get.ok {a1 : api_Message} {r : Int} (h : lane_Lane_Get.f a1 = some r) (hS : St B w (l) hf) :
    Calls prog 4 #[.pointer none, .agg #[.int .i64 a1.Key.Time, .int .i64 a1.Key.From, .int .i64 a1.Key.Seq, .int .i64 a1.To, .int .i64 a1.Value, .int .i64 a1.Uid, .bool a1.Anti]] w (Ret fun v w => v = .tuple #[.slice none 0 0, .int .i64 r] ∧ St B w (l) hf) := by
  have h := Holds.of h
  refine en func4 rfl ntmps4 rfl (sr (bx hS rfl rfl rfl rfl fun b7 w hS => pn 2 rfl (ln (RC.seq (sr (pn 1 rfl (cF (fun _ hg => lane_Lane_none.ok hg hS) call18 h rfl rfl rfl ?_)))))))
  rintro _ h _ w ⟨rfl, hS⟩
  refine ln (RC.condT rfl (sr (pn 2 rfl (lr (RQ.ret ?_)))))
  obtain rfl := h.some
  exact rt results4 rfl ⟨rfl, hS.d0⟩

/-! ### (*isochron/lane.Lane).none: function 18 -/
noncomputable def lane_Lane_none_2.f (a2 : List (List api_Instr)) (a6 : List api_Link) (a10 : List api_Start) (a14 a15 a16 a17 a18 a19 a20 : Int) (a21 : List Int) (a25 : List lane_open) (a29 : List api_Message) (a33 a34 a35 a36 a37 a38 a39 a40 a41 a42 : Int) : Option (Unit) := some ()
theorem lane_Lane_none_2.ok {a2 : List (List api_Instr)} {a6 : List api_Link} {a10 : List api_Start} {a14 a15 a16 a17 a18 a19 a20 : Int} {a21 : List Int} {a25 : List lane_open} {a29 : List api_Message} {a33 a34 a35 a36 a37 a38 a39 a40 a41 a42 : Int} {b1 : Nat} {A3 : Option Addr} {c4 : Nat} {A7 : Option Addr} {c8 : Nat} {A11 : Option Addr} {c12 : Nat} {A22 : Option Addr} {c23 : Nat} {A26 : Option Addr} {c27 : Nat} {A30 : Option Addr} {c31 : Nat} (hr5 : SlR (Rep.sl E_api_Instr.rep) hf A3 c4 a2) (hr9 : SlR E_api_Link.rep hf A7 c8 a6) (hr13 : SlR E_api_Start.rep hf A11 c12 a10) (hr24 : SlR ((FI .i64).rep) hf A22 c23 a21) (hr28 : SlR E_lane_open.rep hf A26 c27 a25) (hr32 : SlR E_api_Message.rep hf A30 c31 a29) {r : Unit} (h : lane_Lane_none_2.f a2 a6 a10 a14 a15 a16 a17 a18 a19 a20 a21 a25 a29 a33 a34 a35 a36 a37 a38 a39 a40 a41 a42 = some r) (hS : St B w (Cl b1 [.slice A3 a2.length c4, .slice A7 a6.length c8, .slice A11 a10.length c12, .int .u64 a14, .int .i64 a15, .int .i64 a16, .int .i64 a17, .int .i64 a18, .int .i64 a19, .int .i64 a20, .slice A22 a21.length c23, .pointer none, .pointer none, .slice A26 a25.length c27, .slice A30 a29.length c31, .map none, .map none, .int .i64 a33, .int .i64 a34, .int .i64 a35, .int .i64 a36, .int .i64 a37, .int .i64 a38, .int .i64 a39, .int .i64 a40, .int .i64 a41, .int .i64 a42] 47 :: l) hf) :
    Calls prog 18 #[.pointer (some ⟨b1, 0, none⟩)] w (Ret fun v w => v = .bool true ∧ St B w (Cl b1 [.slice A3 a2.length c4, .slice A7 a6.length c8, .slice A11 a10.length c12, .int .u64 a14, .int .i64 a15, .int .i64 a16, .int .i64 a17, .int .i64 a18, .int .i64 a19, .int .i64 a20, .slice A22 a21.length c23, .pointer none, .pointer none, .slice A26 a25.length c27, .slice A30 a29.length c31, .map none, .map none, .int .i64 a33, .int .i64 a34, .int .i64 a35, .int .i64 a36, .int .i64 a37, .int .i64 a38, .int .i64 a39, .int .i64 a40, .int .i64 a41, .int .i64 a42] 47 :: l) hf) := by
  have h := Holds.of h
  refine en func18 rfl ntmps18 rfl (sr (pn 1 rfl (lnsr (pn 1 rfl (RL.s (Vl.bin (v := .bool false) rfl rfl (by kernel_rfl)) rfl (pn 3 rfl (RL.sg (Vl.fa 11 underlying47 rfl sizeOf36 rfl rfl) rfl rfl (RL.sg (Vl.ld 0 hS isAgg36 rfl rfl rfl) rfl rfl (RL.sg (Vl.bin (v := .bool true) rfl rfl (by kernel_rfl)) rfl rfl (pn 2 rfl (RL.nil ?_)))))))))))
  refine tr ?_
  exact rt results18 rfl ⟨rfl, hS⟩

/-! ### (*isochron/lane.Lane).Step: function 5 -/
noncomputable def lane_Lane_Step.f (a2 : List (List api_Instr)) (a6 : List api_Link) (a10 : List api_Start) (a14 a15 a16 a17 a18 a19 a20 : Int) (a21 : List Int) (a25 : List lane_open) (a29 : List api_Message) (a33 a34 a35 a36 a37 a38 a39 a40 a41 a42 a43 : Int) (a44 : List Int) : Option (Int) := ((lane_Lane_none_2.f a2 a6 a10 a14 a15 a16 a17 a18 a19 a20 a21 a25 a29 a33 a34 a35 a36 a37 a38 a39 a40 a41 a42).bind fun _ => some 7)
theorem lane_Lane_Step.ok {a2 : List (List api_Instr)} {a6 : List api_Link} {a10 : List api_Start} {a14 a15 a16 a17 a18 a19 a20 : Int} {a21 : List Int} {a25 : List lane_open} {a29 : List api_Message} {a33 a34 a35 a36 a37 a38 a39 a40 a41 a42 a43 : Int} {a44 : List Int} {b1 : Nat} {A3 : Option Addr} {c4 : Nat} {A7 : Option Addr} {c8 : Nat} {A11 : Option Addr} {c12 : Nat} {A22 : Option Addr} {c23 : Nat} {A26 : Option Addr} {c27 : Nat} {A30 : Option Addr} {c31 : Nat} {A45 : Option Addr} {c46 : Nat} (hr5 : SlR (Rep.sl E_api_Instr.rep) hf A3 c4 a2) (hr9 : SlR E_api_Link.rep hf A7 c8 a6) (hr13 : SlR E_api_Start.rep hf A11 c12 a10) (hr24 : SlR ((FI .i64).rep) hf A22 c23 a21) (hr28 : SlR E_lane_open.rep hf A26 c27 a25) (hr32 : SlR E_api_Message.rep hf A30 c31 a29) (hr47 : SlR ((FI .i64).rep) hf A45 c46 a44) {r : Int} (h : lane_Lane_Step.f a2 a6 a10 a14 a15 a16 a17 a18 a19 a20 a21 a25 a29 a33 a34 a35 a36 a37 a38 a39 a40 a41 a42 a43 a44 = some r) (hS : St B w (Cl b1 [.slice A3 a2.length c4, .slice A7 a6.length c8, .slice A11 a10.length c12, .int .u64 a14, .int .i64 a15, .int .i64 a16, .int .i64 a17, .int .i64 a18, .int .i64 a19, .int .i64 a20, .slice A22 a21.length c23, .pointer none, .pointer none, .slice A26 a25.length c27, .slice A30 a29.length c31, .map none, .map none, .int .i64 a33, .int .i64 a34, .int .i64 a35, .int .i64 a36, .int .i64 a37, .int .i64 a38, .int .i64 a39, .int .i64 a40, .int .i64 a41, .int .i64 a42] 47 :: l) hf) :
    Calls prog 5 #[.pointer (some ⟨b1, 0, none⟩), .int .i64 a43, .slice A45 a44.length c46] w (Ret fun v w => v = .tuple #[.slice none 0 0, .int .i64 r] ∧ St B w (Cl b1 [.slice A3 a2.length c4, .slice A7 a6.length c8, .slice A11 a10.length c12, .int .u64 a14, .int .i64 a15, .int .i64 a16, .int .i64 a17, .int .i64 a18, .int .i64 a19, .int .i64 a20, .slice A22 a21.length c23, .pointer none, .pointer none, .slice A26 a25.length c27, .slice A30 a29.length c31, .map none, .map none, .int .i64 a33, .int .i64 a34, .int .i64 a35, .int .i64 a36, .int .i64 a37, .int .i64 a38, .int .i64 a39, .int .i64 a40, .int .i64 a41, .int .i64 a42] 47 :: l) hf) := by
  have h := Holds.of h
  refine en func5 rfl ntmps5 rfl (sr (pn 2 rfl (ln (RC.seq (sr (pn 1 rfl (cF (fun _ hg => lane_Lane_none_2.ok hr5 hr9 hr13 hr24 hr28 hr32 hg hS) call18 h rfl rfl rfl ?_)))))))
  rintro _ h _ w ⟨rfl, hS⟩
  refine ln (RC.condT rfl (sr (pn 2 rfl (lr (RQ.ret ?_)))))
  obtain rfl := h.some
  exact rt results5 rfl ⟨rfl, hS⟩

/-! ### (*isochron/lane.Lane).Settle: function 6 -/
noncomputable def lane_Lane_Settle.f  : Option (Unit) := ((lane_Lane_none.f).bind fun _ => some ())
theorem lane_Lane_Settle.ok {r : Unit} (h : lane_Lane_Settle.f = some r) (hS : St B w (l) hf) :
    Calls prog 6 #[.pointer none] w (Ret fun v w => v = .slice none 0 0 ∧ St B w (l) hf) := by
  have h := Holds.of h
  refine en func6 rfl ntmps6 rfl (sr (pn 1 rfl (ln (RC.seq (sr (pn 1 rfl (cF (fun _ hg => lane_Lane_none.ok hg hS) call18 h rfl rfl rfl ?_)))))))
  rintro _ h _ w ⟨rfl, hS⟩
  refine ln (RC.condT rfl (sr (pn 1 rfl (lr (RQ.ret ?_)))))
  exact rt results6 rfl ⟨rfl, hS⟩

/-! ### (*isochron/lane.Lane).Drop: function 7 -/
noncomputable def lane_Lane_Drop.f (a2 : List (List api_Instr)) (a6 : List api_Link) (a10 : List api_Start) (a14 a15 a16 a17 a18 a19 a20 : Int) (a21 : List Int) (a25 : List lane_open) (a29 : List api_Message) (a33 a34 a35 a36 a37 a38 a39 a40 a41 a42 a43 : Int) : Option (Unit) := ((lane_Lane_none_2.f a2 a6 a10 a14 a15 a16 a17 a18 a19 a20 a21 a25 a29 a33 a34 a35 a36 a37 a38 a39 a40 a41 a42).bind fun _ => some ())
theorem lane_Lane_Drop.ok {a2 : List (List api_Instr)} {a6 : List api_Link} {a10 : List api_Start} {a14 a15 a16 a17 a18 a19 a20 : Int} {a21 : List Int} {a25 : List lane_open} {a29 : List api_Message} {a33 a34 a35 a36 a37 a38 a39 a40 a41 a42 a43 : Int} {b1 : Nat} {A3 : Option Addr} {c4 : Nat} {A7 : Option Addr} {c8 : Nat} {A11 : Option Addr} {c12 : Nat} {A22 : Option Addr} {c23 : Nat} {A26 : Option Addr} {c27 : Nat} {A30 : Option Addr} {c31 : Nat} (hr5 : SlR (Rep.sl E_api_Instr.rep) hf A3 c4 a2) (hr9 : SlR E_api_Link.rep hf A7 c8 a6) (hr13 : SlR E_api_Start.rep hf A11 c12 a10) (hr24 : SlR ((FI .i64).rep) hf A22 c23 a21) (hr28 : SlR E_lane_open.rep hf A26 c27 a25) (hr32 : SlR E_api_Message.rep hf A30 c31 a29) {r : Unit} (h : lane_Lane_Drop.f a2 a6 a10 a14 a15 a16 a17 a18 a19 a20 a21 a25 a29 a33 a34 a35 a36 a37 a38 a39 a40 a41 a42 a43 = some r) (hS : St B w (Cl b1 [.slice A3 a2.length c4, .slice A7 a6.length c8, .slice A11 a10.length c12, .int .u64 a14, .int .i64 a15, .int .i64 a16, .int .i64 a17, .int .i64 a18, .int .i64 a19, .int .i64 a20, .slice A22 a21.length c23, .pointer none, .pointer none, .slice A26 a25.length c27, .slice A30 a29.length c31, .map none, .map none, .int .i64 a33, .int .i64 a34, .int .i64 a35, .int .i64 a36, .int .i64 a37, .int .i64 a38, .int .i64 a39, .int .i64 a40, .int .i64 a41, .int .i64 a42] 47 :: l) hf) :
    Calls prog 7 #[.pointer (some ⟨b1, 0, none⟩), .int .i64 a43] w (Ret fun v w => v = .slice none 0 0 ∧ St B w (Cl b1 [.slice A3 a2.length c4, .slice A7 a6.length c8, .slice A11 a10.length c12, .int .u64 a14, .int .i64 a15, .int .i64 a16, .int .i64 a17, .int .i64 a18, .int .i64 a19, .int .i64 a20, .slice A22 a21.length c23, .pointer none, .pointer none, .slice A26 a25.length c27, .slice A30 a29.length c31, .map none, .map none, .int .i64 a33, .int .i64 a34, .int .i64 a35, .int .i64 a36, .int .i64 a37, .int .i64 a38, .int .i64 a39, .int .i64 a40, .int .i64 a41, .int .i64 a42] 47 :: l) hf) := by
  have h := Holds.of h
  refine en func7 rfl ntmps7 rfl (sr (pn 1 rfl (ln (RC.seq (sr (pn 1 rfl (cF (fun _ hg => lane_Lane_none_2.ok hr5 hr9 hr13 hr24 hr28 hr32 hg hS) call18 h rfl rfl rfl ?_)))))))
  rintro _ h _ w ⟨rfl, hS⟩
  refine ln (RC.condT rfl (sr (pn 1 rfl (lr (RQ.ret ?_)))))
  exact rt results7 rfl ⟨rfl, hS⟩

/-! ### isochron/vtime.Least: function 41 -/
noncomputable def vtime_Least.l2b (a1 : List Int) : Int × Int → Option ((Int × Int) ⊕ (Int))
  | (x26, x27) => (if x27 < (a1.length : Int) then (if 0 ≤ x27 then some (.inl ((if nth a1 x27 < x26 then nth a1 x27 else x26), IntKind.i64.wrap (x27 + 1))) else none) else some (.inr x26))
noncomputable def vtime_Least.l2 (a1 : List Int) (s : Int × Int) : Option (Int) := loopR (vtime_Least.l2b a1) s
noncomputable def vtime_Least.f (a1 : List Int) : Option (Int) := vtime_Least.l2 a1 (4611686018427387904, 0)
theorem vtime_Least.ok {a1 : List Int} {A2 : Option Addr} {c3 : Nat} (hr4 : SlR ((FI .i64).rep) hf A2 c3 a1) {r : Int} (h : vtime_Least.f a1 = some r) (hS : St B w (l) hf) :
    Calls prog 41 #[.slice A2 a1.length c3] w (Ret fun v w => v = .int .i64 r ∧ St B w (l) hf) := by
  have h := Holds.of h
  refine en func41 rfl ntmps41 rfl (sr (pn 1 rfl (lnsr (pn 1 rfl (ln (RC.seq (sr (pn 1 rfl (RL.s (Vl.lenSl underlying137 rfl) rfl ?_)))))))))
  refine pn 1 rfl (ln (RC.block ?_))
  refine fun a ha => RC.loop (N := 17) (body := (vtime_Least.l2b a1)) (φ := (· = r)) (fun (s : Int × Int) a w => ∃ (x26 : Int) (x27 : Int), s = (x26, x27) ∧ Has 17 [(3, .int .i64 x26), (6, .slice A2 a1.length c3), (7, .int .i64 (a1.length : Int)), (8, .int .i64 x27)] a ∧ St B w (l) hf) ?_ (s0 := (4611686018427387904, 0)) h ⟨4611686018427387904, 0, rfl, ha.to ⟨rfl, rfl, rfl, rfl, trivial⟩, hS⟩
  rintro G34 _ a w ⟨x26, x27, rfl, ha, hS⟩ h
  revert a
  show RC _ _ _ _ _ _
  refine sr (pn 1 rfl (ln (RC.seq ?_)))
  refine RC.iteP 9 rfl h (fun hc36 h => ?_) fun hc36 h => ?_
  next =>
   refine RC.condT rfl (sk (RC.seq (RC.block (sr ?_))))
   obtain ⟨hq38, h⟩ := h.req
   refine RL.s (Vl.indexAddr underlying137 sizeOf2 rfl rfl ((hr4.2.world hS.sub).adr hq38 hc36) hq38 hc36 rfl) rfl (RL.s (Vl.load isAgg2 rfl ((hr4.2.world hS.sub).cell (j := 0) hq38 hc36 rfl)) rfl (pn 1 rfl (ln (RC.region (pn 2 rfl (RL.s (Vl.min2 rfl rfl) rfl (pn 1 rfl (RL.nil (RQ.inB_n (RQ.then_n (RC.region (pn 2 rfl (RL.nil ?_)))))))))))))
   exact fun a ha => ⟨((if nth a1 x27 < x26 then nth a1 x27 else x26), IntKind.i64.wrap (x27 + 1)), ⟨(if nth a1 x27 < x26 then nth a1 x27 else x26), (IntKind.i64.wrap (x27 + 1)), rfl, ha.to ⟨rfl, rfl, rfl, rfl, trivial⟩, hS⟩, h.some⟩
  next =>
   refine RC.condF rfl (RC.exit (RQ.exitT ?_))
   have h := h.inrS
   refine RQ.exitT (RQ.inB_hit (tsr (pn 2 rfl (lr ?_))))
   obtain rfl := h.some
   exact rt results41 rfl ⟨rfl, hS⟩

/-! ### (*isochron/lane.Lane).Local: function 8 -/
noncomputable def lane_Lane_Local.f  : Option (Int) := ((vtime_Least.f ([])).bind fun t7 => ((lane_Lane_none.f).bind fun _ => some t7))
theorem lane_Lane_Local.ok {r : Int} (h : lane_Lane_Local.f = some r) (hS : St B w (l) hf) :
    Calls prog 8 #[.pointer none] w (Ret fun v w => v = .int .i64 r ∧ St B w (l) hf) := by
  have h := Holds.of h
  refine en func8 rfl ntmps8 rfl (sr (pn 1 rfl (lnsr (cF (fun _ hg => vtime_Least.ok (SlR.nil (A := none) (c := 0)) hg hS) call41 h rfl rfl rfl ?_))))
  rintro t7 h _ w ⟨rfl, hS⟩
  refine pn 1 rfl (ln (RC.seq (sr (pn 1 rfl (cF (fun _ hg => lane_Lane_none.ok hg hS) call18 h rfl rfl rfl ?_)))))
  rintro _ h _ w ⟨rfl, hS⟩
  refine ln (RC.condT rfl (sr (pn 2 rfl (lr (RQ.ret ?_)))))
  obtain rfl := h.some
  exact rt results8 rfl ⟨rfl, hS⟩

/-! ### (*isochron/lane.Lane).Set: function 9 -/
noncomputable def lane_Lane_Set.f (a2 : List (List api_Instr)) (a6 : List api_Link) (a10 : List api_Start) (a14 a15 a16 a17 a18 a19 a20 : Int) (a21 : List Int) (a25 : List lane_open) (a29 : List api_Message) (a33 a34 a35 a36 a37 a38 a39 a40 a41 a42 : Int) (a43 : api_Setting) : Option (Int) := ((lane_Lane_none_2.f a2 a6 a10 a14 a15 a16 a17 a18 a19 a20 a21 a25 a29 a33 a34 a35 a36 a37 a38 a39 a40 a41 a42).bind fun _ => some 7)
theorem lane_Lane_Set.ok {a2 : List (List api_Instr)} {a6 : List api_Link} {a10 : List api_Start} {a14 a15 a16 a17 a18 a19 a20 : Int} {a21 : List Int} {a25 : List lane_open} {a29 : List api_Message} {a33 a34 a35 a36 a37 a38 a39 a40 a41 a42 : Int} {a43 : api_Setting} {b1 : Nat} {A3 : Option Addr} {c4 : Nat} {A7 : Option Addr} {c8 : Nat} {A11 : Option Addr} {c12 : Nat} {A22 : Option Addr} {c23 : Nat} {A26 : Option Addr} {c27 : Nat} {A30 : Option Addr} {c31 : Nat} (hr5 : SlR (Rep.sl E_api_Instr.rep) hf A3 c4 a2) (hr9 : SlR E_api_Link.rep hf A7 c8 a6) (hr13 : SlR E_api_Start.rep hf A11 c12 a10) (hr24 : SlR ((FI .i64).rep) hf A22 c23 a21) (hr28 : SlR E_lane_open.rep hf A26 c27 a25) (hr32 : SlR E_api_Message.rep hf A30 c31 a29) {r : Int} (h : lane_Lane_Set.f a2 a6 a10 a14 a15 a16 a17 a18 a19 a20 a21 a25 a29 a33 a34 a35 a36 a37 a38 a39 a40 a41 a42 a43 = some r) (hS : St B w (Cl b1 [.slice A3 a2.length c4, .slice A7 a6.length c8, .slice A11 a10.length c12, .int .u64 a14, .int .i64 a15, .int .i64 a16, .int .i64 a17, .int .i64 a18, .int .i64 a19, .int .i64 a20, .slice A22 a21.length c23, .pointer none, .pointer none, .slice A26 a25.length c27, .slice A30 a29.length c31, .map none, .map none, .int .i64 a33, .int .i64 a34, .int .i64 a35, .int .i64 a36, .int .i64 a37, .int .i64 a38, .int .i64 a39, .int .i64 a40, .int .i64 a41, .int .i64 a42] 47 :: l) hf) :
    Calls prog 9 #[.pointer (some ⟨b1, 0, none⟩), .agg #[.int .i64 a43.Mode, .int .i64 a43.Every, .int .i64 a43.Cancel, .int .i64 a43.Reach, .int .i64 a43.Queue]] w (Ret fun v w => v = .int .i64 r ∧ St B w (Cl b1 [.slice A3 a2.length c4, .slice A7 a6.length c8, .slice A11 a10.length c12, .int .u64 a14, .int .i64 a15, .int .i64 a16, .int .i64 a17, .int .i64 a18, .int .i64 a19, .int .i64 a20, .slice A22 a21.length c23, .pointer none, .pointer none, .slice A26 a25.length c27, .slice A30 a29.length c31, .map none, .map none, .int .i64 a33, .int .i64 a34, .int .i64 a35, .int .i64 a36, .int .i64 a37, .int .i64 a38, .int .i64 a39, .int .i64 a40, .int .i64 a41, .int .i64 a42] 47 :: l) hf) := by
  have h := Holds.of h
  refine en func9 rfl ntmps9 rfl (sr (bx hS rfl rfl rfl rfl fun b49 w hS => pn 1 rfl (ln (RC.seq (sr (pn 1 rfl (cF (fun _ hg => lane_Lane_none_2.ok hr5 hr9 hr13 hr24 hr28 hr32 hg hS.p1) call18 h rfl rfl rfl ?_)))))))
  rintro _ h _ w ⟨rfl, hS⟩
  refine ln (RC.condT rfl (sr (pn 1 rfl (lr (RQ.ret ?_)))))
  obtain rfl := h.some
  exact rt results9 rfl ⟨rfl, hS.d1⟩

/-! ### (*isochron/lane.Lane).Setting: function 10 -/
noncomputable def lane_Lane_Setting.f  : Option (api_Setting) := ((lane_Lane_none.f).bind fun _ => some (⟨0, 0, 0, 0, 0⟩ : api_Setting))
theorem lane_Lane_Setting.ok {r : api_Setting} (h : lane_Lane_Setting.f = some r) (hS : St B w (l) hf) :
    Calls prog 10 #[.pointer none] w (Ret fun v w => v = .agg #[.int .i64 r.Mode, .int .i64 r.Every, .int .i64 r.Cancel, .int .i64 r.Reach, .int .i64 r.Queue] ∧ St B w (l) hf) := by
  have h := Holds.of h
  refine en func10 rfl ntmps10 rfl (sr (al hS zeroValue43 rfl rfl rfl fun b6 w hS => ln (RC.seq (sr (pn 1 rfl (cF (fun _ hg => lane_Lane_none.ok hg hS) call18 h rfl rfl rfl ?_))))))
  rintro _ h _ w ⟨rfl, hS⟩
  refine ln (RC.condT rfl (sr (RL.s (Vl.build (v := .agg #[.int .i64 0, .int .i64 0, .int .i64 0, .int .i64 0, .int .i64 0]) (parts := []) rfl (by kernel_rfl)) rfl (RL.e0 (OW.store (vs := [.int .i64 0, .int .i64 0, .int .i64 0, .int .i64 0, .int .i64 0]) 0 hS rfl rfl rfl rfl sizeOf43 rfl rfl rfl rfl) rfl ?_))))
  rintro _ w ⟨rfl, hS⟩
  have hS : St B w (Cl _ [_, _, _, _, _] _ :: l) hf := hS
  refine lr (RQ.ret ?_)
  obtain rfl := h.some
  refine RQ.ret0 (vs := [.agg #[.int .i64 0, .int .i64 0, .int .i64 0, .int .i64 0, .int .i64 0]]) results10 ⟨⟨_, rfl, run_loadVarA (vs := [.int .i64 0, .int .i64 0, .int .i64 0, .int .i64 0, .int .i64 0]) isAgg43 sizeOf43 rfl (hS.cellsAt 0 rfl rfl)⟩, trivial⟩ ?_
  exact ⟨rfl, hS.d0⟩

/-! ### (*isochron/lane.Lane).Stats: function 11 -/
noncomputable def lane_Lane_Stats.f (a2 : List (List api_Instr)) (a6 : List api_Link) (a10 : List api_Start) (a14 a15 a16 a17 a18 a19 a20 : Int) (a21 : List Int) (a25 : List lane_open) (a29 : List api_Message) (a33 a34 a35 a36 a37 a38 a39 a40 a41 a42 : Int) : Option (api_Stats) := ((lane_Lane_none_2.f a2 a6 a10 a14 a15 a16 a17 a18 a19 a20 a21 a25 a29 a33 a34 a35 a36 a37 a38 a39 a40 a41 a42).bind fun _ => some (⟨0, 0, 0, 0⟩ : api_Stats))
theorem lane_Lane_Stats.ok {a2 : List (List api_Instr)} {a6 : List api_Link} {a10 : List api_Start} {a14 a15 a16 a17 a18 a19 a20 : Int} {a21 : List Int} {a25 : List lane_open} {a29 : List api_Message} {a33 a34 a35 a36 a37 a38 a39 a40 a41 a42 : Int} {b1 : Nat} {A3 : Option Addr} {c4 : Nat} {A7 : Option Addr} {c8 : Nat} {A11 : Option Addr} {c12 : Nat} {A22 : Option Addr} {c23 : Nat} {A26 : Option Addr} {c27 : Nat} {A30 : Option Addr} {c31 : Nat} (hr5 : SlR (Rep.sl E_api_Instr.rep) hf A3 c4 a2) (hr9 : SlR E_api_Link.rep hf A7 c8 a6) (hr13 : SlR E_api_Start.rep hf A11 c12 a10) (hr24 : SlR ((FI .i64).rep) hf A22 c23 a21) (hr28 : SlR E_lane_open.rep hf A26 c27 a25) (hr32 : SlR E_api_Message.rep hf A30 c31 a29) {r : api_Stats} (h : lane_Lane_Stats.f a2 a6 a10 a14 a15 a16 a17 a18 a19 a20 a21 a25 a29 a33 a34 a35 a36 a37 a38 a39 a40 a41 a42 = some r) (hS : St B w (Cl b1 [.slice A3 a2.length c4, .slice A7 a6.length c8, .slice A11 a10.length c12, .int .u64 a14, .int .i64 a15, .int .i64 a16, .int .i64 a17, .int .i64 a18, .int .i64 a19, .int .i64 a20, .slice A22 a21.length c23, .pointer none, .pointer none, .slice A26 a25.length c27, .slice A30 a29.length c31, .map none, .map none, .int .i64 a33, .int .i64 a34, .int .i64 a35, .int .i64 a36, .int .i64 a37, .int .i64 a38, .int .i64 a39, .int .i64 a40, .int .i64 a41, .int .i64 a42] 47 :: l) hf) :
    Calls prog 11 #[.pointer (some ⟨b1, 0, none⟩)] w (Ret fun v w => v = .agg #[.int .i64 r.Done, .int .i64 r.Undone, .int .i64 r.Hits, .int .i64 r.Held] ∧ St B w (Cl b1 [.slice A3 a2.length c4, .slice A7 a6.length c8, .slice A11 a10.length c12, .int .u64 a14, .int .i64 a15, .int .i64 a16, .int .i64 a17, .int .i64 a18, .int .i64 a19, .int .i64 a20, .slice A22 a21.length c23, .pointer none, .pointer none, .slice A26 a25.length c27, .slice A30 a29.length c31, .map none, .map none, .int .i64 a33, .int .i64 a34, .int .i64 a35, .int .i64 a36, .int .i64 a37, .int .i64 a38, .int .i64 a39, .int .i64 a40, .int .i64 a41, .int .i64 a42] 47 :: l) hf) := by
  have h := Holds.of h
  refine en func11 rfl ntmps11 rfl (sr (al hS zeroValue45 rfl rfl rfl fun b48 w hS => ln (RC.seq (sr (pn 1 rfl (cF (fun _ hg => lane_Lane_none_2.ok hr5 hr9 hr13 hr24 hr28 hr32 hg hS.p1) call18 h rfl rfl rfl ?_))))))
  rintro _ h _ w ⟨rfl, hS⟩
  refine ln (RC.condT rfl (sr (RL.s (Vl.build (v := .agg #[.int .i64 0, .int .i64 0, .int .i64 0, .int .i64 0]) (parts := []) rfl (by kernel_rfl)) rfl (RL.e0 (OW.store (vs := [.int .i64 0, .int .i64 0, .int .i64 0, .int .i64 0]) 1 hS rfl rfl rfl rfl sizeOf45 rfl rfl rfl rfl) rfl ?_))))
  rintro _ w ⟨rfl, hS⟩
  have hS : St B w (_ :: Cl _ [_, _, _, _] _ :: l) hf := hS
  refine lr (RQ.ret ?_)
  obtain rfl := h.some
  refine RQ.ret0 (vs := [.agg #[.int .i64 0, .int .i64 0, .int .i64 0, .int .i64 0]]) results11 ⟨⟨_, rfl, run_loadVarA (vs := [.int .i64 0, .int .i64 0, .int .i64 0, .int .i64 0]) isAgg45 sizeOf45 rfl (hS.cellsAt 1 rfl rfl)⟩, trivial⟩ ?_
  exact ⟨rfl, hS.d1⟩

/-! ### (*isochron/lane.Lane).State: function 12 -/
noncomputable def lane_Lane_State.f  : Option (api_State) := ((lane_Lane_none.f).bind fun _ => some (⟨(⟨0, 0, 0, 0, 0, 0, 0, 0⟩ : Arr8xInti64), 0, 0⟩ : api_State))
theorem lane_Lane_State.ok {r : api_State} (h : lane_Lane_State.f = some r) (hS : St B w (l) hf) :
    Calls prog 12 #[.pointer none] w (Ret fun v w => v = .agg #[.int .i64 r.Regs.c0, .int .i64 r.Regs.c1, .int .i64 r.Regs.c2, .int .i64 r.Regs.c3, .int .i64 r.Regs.c4, .int .i64 r.Regs.c5, .int .i64 r.Regs.c6, .int .i64 r.Regs.c7, .int .i64 r.Draws, .int .i64 r.Sent] ∧ St B w (l) hf) := by
  have h := Holds.of h
  refine en func12 rfl ntmps12 rfl (sr (al hS zeroValue61 rfl rfl rfl fun b6 w hS => ln (RC.seq (sr (pn 1 rfl (cF (fun _ hg => lane_Lane_none.ok hg hS) call18 h rfl rfl rfl ?_))))))
  rintro _ h _ w ⟨rfl, hS⟩
  refine ln (RC.condT rfl (sr (RL.s (Vl.build (v := .agg #[.int .i64 0, .int .i64 0, .int .i64 0, .int .i64 0, .int .i64 0, .int .i64 0, .int .i64 0, .int .i64 0, .int .i64 0, .int .i64 0]) (parts := []) rfl (by kernel_rfl)) rfl (RL.e0 (OW.store (vs := [.int .i64 0, .int .i64 0, .int .i64 0, .int .i64 0, .int .i64 0, .int .i64 0, .int .i64 0, .int .i64 0, .int .i64 0, .int .i64 0]) 0 hS rfl rfl rfl rfl sizeOf61 rfl rfl rfl rfl) rfl ?_))))
  rintro _ w ⟨rfl, hS⟩
  have hS : St B w (Cl _ [_, _, _, _, _, _, _, _, _, _] _ :: l) hf := hS
  refine lr (RQ.ret ?_)
  obtain rfl := h.some
  refine RQ.ret0 (vs := [.agg #[.int .i64 0, .int .i64 0, .int .i64 0, .int .i64 0, .int .i64 0, .int .i64 0, .int .i64 0, .int .i64 0, .int .i64 0, .int .i64 0]]) results12 ⟨⟨_, rfl, run_loadVarA (vs := [.int .i64 0, .int .i64 0, .int .i64 0, .int .i64 0, .int .i64 0, .int .i64 0, .int .i64 0, .int .i64 0, .int .i64 0, .int .i64 0]) isAgg61 sizeOf61 rfl (hS.cellsAt 0 rfl rfl)⟩, trivial⟩ ?_
  exact ⟨rfl, hS.d0⟩

/-! ### (*isochron/lane.Lane).Waiting: function 13 -/
noncomputable def lane_Lane_Waiting.f (a2 : List (List api_Instr)) (a6 : List api_Link) (a10 : List api_Start) (a14 a15 a16 a17 a18 a19 a20 : Int) (a21 : List Int) (a25 : List lane_open) (a29 : List api_Message) (a33 a34 a35 a36 a37 a38 a39 a40 a41 a42 : Int) : Option (Unit) := ((lane_Lane_none_2.f a2 a6 a10 a14 a15 a16 a17 a18 a19 a20 a21 a25 a29 a33 a34 a35 a36 a37 a38 a39 a40 a41 a42).bind fun _ => some ())
theorem lane_Lane_Waiting.ok {a2 : List (List api_Instr)} {a6 : List api_Link} {a10 : List api_Start} {a14 a15 a16 a17 a18 a19 a20 : Int} {a21 : List Int} {a25 : List lane_open} {a29 : List api_Message} {a33 a34 a35 a36 a37 a38 a39 a40 a41 a42 : Int} {b1 : Nat} {A3 : Option Addr} {c4 : Nat} {A7 : Option Addr} {c8 : Nat} {A11 : Option Addr} {c12 : Nat} {A22 : Option Addr} {c23 : Nat} {A26 : Option Addr} {c27 : Nat} {A30 : Option Addr} {c31 : Nat} (hr5 : SlR (Rep.sl E_api_Instr.rep) hf A3 c4 a2) (hr9 : SlR E_api_Link.rep hf A7 c8 a6) (hr13 : SlR E_api_Start.rep hf A11 c12 a10) (hr24 : SlR ((FI .i64).rep) hf A22 c23 a21) (hr28 : SlR E_lane_open.rep hf A26 c27 a25) (hr32 : SlR E_api_Message.rep hf A30 c31 a29) {r : Unit} (h : lane_Lane_Waiting.f a2 a6 a10 a14 a15 a16 a17 a18 a19 a20 a21 a25 a29 a33 a34 a35 a36 a37 a38 a39 a40 a41 a42 = some r) (hS : St B w (Cl b1 [.slice A3 a2.length c4, .slice A7 a6.length c8, .slice A11 a10.length c12, .int .u64 a14, .int .i64 a15, .int .i64 a16, .int .i64 a17, .int .i64 a18, .int .i64 a19, .int .i64 a20, .slice A22 a21.length c23, .pointer none, .pointer none, .slice A26 a25.length c27, .slice A30 a29.length c31, .map none, .map none, .int .i64 a33, .int .i64 a34, .int .i64 a35, .int .i64 a36, .int .i64 a37, .int .i64 a38, .int .i64 a39, .int .i64 a40, .int .i64 a41, .int .i64 a42] 47 :: l) hf) :
    Calls prog 13 #[.pointer (some ⟨b1, 0, none⟩)] w (Ret fun v w => v = .slice none 0 0 ∧ St B w (Cl b1 [.slice A3 a2.length c4, .slice A7 a6.length c8, .slice A11 a10.length c12, .int .u64 a14, .int .i64 a15, .int .i64 a16, .int .i64 a17, .int .i64 a18, .int .i64 a19, .int .i64 a20, .slice A22 a21.length c23, .pointer none, .pointer none, .slice A26 a25.length c27, .slice A30 a29.length c31, .map none, .map none, .int .i64 a33, .int .i64 a34, .int .i64 a35, .int .i64 a36, .int .i64 a37, .int .i64 a38, .int .i64 a39, .int .i64 a40, .int .i64 a41, .int .i64 a42] 47 :: l) hf) := by
  have h := Holds.of h
  refine en func13 rfl ntmps13 rfl (sr (pn 1 rfl (ln (RC.seq (sr (pn 1 rfl (cF (fun _ hg => lane_Lane_none_2.ok hr5 hr9 hr13 hr24 hr28 hr32 hg hS) call18 h rfl rfl rfl ?_)))))))
  rintro _ h _ w ⟨rfl, hS⟩
  refine ln (RC.condT rfl (sr (pn 1 rfl (lr (RQ.ret ?_)))))
  exact rt results13 rfl ⟨rfl, hS⟩

/-! ### (*isochron/lane.Lane).Open: function 14 -/
noncomputable def lane_Lane_Open.f  : Option (Unit) := ((lane_Lane_none.f).bind fun _ => some ())
theorem lane_Lane_Open.ok {r : Unit} (h : lane_Lane_Open.f = some r) (hS : St B w (l) hf) :
    Calls prog 14 #[.pointer none] w (Ret fun v w => v = .slice none 0 0 ∧ St B w (l) hf) := by
  have h := Holds.of h
  refine en func14 rfl ntmps14 rfl (sr (pn 1 rfl (ln (RC.seq (sr (pn 1 rfl (cF (fun _ hg => lane_Lane_none.ok hg hS) call18 h rfl rfl rfl ?_)))))))
  rintro _ h _ w ⟨rfl, hS⟩
  refine ln (RC.condT rfl (sr (pn 1 rfl (lr (RQ.ret ?_)))))
  exact rt results14 rfl ⟨rfl, hS⟩

/-! ### (*isochron/lane.Lane).Orphans: function 15 -/
noncomputable def lane_Lane_Orphans.f (a2 : List (List api_Instr)) (a6 : List api_Link) (a10 : List api_Start) (a14 a15 a16 a17 a18 a19 a20 : Int) (a21 : List Int) (a25 : List lane_open) (a29 : List api_Message) (a33 a34 a35 a36 a37 a38 a39 a40 a41 a42 : Int) : Option (Unit) := ((lane_Lane_none_2.f a2 a6 a10 a14 a15 a16 a17 a18 a19 a20 a21 a25 a29 a33 a34 a35 a36 a37 a38 a39 a40 a41 a42).bind fun _ => some ())
theorem lane_Lane_Orphans.ok {a2 : List (List api_Instr)} {a6 : List api_Link} {a10 : List api_Start} {a14 a15 a16 a17 a18 a19 a20 : Int} {a21 : List Int} {a25 : List lane_open} {a29 : List api_Message} {a33 a34 a35 a36 a37 a38 a39 a40 a41 a42 : Int} {b1 : Nat} {A3 : Option Addr} {c4 : Nat} {A7 : Option Addr} {c8 : Nat} {A11 : Option Addr} {c12 : Nat} {A22 : Option Addr} {c23 : Nat} {A26 : Option Addr} {c27 : Nat} {A30 : Option Addr} {c31 : Nat} (hr5 : SlR (Rep.sl E_api_Instr.rep) hf A3 c4 a2) (hr9 : SlR E_api_Link.rep hf A7 c8 a6) (hr13 : SlR E_api_Start.rep hf A11 c12 a10) (hr24 : SlR ((FI .i64).rep) hf A22 c23 a21) (hr28 : SlR E_lane_open.rep hf A26 c27 a25) (hr32 : SlR E_api_Message.rep hf A30 c31 a29) {r : Unit} (h : lane_Lane_Orphans.f a2 a6 a10 a14 a15 a16 a17 a18 a19 a20 a21 a25 a29 a33 a34 a35 a36 a37 a38 a39 a40 a41 a42 = some r) (hS : St B w (Cl b1 [.slice A3 a2.length c4, .slice A7 a6.length c8, .slice A11 a10.length c12, .int .u64 a14, .int .i64 a15, .int .i64 a16, .int .i64 a17, .int .i64 a18, .int .i64 a19, .int .i64 a20, .slice A22 a21.length c23, .pointer none, .pointer none, .slice A26 a25.length c27, .slice A30 a29.length c31, .map none, .map none, .int .i64 a33, .int .i64 a34, .int .i64 a35, .int .i64 a36, .int .i64 a37, .int .i64 a38, .int .i64 a39, .int .i64 a40, .int .i64 a41, .int .i64 a42] 47 :: l) hf) :
    Calls prog 15 #[.pointer (some ⟨b1, 0, none⟩)] w (Ret fun v w => v = .slice none 0 0 ∧ St B w (Cl b1 [.slice A3 a2.length c4, .slice A7 a6.length c8, .slice A11 a10.length c12, .int .u64 a14, .int .i64 a15, .int .i64 a16, .int .i64 a17, .int .i64 a18, .int .i64 a19, .int .i64 a20, .slice A22 a21.length c23, .pointer none, .pointer none, .slice A26 a25.length c27, .slice A30 a29.length c31, .map none, .map none, .int .i64 a33, .int .i64 a34, .int .i64 a35, .int .i64 a36, .int .i64 a37, .int .i64 a38, .int .i64 a39, .int .i64 a40, .int .i64 a41, .int .i64 a42] 47 :: l) hf) := by
  have h := Holds.of h
  refine en func15 rfl ntmps15 rfl (sr (pn 1 rfl (ln (RC.seq (sr (pn 1 rfl (cF (fun _ hg => lane_Lane_none_2.ok hr5 hr9 hr13 hr24 hr28 hr32 hg hS) call18 h rfl rfl rfl ?_)))))))
  rintro _ h _ w ⟨rfl, hS⟩
  refine ln (RC.condT rfl (sr (pn 1 rfl (lr (RQ.ret ?_)))))
  exact rt results15 rfl ⟨rfl, hS⟩

/-! ### (*isochron/lane.Lane).Done: function 16 -/
noncomputable def lane_Lane_Done.f  : Option (Unit) := ((lane_Lane_none.f).bind fun _ => some ())
theorem lane_Lane_Done.ok {r : Unit} (h : lane_Lane_Done.f = some r) (hS : St B w (l) hf) :
    Calls prog 16 #[.pointer none] w (Ret fun v w => v = .slice none 0 0 ∧ St B w (l) hf) := by
  have h := Holds.of h
  refine en func16 rfl ntmps16 rfl (sr (pn 1 rfl (ln (RC.seq (sr (pn 1 rfl (cF (fun _ hg => lane_Lane_none.ok hg hS) call18 h rfl rfl rfl ?_)))))))
  rintro _ h _ w ⟨rfl, hS⟩
  refine ln (RC.condT rfl (sr (pn 1 rfl (lr (RQ.ret ?_)))))
  exact rt results16 rfl ⟨rfl, hS⟩

/-! ### (*isochron/lane.Lane).Kept: function 17 -/
noncomputable def lane_Lane_Kept.f (a2 : List (List api_Instr)) (a6 : List api_Link) (a10 : List api_Start) (a14 a15 a16 a17 a18 a19 a20 : Int) (a21 : List Int) (a25 : List lane_open) (a29 : List api_Message) (a33 a34 a35 a36 a37 a38 a39 a40 a41 a42 : Int) : Option (Int) := ((lane_Lane_none_2.f a2 a6 a10 a14 a15 a16 a17 a18 a19 a20 a21 a25 a29 a33 a34 a35 a36 a37 a38 a39 a40 a41 a42).bind fun _ => some 0)
theorem lane_Lane_Kept.ok {a2 : List (List api_Instr)} {a6 : List api_Link} {a10 : List api_Start} {a14 a15 a16 a17 a18 a19 a20 : Int} {a21 : List Int} {a25 : List lane_open} {a29 : List api_Message} {a33 a34 a35 a36 a37 a38 a39 a40 a41 a42 : Int} {b1 : Nat} {A3 : Option Addr} {c4 : Nat} {A7 : Option Addr} {c8 : Nat} {A11 : Option Addr} {c12 : Nat} {A22 : Option Addr} {c23 : Nat} {A26 : Option Addr} {c27 : Nat} {A30 : Option Addr} {c31 : Nat} (hr5 : SlR (Rep.sl E_api_Instr.rep) hf A3 c4 a2) (hr9 : SlR E_api_Link.rep hf A7 c8 a6) (hr13 : SlR E_api_Start.rep hf A11 c12 a10) (hr24 : SlR ((FI .i64).rep) hf A22 c23 a21) (hr28 : SlR E_lane_open.rep hf A26 c27 a25) (hr32 : SlR E_api_Message.rep hf A30 c31 a29) {r : Int} (h : lane_Lane_Kept.f a2 a6 a10 a14 a15 a16 a17 a18 a19 a20 a21 a25 a29 a33 a34 a35 a36 a37 a38 a39 a40 a41 a42 = some r) (hS : St B w (Cl b1 [.slice A3 a2.length c4, .slice A7 a6.length c8, .slice A11 a10.length c12, .int .u64 a14, .int .i64 a15, .int .i64 a16, .int .i64 a17, .int .i64 a18, .int .i64 a19, .int .i64 a20, .slice A22 a21.length c23, .pointer none, .pointer none, .slice A26 a25.length c27, .slice A30 a29.length c31, .map none, .map none, .int .i64 a33, .int .i64 a34, .int .i64 a35, .int .i64 a36, .int .i64 a37, .int .i64 a38, .int .i64 a39, .int .i64 a40, .int .i64 a41, .int .i64 a42] 47 :: l) hf) :
    Calls prog 17 #[.pointer (some ⟨b1, 0, none⟩)] w (Ret fun v w => v = .int .i64 r ∧ St B w (Cl b1 [.slice A3 a2.length c4, .slice A7 a6.length c8, .slice A11 a10.length c12, .int .u64 a14, .int .i64 a15, .int .i64 a16, .int .i64 a17, .int .i64 a18, .int .i64 a19, .int .i64 a20, .slice A22 a21.length c23, .pointer none, .pointer none, .slice A26 a25.length c27, .slice A30 a29.length c31, .map none, .map none, .int .i64 a33, .int .i64 a34, .int .i64 a35, .int .i64 a36, .int .i64 a37, .int .i64 a38, .int .i64 a39, .int .i64 a40, .int .i64 a41, .int .i64 a42] 47 :: l) hf) := by
  have h := Holds.of h
  refine en func17 rfl ntmps17 rfl (sr (pn 1 rfl (ln (RC.seq (sr (pn 1 rfl (cF (fun _ hg => lane_Lane_none_2.ok hr5 hr9 hr13 hr24 hr28 hr32 hg hS) call18 h rfl rfl rfl ?_)))))))
  rintro _ h _ w ⟨rfl, hS⟩
  refine ln (RC.condT rfl (sr (pn 1 rfl (lr (RQ.ret ?_)))))
  obtain rfl := h.some
  exact rt results17 rfl ⟨rfl, hS⟩

/-! ### isochron/isochronlaw17.LaneZero: function 3 -/
noncomputable def isochronlaw17vLaneZero.f (a1 : api_Message) (a2 : Int) : Option (Bool) := ((lane_Lane_Get.f a1).bind fun t42 => ((lane_Lane_Step.f ([]) ([]) ([]) 0 0 0 0 0 0 0 ([]) ([]) ([]) 0 0 0 0 0 0 0 0 0 0 5 ([])).bind fun t44 => (if t42 = 7 then (if t44 = 7 then ((lane_Lane_Settle.f).bind fun _ => ((lane_Lane_Drop.f ([]) ([]) ([]) 0 0 0 0 0 0 0 ([]) ([]) ([]) 0 0 0 0 0 0 0 0 0 0 a2).bind fun _ => ((lane_Lane_Local.f).bind fun t52 => (if t52 = 4611686018427387904 then ((lane_Lane_Set.f ([]) ([]) ([]) 0 0 0 0 0 0 0 ([]) ([]) ([]) 0 0 0 0 0 0 0 0 0 0 (⟨0, 0, 0, 0, 0⟩ : api_Setting)).bind fun t55 => (if t55 = 7 then ((lane_Lane_Setting.f).bind fun t58 => (if t58 = (⟨0, 0, 0, 0, 0⟩ : api_Setting) then ((lane_Lane_Stats.f ([]) ([]) ([]) 0 0 0 0 0 0 0 ([]) ([]) ([]) 0 0 0 0 0 0 0 0 0 0).bind fun t61 => (if t61 = (⟨0, 0, 0, 0⟩ : api_Stats) then ((lane_Lane_State.f).bind fun t64 => (if t64 = (⟨(⟨0, 0, 0, 0, 0, 0, 0, 0⟩ : Arr8xInti64), 0, 0⟩ : api_State) then ((lane_Lane_Waiting.f ([]) ([]) ([]) 0 0 0 0 0 0 0 ([]) ([]) ([]) 0 0 0 0 0 0 0 0 0 0).bind fun _ => ((lane_Lane_Open.f).bind fun _ => ((lane_Lane_Orphans.f ([]) ([]) ([]) 0 0 0 0 0 0 0 ([]) ([]) ([]) 0 0 0 0 0 0 0 0 0 0).bind fun _ => ((lane_Lane_Done.f).bind fun _ => ((lane_Lane_Kept.f ([]) ([]) ([]) 0 0 0 0 0 0 0 ([]) ([]) ([]) 0 0 0 0 0 0 0 0 0 0).bind fun t75 => some (decide (t75 = 0))))))) else some false)) else some false)) else some false)) else some false)) else some false)))) else some false) else some false)))
theorem isochronlaw17vLaneZero.ok {a1 : api_Message} {a2 : Int} {r : Bool} (h : isochronlaw17vLaneZero.f a1 a2 = some r) (hS : St B w (l) hf) :
    Calls prog 3 #[.agg #[.int .i64 a1.Key.Time, .int .i64 a1.Key.From, .int .i64 a1.Key.Seq, .int .i64 a1.To, .int .i64 a1.Value, .int .i64 a1.Uid, .bool a1.Anti], .int .i64 a2] w (Ret fun v w => v = .bool r ∧ St B w (l) hf) := by
  have h := Holds.of h
  refine en func3 rfl ntmps3 rfl (sr (bx hS rfl rfl rfl rfl fun b40 w hS => pn 1 rfl (lnsr (pn 1 rfl (lnsr (al hS zeroValue47 rfl rfl rfl fun b41 w hS => RL.nil ?_))))))
  refine tsr (pn 1 rfl (RL.s (Vl.lw 1 hS isAgg25 sizeOf25 rfl rfl rfl) rfl (cF (fun _ hg => lane_Lane_Get.ok hg hS) call4 h rfl rfl rfl ?_)))
  rintro t42 h _ w ⟨rfl, hS⟩
  refine pn 5 rfl (lnsr (cF (fun _ hg => lane_Lane_Step.ok (SlR.nil (A := none) (c := 0)) (SlR.nil (A := none) (c := 0)) (SlR.nil (A := none) (c := 0)) (SlR.nil (A := none) (c := 0)) (SlR.nil (A := none) (c := 0)) (SlR.nil (A := none) (c := 0)) (SlR.nil (A := none) (c := 0)) hg hS) call5 h rfl rfl rfl ?_))
  rintro t44 h _ w ⟨rfl, hS⟩
  refine pn 5 rfl (lnsr (pn 1 rfl (lnsr (pn 4 rfl ?_))))
  refine RL.iteP 25 rfl h (fun hc46 h => ?_) fun hc46 h => ?_
  next =>
   refine pn 5 rfl ?_
   refine RL.iteP 30 rfl h (fun hc47 h => ?_) fun hc47 h => ?_
   next =>
    refine pn 1 rfl (cF (fun _ hg => lane_Lane_Settle.ok hg hS) call6 h rfl rfl rfl ?_)
    rintro _ h _ w ⟨rfl, hS⟩
    refine RL.sg (Vl.lenSl underlying39 rfl) rfl rfl (pn 4 rfl (cF (fun _ hg => lane_Lane_Drop.ok (SlR.nil (A := none) (c := 0)) (SlR.nil (A := none) (c := 0)) (SlR.nil (A := none) (c := 0)) (SlR.nil (A := none) (c := 0)) (SlR.nil (A := none) (c := 0)) (SlR.nil (A := none) (c := 0)) hg hS) call7 h rfl rfl rfl ?_))
    rintro _ h _ w ⟨rfl, hS⟩
    refine RL.sg (Vl.lenSl underlying53 rfl) rfl rfl (pn 4 rfl (cF (fun _ hg => lane_Lane_Local.ok hg hS) call8 h rfl rfl rfl ?_))
    rintro t52 h _ w ⟨rfl, hS⟩
    refine pn 3 rfl ?_
    refine RL.iteP 47 rfl h (fun hc54 h => ?_) fun hc54 h => ?_
    next =>
     refine RL.sg (Vl.build (v := .agg #[.int .i64 0, .int .i64 0, .int .i64 0, .int .i64 0, .int .i64 0]) (parts := []) rfl (by kernel_rfl)) rfl rfl (cF (fun _ hg => lane_Lane_Set.ok (SlR.nil (A := none) (c := 0)) (SlR.nil (A := none) (c := 0)) (SlR.nil (A := none) (c := 0)) (SlR.nil (A := none) (c := 0)) (SlR.nil (A := none) (c := 0)) (SlR.nil (A := none) (c := 0)) hg hS) call9 h rfl rfl rfl ?_)
     rintro t55 h _ w ⟨rfl, hS⟩
     refine pn 4 rfl ?_
     refine RL.iteP 53 rfl h (fun hc57 h => ?_) fun hc57 h => ?_
     next =>
      refine pn 1 rfl (cF (fun _ hg => lane_Lane_Setting.ok hg hS) call10 h rfl rfl rfl ?_)
      rintro t58 h _ w ⟨rfl, hS⟩
      refine RL.sg (Vl.build (v := .agg #[.int .i64 0, .int .i64 0, .int .i64 0, .int .i64 0, .int .i64 0]) (parts := []) rfl (by kernel_rfl)) rfl rfl (RL.sg (Vl.eqlS (run_eql_api_Setting _ _ t58 (⟨0, 0, 0, 0, 0⟩ : api_Setting)) rfl rfl) rfl rfl (pn 2 rfl ?_))
      refine RL.iteP 59 rfl h (fun hc60 h => ?_) fun hc60 h => ?_
      next =>
       refine cF (fun _ hg => lane_Lane_Stats.ok (SlR.nil (A := none) (c := 0)) (SlR.nil (A := none) (c := 0)) (SlR.nil (A := none) (c := 0)) (SlR.nil (A := none) (c := 0)) (SlR.nil (A := none) (c := 0)) (SlR.nil (A := none) (c := 0)) hg hS) call11 h rfl rfl rfl ?_
       rintro t61 h _ w ⟨rfl, hS⟩
       refine RL.sg (Vl.build (v := .agg #[.int .i64 0, .int .i64 0, .int .i64 0, .int .i64 0]) (parts := []) rfl (by kernel_rfl)) rfl rfl (RL.sg (Vl.eqlS (run_eql_api_Stats _ _ t61 (⟨0, 0, 0, 0⟩ : api_Stats)) rfl rfl) rfl rfl (pn 2 rfl ?_))
       refine RL.iteP 64 rfl h (fun hc63 h => ?_) fun hc63 h => ?_
       next =>
        refine pn 1 rfl (cF (fun _ hg => lane_Lane_State.ok hg hS) call12 h rfl rfl rfl ?_)
        rintro t64 h _ w ⟨rfl, hS⟩
        refine RL.sg (Vl.build (v := .agg #[.int .i64 0, .int .i64 0, .int .i64 0, .int .i64 0, .int .i64 0, .int .i64 0, .int .i64 0, .int .i64 0, .int .i64 0, .int .i64 0]) (parts := []) rfl (by kernel_rfl)) rfl rfl (RL.sg (Vl.eqlS (run_eql_api_State _ _ t64 (⟨(⟨0, 0, 0, 0, 0, 0, 0, 0⟩ : Arr8xInti64), 0, 0⟩ : api_State)) rfl rfl) rfl rfl (pn 2 rfl ?_))
        refine RL.iteP 70 rfl h (fun hc66 h => ?_) fun hc66 h => ?_
        next =>
         refine cF (fun _ hg => lane_Lane_Waiting.ok (SlR.nil (A := none) (c := 0)) (SlR.nil (A := none) (c := 0)) (SlR.nil (A := none) (c := 0)) (SlR.nil (A := none) (c := 0)) (SlR.nil (A := none) (c := 0)) (SlR.nil (A := none) (c := 0)) hg hS) call13 h rfl rfl rfl ?_
         rintro _ h _ w ⟨rfl, hS⟩
         refine RL.sg (Vl.lenSl underlying39 rfl) rfl rfl (pn 4 rfl (cF (fun _ hg => lane_Lane_Open.ok hg hS) call14 h rfl rfl rfl ?_))
         rintro _ h _ w ⟨rfl, hS⟩
         refine RL.sg (Vl.lenSl underlying39 rfl) rfl rfl (pn 3 rfl (cF (fun _ hg => lane_Lane_Orphans.ok (SlR.nil (A := none) (c := 0)) (SlR.nil (A := none) (c := 0)) (SlR.nil (A := none) (c := 0)) (SlR.nil (A := none) (c := 0)) (SlR.nil (A := none) (c := 0)) (SlR.nil (A := none) (c := 0)) hg hS) call15 h rfl rfl rfl ?_))
         rintro _ h _ w ⟨rfl, hS⟩
         refine RL.sg (Vl.lenSl underlying39 rfl) rfl rfl (pn 4 rfl (cF (fun _ hg => lane_Lane_Done.ok hg hS) call16 h rfl rfl rfl ?_))
         rintro _ h _ w ⟨rfl, hS⟩
         refine RL.sg (Vl.lenSl underlying53 rfl) rfl rfl (pn 3 rfl (cF (fun _ hg => lane_Lane_Kept.ok (SlR.nil (A := none) (c := 0)) (SlR.nil (A := none) (c := 0)) (SlR.nil (A := none) (c := 0)) (SlR.nil (A := none) (c := 0)) (SlR.nil (A := none) (c := 0)) (SlR.nil (A := none) (c := 0)) hg hS) call17 h rfl rfl rfl ?_))
         rintro t75 h _ w ⟨rfl, hS⟩
         refine pn 3 rfl (lr ?_)
         obtain rfl := h.some
         exact rt results3 rfl ⟨rfl, hS.d0.d0⟩
        next =>
         refine pn 26 rfl (lr ?_)
         obtain rfl := h.some
         exact rt results3 rfl ⟨rfl, hS.d0.d0⟩
       next =>
        refine pn 32 rfl (lr ?_)
        obtain rfl := h.some
        exact rt results3 rfl ⟨rfl, hS.d0.d0⟩
      next =>
       refine pn 37 rfl (lr ?_)
       obtain rfl := h.some
       exact rt results3 rfl ⟨rfl, hS.d0.d0⟩
     next =>
      refine pn 43 rfl (lr ?_)
      obtain rfl := h.some
      exact rt results3 rfl ⟨rfl, hS.d0.d0⟩
    next =>
     refine pn 49 rfl (lr ?_)
     obtain rfl := h.some
     exact rt results3 rfl ⟨rfl, hS.d0.d0⟩
   next =>
    refine pn 66 rfl (lr ?_)
    obtain rfl := h.some
    exact rt results3 rfl ⟨rfl, hS.d0.d0⟩
  next =>
   refine pn 71 rfl (lr ?_)
   obtain rfl := h.some
   exact rt results3 rfl ⟨rfl, hS.d0.d0⟩

end Go.Proofs.Gx
