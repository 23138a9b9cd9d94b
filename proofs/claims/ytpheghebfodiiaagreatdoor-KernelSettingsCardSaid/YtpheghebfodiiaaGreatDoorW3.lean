/-
  The walks of functions, each with what it computes: printed by wip/gx.py.
-/
import Derived.Test.YtpheghebfodiiaaGreatDoorW0
set_option linter.unusedVariables false
set_option linter.unusedSimpArgs false
set_option maxRecDepth 100000
set_option maxHeartbeats 4000000
namespace Go.Proofs.Gx
open Go.Sl Tryz
variable {B : Base} {w : World} {l : List HProp} {hf : Hp}
noncomputable section
def heap_Heap_none.f (a2 : heap_Heap) : Option (Unit) := some ()
theorem heap_Heap_none.ok {a2 : heap_Heap} {b1 : Nat} {r : Unit} (h : heap_Heap_none.f a2 = some r) (hS : St B w (O_heap_Heap hf a2 b1 :: l) hf) :
    Calls prog 255 #[pV b1] w (Ret fun v w => v = .bool false ∧ St B w (O_heap_Heap hf a2 b1 :: l) hf) := by
  have h := Holds.of h
  refine en func255 rfl ntmps255 rfl (sr (pn 1 rfl (lnsr (pn 1 rfl (RL.s (Vl.bn false rfl rfl) rfl (r0 5 rfl ?_))))))
  obtain ⟨A5, c6, hS⟩ := O_heap_Heap.o hS
  refine rr [1] hS ?_
  refine it fun w hS => RL.sg (Vl.bn false rfl rfl) rfl rfl (pn 2 rfl (lr ?_))
  have hS := O_heap_Heap.c (x := a2) hS
  exact rt results255 rfl ⟨rfl, hS⟩
def heap_pile_api_Message_each.f (a4 : List api_Message) : Option (Unit) := some ()
theorem heap_pile_api_Message_each.ok {a4 : List api_Message} {b1 c3 : Nat} {A2 : Option Addr} {r : Unit} (h : heap_pile_api_Message_each.f a4 = some r) (hS : St B w (Cl b1 [sV A2 a4 c3, .func (.func 97) #[] #[]] 270 :: OSf E_api_Message 115 (sV A2 a4 c3) a4 :: l) hf) :
    Calls prog 261 #[pV b1] w (Ret fun v w => ∃ (b_1 : Nat), v = .func (.func 266) #[] #[pV b_1] ∧ St B w (Cl b_1 [pV b1] 388 :: Cl b1 [sV A2 a4 c3, .func (.func 97) #[] #[]] 270 :: OSf E_api_Message 115 (sV A2 a4 c3) a4 :: l) hf) := by
  have h := Holds.of h
  refine en func261 rfl ntmps261 rfl (sr (rr [0, 0] hS ?_))
  refine fun b6 => it fun w hS => lnsr (RL.s (Vl.makeFunc (fi := []) (ca := [.tmp 1]) rfl rfl) rfl (pn 1 rfl (lr ?_)))
  exact rt results261 rfl ⟨b6, rfl, hS⟩
def heap_Heap_find_round0.f (a5 a7 a9 a10 : Int) (a11 : api_Message) : Option ((Int) ⊕ (Unit)) := (if a11.Key.From = a5 then (if a11.Uid = a7 then some (.inl a10) else some (.inr (()))) else some (.inr (())))
theorem heap_Heap_find_round0.ok {a5 a7 a9 a10 : Int} {a11 : api_Message} {b1 b4 b6 b8 : Nat} {rc2 : Loop} (hr3 : RecF f257 0 27 [(4, pV b4), (5, pV b6), (6, pV b8)] rc2) {r : (Int) ⊕ (Unit)} (h : heap_Heap_find_round0.f a5 a7 a9 a10 a11 = some r) (hS : St B w (pts b1 (.loop rc2) :: Cl b4 [iV a5] 3 :: Cl b6 [iV a7] 3 :: Cl b8 [iV a9] 3 :: l) hf) :
    Yld prog b1 [iV a10, .agg (C_api_Message a11).toArray] w (Ret fun v w => match (generalizing := false) r with | .inl r_ => v = .bool false ∧ St B w (pts b1 (.loop (pd rc2 .ret)) :: Cl b4 [iV a5] 3 :: Cl b6 [iV a7] 3 :: Cl b8 [iV r_] 3 :: l) hf | .inr (r_) => v = .bool true ∧ St B w (pts b1 (.loop rc2) :: Cl b4 [iV a5] 3 :: Cl b6 [iV a7] 3 :: Cl b8 [iV a9] 3 :: l) hf) := by
  have h := Holds.of h
  refine Yld.of (psl := [13, 14]) hS hr3 rfl rfl rfl ?_
  show RC _ ⟨27, [], false⟩ _ _ [(14, .agg (C_api_Message a11).toArray), (13, iV a10), (4, pV b4), (5, pV b6), (6, pV b8)] w
  refine sr (pn 1 rfl (ln (RC.region (rr [0, 1] hS ?_))))
  refine fun b15 => it fun w hS => ln (RQ.bg hS.p1 hr3.state rfl fun w hS => RC.block (sr (rr [0, 0, 2, 3, 0, 0] hS ?_)))
  refine it fun w hS => RL.iteP 20 rfl h (fun hc16 h => ?_) fun hc16 h => ?_
  next =>
   refine rr [0, 2, 4, 0, 0] hS ?_
   refine it fun w hS => ln ?_
   refine RC.iteP 25 rfl h (fun hc17 h => ?_) fun hc17 h => ?_
   next =>
    refine jtr (rr [0, 5] hS ?_)
    refine it fun w hS => lr (RQ.inB_ret ?_)
    cases h.some
    exact RQ.rr hS fun w hS => ⟨rfl, hS.d1⟩
   refine jf (RC.skip (RQ.inB_n ?_))
   cases h.some
   exact RQ.rn hS hr3.state hr3.pending fun w hS => ⟨rfl, hS.d1⟩
  refine pn 5 rfl (ln (jf (RC.skip (RQ.inB_n ?_))))
  cases h.some
  exact RQ.rn hS hr3.state hr3.pending fun w hS => ⟨rfl, hS.d1⟩
def heap_pile_api_Message_each_1.l2b (a5 a7 a9 : Int) (a14 : List api_Message) : Int → Option ((Int) ⊕ ((Int) ⊕ (Unit)))
  | (x64) => (if x64 < (a14.length : Int) then (if 0 ≤ x64 then ((heap_Heap_find_round0.f a5 a7 a9 x64 (nth a14 x64)).bind fun t88 => match t88 with | .inl y90 => some (.inr (.inl y90)) | .inr (_) => some (.inl (IntKind.i64.wrap (x64 + 1)))) else none) else some (.inr (.inr (()))))
def heap_pile_api_Message_each_1.l2 (a5 a7 a9 : Int) (a14 : List api_Message) (s : Int) : Option ((Int) ⊕ (Unit)) := loopR (heap_pile_api_Message_each_1.l2b a5 a7 a9 a14) s
def heap_pile_api_Message_each_1.f (a5 a7 a9 : Int) (a14 : List api_Message) : Option ((Int) ⊕ (Unit)) := heap_pile_api_Message_each_1.l2 a5 a7 a9 a14 (0)
theorem heap_pile_api_Message_each_1.ok {a5 a7 a9 : Int} {a14 : List api_Message} {b1 b4 b6 b8 b10 b11 c13 : Nat} {rc2 : Loop} {A12 : Option Addr} (hr3 : RecF f257 0 27 [(4, pV b4), (5, pV b6), (6, pV b8)] rc2) {r : (Int) ⊕ (Unit)} (h : heap_pile_api_Message_each_1.f a5 a7 a9 a14 = some r) (hS : St B w (pts b1 (.loop rc2) :: Cl b4 [iV a5] 3 :: Cl b6 [iV a7] 3 :: Cl b8 [iV a9] 3 :: Cl b11 [sV A12 a14 c13, .func (.func 97) #[] #[]] 270 :: OSf E_api_Message 115 (sV A12 a14 c13) a14 :: Cl b10 [pV b11] 388 :: l) hf) :
    Calls prog 266 #[.func (.yield b1) #[] #[], pV b10] w (Ret fun v w => match (generalizing := false) r with | .inl r_ => v = .tuple #[] ∧ St B w (pts b1 (.loop (pd rc2 .ret)) :: Cl b4 [iV a5] 3 :: Cl b6 [iV a7] 3 :: Cl b8 [iV r_] 3 :: Cl b11 [sV A12 a14 c13, .func (.func 97) #[] #[]] 270 :: OSf E_api_Message 115 (sV A12 a14 c13) a14 :: Cl b10 [pV b11] 388 :: l) hf | .inr (r_) => v = .tuple #[] ∧ St B w (pts b1 (.loop rc2) :: Cl b4 [iV a5] 3 :: Cl b6 [iV a7] 3 :: Cl b8 [iV a9] 3 :: Cl b11 [sV A12 a14 c13, .func (.func 97) #[] #[]] 270 :: OSf E_api_Message 115 (sV A12 a14 c13) a14 :: Cl b10 [pV b11] 388 :: l) hf) := by
  have h := Holds.of h
  refine en func266 rfl ntmps266 rfl (sr (rr [7, 0, 0, 5, 0, 0] hS ?_))
  refine it fun w hS => ln (RC.block (fun a ha => lp h (fun (s : Int) a w => ∃ x64, s = (x64) ∧ Has 21 [(0, .func (.yield b1) #[] #[]), (8, sV A12 a14 c13), (9, iV (a14.length : Int)), (10, iV x64)] a ∧ St B w (OSf E_api_Message 115 (sV A12 a14 c13) a14 :: pts b1 (.loop rc2) :: Cl b4 [iV a5] 3 :: Cl b6 [iV a7] 3 :: Cl b8 [iV a9] 3 :: Cl b11 [sV A12 a14 c13, .func (.func 97) #[] #[]] 270 :: Cl b10 [pV b11] 388 :: l) hf) ⟨_, rfl, ha.tE rfl, hS.p5⟩ ?_))
  rintro G78 x64 a w ⟨_, rfl, ha, hS⟩ h
  refine ro ha (sr (pn 1 rfl (ln (RC.seq ?_))))
  refine RC.iteP 11 rfl h (fun hc80 h => ?_) fun hc80 h => ?_
  next =>
   refine jt (sk (RC.seq (RC.block (sr (pn 1 rfl ?_)))))
   obtain ⟨hq86, h⟩ := h.req
   refine RL.s (Vl.indexOwn 0 hS rfl underlying99 sizeOf115 rfl rfl hq86 hc80) rfl (RL.s (Vl.loadA isAgg115 sizeOf115 rfl rfl ((hS.slW 0 rfl).2.2.cells hq86 hc80)) rfl (rr [0, 0, 1] hS ?_))
   refine fun b87 => it fun w hS => lnsr (rr [0, 0, 1] hS ?_)
   refine it fun w hS => yc (fun _ hg89 => heap_Heap_find_round0.ok hr3 hg89 hS.p5.p5.p5.p5) rfl h rfl rfl rfl rfl ?_
   intro t88 h
   rcases t88 with y90 | _
   · rintro _ w ⟨rfl, hS⟩
     have hS : St B w (_ :: _ :: _ :: _ :: _ :: _ :: _ :: _ :: l) hf := hS
     refine pn 1 rfl (ln (jt (RC.ret (ir ?_))))
     have h := h.inrS
     refine RQ.ret (RQ.inB_ret ?_)
     cases h.some
     exact rt results266 rfl ⟨rfl, hS.d4.p5.p4.p4.p4.p4⟩
   · rintro _ w ⟨rfl, hS⟩
     have hS : St B w (_ :: _ :: _ :: _ :: _ :: _ :: _ :: _ :: l) hf := hS
     refine pn 1 rfl (ln (jf (RC.skip (RQ.inB_n (RQ.then_n (RC.region (pn 2 rfl (RL.nil ?_))))))))
     exact fun a ha => ⟨_, h.some, _, rfl, ha.tE rfl, hS.d4.p4⟩
  refine jf (RC.exit (RQ.exitT ?_))
  have h := h.inrS
  refine RQ.exitT (RQ.inB_hit ?_)
  cases h.some
  exact rtE results266 rfl ⟨rfl, hS.p5.p5.p5.p5.p5⟩
def heap_Heap_find.f (a2 : heap_Heap) (a3 a4 : Int) : Option (Int) := ((heap_pile_api_Message_each.f a2.p_l).bind fun _ => ((heap_pile_api_Message_each_1.f a3 a4 0 a2.p_l).bind fun t82 => match t82 with | .inl y84 => some y84 | .inr (_) => some (-1)))
theorem heap_Heap_find.ok {a2 : heap_Heap} {a3 a4 r : Int} {b1 : Nat} (h : heap_Heap_find.f a2 a3 a4 = some r) (hS : St B w (O_heap_Heap hf a2 b1 :: l) hf) :
    Calls prog 257 #[pV b1, iV a3, iV a4] w (Ret fun v w => v = iV r ∧ St B w (O_heap_Heap hf a2 b1 :: l) hf) := by
  have h := Holds.of h
  refine enM func257 rfl ntmps257 rfl (sr (rr [0, 0, 0] hS ?_))
  refine fun b48 b49 b50 => it fun w hS => ln (RC.seq (sr (r0 3 rfl ?_)))
  obtain ⟨A73, c74, hS⟩ := O_heap_Heap.o hS.p3
  refine cF (fun _ hg => heap_pile_api_Message_each.ok hg hS) call261 h rfl rfl rfl ?_
  rintro _ h _ w ⟨b77, rfl, hS⟩
  refine ln (RC.block ?_)
  obtain ⟨t82, hg83, h⟩ := h.bind
  refine RC.rf (args := fun b78 => #[.func (.yield b78) #[] #[], pV b77]) rfl call266 rfl hS (fun _ => by simp) (fun b78 d79 rc80 w hr81 hS => heap_pile_api_Message_each_1.ok (RecOK.to (M := 27) hr81 rfl rfl ⟨rfl, rfl, rfl, trivial⟩) hg83 hS.p2.p4.p4.p5.p6.p7.p6) ?_
  rcases t82 with y84 | _
  · rintro b78 d79 rc80 _ w hr81 ⟨rfl, hS⟩
    refine RE.r hS fun w hS => ir ?_
    have hS := O_heap_Heap.c (x := a2) hS.p4.p4
    obtain rfl := h.some
    exact rtM1 (vs := [iV y84]) results257 hS.p5 fun w hS => ⟨⟨⟨_, rfl, run_loadVar1 isAgg3 (hS.cell 3 rfl rfl)⟩, trivial⟩, ⟨rfl, hS.d1.d1.d1.d1⟩⟩
  · rintro b78 d79 rc80 _ w hr81 ⟨rfl, hS⟩
    refine RE.n hS hr81.state hr81.pending fun w hS => RQ.inB_n (tsr (rr [3] hS ?_))
    refine it fun w hS => lr ?_
    have hS := O_heap_Heap.c (x := a2) hS.p4.p4
    cases h.some
    exact rtM1 (vs := [iV (-1)]) results257 hS.p5 fun w hS => ⟨⟨⟨_, rfl, run_loadVar1 isAgg3 (hS.cell 3 rfl rfl)⟩, trivial⟩, ⟨rfl, hS.d1.d1.d1.d1⟩⟩
def cmp_isNaN_int64.f (a1 : Int) : Option (Bool) := some (!decide (a1 = a1))
theorem cmp_isNaN_int64.ok {a1 : Int} {r : Bool} (h : cmp_isNaN_int64.f a1 = some r) (hS : St B w (l) hf) :
    Calls prog 169 #[iV a1] w (Ret fun v w => v = .bool r ∧ St B w (l) hf) := by
  have h := Holds.of h
  refine en func169 rfl ntmps169 rfl (sr (pn 1 rfl (lnsr (pn 4 rfl (lr ?_)))))
  cases h.some
  exact rt results169 rfl ⟨rfl, hS⟩
def cmp_Compare_int64.f (a1 a2 : Int) : Option (Int) := ((cmp_isNaN_int64.f a1).bind fun t16 => ((cmp_isNaN_int64.f a2).bind fun t18 => (if t16 = true then (if t18 = true then some 0 else some (-1)) else (if t18 = true then some 1 else (if a1 < a2 then some (-1) else (if a2 < a1 then some 1 else some 0))))))
theorem cmp_Compare_int64.ok {a1 a2 r : Int} (h : cmp_Compare_int64.f a1 a2 = some r) (hS : St B w (l) hf) :
    Calls prog 151 #[iV a1, iV a2] w (Ret fun v w => v = iV r ∧ St B w (l) hf) := by
  have h := Holds.of h
  refine en func151 rfl ntmps151 rfl (sr (pn 1 rfl (lnsr (pn 1 rfl (cF (fun _ hg => cmp_isNaN_int64.ok hg hS) call169 h rfl rfl rfl ?_)))))
  rintro t16 h _ w ⟨rfl, hS⟩
  refine pn 1 rfl (lnsr (pn 1 rfl (cF (fun _ hg => cmp_isNaN_int64.ok hg hS) call169 h rfl rfl rfl ?_)))
  rintro t18 h _ w ⟨rfl, hS⟩
  refine pn 1 rfl (ln (RC.seq (sr (pn 1 rfl (ln ?_)))))
  refine RC.iteB 11 rfl h (fun hc22 h => ?_) fun hc22 h => ?_
  next =>
   refine jt (RC.seq (sr (pn 1 rfl (ln ?_))))
   refine RC.iteB 12 rfl h (fun hc23 h => ?_) fun hc23 h => ?_
   next =>
    refine jtr (pn 1 rfl (lr (RQ.ret (RQ.ret ?_))))
    obtain rfl := h.some
    exact rt results151 rfl ⟨rfl, hS⟩
   refine jfs (sr (pn 1 rfl (lr (RQ.ret ?_))))
   cases h.some
   exact rt results151 rfl ⟨rfl, hS⟩
  refine jfs (RC.seq (sr (pn 1 rfl (ln ?_))))
  refine RC.iteB 13 rfl h (fun hc25 h => ?_) fun hc25 h => ?_
  next =>
   refine jtr (pn 1 rfl (lr (RQ.ret ?_)))
   obtain rfl := h.some
   exact rt results151 rfl ⟨rfl, hS⟩
  refine jfs (RC.seq (sr (pn 3 rfl (ln ?_))))
  refine RC.iteP 16 rfl h (fun hc27 h => ?_) fun hc27 h => ?_
  next =>
   refine jtr (pn 1 rfl (lr (RQ.ret ?_)))
   cases h.some
   exact rt results151 rfl ⟨rfl, hS⟩
  refine jfs (RC.seq (sr (pn 3 rfl (ln ?_))))
  refine RC.iteP 19 rfl h (fun hc28 h => ?_) fun hc28 h => ?_
  next =>
   refine jtr (pn 1 rfl (lr (RQ.ret ?_)))
   obtain rfl := h.some
   exact rt results151 rfl ⟨rfl, hS⟩
  refine jfs (sr (pn 1 rfl (lr ?_)))
  obtain rfl := h.some
  exact rt results151 rfl ⟨rfl, hS⟩
def cmp_isNaN_int.f (a1 : Int) : Option (Bool) := some (!decide (a1 = a1))
theorem cmp_isNaN_int.ok {a1 : Int} {r : Bool} (h : cmp_isNaN_int.f a1 = some r) (hS : St B w (l) hf) :
    Calls prog 170 #[iV a1] w (Ret fun v w => v = .bool r ∧ St B w (l) hf) := by
  have h := Holds.of h
  refine en func170 rfl ntmps170 rfl (sr (pn 1 rfl (lnsr (pn 4 rfl (lr ?_)))))
  cases h.some
  exact rt results170 rfl ⟨rfl, hS⟩
def cmp_Compare_int.f (a1 a2 : Int) : Option (Int) := ((cmp_isNaN_int.f a1).bind fun t16 => ((cmp_isNaN_int.f a2).bind fun t18 => (if t16 = true then (if t18 = true then some 0 else some (-1)) else (if t18 = true then some 1 else (if a1 < a2 then some (-1) else (if a2 < a1 then some 1 else some 0))))))
theorem cmp_Compare_int.ok {a1 a2 r : Int} (h : cmp_Compare_int.f a1 a2 = some r) (hS : St B w (l) hf) :
    Calls prog 152 #[iV a1, iV a2] w (Ret fun v w => v = iV r ∧ St B w (l) hf) := by
  have h := Holds.of h
  refine en func152 rfl ntmps152 rfl (sr (pn 1 rfl (lnsr (pn 1 rfl (cF (fun _ hg => cmp_isNaN_int.ok hg hS) call170 h rfl rfl rfl ?_)))))
  rintro t16 h _ w ⟨rfl, hS⟩
  refine pn 1 rfl (lnsr (pn 1 rfl (cF (fun _ hg => cmp_isNaN_int.ok hg hS) call170 h rfl rfl rfl ?_)))
  rintro t18 h _ w ⟨rfl, hS⟩
  refine pn 1 rfl (ln (RC.seq (sr (pn 1 rfl (ln ?_)))))
  refine RC.iteB 11 rfl h (fun hc22 h => ?_) fun hc22 h => ?_
  next =>
   refine jt (RC.seq (sr (pn 1 rfl (ln ?_))))
   refine RC.iteB 12 rfl h (fun hc23 h => ?_) fun hc23 h => ?_
   next =>
    refine jtr (pn 1 rfl (lr (RQ.ret (RQ.ret ?_))))
    obtain rfl := h.some
    exact rt results152 rfl ⟨rfl, hS⟩
   refine jfs (sr (pn 1 rfl (lr (RQ.ret ?_))))
   cases h.some
   exact rt results152 rfl ⟨rfl, hS⟩
  refine jfs (RC.seq (sr (pn 1 rfl (ln ?_))))
  refine RC.iteB 13 rfl h (fun hc25 h => ?_) fun hc25 h => ?_
  next =>
   refine jtr (pn 1 rfl (lr (RQ.ret ?_)))
   obtain rfl := h.some
   exact rt results152 rfl ⟨rfl, hS⟩
  refine jfs (RC.seq (sr (pn 3 rfl (ln ?_))))
  refine RC.iteP 16 rfl h (fun hc27 h => ?_) fun hc27 h => ?_
  next =>
   refine jtr (pn 1 rfl (lr (RQ.ret ?_)))
   cases h.some
   exact rt results152 rfl ⟨rfl, hS⟩
  refine jfs (RC.seq (sr (pn 3 rfl (ln ?_))))
  refine RC.iteP 19 rfl h (fun hc28 h => ?_) fun hc28 h => ?_
  next =>
   refine jtr (pn 1 rfl (lr (RQ.ret ?_)))
   obtain rfl := h.some
   exact rt results152 rfl ⟨rfl, hS⟩
  refine jfs (sr (pn 1 rfl (lr ?_)))
  obtain rfl := h.some
  exact rt results152 rfl ⟨rfl, hS⟩
def cmp_Or_int.l2b (a1 : List Int) : Int → Option ((Int) ⊕ (Int))
  | (x30) => (if x30 < (a1.length : Int) then (if 0 ≤ x30 then (if nth a1 x30 = 0 then some (.inl (IntKind.i64.wrap (x30 + 1))) else some (.inr (nth a1 x30))) else none) else some (.inr 0))
def cmp_Or_int.l2 (a1 : List Int) (s : Int) : Option (Int) := loopR (cmp_Or_int.l2b a1) s
def cmp_Or_int.f (a1 : List Int) : Option (Int) := cmp_Or_int.l2 a1 (0)
theorem cmp_Or_int.ok {a1 : List Int} {A2 : Option Addr} {c3 : Nat} (hr4 : SlR ((FI .i64).rep) hf A2 c3 a1) {r : Int} (h : cmp_Or_int.f a1 = some r) (hS : St B w (l) hf) :
    Calls prog 150 #[sV A2 a1 c3] w (Ret fun v w => v = iV r ∧ St B w (l) hf) := by
  have h := Holds.of h
  refine en func150 rfl ntmps150 rfl (sr (pn 1 rfl (lnsr (pn 1 rfl (ln (RC.seq (sr (r0 3 rfl (RL.nil ?_)))))))))
  refine RQ.then_n (RC.block (fun a ha => lp h (fun (s : Int) a w => ∃ x30, s = (x30) ∧ Has 18 [(3, iV 0), (6, sV A2 a1 c3), (7, iV (a1.length : Int)), (8, iV x30)] a ∧ St B w (l) hf) ⟨_, rfl, ha.tE rfl, hS⟩ ?_))
  rintro G38 x30 a w ⟨_, rfl, ha, hS⟩ h
  refine ro ha (sr (pn 1 rfl (ln (RC.seq ?_))))
  refine RC.iteP 9 rfl h (fun hc40 h => ?_) fun hc40 h => ?_
  next =>
   refine jt (sk (RC.seq (RC.block (sr ?_))))
   obtain ⟨hq43, h⟩ := h.req
   refine RL.s (Vl.indexAddr underlying56 sizeOf3 rfl rfl ((hr4.2.world hS.sub).adr hq43 hc40) hq43 hc40 rfl) rfl (RL.s (Vl.load isAgg3 rfl ((hr4.2.world hS.sub).cell (j := 0) hq43 hc40 rfl)) rfl (pn 1 rfl (lnsr (pn 3 rfl (ln ?_)))))
   refine RC.iteN 14 rfl h (fun hc44 h => ?_) fun hc44 h => ?_
   next =>
    refine jf (RC.skip (RQ.inB_n (RQ.then_n (RC.region (pn 2 rfl (RL.nil ?_))))))
    exact fun a ha => ⟨_, h.some, _, rfl, ha.tE rfl, hS⟩
   refine jtr (pn 2 rfl (lr (ir ?_)))
   have h := h.inrS
   refine RQ.ret (ir ?_)
   cases h.some
   exact rt results150 rfl ⟨rfl, hS⟩
  refine jf (RC.exit (RQ.exitT ?_))
  have h := h.inrS
  refine RQ.exitT (RQ.inB_hit (tsr (pn 2 rfl (lr ?_))))
  obtain rfl := h.some
  exact rt results150 rfl ⟨rfl, hS⟩
def event_Compare.f (a1 a2 : api_Key) : Option (Int) := (if a1 = a2 then some 0 else ((cmp_Compare_int64.f a1.Time a2.Time).bind fun t24 => ((cmp_Compare_int.f a1.From a2.From).bind fun t26 => ((cmp_Compare_int.f a1.Seq a2.Seq).bind fun t28 => ((cmp_Or_int.f ([t24, t26, t28] : List Int)).bind fun t35 => some t35)))))
theorem event_Compare.ok {a1 a2 : api_Key} {r : Int} (h : event_Compare.f a1 a2 = some r) (hS : St B w (l) hf) :
    Calls prog 124 #[.agg (C_api_Key a1).toArray, .agg (C_api_Key a2).toArray] w (Ret fun v w => v = iV r ∧ St B w (l) hf) := by
  have h := Holds.of h
  refine en func124 rfl ntmps124 rfl (sr (rr [0, 0, 0] hS ?_))
  refine fun b20 b21 => it fun w hS => ln (RC.seq (sr (rr [2, 1] hS ?_)))
  refine it fun w hS => RL.s (Vl.eqlS (run_eql_api_Key _ _ a1 a2) rfl rfl) rfl (ln ?_)
  refine RC.iteP 7 rfl h (fun hc23 h => ?_) fun hc23 h => ?_
  next =>
   refine jtr (pn 1 rfl (lr (RQ.ret ?_)))
   obtain rfl := h.some
   exact rt results124 rfl ⟨rfl, hS.d0.d0⟩
  refine jfs (RC.seq (dr [0, 4, 6, 10, 15, 19, 21, 25, 30, 34, 36, 40, 14, 29, 44, 47, 50, 53] [14, 15, 16, 17] hS fun w hS => rq [0, 2, 0, 1, 0, 2, 0, 1, 0, 2, 0, 1] hS ?_))
  refine it ?_
  obtain ⟨t24, hg25, h⟩ := h.bind
  have hc := cmp_Compare_int64.ok hg25 hS
  refine RP.e 4 rfl (OW.callF (ls := [.tmp 9, .tmp 11]) rfl call151 hc) rfl rfl ?_
  rintro _ w ⟨rfl, hS⟩
  refine ⟨kp ⟨fun _ => hS, trivial⟩, ?_⟩
  obtain ⟨t26, hg27, h⟩ := h.bind
  have hc := cmp_Compare_int.ok hg27 hS
  refine RP.e 9 rfl (OW.callF (ls := [.tmp 14, .tmp 16]) rfl call152 hc) rfl rfl ?_
  rintro _ w ⟨rfl, hS⟩
  refine ⟨kp ⟨fun _ => hS, trivial⟩, ?_⟩
  obtain ⟨t28, hg29, h⟩ := h.bind
  have hc := cmp_Compare_int.ok hg29 hS
  refine RP.e 14 rfl (OW.callF (ls := [.tmp 19, .tmp 21]) rfl call152 hc) rfl rfl ?_
  rintro _ w ⟨rfl, hS⟩
  refine ⟨kp ⟨(by intro hx; cases hx), trivial⟩, ?_⟩
  refine RP.e 15 rfl (OW.buildSlice (E := (FI .i64)) (xs := ([t24, t26, t28] : List Int)) (cs := [iV t24, iV t26, iV t28]) hS underlying56 zeroValue3 sizeOf3 (parts := [(0, .tmp 12), (1, .tmp 17), (2, .tmp 22)]) rfl rfl (by decide) (by decide) (by kernel_rfl) rfl) rfl rfl ?_
  rintro _ w ⟨b30, rfl, hS⟩
  refine ⟨kp ⟨(by intro hx; cases hx), trivial⟩, ?_⟩
  obtain ⟨hf34, hs32, hS, hr31, hb33⟩ := St.lendSl hS
  obtain ⟨t35, hg36, h⟩ := h.bind
  have hc := cmp_Or_int.ok hr31 hg36 hS
  refine RP.e 16 rfl (OW.callF (ls := [.tmp 23]) rfl call150 hc) rfl rfl ?_
  rintro _ w ⟨rfl, hS⟩
  have hS := hb33 _ _ hS
  have hS : St B w (_ :: _ :: _ :: l) hf := hS
  refine ⟨kp ⟨(by intro hx; cases hx), trivial⟩, ?_⟩
  refine rq [0] hS.d0 ?_
  refine it (RP.nil (tr ?_))
  obtain rfl := h.some
  exact rt results124 rfl ⟨rfl, hS.d0.d0.d0⟩
def event_order.f (a1 a2 : api_Message) : Option (Int) := ((event_Compare.f a1.Key a2.Key).bind fun t18 => ((cmp_Compare_int.f a1.Uid a2.Uid).bind fun t20 => ((cmp_Or_int.f ([t18, t20] : List Int)).bind fun t27 => some t27)))
theorem event_order.ok {a1 a2 : api_Message} {r : Int} (h : event_order.f a1 a2 = some r) (hS : St B w (l) hf) :
    Calls prog 134 #[.agg (C_api_Message a1).toArray, .agg (C_api_Message a2).toArray] w (Ret fun v w => v = iV r ∧ St B w (l) hf) := by
  have h := Holds.of h
  refine en func134 rfl ntmps134 rfl (sr (rr [0, 0, 0] hS ?_))
  refine fun b16 b17 => it fun w hS => ln (RC.seq (dr [0, 4, 6, 10, 15, 19, 21, 25, 14, 29, 32, 35, 38] [9, 10, 11, 12] hS fun w hS => rq [0, 2, 0, 1, 0, 2, 0, 1] hS ?_))
  refine it ?_
  obtain ⟨t18, hg19, h⟩ := h.bind
  have hc := event_Compare.ok hg19 hS
  refine RP.e 4 rfl (OW.callF (ls := [.tmp 6, .tmp 8]) rfl call124 hc) rfl rfl ?_
  rintro _ w ⟨rfl, hS⟩
  refine ⟨kp ⟨fun _ => hS, trivial⟩, ?_⟩
  obtain ⟨t20, hg21, h⟩ := h.bind
  have hc := cmp_Compare_int.ok hg21 hS
  refine RP.e 9 rfl (OW.callF (ls := [.tmp 11, .tmp 13]) rfl call152 hc) rfl rfl ?_
  rintro _ w ⟨rfl, hS⟩
  refine ⟨kp ⟨(by intro hx; cases hx), trivial⟩, ?_⟩
  refine RP.e 10 rfl (OW.buildSlice (E := (FI .i64)) (xs := ([t18, t20] : List Int)) (cs := [iV t18, iV t20]) hS underlying56 zeroValue3 sizeOf3 (parts := [(0, .tmp 9), (1, .tmp 14)]) rfl rfl (by decide) (by decide) (by kernel_rfl) rfl) rfl rfl ?_
  rintro _ w ⟨b22, rfl, hS⟩
  refine ⟨kp ⟨(by intro hx; cases hx), trivial⟩, ?_⟩
  obtain ⟨hf26, hs24, hS, hr23, hb25⟩ := St.lendSl hS
  obtain ⟨t27, hg28, h⟩ := h.bind
  have hc := cmp_Or_int.ok hr23 hg28 hS
  refine RP.e 11 rfl (OW.callF (ls := [.tmp 15]) rfl call150 hc) rfl rfl ?_
  rintro _ w ⟨rfl, hS⟩
  have hS := hb25 _ _ hS
  have hS : St B w (_ :: _ :: _ :: l) hf := hS
  refine ⟨kp ⟨(by intro hx; cases hx), trivial⟩, ?_⟩
  refine rq [0] hS.d0 ?_
  refine it (RP.nil (tr ?_))
  obtain rfl := h.some
  exact rt results134 rfl ⟨rfl, hS.d0.d0.d0⟩
def event_Before.f (a1 a2 : api_Message) : Option (Bool) := ((event_order.f a1 a2).bind fun t9 => some (decide (t9 < 0)))
theorem event_Before.ok {a1 a2 : api_Message} {r : Bool} (h : event_Before.f a1 a2 = some r) (hS : St B w (l) hf) :
    Calls prog 97 #[.agg (C_api_Message a1).toArray, .agg (C_api_Message a2).toArray] w (Ret fun v w => v = .bool r ∧ St B w (l) hf) := by
  have h := Holds.of h
  refine en func97 rfl ntmps97 rfl (sr (rr [0, 0, 0] hS ?_))
  refine fun b7 b8 => it fun w hS => lnsr (rr [2, 1] hS ?_)
  refine it fun w hS => cF (fun _ hg => event_order.ok hg hS) call134 h rfl rfl rfl ?_
  rintro t9 h _ w ⟨rfl, hS⟩
  refine pn 2 rfl (lr ?_)
  cases h.some
  exact rt results97 rfl ⟨rfl, hS.d0.d0⟩
def heap_pile_api_Message_up.l2b : List api_Message × Int → Option ((List api_Message × Int) ⊕ (List api_Message))
  | (l99, x102) => (if 0 < x102 then (if 0 ≤ x102 ∧ x102 < (l99.length : Int) then (if 0 ≤ IntKind.i64.wrap (Int.tdiv (IntKind.i64.wrap (x102 - 1)) 2) ∧ IntKind.i64.wrap (Int.tdiv (IntKind.i64.wrap (x102 - 1)) 2) < (l99.length : Int) then ((event_Before.f (nth l99 x102) (nth l99 (IntKind.i64.wrap (Int.tdiv (IntKind.i64.wrap (x102 - 1)) 2)))).bind fun t140 => (if t140 = true then (if IntKind.i64.wrap (Int.tdiv (IntKind.i64.wrap (x102 - 1)) 2) < ((setL l99 x102 (nth l99 (IntKind.i64.wrap (Int.tdiv (IntKind.i64.wrap (x102 - 1)) 2)))).length : Int) then some (.inl ((setL (setL l99 x102 (nth l99 (IntKind.i64.wrap (Int.tdiv (IntKind.i64.wrap (x102 - 1)) 2)))) (IntKind.i64.wrap (Int.tdiv (IntKind.i64.wrap (x102 - 1)) 2)) (nth l99 x102)), IntKind.i64.wrap (Int.tdiv (IntKind.i64.wrap (x102 - 1)) 2))) else none) else some (.inr l99))) else none) else none) else some (.inr l99))
def heap_pile_api_Message_up.l2 (s : List api_Message × Int) : Option (List api_Message) := loopR (heap_pile_api_Message_up.l2b) s
def heap_pile_api_Message_up.f (a4 : List api_Message) (a5 : Int) : Option (List api_Message) := heap_pile_api_Message_up.l2 (a4, a5)
theorem heap_pile_api_Message_up.ok {a4 r : List api_Message} {a5 : Int} {b1 c3 : Nat} {A2 : Option Addr} (h : heap_pile_api_Message_up.f a4 a5 = some r) (hS : St B w (Cl b1 [sV A2 a4 c3, .func (.func 97) #[] #[]] 270 :: OSf E_api_Message 115 (sV A2 a4 c3) a4 :: l) hf) :
    Calls prog 263 #[pV b1, iV a5] w (Ret fun v w => ∃ (A_1 : Option Addr) (c_2 : Nat), v = .tuple #[] ∧ St B w (OSf E_api_Message 115 (sV A_1 r c_2) r :: Cl b1 [sV A_1 r c_2, .func (.func 97) #[] #[]] 270 :: l) hf) := by
  have h := Holds.of h
  refine en func263 rfl ntmps263 rfl (RC.block (fun a ha => lp h (fun (s : List api_Message × Int) a w => ∃ l99 x102, s = (l99, x102) ∧ ∃ A100 c101, Has 57 [(0, pV b1), (1, iV x102)] a ∧ St B w (OSf E_api_Message 115 (sV A100 l99 c101) l99 :: Cl b1 [sV A100 l99 c101, .func (.func 97) #[] #[]] 270 :: l) hf) ⟨_, _, rfl, _, _, ha.tE rfl, hS.p1⟩ ?_))
  rintro G126 _ a w ⟨l99, x102, rfl, A100, c101, ha, hS⟩ h
  refine ro ha (RC.seq (sr (pn 2 rfl (ln ?_))))
  refine RC.iteP 6 rfl h (fun hc128 h => ?_) fun hc128 h => ?_
  next =>
   refine jt (sk (RC.block (sr (pn 2 rfl (RL.s (Vl.quo rfl rfl (by decide)) rfl (pn 1 rfl (ln (RC.seq (RC.seq (dr [0, 3, 6, 10, 12, 15, 18, 22, 24, 28, 31, 33, 36, 39, 43, 47, 50, 53, 56, 59] [18, 19] hS fun w hS => rq [0, 0, 0, 2, 0, 0, 0, 2, 0] hS ?_))))))))))
   refine it ?_
   obtain ⟨⟨hq136, hq137⟩, h⟩ := h.req
   refine RP.s 0 9 rfl rfl hS (fun w hS => Vl.indexOwn 0 hS rfl underlying99 sizeOf115 rfl rfl hq136 hq137) rfl (RP.s 0 10 rfl rfl hS (fun w hS => Vl.loadA isAgg115 sizeOf115 rfl rfl ((hS.slW 0 rfl).2.2.cells hq136 hq137)) rfl (rq [0, 0, 0, 2, 0] hS ?_))
   refine it ?_
   obtain ⟨⟨hq138, hq139⟩, h⟩ := h.req
   refine RP.v1 16 rfl (Vl.indexOwn 0 hS rfl underlying99 sizeOf115 rfl rfl hq138 hq139) rfl rfl (RP.v1 17 rfl (Vl.loadA isAgg115 sizeOf115 rfl rfl ((hS.slW 0 rfl).2.2.cells hq138 hq139)) rfl rfl ?_)
   obtain ⟨t140, hg141, h⟩ := h.bind
   have hc := event_Before.ok hg141 hS
   refine RP.e 18 rfl (OW.call (ls := [.tmp 20, .tmp 27]) rfl rfl call97 rfl hc) rfl rfl ?_
   rintro _ w ⟨rfl, hS⟩
   refine ⟨kp ⟨(by intro hx; cases hx), trivial⟩, ?_⟩
   refine rq [0] hS ?_
   refine it (RP.nil (RQ.then_n ?_))
   refine RC.iteM 29 rfl h (fun hc142 h => ?_) fun hc142 h => ?_
   next =>
    refine jfs (RC.seq (dr [0, 3, 6, 10, 12, 15, 18, 21, 25, 27, 30, 33, 36, 40, 42, 46, 49, 51, 54, 57, 61, 65, 68, 71, 74, 77, 80, 83] [24, 25, 26, 27] hS fun w hS => rq [0, 0, 0, 2, 0, 0, 0, 0, 2, 0, 0, 0, 0, 2, 0] hS ?_))
    refine it (RP.s 0 15 rfl rfl hS (fun w hS => Vl.indexOwn 0 hS rfl underlying99 sizeOf115 rfl rfl hq138 hq139) rfl (RP.s 0 16 rfl rfl hS (fun w hS => Vl.loadA isAgg115 sizeOf115 rfl rfl ((hS.slW 0 rfl).2.2.cells hq138 hq139)) rfl (rq [0, 0, 0, 2, 0] hS ?_)))
    refine it (RP.v1 22 rfl (Vl.indexOwn 0 hS rfl underlying99 sizeOf115 rfl rfl hq136 hq137) rfl rfl (RP.v1 23 rfl (Vl.loadA isAgg115 sizeOf115 rfl rfl ((hS.slW 0 rfl).2.2.cells hq136 hq137)) rfl rfl (RP.v1 24 rfl (Vl.indexOwn 0 hS rfl underlying99 sizeOf115 rfl rfl hq136 hq137) rfl rfl (RP.e0 25 rfl (OW.storeOwn (E := E_api_Message) (off := 0) (j := x102) (x' := nth l99 (IntKind.i64.wrap (Int.tdiv (IntKind.i64.wrap (x102 - 1)) 2))) (vs := (C_api_Message (nth l99 (IntKind.i64.wrap (Int.tdiv (IntKind.i64.wrap (x102 - 1)) 2))))) 0 hS rfl rfl rfl rfl sizeOf115 rfl (Nat.succ_pos _) hq136 hq137 (Nat.le_of_ble_eq_true rfl) rfl rfl) rfl ?_))))
    rintro _ w ⟨rfl, hS⟩
    have he143 := (hS.osN 0 rfl).1
    have hS : St B w (_ :: _ :: l) hf := (congrArg (fun k_ : Nat => St B w (OSf E_api_Message 115 (.slice A100 k_ c101) (setL l99 x102 (nth l99 (IntKind.i64.wrap (Int.tdiv (IntKind.i64.wrap (x102 - 1)) 2)))) :: Cl b1 [.slice A100 k_ c101, .func (.func 97) #[] #[]] 270 :: l) hf) he143).mp hS
    refine ⟨kp ⟨(by intro hx; cases hx), trivial⟩, ?_⟩
    refine RP.re 17 rfl (congrArg (fun k_ : Nat => (.slice A100 k_ c101 : Value)) he143) (RP.re 24 rfl (congrArg (fun k_ : Nat => (.slice A100 k_ c101 : Value)) he143) (RP.re 33 rfl (congrArg (fun k_ : Nat => (.slice A100 k_ c101 : Value)) he143) (RP.re 38 rfl (congrArg (fun k_ : Nat => (.slice A100 k_ c101 : Value)) he143) (RP.re 43 rfl (congrArg (fun k_ : Nat => (.slice A100 k_ c101 : Value)) he143) (RP.re 50 rfl (congrArg (fun k_ : Nat => (.slice A100 k_ c101 : Value)) he143) ?_)))))
    obtain ⟨hq144, h⟩ := h.req
    refine RP.v1 26 rfl (Vl.indexOwn 0 hS rfl underlying99 sizeOf115 rfl rfl hq138 hq144) rfl rfl (RP.e0 27 rfl (OW.storeOwn (E := E_api_Message) (off := 0) (j := IntKind.i64.wrap (Int.tdiv (IntKind.i64.wrap (x102 - 1)) 2)) (x' := nth l99 x102) (vs := (C_api_Message (nth l99 x102))) 0 hS rfl rfl rfl rfl sizeOf115 rfl (Nat.succ_pos _) hq138 hq144 (Nat.le_of_ble_eq_true rfl) rfl rfl) rfl ?_)
    rintro _ w ⟨rfl, hS⟩
    have he145 := (hS.osN 0 rfl).1
    have hS : St B w (_ :: _ :: l) hf := (congrArg (fun k_ : Nat => St B w (OSf E_api_Message 115 (.slice A100 k_ c101) (setL (setL l99 x102 (nth l99 (IntKind.i64.wrap (Int.tdiv (IntKind.i64.wrap (x102 - 1)) 2)))) (IntKind.i64.wrap (Int.tdiv (IntKind.i64.wrap (x102 - 1)) 2)) (nth l99 x102)) :: Cl b1 [.slice A100 k_ c101, .func (.func 97) #[] #[]] 270 :: l) hf) he145).mp hS
    refine ⟨kp ⟨(by intro hx; cases hx), trivial⟩, ?_⟩
    refine RP.re 17 rfl (congrArg (fun k_ : Nat => (.slice A100 k_ c101 : Value)) he145) (RP.re 24 rfl (congrArg (fun k_ : Nat => (.slice A100 k_ c101 : Value)) he145) (RP.re 33 rfl (congrArg (fun k_ : Nat => (.slice A100 k_ c101 : Value)) he145) (RP.re 38 rfl (congrArg (fun k_ : Nat => (.slice A100 k_ c101 : Value)) he145) (RP.re 43 rfl (congrArg (fun k_ : Nat => (.slice A100 k_ c101 : Value)) he145) (RP.re 50 rfl (congrArg (fun k_ : Nat => (.slice A100 k_ c101 : Value)) he145) (RP.nil (RQ.then_n (RC.region (pn 2 rfl (RL.nil (RQ.inB_n ?_)))))))))))
    exact fun a ha => ⟨_, h.some, _, _, rfl, _, _, ha.tE rfl, hS⟩
   refine jt (RC.ret (RQ.ret (RQ.inB_ret ?_)))
   have h := h.inrS
   refine RQ.ret (RQ.inB_ret ?_)
   obtain rfl := h.some
   exact rt results263 rfl ⟨A100, c101, rfl, hS⟩
  refine jf (RC.exit (RQ.exitT ?_))
  have h := h.inrS
  refine RQ.exitT (RQ.inB_hit ?_)
  obtain rfl := h.some
  exact rtE results263 rfl ⟨A100, c101, rfl, hS⟩
def heap_pile_api_Message_push.f (a4 : List api_Message) (a5 : api_Message) : Option (List api_Message) := (if (a4.length + 1) * 56 ≤ 140737488355328 then ((heap_pile_api_Message_up.f (a4 ++ ([a5])) (IntKind.i64.wrap (((a4 ++ ([a5])).length : Int) - 1))).bind fun t34 => some t34) else none)
theorem heap_pile_api_Message_push.ok {a4 r : List api_Message} {a5 : api_Message} {b1 c3 : Nat} {A2 : Option Addr} (h : heap_pile_api_Message_push.f a4 a5 = some r) (hS : St B w (Cl b1 [sV A2 a4 c3, .func (.func 97) #[] #[]] 270 :: OSf E_api_Message 115 (sV A2 a4 c3) a4 :: l) hf) :
    Calls prog 259 #[pV b1, .agg (C_api_Message a5).toArray] w (Ret fun v w => ∃ (A_1 : Option Addr) (c_2 : Nat), v = .tuple #[] ∧ St B w (OSf E_api_Message 115 (sV A_1 r c_2) r :: Cl b1 [sV A_1 r c_2, .func (.func 97) #[] #[]] 270 :: l) hf) := by
  have h := Holds.of h
  refine en func259 rfl ntmps259 rfl (sr (rr [0] hS ?_))
  refine fun b23 => it fun w hS => ln (RC.seq (dr [0, 3, 6, 9, 13, 17, 20, 23, 26, 29, 32] [7, 8, 9, 10] hS fun w hS => rq [0, 0, 0, 0, 2, 1] hS ?_))
  refine it (RP.e 6 rfl (OW.buildSlice (E := E_api_Message) (xs := [a5]) (cs := (C_api_Message a5)) hS underlying99 zeroValue115 sizeOf115 (parts := [(0, .tmp 9)]) rfl rfl (by decide) (by decide) (by kernel_rfl) rfl) rfl rfl ?_)
  rintro _ w ⟨b29, rfl, hS⟩
  refine ⟨kp ⟨fun _ => hS.d0, trivial⟩, ?_⟩
  obtain ⟨hq30, h⟩ := h.req
  refine RP.e 7 rfl (OW.append (E := E_api_Message) (xs := a4) (ys := [a5]) 3 hS rfl underlying99 type115 rfl rfl rfl rfl (by decide) rfl rfl rfl (hS.slW 0 rfl).2.2.flat (by simp only [maxLen, List.length_cons, List.length_nil] at *; omega) hq30 rfl) rfl rfl ?_
  rintro v33 w hS
  obtain ⟨A31, c32, rfl, _⟩ := hS.osShape 0 rfl
  have hS : St B w (_ :: _ :: _ :: _ :: l) hf := hS
  refine ⟨kp ⟨(by intro hx; cases hx), trivial⟩, ?_⟩
  refine RP.v1 8 rfl (Vl.nilCheck rfl) rfl rfl (RP.v1 9 rfl (Vl.fa 0 underlying268 rfl sizeOf99 rfl rfl) rfl rfl (RP.e0 10 rfl (OW.store (vs := [.slice A31 (a4 ++ ([a5])).length c32]) 3 hS rfl rfl rfl rfl sizeOf99 rfl rfl rfl rfl) rfl ?_))
  rintro _ w ⟨rfl, hS⟩
  have hS : St B w (_ :: _ :: _ :: Cl _ [_, _] _ :: l) hf := hS
  refine ⟨kp ⟨(by intro hx; cases hx), trivial⟩, ?_⟩
  refine RP.nil (RQ.then_n (RC.region (rr [0, 0, 0, 0, 4, 0, 0] hS ?_)))
  refine it fun w hS => cF (fun _ hg => heap_pile_api_Message_up.ok hg hS.p3) call263 h rfl rfl rfl ?_
  rintro t34 h _ w ⟨A36, c37, rfl, hS⟩
  refine RL.nil ?_
  obtain rfl := h.some
  exact rtE results259 rfl ⟨A36, c37, rfl, hS.d2.d2⟩
def heap_Heap_Push.f (a2 : heap_Heap) (a3 : api_Message) : Option (Int × heap_Heap) := ((heap_Heap_none.f a2).bind fun _ => ((heap_Heap_find.f a2 a3.Key.From a3.Uid).bind fun t54 => (if 0 ≤ t54 then some (8, a2) else (if 16384 ≤ (a2.p_l.length : Int) then some (9, a2) else ((heap_pile_api_Message_push.f a2.p_l a3).bind fun t60 => some (0, (⟨t60⟩ : heap_Heap)))))))
theorem heap_Heap_Push.ok {a2 : heap_Heap} {a3 : api_Message} {b1 : Nat} {r : Int × heap_Heap} (h : heap_Heap_Push.f a2 a3 = some r) (hS : St B w (O_heap_Heap hf a2 b1 :: l) hf) :
    Calls prog 254 #[pV b1, .agg (C_api_Message a3).toArray] w (Ret fun v w => v = iV r.1 ∧ St B w (O_heap_Heap hf r.2 b1 :: l) hf) := by
  have h := Holds.of h
  refine en func254 rfl ntmps254 rfl (sr (rr [0, 0] hS ?_))
  refine fun b35 => it fun w hS => ln (RC.seq (RC.block (sr (pn 1 rfl (cF (fun _ hg => heap_Heap_none.ok hg hS.p1) call255 h rfl rfl rfl ?_)))))
  rintro _ h _ w ⟨rfl, hS⟩
  refine pn 1 rfl (ln (jf (sr (rr [0, 0, 0, 2, 0, 2] hS ?_))))
  refine it fun w hS => cF (fun _ hg => heap_Heap_find.ok hg hS) call257 h rfl rfl rfl ?_
  rintro t54 h _ w ⟨rfl, hS⟩
  refine pn 2 rfl (ln ?_)
  refine RC.iteP 8 rfl h (fun hc56 h => ?_) fun hc56 h => ?_
  next =>
   refine jtr (pn 1 rfl (lr (ir ?_)))
   cases h.some
   exact rt results254 rfl ⟨rfl, hS.d1⟩
  refine jf (sr (r0 4 rfl ?_))
  obtain ⟨A57, c58, hS⟩ := O_heap_Heap.o hS
  refine rr [1, 0, 0, 0] hS ?_
  refine it fun w hS => ln ?_
  refine RC.iteP 17 rfl h (fun hc59 h => ?_) fun hc59 h => ?_
  next =>
   refine jtr (pn 1 rfl (lr (ir ?_)))
   have hS := O_heap_Heap.c (x := a2) hS
   cases h.some
   exact rt results254 rfl ⟨rfl, hS.d1⟩
  refine jf (RC.skip (RQ.inB_n (RQ.then_n (RC.seq (dr [0, 3, 6, 11, 14] [3, 4] hS fun w hS => rq [0, 0, 0, 3] hS ?_)))))
  refine it ?_
  obtain ⟨t60, hg61, h⟩ := h.bind
  have hc := heap_pile_api_Message_push.ok hg61 hS
  refine RP.e 4 rfl (OW.callF (ls := [.tmp 27, .tmp 28]) rfl call259 hc) rfl rfl ?_
  rintro _ w ⟨A62, c63, rfl, hS⟩
  refine ⟨kp ⟨(by intro hx; cases hx), trivial⟩, ?_⟩
  refine RP.nil (tsr (pn 1 rfl (lr ?_)))
  have hS := O_heap_Heap.c (x := (⟨t60⟩ : heap_Heap)) hS.p1
  cases h.some
  exact rt results254 rfl ⟨rfl, hS.d1⟩
def calendar_Calendar_none.f (a2 : calendar_Calendar) : Option (Unit) := some ()
theorem calendar_Calendar_none.ok {a2 : calendar_Calendar} {b1 : Nat} {r : Unit} (h : calendar_Calendar_none.f a2 = some r) (hS : St B w (O_calendar_Calendar hf a2 b1 :: l) hf) :
    Calls prog 278 #[pV b1] w (Ret fun v w => v = .bool false ∧ St B w (O_calendar_Calendar hf a2 b1 :: l) hf) := by
  have h := Holds.of h
  refine en func278 rfl ntmps278 rfl (sr (pn 1 rfl (lnsr (pn 1 rfl (RL.s (Vl.bn false rfl rfl) rfl (r0 4 rfl ?_))))))
  obtain ⟨b6, hs7, hw8, hS⟩ := O_calendar_Calendar.o hS
  refine rr [1] hS ?_
  refine it fun w hS => RL.sg (Vl.bn false rfl rfl) rfl rfl (pn 2 rfl (lr ?_))
  have hS := O_calendar_Calendar.c (x := a2) hw8 hS
  exact rt results278 rfl ⟨rfl, hS⟩
def calendar_Calendar_find.l12b (a3 a4 : Int) (d394 : Int × List api_Message) : Int → Option ((Int) ⊕ ((Unit) ⊕ (Int × Int × Bool)))
  | (x410) => (if x410 < (d394.2.length : Int) then (if 0 ≤ x410 then (if ((nth d394.2 x410).Key).From = a3 then (if (nth d394.2 x410).Uid = a4 then some (.inr (.inr (d394.1, x410, true))) else some (.inl (IntKind.i64.wrap (x410 + 1)))) else some (.inl (IntKind.i64.wrap (x410 + 1)))) else none) else some (.inr (.inl ())))
def calendar_Calendar_find.l12 (a3 a4 : Int) (d394 : Int × List api_Message) (s : Int) : Option ((Unit) ⊕ (Int × Int × Bool)) := loopR (calendar_Calendar_find.l12b a3 a4 d394) s
def calendar_Calendar_find.l11b (a3 a4 : Int) : Unit → Option (Int × List api_Message) → Option ((Unit) ⊕ (Int × Int × Bool))
  | (), oe340 => (match oe340 with | some d394 => calendar_Calendar_find.l12 a3 a4 d394 (0) | none => some (.inr (0, 0, false)))
def calendar_Calendar_find.l11 (a2 : calendar_Calendar) (a3 a4 : Int) (s : Unit) : Option (Int × Int × Bool) := rangeM (calendar_Calendar_find.l11b a3 a4) s a2.days
def calendar_Calendar_find.f (a2 : calendar_Calendar) (a3 a4 : Int) : Option (Int × Int × Bool) := calendar_Calendar_find.l11 a2 a3 a4 ()
theorem calendar_Calendar_find.ok {a2 : calendar_Calendar} {a3 a4 : Int} {b1 : Nat} {r : Int × Int × Bool} (h : calendar_Calendar_find.f a2 a3 a4 = some r) (hS : St B w (O_calendar_Calendar hf a2 b1 :: l) hf) :
    Calls prog 279 #[pV b1, iV a3, iV a4] w (Ret fun v w => v = .tuple #[iV r.1, iV r.2.1, .bool r.2.2] ∧ St B w (O_calendar_Calendar hf a2 b1 :: l) hf) := by
  have h := Holds.of h
  refine en func279 rfl ntmps279 rfl (sr (pn 3 rfl (ln (RC.seq (sr (r0 3 rfl ?_))))))
  obtain ⟨b336, hs337, hw338, hS⟩ := O_calendar_Calendar.o hS
  refine rr [1] hS ?_
  refine it fun w hS => RL.e (OW.rangeW 1 hS rfl underlying271 rfl rfl) rfl rfl ?_
  rintro _ w ⟨b339, rfl, hS⟩
  have hS : St B w (_ :: _ :: l) hf := hS
  refine ln (RC.block ?_)
  refine fun a ha => lpM h (fun (s : Unit) I343 a w => s = () ∧ Has 44 [(1, iV a3), (2, iV a4), (17, pV b339)] a ∧ St B w (ItW (Value.int .i64) b339 b336 hs337 I343 :: Cl b1 [iV a2.width, .map (some b336), iV a2.n] 273 :: l) hf) ⟨rfl, ha.tE rfl, hS⟩ ?_ ?_
  · rintro _ I343 a w ⟨rfl, ha, hS⟩
    exact Nat.le_trans (St.itLen 0 hS rfl) (Nat.le_of_eq hw338.len)
  rintro G392 _ I343 a w ⟨rfl, ha, hS⟩ hM341 hG342
  refine ro ha (sr ?_)
  refine RL.nextW 0 hS rfl rfl rfl rfl hw338 hM341 hG342 (fun i393 d394 A395 c396 he397 hr398 w h hS => ?_) fun w h hS => ?_
  next =>
   refine pn 1 rfl (ln (RC.seq (jt (sk (RC.block (sr (RL.s (Vl.entryW 0 hS rfl he397 rfl) rfl (pn 4 rfl (lnsr ?_)))))))))
   refine r0 3 rfl (ln (RC.block (fun a ha => lp h (fun (s : Int) a w => ∃ x410, s = (x410) ∧ Has 44 [(1, iV a3), (2, iV a4), (9, iV d394.1), (17, pV b339), (23, sV A395 d394.2 c396), (24, iV (d394.2.length : Int)), (25, iV x410)] a ∧ St B w (ItW (Value.int .i64) b339 b336 hs337 (I343 ++ [i393]) :: Cl b1 [iV a2.width, .map (some b336), iV a2.n] 273 :: l) hf) ⟨_, rfl, ha.tE rfl, hS⟩ ?_)))
   rintro G426 x410 a w ⟨_, rfl, ha, hS⟩ h
   refine ro ha (sr (pn 1 rfl (ln (RC.seq ?_))))
   refine RC.iteP 26 rfl h (fun hc428 h => ?_) fun hc428 h => ?_
   next =>
    refine jt (sk (RC.seq (RC.block (sr (pn 1 rfl ?_)))))
    obtain ⟨hq437, h⟩ := h.req
    refine RL.s (Vl.indexAddr underlying99 sizeOf115 rfl rfl ((hr398.2.world hS.sub).adr hq437 hc428) hq437 hc428 rfl) rfl (RL.s (Vl.loadA isAgg115 sizeOf115 rfl rfl ((hr398.2.world hS.sub).cells hq437 hc428)) rfl (rr [0, 0, 1] hS ?_))
    refine fun b438 => it fun w hS => lnsr (rr [0, 0, 1, 0, 0, 0] hS ?_)
    refine it fun w hS => RL.iteP 35 rfl h (fun hc439 h => ?_) fun hc439 h => ?_
    next =>
     refine rr [0, 1, 0, 0, 0] hS ?_
     refine it fun w hS => ln ?_
     refine RC.iteP 40 rfl h (fun hc440 h => ?_) fun hc440 h => ?_
     next =>
      refine jtr (pn 5 rfl (lr (ir ?_)))
      have h := h.inrS
      refine RQ.ret (RQ.inB_ret (RQ.inB_ret ?_))
      have h := h.inrS
      refine RQ.ret (ir ?_)
      have hS := St.itBack hS.p1
      have hS := O_calendar_Calendar.c (x := a2) hw338 hS.p2
      cases h.some
      exact rt results279 rfl ⟨rfl, hS.d1⟩
     refine jf (RC.skip (RQ.inB_n (RQ.then_n (RC.region (pn 2 rfl (RL.nil ?_))))))
     exact fun a ha => ⟨_, h.some, _, rfl, ha.tE rfl, hS.d0⟩
    refine pn 5 rfl (ln (jf (RC.skip (RQ.inB_n (RQ.then_n (RC.region (pn 2 rfl (RL.nil ?_))))))))
    exact fun a ha => ⟨_, h.some, _, rfl, ha.tE rfl, hS.d0⟩
   refine jf (RC.exit (RQ.exitT ?_))
   have h := h.inrS
   refine RQ.exitT (RQ.inB_hit (RQ.inB_n ?_))
   exact fun a ha => ⟨_, _, h.some, rfl, ha.tE rfl, hS⟩
  refine pn 1 rfl (ln (RC.seq (jf (RC.exit (RQ.exitT ?_)))))
  have h := h.inrS
  refine RQ.exitT (RQ.inB_hit (tsr (pn 3 rfl (lr ?_))))
  have hS := St.itBack hS
  have hS := O_calendar_Calendar.c (x := a2) hw338 hS.p1
  cases h.some
  exact rt results279 rfl ⟨rfl, hS⟩
def calendar_Calendar_day.f (a2 : calendar_Calendar) (a3 : Int) : Option (Int) := (if ¬ a2.width = 0 then (if Int.tmod a3 a2.width < 0 then some (IntKind.i64.wrap ((IntKind.i64.wrap (Int.tdiv a3 a2.width)) - 1)) else some (IntKind.i64.wrap (Int.tdiv a3 a2.width))) else none)
theorem calendar_Calendar_day.ok {a2 : calendar_Calendar} {a3 r : Int} {b1 : Nat} (h : calendar_Calendar_day.f a2 a3 = some r) (hS : St B w (O_calendar_Calendar hf a2 b1 :: l) hf) :
    Calls prog 282 #[pV b1, iV a3] w (Ret fun v w => v = iV r ∧ St B w (O_calendar_Calendar hf a2 b1 :: l) hf) := by
  have h := Holds.of h
  refine en func282 rfl ntmps282 rfl (sr (pn 1 rfl (lnsr (r0 4 rfl ?_))))
  obtain ⟨b17, hs18, hw19, hS⟩ := O_calendar_Calendar.o hS
  refine rr [1] hS ?_
  refine it fun w hS => ?_
  obtain ⟨hq20, h⟩ := h.req
  refine RL.s (Vl.quo rfl rfl hq20) rfl (pn 1 rfl (ln (RC.seq (sr (rr [0, 0, 0, 0, 1] hS ?_)))))
  refine it fun w hS => RL.s (Vl.rem rfl rfl hq20) rfl (pn 1 rfl (ln ?_))
  refine RC.iteP 18 rfl h (fun hc21 h => ?_) fun hc21 h => ?_
  next =>
   refine jt (RC.region (pn 3 rfl (lnsr (pn 2 rfl (lr ?_)))))
   have hS := O_calendar_Calendar.c (x := a2) hw19 hS
   cases h.some
   exact rt results282 rfl ⟨rfl, hS⟩
  refine jfs (sr (pn 2 rfl (lr ?_)))
  have hS := O_calendar_Calendar.c (x := a2) hw19 hS
  cases h.some
  exact rt results282 rfl ⟨rfl, hS⟩
def event_Place_1.f (a1 a3 : api_Message) : Option (Bool) := ((event_Before.f a1 a3).bind fun t8 => some t8)
theorem event_Place_1.ok {a1 a3 : api_Message} {b2 : Nat} {r : Bool} (h : event_Place_1.f a1 a3 = some r) (hS : St B w (Cl b2 (C_api_Message a3) 115 :: l) hf) :
    Calls prog 285 #[.agg (C_api_Message a1).toArray, pV b2] w (Ret fun v w => v = .bool r ∧ St B w (Cl b2 (C_api_Message a3) 115 :: l) hf) := by
  have h := Holds.of h
  refine en func285 rfl ntmps285 rfl (sr (rr [0, 0] hS ?_))
  refine fun b7 => it fun w hS => lnsr (rr [1, 2] hS ?_)
  refine it fun w hS => cF (fun _ hg => event_Before.ok hg hS) call97 h rfl rfl rfl ?_
  rintro t8 h _ w ⟨rfl, hS⟩
  refine pn 1 rfl (lr ?_)
  obtain rfl := h.some
  exact rt results285 rfl ⟨rfl, hS.d0⟩
def event_count_api_Message.j8 (x65 x89 : Int) : Option ((Int × Int) ⊕ (Int)) := some (.inl (x89, IntKind.i64.wrap (x65 + 1)))
def event_count_api_Message.l7b (a1 : List api_Message) (a6 : api_Message) : Int × Int → Option ((Int × Int) ⊕ (Int))
  | (x64, x65) => (if x65 < (a1.length : Int) then (if 0 ≤ x65 then ((event_Place_1.f (nth a1 x65) a6).bind fun t92 => (if t92 = true then event_count_api_Message.j8 x65 (IntKind.i64.wrap (x64 + 1)) else event_count_api_Message.j8 x65 x64)) else none) else some (.inr x64))
def event_count_api_Message.l7 (a1 : List api_Message) (a6 : api_Message) (s : Int × Int) : Option (Int) := loopR (event_count_api_Message.l7b a1 a6) s
def event_count_api_Message.f (a1 : List api_Message) (a6 : api_Message) : Option (Int) := event_count_api_Message.l7 a1 a6 (0, 0)
theorem event_count_api_Message.ok {a1 : List api_Message} {a6 : api_Message} {A2 : Option Addr} {c3 b5 : Nat} (hr4 : SlR E_api_Message.rep hf A2 c3 a1) {r : Int} (h : event_count_api_Message.f a1 a6 = some r) (hS : St B w (Cl b5 (C_api_Message a6) 115 :: l) hf) :
    Calls prog 284 #[sV A2 a1 c3, .func (.func 285) #[] #[pV b5]] w (Ret fun v w => v = iV r ∧ St B w (Cl b5 (C_api_Message a6) 115 :: l) hf) := by
  have h := Holds.of h
  refine en func284 rfl ntmps284 rfl (sr (pn 1 rfl (lnsr (pn 1 rfl (ln (RC.seq (sr (r0 3 rfl (RL.nil ?_)))))))))
  refine RQ.then_n (RC.block (fun a ha => lp h (fun (s : Int × Int) a w => ∃ x64 x65, s = (x64, x65) ∧ Has 21 [(1, .func (.func 285) #[] #[pV b5]), (5, iV x64), (8, sV A2 a1 c3), (9, iV (a1.length : Int)), (10, iV x65)] a ∧ St B w (Cl b5 (C_api_Message a6) 115 :: l) hf) ⟨_, _, rfl, ha.tE rfl, hS⟩ ?_))
  rintro G81 _ a w ⟨x64, x65, rfl, ha, hS⟩ h
  refine ro ha (sr (pn 1 rfl (ln (RC.seq ?_))))
  refine RC.iteP 11 rfl h (fun hc83 h => ?_) fun hc83 h => ?_
  next =>
   refine jt (sk ?_)
   refine RC.join (fun (s : Int) a w => ∃ x89, s = (x89) ∧ Holds (Sum.elim G81 (· = r)) (event_count_api_Message.j8 x65 x89) ∧ Has 21 [(1, .func (.func 285) #[] #[pV b5]), (5, iV x89), (8, sV A2 a1 c3), (9, iV (a1.length : Int)), (10, iV x65)] a ∧ St B w (Cl b5 (C_api_Message a6) 115 :: l) hf) ?_ ?_
   · rintro x89 a w ⟨_, rfl, h, ha, hS⟩
     refine ro ha (RC.region (pn 2 rfl (RL.nil ?_)))
     exact fun a ha => ⟨_, h.some, _, _, rfl, ha.tE rfl, hS⟩
   refine RC.block (sr ?_)
   obtain ⟨hq90, h⟩ := h.req
   refine RL.s (Vl.indexAddr underlying99 sizeOf115 rfl rfl ((hr4.2.world hS.sub).adr hq90 hc83) hq90 hc83 rfl) rfl (RL.s (Vl.loadA isAgg115 sizeOf115 rfl rfl ((hr4.2.world hS.sub).cells hq90 hc83)) rfl (rr [0, 1] hS ?_))
   refine fun b91 => it fun w hS => lnsr (rr [0, 1] hS ?_)
   refine it fun w hS => ?_
   obtain ⟨t92, hg93, h⟩ := h.bind
   have hc := event_Place_1.ok hg93 hS.p1
   refine RL.e (OW.call (ls := [.tmp 15]) rfl rfl call285 rfl hc) rfl rfl ?_
   rintro _ w ⟨rfl, hS⟩
   refine ln ?_
   refine RC.iteB 16 rfl h (fun hc94 h => ?_) fun hc94 h => ?_
   next =>
    refine jt (RC.region (pn 3 rfl (RL.nil (RQ.inB_n ?_))))
    exact fun a ha => ⟨_, _, rfl, h, ha.tE rfl, hS.d1⟩
   refine jf (RC.skip (RQ.inB_n ?_))
   exact fun a ha => ⟨_, _, rfl, h, ha.tE rfl, hS.d1⟩
  refine jf (RC.exit (RQ.exitT ?_))
  have h := h.inrS
  refine RQ.exitT (RQ.inB_hit (tsr (pn 2 rfl (lr ?_))))
  obtain rfl := h.some
  exact rt results284 rfl ⟨rfl, hS⟩
def event_Place.f (a1 : List api_Message) (a5 : api_Message) : Option (Int) := ((event_count_api_Message.f a1 a5).bind fun t10 => some t10)
theorem event_Place.ok {a1 : List api_Message} {a5 : api_Message} {A2 : Option Addr} {c3 : Nat} (hr4 : SlR E_api_Message.rep hf A2 c3 a1) {r : Int} (h : event_Place.f a1 a5 = some r) (hS : St B w (l) hf) :
    Calls prog 283 #[sV A2 a1 c3, .agg (C_api_Message a5).toArray] w (Ret fun v w => v = iV r ∧ St B w (l) hf) := by
  have h := Holds.of h
  refine en func283 rfl ntmps283 rfl (sr (rr [0, 0] hS ?_))
  refine fun b9 => it fun w hS => lnsr (pn 1 rfl (RL.s (Vl.makeFunc (fi := []) (ca := [.tmp 3]) rfl rfl) rfl (cF (fun _ hg => event_count_api_Message.ok hr4 hg hS) call284 h rfl rfl rfl ?_)))
  rintro t10 h _ w ⟨rfl, hS⟩
  refine pn 1 rfl (lr ?_)
  obtain rfl := h.some
  exact rt results283 rfl ⟨rfl, hS.d0⟩
def calendar_Calendar_Push.j5 (a2 : calendar_Calendar) (a3 : api_Message) (t188 x242 : Int) : Option (Int × calendar_Calendar) := (if 0 ≤ IntKind.i64.wrap ((((mget a2.days t188).getD []).length : Int) + 1) ∧ (IntKind.i64.wrap ((((mget a2.days t188).getD []).length : Int) + 1)) * 56 ≤ 140737488355328 then (if 0 ≤ x242 ∧ x242 ≤ (((mget a2.days t188).getD []).length : Int) then (if x242 < ((cpyL (List.replicate (IntKind.i64.wrap ((((mget a2.days t188).getD []).length : Int) + 1) : Int).toNat (⟨(⟨0, 0, 0⟩ : api_Key), 0, 0, 0, false⟩ : api_Message)) 0 (subL ((mget a2.days t188).getD []) 0 x242)).length : Int) then (if 0 ≤ IntKind.i64.wrap (x242 + 1) ∧ IntKind.i64.wrap (x242 + 1) ≤ ((setL (cpyL (List.replicate (IntKind.i64.wrap ((((mget a2.days t188).getD []).length : Int) + 1) : Int).toNat (⟨(⟨0, 0, 0⟩ : api_Key), 0, 0, 0, false⟩ : api_Message)) 0 (subL ((mget a2.days t188).getD []) 0 x242)) x242 a3).length : Int) then some (0, (⟨a2.width, (mset a2.days t188 (cpyL (setL (cpyL (List.replicate (IntKind.i64.wrap ((((mget a2.days t188).getD []).length : Int) + 1) : Int).toNat (⟨(⟨0, 0, 0⟩ : api_Key), 0, 0, 0, false⟩ : api_Message)) 0 (subL ((mget a2.days t188).getD []) 0 x242)) x242 a3) (IntKind.i64.wrap (x242 + 1) : Int).toNat (subL ((mget a2.days t188).getD []) x242 (((mget a2.days t188).getD []).length : Int)))), IntKind.i64.wrap (a2.n + 1)⟩ : calendar_Calendar)) else none) else none) else none) else none)
def calendar_Calendar_Push.l6b (a2 : calendar_Calendar) (a3 : api_Message) (t188 : Int) : Int → Option ((Int) ⊕ (Int × calendar_Calendar))
  | (x293) => (if x293 < (((mget a2.days t188).getD []).length : Int) then (if 0 ≤ x293 then ((event_Before.f a3 (nth ((mget a2.days t188).getD []) x293)).bind fun t313 => (if t313 = true then (Option.map Sum.inr (calendar_Calendar_Push.j5 a2 a3 t188 x293)) else some (.inl (IntKind.i64.wrap (x293 + 1))))) else none) else (Option.map Sum.inr (calendar_Calendar_Push.j5 a2 a3 t188 x293)))
def calendar_Calendar_Push.l6 (a2 : calendar_Calendar) (a3 : api_Message) (t188 : Int) (s : Int) : Option (Int × calendar_Calendar) := loopR (calendar_Calendar_Push.l6b a2 a3 t188) s
def calendar_Calendar_Push.f (a2 : calendar_Calendar) (a3 : api_Message) : Option (Int × calendar_Calendar) := ((calendar_Calendar_none.f a2).bind fun _ => ((calendar_Calendar_find.f a2 a3.Key.From a3.Uid).bind fun (y174, y175, y176) => (if y176 = true then some (8, a2) else (if 16384 ≤ a2.n then some (9, a2) else ((calendar_Calendar_day.f a2 a3.Key.Time).bind fun t188 => ((event_Place.f ((mget a2.days t188).getD []) a3).bind fun t206 => calendar_Calendar_Push.l6 a2 a3 t188 (t206)))))))
theorem calendar_Calendar_Push.ok {a2 : calendar_Calendar} {a3 : api_Message} {b1 : Nat} {r : Int × calendar_Calendar} (h : calendar_Calendar_Push.f a2 a3 = some r) (hS : St B w (O_calendar_Calendar hf a2 b1 :: l) hf) :
    Calls prog 277 #[pV b1, .agg (C_api_Message a3).toArray] w (Ret fun v w => ∃ hf_ : Hp, Sub hf hf_ ∧ v = iV r.1 ∧ St B w (O_calendar_Calendar hf_ r.2 b1 :: l) hf_) := by
  have h := Holds.of h
  refine en func277 rfl ntmps277 rfl (sr (rr [0, 0] hS ?_))
  refine fun b161 => it fun w hS => ln (RC.seq (sr (pn 1 rfl (cF (fun _ hg => calendar_Calendar_none.ok hg hS.p1) call278 h rfl rfl rfl ?_))))
  rintro _ h _ w ⟨rfl, hS⟩
  refine ln (jfs (RC.seq (sr (rr [0, 0, 0, 2, 0, 2] hS ?_))))
  refine it fun w hS => cF (fun _ hg => calendar_Calendar_find.ok hg hS) call279 h rfl rfl rfl ?_
  rintro ⟨y174, y175, y176⟩ h _ w ⟨rfl, hS⟩
  refine pn 7 rfl (lnsr (pn 1 rfl (ln ?_)))
  refine RC.iteB 25 rfl h (fun hc177 h => ?_) fun hc177 h => ?_
  next =>
   refine jtr (pn 1 rfl (lr (RQ.ret ?_)))
   cases h.some
   exact rt results277 rfl ⟨_, (Sub.refl _), rfl, hS.d1⟩
  refine jfs (RC.seq (sr (r0 3 rfl ?_)))
  obtain ⟨b182, hs183, hw184, hS⟩ := O_calendar_Calendar.o hS
  refine rr [1, 0] hS ?_
  refine it fun w hS => ln ?_
  refine RC.iteP 30 rfl h (fun hc185 h => ?_) fun hc185 h => ?_
  next =>
   refine jtr (pn 1 rfl (lr (RQ.ret ?_)))
   have hS := O_calendar_Calendar.c (x := a2) hw184 hS
   cases h.some
   exact rt results277 rfl ⟨_, (Sub.refl _), rfl, hS.d1⟩
  refine jfs (sr (rr [0, 0, 0, 3] hS ?_))
  refine it fun w hS => ?_
  have hS := O_calendar_Calendar.c (x := a2) hw184 hS
  refine cF (fun _ hg => calendar_Calendar_day.ok hg hS) call282 h rfl rfl rfl ?_
  rintro t188 h _ w ⟨rfl, hS⟩
  refine pn 1 rfl (lnsr (r0 3 rfl ?_))
  obtain ⟨b197, hs198, hw199, hS⟩ := O_calendar_Calendar.o hS
  refine rr [1, 0] hS ?_
  refine it fun w hS => ?_
  obtain ⟨A200, c201, he202, hr203⟩ := hw199.get t188
  refine RL.s (Vl.lookupW (k := t188) 1 hS rfl (KeyOK.int underlying2) underlying271 zeroValue99 rfl rfl he202) rfl (pn 1 rfl (lnsr (rr [0, 3] hS ?_)))
  refine it fun w hS => cF (fun _ hg => event_Place.ok hr203 hg hS) call283 h rfl rfl rfl ?_
  rintro t206 h _ w ⟨rfl, hS⟩
  refine pn 1 rfl (ln ?_)
  refine RC.join (fun (s : Int) a w => ∃ x242, s = (x242) ∧ Holds (· = r) (calendar_Calendar_Push.j5 a2 a3 t188 x242) ∧ Has 95 [(0, pV b1), (3, pV b161), (8, iV t188), (9, .slice A200 ((mget a2.days t188).getD []).length c201), (10, iV x242)] a ∧ St B w (O_calendar_Calendar hf a2 b1 :: Cl b161 (C_api_Message a3) 115 :: l) hf) ?_ ?_
  · rintro x242 a w ⟨_, rfl, h, ha, hS⟩
    refine ro ha (sr (r0 3 rfl ?_))
    obtain ⟨⟨hq246, hq247⟩, h⟩ := h.req
    refine RL.e (OW.makeN (E := E_api_Message) (x0 := (⟨(⟨0, 0, 0⟩ : api_Key), 0, 0, 0, false⟩ : api_Message)) hS underlying99 type115 rfl rfl rfl rfl (by decide) rfl rfl hq246 (by decide) hq247) rfl rfl ?_
    rintro _ w ⟨b248, rfl, hS⟩
    refine pn 1 rfl (lnsr (pn 4 rfl ?_))
    obtain ⟨⟨hq253, hq254⟩, h⟩ := h.req
    have hr255 := hr203.cut hq253 hq254
    refine RL.s (Vl.slice3R underlying99 sizeOf115 rfl rfl rfl hq253 hq254 hr203.1) rfl (RL.e (OW.copyR0 (E := E_api_Message) 0 hS rfl underlying99 type115 rfl (by decide) rfl rfl (hr255.2.world hS.sub) rfl) rfl rfl ?_)
    rintro _ w ⟨rfl, hS⟩
    have he256 := (hS.osN 0 rfl).1
    have hS : St B w (_ :: _ :: _ :: l) hf := (congrArg (fun k_ : Nat => St B w (OSf E_api_Message 115 (.slice (some ⟨b248, 0, none⟩) k_ ((IntKind.i64.wrap ((((mget a2.days t188).getD []).length : Int) + 1) : Int).toNat)) (cpyL (List.replicate (IntKind.i64.wrap ((((mget a2.days t188).getD []).length : Int) + 1) : Int).toNat (⟨(⟨0, 0, 0⟩ : api_Key), 0, 0, 0, false⟩ : api_Message)) 0 (subL ((mget a2.days t188).getD []) 0 x242)) :: O_calendar_Calendar hf a2 b1 :: Cl b161 (C_api_Message a3) 115 :: l) hf) he256).mp hS
    refine RL.re 63 rfl (congrArg (fun k_ : Nat => (.slice (some ⟨b248, 0, none⟩) k_ ((IntKind.i64.wrap ((((mget a2.days t188).getD []).length : Int) + 1) : Int).toNat) : Value)) he256) (RL.re 11 rfl (congrArg (fun k_ : Nat => (.slice (some ⟨b248, 0, none⟩) k_ ((IntKind.i64.wrap ((((mget a2.days t188).getD []).length : Int) + 1) : Int).toNat) : Value)) he256) (RL.re 64 rfl (congrArg (fun k_ : Nat => (.slice (some ⟨b248, 0, none⟩) k_ ((IntKind.i64.wrap ((((mget a2.days t188).getD []).length : Int) + 1) : Int).toNat) : Value)) he256) (lnsr (rr [0, 0, 3] hS ?_))))
    refine it fun w hS => ?_
    obtain ⟨hq259, h⟩ := h.req
    refine RL.s (Vl.indexOwn 0 hS rfl underlying99 sizeOf115 rfl rfl hq253 hq259) rfl (RL.e0 (OW.storeOwn (E := E_api_Message) (off := 0) (j := x242) (x' := a3) (vs := (C_api_Message a3)) 0 hS rfl rfl rfl rfl sizeOf115 rfl (Nat.succ_pos _) hq253 hq259 (Nat.le_of_ble_eq_true rfl) rfl rfl) rfl ?_)
    rintro _ w ⟨rfl, hS⟩
    have he260 := (hS.osN 0 rfl).1
    have hS : St B w (_ :: _ :: _ :: l) hf := (congrArg (fun k_ : Nat => St B w (OSf E_api_Message 115 (.slice (some ⟨b248, 0, none⟩) k_ ((IntKind.i64.wrap ((((mget a2.days t188).getD []).length : Int) + 1) : Int).toNat)) (setL (cpyL (List.replicate (IntKind.i64.wrap ((((mget a2.days t188).getD []).length : Int) + 1) : Int).toNat (⟨(⟨0, 0, 0⟩ : api_Key), 0, 0, 0, false⟩ : api_Message)) 0 (subL ((mget a2.days t188).getD []) 0 x242)) x242 a3) :: O_calendar_Calendar hf a2 b1 :: Cl b161 (C_api_Message a3) 115 :: l) hf) he260).mp hS
    refine RL.re 63 rfl (congrArg (fun k_ : Nat => (.slice (some ⟨b248, 0, none⟩) k_ ((IntKind.i64.wrap ((((mget a2.days t188).getD []).length : Int) + 1) : Int).toNat) : Value)) he260) (RL.re 11 rfl (congrArg (fun k_ : Nat => (.slice (some ⟨b248, 0, none⟩) k_ ((IntKind.i64.wrap ((((mget a2.days t188).getD []).length : Int) + 1) : Int).toNat) : Value)) he260) (RL.re 64 rfl (congrArg (fun k_ : Nat => (.slice (some ⟨b248, 0, none⟩) k_ ((IntKind.i64.wrap ((((mget a2.days t188).getD []).length : Int) + 1) : Int).toNat) : Value)) he260) (RL.re 70 rfl (congrArg (fun k_ : Nat => (.slice (some ⟨b248, 0, none⟩) k_ ((IntKind.i64.wrap ((((mget a2.days t188).getD []).length : Int) + 1) : Int).toNat) : Value)) he260) (ln (RC.seq (dr [0, 3, 6, 10, 12, 17, 20, 23] [7] hS fun w hS => pp 3 rfl ?_))))))
    obtain ⟨⟨hq265, hq266⟩, h⟩ := h.req
    refine RP.s 0 3 rfl rfl hS (fun w hS => Vl.sliceLO (xs := (setL (cpyL (List.replicate (IntKind.i64.wrap ((((mget a2.days t188).getD []).length : Int) + 1) : Int).toNat (⟨(⟨0, 0, 0⟩ : api_Key), 0, 0, 0, false⟩ : api_Message)) 0 (subL ((mget a2.days t188).getD []) 0 x242)) x242 a3)) 0 hS rfl underlying99 sizeOf115 rfl rfl  hq265 hq266) rfl (rq [0, 0] hS ?_)
    refine it ?_
    have hr267 := hr203.sub (lo := x242) (hi := (((mget a2.days t188).getD []).length : Int)) (m := c201) hq253 hq254 (by omega) (by have := hr203.1; omega)
    refine RP.v1 6 rfl (Vl.sliceL underlying99 sizeOf115 rfl rfl hq253 hq254 hr203.1) rfl rfl (RP.e 7 rfl (OW.copyR1 (E := E_api_Message) (a := IntKind.i64.wrap (x242 + 1)) 0 hS rfl underlying99 type115 rfl (by decide) rfl rfl (hr267.2.world hS.sub) hq265 hq266 rfl) rfl rfl ?_)
    rintro _ w ⟨rfl, hS⟩
    have he268 := (hS.osN 0 rfl).1
    have hS : St B w (_ :: _ :: _ :: l) hf := (congrArg (fun k_ : Nat => St B w (OSf E_api_Message 115 (.slice (some ⟨b248, 0, none⟩) k_ ((IntKind.i64.wrap ((((mget a2.days t188).getD []).length : Int) + 1) : Int).toNat)) (cpyL (setL (cpyL (List.replicate (IntKind.i64.wrap ((((mget a2.days t188).getD []).length : Int) + 1) : Int).toNat (⟨(⟨0, 0, 0⟩ : api_Key), 0, 0, 0, false⟩ : api_Message)) 0 (subL ((mget a2.days t188).getD []) 0 x242)) x242 a3) (IntKind.i64.wrap (x242 + 1) : Int).toNat (subL ((mget a2.days t188).getD []) x242 (((mget a2.days t188).getD []).length : Int))) :: O_calendar_Calendar hf a2 b1 :: Cl b161 (C_api_Message a3) 115 :: l) hf) he268).mp hS
    refine ⟨kp ⟨(by intro hx; cases hx), trivial⟩, ?_⟩
    refine RP.re 63 rfl (congrArg (fun k_ : Nat => (.slice (some ⟨b248, 0, none⟩) k_ ((IntKind.i64.wrap ((((mget a2.days t188).getD []).length : Int) + 1) : Int).toNat) : Value)) he268) (RP.re 11 rfl (congrArg (fun k_ : Nat => (.slice (some ⟨b248, 0, none⟩) k_ ((IntKind.i64.wrap ((((mget a2.days t188).getD []).length : Int) + 1) : Int).toNat) : Value)) he268) (RP.re 64 rfl (congrArg (fun k_ : Nat => (.slice (some ⟨b248, 0, none⟩) k_ ((IntKind.i64.wrap ((((mget a2.days t188).getD []).length : Int) + 1) : Int).toNat) : Value)) he268) (RP.re 70 rfl (congrArg (fun k_ : Nat => (.slice (some ⟨b248, 0, none⟩) k_ ((IntKind.i64.wrap ((((mget a2.days t188).getD []).length : Int) + 1) : Int).toNat) : Value)) he268) (RP.re 74 rfl (congrArg (fun k_ : Nat => (.slice (some ⟨b248, 0, none⟩) k_ ((IntKind.i64.wrap ((((mget a2.days t188).getD []).length : Int) + 1) : Int).toNat) : Value)) he268) (RP.nil (tsr (r0 3 rfl ?_)))))))
    obtain ⟨b276, hs277, hw278, hS⟩ := O_calendar_Calendar.o hS.p1
    refine rr [1, 0, 0] hS ?_
    refine it fun w hS => ?_
    obtain ⟨hf, hs279, hS, hr280⟩ := St.promote hS.p2
    have hS : St B w (_ :: _ :: _ :: l) hf := hS
    have hw281 := (hw278.mono hs279).set (k := t188) hr280
    refine RL.e0 (OW.mapUpdW (k := t188) 1 hS rfl (KeyOK.int underlying2) underlying271 rfl rfl rfl rfl) rfl ?_
    rintro _ w ⟨rfl, hS⟩
    have hS : St B w (_ :: _ :: _ :: l) hf := hS
    refine lnsr (rr [0, 0, 0, 2, 0, 0, 0, 2] hS ?_)
    refine it fun w hS => lnsr (pn 1 rfl (lr ?_))
    have hS := O_calendar_Calendar.c (x := (⟨a2.width, (mset a2.days t188 (cpyL (setL (cpyL (List.replicate (IntKind.i64.wrap ((((mget a2.days t188).getD []).length : Int) + 1) : Int).toNat (⟨(⟨0, 0, 0⟩ : api_Key), 0, 0, 0, false⟩ : api_Message)) 0 (subL ((mget a2.days t188).getD []) 0 x242)) x242 a3) (IntKind.i64.wrap (x242 + 1) : Int).toNat (subL ((mget a2.days t188).getD []) x242 (((mget a2.days t188).getD []).length : Int)))), IntKind.i64.wrap (a2.n + 1)⟩ : calendar_Calendar)) hw281 hS.p1
    cases h.some
    exact rt results277 rfl ⟨_, hs279, rfl, hS.d1⟩
  refine RC.block ?_
  have hS := O_calendar_Calendar.c (x := a2) hw199 hS
  refine fun a ha => lp h (fun (s : Int) a w => ∃ x293, s = (x293) ∧ Has 95 [(0, pV b1), (3, pV b161), (8, iV t188), (9, .slice A200 ((mget a2.days t188).getD []).length c201), (10, iV x293)] a ∧ St B w (O_calendar_Calendar hf a2 b1 :: Cl b161 (C_api_Message a3) 115 :: l) hf) ⟨_, rfl, ha.tE rfl, hS⟩ ?_
  rintro G305 x293 a w ⟨_, rfl, ha, hS⟩ h
  refine ro ha (RC.seq (RC.seq (dr [0, 3, 6, 9, 12, 16, 18, 23, 26, 29, 32, 35, 38] [10, 11, 12] hS fun w hS => rq [0, 0, 0, 0, 0] hS ?_)))
  refine it ?_
  refine RP.iteP 49 rfl h (fun hc311 h => ?_) fun hc311 h => ?_
  next =>
   refine rq [2, 0, 0] hS ?_
   refine it ?_
   obtain ⟨hq312, h⟩ := h.req
   refine RP.v1 8 rfl (Vl.indexAddr underlying99 sizeOf115 rfl rfl ((hr203.2.world hS.sub).adr hq312 hc311) hq312 hc311 rfl) rfl rfl (RP.v1 9 rfl (Vl.loadA isAgg115 sizeOf115 rfl rfl ((hr203.2.world hS.sub).cells hq312 hc311)) rfl rfl ?_)
   obtain ⟨t313, hg314, h⟩ := h.bind
   have hc := event_Before.ok hg314 hS
   refine RP.e 10 rfl (OW.callF (ls := [.tmp 50, .tmp 54]) rfl call97 hc) rfl rfl ?_
   rintro _ w ⟨rfl, hS⟩
   refine ⟨kp ⟨(by intro hx; cases hx), trivial⟩, ?_⟩
   refine rq [0, 0] hS ?_
   refine it (RP.nil (RQ.then_n ?_))
   refine RC.iteM 57 rfl h (fun hc315 h => ?_) fun hc315 h => ?_
   next =>
    refine jf (RC.exit (RQ.exitT ?_))
    have h := h.inr
    refine RQ.exitT (RQ.inB_hit ?_)
    exact fun a ha => ⟨_, _, rfl, h, ha.tE rfl, hS⟩
   refine jt (sk (RC.block (RC.region (pn 3 rfl (RL.nil (RQ.inB_n ?_))))))
   exact fun a ha => ⟨_, h.some, _, rfl, ha.tE rfl, hS⟩
  refine rq [0, 0, 0, 0, 0, 0, 0, 0] hS ?_
  refine it (RP.nil (RQ.then_n (jf (RC.exit (RQ.exitT ?_)))))
  have h := h.inr
  refine RQ.exitT (RQ.inB_hit ?_)
  exact fun a ha => ⟨_, _, rfl, h, ha.tE rfl, hS⟩
def ladder_Ladder_none.f (a2 : ladder_Ladder) : Option (Bool) := some (decide (a2.most = 0))
theorem ladder_Ladder_none.ok {a2 : ladder_Ladder} {b1 : Nat} {r : Bool} (h : ladder_Ladder_none.f a2 = some r) (hS : St B w (O_ladder_Ladder hf a2 b1 :: l) hf) :
    Calls prog 293 #[pV b1] w (Ret fun v w => v = .bool r ∧ St B w (O_ladder_Ladder hf a2 b1 :: l) hf) := by
  have h := Holds.of h
  refine en func293 rfl ntmps293 rfl (sr (pn 1 rfl (lnsr (pn 1 rfl (RL.s (Vl.bn false rfl rfl) rfl (r0 4 rfl ?_))))))
  obtain ⟨A9, c10, A11, c12, hs13, hS⟩ := O_ladder_Ladder.o hS
  have hl14 := hS.p3.sepLen
  refine rr [1, 0, 0, 0] hS ?_
  refine it fun w hS => lr ?_
  have hS := O_ladder_Ladder.c (x := a2) (hs_5 := hs13) hS
  cases h.some
  exact rt results293 rfl ⟨rfl, hS⟩
def ladder_Ladder_find_1.f (a1 : api_Message) (a3 a5 : Int) : Option (Bool) := (if a1.Key.From = a3 then some (decide (a1.Uid = a5)) else some false)
theorem ladder_Ladder_find_1.ok {a1 : api_Message} {a3 a5 : Int} {b2 b4 : Nat} {r : Bool} (h : ladder_Ladder_find_1.f a1 a3 a5 = some r) (hS : St B w (Cl b2 [iV a3] 3 :: Cl b4 [iV a5] 3 :: l) hf) :
    Calls prog 300 #[.agg (C_api_Message a1).toArray, pV b2, pV b4] w (Ret fun v w => v = .bool r ∧ St B w (Cl b2 [iV a3] 3 :: Cl b4 [iV a5] 3 :: l) hf) := by
  have h := Holds.of h
  refine en func300 rfl ntmps300 rfl (sr (rr [0, 0] hS ?_))
  refine fun b10 => it fun w hS => lnsr (rr [0, 0, 1, 2, 0, 0] hS ?_)
  refine it fun w hS => RL.iteP 10 rfl h (fun hc11 h => ?_) fun hc11 h => ?_
  next =>
   refine rr [0, 1, 3, 0, 0, 0] hS ?_
   refine it fun w hS => lr ?_
   cases h.some
   exact rt results300 rfl ⟨rfl, hS.d0⟩
  refine pn 6 rfl (lr ?_)
  obtain rfl := h.some
  exact rt results300 rfl ⟨rfl, hS.d0⟩
end
end Go.Proofs.Gx
