/-
  The walks of functions, each with what it computes: printed by wip/gx.py.
-/
import Derived.Test.YtnhbcleiibogmaaGreatDoorW0
import Derived.Test.YtnhbcleiibogmaaGreatDoorW2
set_option linter.unusedVariables false
set_option linter.unusedSimpArgs false
set_option maxRecDepth 100000
set_option maxHeartbeats 4000000
namespace Go.Proofs.Gx
open Go.Sl Tryz
variable {B : Base} {w : World} {l : List HProp} {hf : Hp}
noncomputable section
def heap_pile_api_Message_each.f (a4 : List api_Message) : Option (Unit) := some ()
theorem heap_pile_api_Message_each.ok {a4 : List api_Message} {b1 c3 : Nat} {A2 : Option Addr} {r : Unit} (h : heap_pile_api_Message_each.f a4 = some r) (hS : St B w (Cl b1 [sV A2 a4 c3, .func (.func 149) #[] #[]] 371 :: OSf E_api_Message 84 (sV A2 a4 c3) a4 :: l) hf) :
    Calls prog 317 #[pV b1] w (Ret fun v w => ∃ (b_1 : Nat), v = .func (.func 322) #[] #[pV b_1] ∧ St B w (Cl b_1 [pV b1] 435 :: Cl b1 [sV A2 a4 c3, .func (.func 149) #[] #[]] 371 :: OSf E_api_Message 84 (sV A2 a4 c3) a4 :: l) hf) := by
  have h := Holds.of h
  refine en func317 rfl ntmps317 rfl (sr (rr [0, 0] hS ?_))
  refine fun b6 => it fun w hS => lnsr (RL.s (Vl.makeFunc (fi := []) (ca := [.tmp 1]) rfl rfl) rfl (pn 1 rfl (lr ?_)))
  exact rt results317 rfl ⟨b6, rfl, hS⟩
def heap_Heap_find_round0.f (a5 a7 a9 a10 : Int) (a11 : api_Message) : Option ((Int) ⊕ (Unit)) := (if a11.Key.From = a5 then (if a11.Uid = a7 then some (.inl a10) else some (.inr (()))) else some (.inr (())))
theorem heap_Heap_find_round0.ok {a5 a7 a9 a10 : Int} {a11 : api_Message} {b1 b4 b6 b8 : Nat} {rc2 : Loop} (hr3 : RecF f313 0 27 [(4, pV b4), (5, pV b6), (6, pV b8)] rc2) {r : (Int) ⊕ (Unit)} (h : heap_Heap_find_round0.f a5 a7 a9 a10 a11 = some r) (hS : St B w (pts b1 (.loop rc2) :: Cl b4 [iV a5] 3 :: Cl b6 [iV a7] 3 :: Cl b8 [iV a9] 3 :: l) hf) :
    Yld prog b1 [iV a10, .agg (C_api_Message a11).toArray] w (Ret fun v w => match (generalizing := false) r with | .inl r_ => v = .bool false ∧ St B w (pts b1 (.loop (pd rc2 .ret)) :: Cl b4 [iV a5] 3 :: Cl b6 [iV a7] 3 :: Cl b8 [iV r_] 3 :: l) hf | .inr (r_) => v = .bool true ∧ St B w (pts b1 (.loop rc2) :: Cl b4 [iV a5] 3 :: Cl b6 [iV a7] 3 :: Cl b8 [iV a9] 3 :: l) hf) := by
  have h := Holds.of h
  refine Yld.of (psl := [13, 14]) hS hr3 rfl rfl rfl ?_
  show RC _ ⟨27, [], false⟩ _ _ [(14, .agg (C_api_Message a11).toArray), (13, iV a10), (4, pV b4), (5, pV b6), (6, pV b8)] w
  refine sr (pn 1 rfl (ln (RC.region (rr [0, 1] hS ?_))))
  refine fun b15 => it fun w hS => ln (RQ.bg hS.p1 hr3.state rfl fun w hS => RC.block (sr (rr [0, 0, 2, 3, 0, 0] hS ?_)))
  refine it fun w hS => RL.iteP 20 rfl h (fun hc16 h => ?_) fun hc16 h => ?_
  next =>
   refine rr [0, 2, 4, 0, 0] hS ?_
   refine it fun w hS => ln ?_
   refine RC.iteP 25 rfl h (fun hc17 h => ?_) fun hc17 h => ?_
   next =>
    refine jtr (rr [0, 5] hS ?_)
    refine it fun w hS => lr (RQ.inB_ret ?_)
    cases h.some
    exact RQ.rr hS fun w hS => ⟨rfl, hS.d1⟩
   refine jf (RC.skip (RQ.inB_n ?_))
   cases h.some
   exact RQ.rn hS hr3.state hr3.pending fun w hS => ⟨rfl, hS.d1⟩
  refine pn 5 rfl (ln (jf (RC.skip (RQ.inB_n ?_))))
  cases h.some
  exact RQ.rn hS hr3.state hr3.pending fun w hS => ⟨rfl, hS.d1⟩
def heap_pile_api_Message_each_1.l2b (a5 a7 a9 : Int) (a14 : List api_Message) : Int → Option ((Int) ⊕ ((Int) ⊕ (Unit)))
  | (x64) => (if x64 < (a14.length : Int) then (if 0 ≤ x64 then ((heap_Heap_find_round0.f a5 a7 a9 x64 (nth a14 x64)).bind fun t88 => match t88 with | .inl y90 => some (.inr (.inl y90)) | .inr (_) => some (.inl (IntKind.i64.wrap (x64 + 1)))) else none) else some (.inr (.inr (()))))
def heap_pile_api_Message_each_1.l2 (a5 a7 a9 : Int) (a14 : List api_Message) (s : Int) : Option ((Int) ⊕ (Unit)) := loopR (heap_pile_api_Message_each_1.l2b a5 a7 a9 a14) s
def heap_pile_api_Message_each_1.f (a5 a7 a9 : Int) (a14 : List api_Message) : Option ((Int) ⊕ (Unit)) := heap_pile_api_Message_each_1.l2 a5 a7 a9 a14 (0)
theorem heap_pile_api_Message_each_1.ok {a5 a7 a9 : Int} {a14 : List api_Message} {b1 b4 b6 b8 b10 b11 c13 : Nat} {rc2 : Loop} {A12 : Option Addr} (hr3 : RecF f313 0 27 [(4, pV b4), (5, pV b6), (6, pV b8)] rc2) {r : (Int) ⊕ (Unit)} (h : heap_pile_api_Message_each_1.f a5 a7 a9 a14 = some r) (hS : St B w (pts b1 (.loop rc2) :: Cl b4 [iV a5] 3 :: Cl b6 [iV a7] 3 :: Cl b8 [iV a9] 3 :: Cl b11 [sV A12 a14 c13, .func (.func 149) #[] #[]] 371 :: OSf E_api_Message 84 (sV A12 a14 c13) a14 :: Cl b10 [pV b11] 435 :: l) hf) :
    Calls prog 322 #[.func (.yield b1) #[] #[], pV b10] w (Ret fun v w => match (generalizing := false) r with | .inl r_ => v = .tuple #[] ∧ St B w (pts b1 (.loop (pd rc2 .ret)) :: Cl b4 [iV a5] 3 :: Cl b6 [iV a7] 3 :: Cl b8 [iV r_] 3 :: Cl b11 [sV A12 a14 c13, .func (.func 149) #[] #[]] 371 :: OSf E_api_Message 84 (sV A12 a14 c13) a14 :: Cl b10 [pV b11] 435 :: l) hf | .inr (r_) => v = .tuple #[] ∧ St B w (pts b1 (.loop rc2) :: Cl b4 [iV a5] 3 :: Cl b6 [iV a7] 3 :: Cl b8 [iV a9] 3 :: Cl b11 [sV A12 a14 c13, .func (.func 149) #[] #[]] 371 :: OSf E_api_Message 84 (sV A12 a14 c13) a14 :: Cl b10 [pV b11] 435 :: l) hf) := by
  have h := Holds.of h
  refine en func322 rfl ntmps322 rfl (sr (rr [7, 0, 0, 5, 0, 0] hS ?_))
  refine it fun w hS => ln (RC.block (fun a ha => lp h (fun (s : Int) a w => ∃ x64, s = (x64) ∧ Has 21 [(0, .func (.yield b1) #[] #[]), (8, sV A12 a14 c13), (9, iV (a14.length : Int)), (10, iV x64)] a ∧ St B w (OSf E_api_Message 84 (sV A12 a14 c13) a14 :: pts b1 (.loop rc2) :: Cl b4 [iV a5] 3 :: Cl b6 [iV a7] 3 :: Cl b8 [iV a9] 3 :: Cl b11 [sV A12 a14 c13, .func (.func 149) #[] #[]] 371 :: Cl b10 [pV b11] 435 :: l) hf) ⟨_, rfl, ha.tE rfl, hS.p5⟩ ?_))
  rintro G78 x64 a w ⟨_, rfl, ha, hS⟩ h
  refine ro ha (sr (pn 1 rfl (ln (RC.seq ?_))))
  refine RC.iteP 11 rfl h (fun hc80 h => ?_) fun hc80 h => ?_
  next =>
   refine jt (sk (RC.seq (RC.block (sr (pn 1 rfl ?_)))))
   obtain ⟨hq86, h⟩ := h.req
   refine RL.s (Vl.indexOwn 0 hS rfl underlying52 sizeOf84 rfl rfl hq86 hc80) rfl (RL.s (Vl.loadA isAgg84 sizeOf84 rfl rfl ((hS.slW 0 rfl).2.2.cells hq86 hc80)) rfl (rr [0, 0, 1] hS ?_))
   refine fun b87 => it fun w hS => lnsr (rr [0, 0, 1] hS ?_)
   refine it fun w hS => yc (fun _ hg89 => heap_Heap_find_round0.ok hr3 hg89 hS.p5.p5.p5.p5) rfl h rfl rfl rfl rfl ?_
   intro t88 h
   rcases t88 with y90 | _
   · rintro _ w ⟨rfl, hS⟩
     have hS : St B w (_ :: _ :: _ :: _ :: _ :: _ :: _ :: _ :: l) hf := hS
     refine pn 1 rfl (ln (jt (RC.ret (ir ?_))))
     have h := h.inrS
     refine RQ.ret (RQ.inB_ret ?_)
     cases h.some
     exact rt results322 rfl ⟨rfl, hS.d4.p5.p4.p4.p4.p4⟩
   · rintro _ w ⟨rfl, hS⟩
     have hS : St B w (_ :: _ :: _ :: _ :: _ :: _ :: _ :: _ :: l) hf := hS
     refine pn 1 rfl (ln (jf (RC.skip (RQ.inB_n (RQ.then_n (RC.region (pn 2 rfl (RL.nil ?_))))))))
     exact fun a ha => ⟨_, h.some, _, rfl, ha.tE rfl, hS.d4.p4⟩
  refine jf (RC.exit (RQ.exitT ?_))
  have h := h.inrS
  refine RQ.exitT (RQ.inB_hit ?_)
  cases h.some
  exact rtE results322 rfl ⟨rfl, hS.p5.p5.p5.p5.p5⟩
def heap_Heap_find.f (a2 : heap_Heap) (a3 a4 : Int) : Option (Int) := ((heap_pile_api_Message_each.f a2.p_l).bind fun _ => ((heap_pile_api_Message_each_1.f a3 a4 0 a2.p_l).bind fun t82 => match t82 with | .inl y84 => some y84 | .inr (_) => some (-1)))
theorem heap_Heap_find.ok {a2 : heap_Heap} {a3 a4 r : Int} {b1 : Nat} (h : heap_Heap_find.f a2 a3 a4 = some r) (hS : St B w (O_heap_Heap hf a2 b1 :: l) hf) :
    Calls prog 313 #[pV b1, iV a3, iV a4] w (Ret fun v w => v = iV r ∧ St B w (O_heap_Heap hf a2 b1 :: l) hf) := by
  have h := Holds.of h
  refine enM func313 rfl ntmps313 rfl (sr (rr [0, 0, 0] hS ?_))
  refine fun b48 b49 b50 => it fun w hS => ln (RC.seq (sr (r0 3 rfl ?_)))
  obtain ⟨A73, c74, hS⟩ := O_heap_Heap.o hS.p3
  refine cF (fun _ hg => heap_pile_api_Message_each.ok hg hS) call317 h rfl rfl rfl ?_
  rintro _ h _ w ⟨b77, rfl, hS⟩
  refine ln (RC.block ?_)
  obtain ⟨t82, hg83, h⟩ := h.bind
  refine RC.rf (args := fun b78 => #[.func (.yield b78) #[] #[], pV b77]) rfl call322 rfl hS (fun _ => by simp) (fun b78 d79 rc80 w hr81 hS => heap_pile_api_Message_each_1.ok (RecOK.to (M := 27) hr81 rfl rfl ⟨rfl, rfl, rfl, trivial⟩) hg83 hS.p2.p4.p4.p5.p6.p7.p6) ?_
  rcases t82 with y84 | _
  · rintro b78 d79 rc80 _ w hr81 ⟨rfl, hS⟩
    refine RE.r hS fun w hS => ir ?_
    have hS := O_heap_Heap.c (x := a2) hS.p4.p4
    obtain rfl := h.some
    exact rtM1 (vs := [iV y84]) results313 hS.p5 fun w hS => ⟨⟨⟨_, rfl, run_loadVar1 isAgg3 (hS.cell 3 rfl rfl)⟩, trivial⟩, ⟨rfl, hS.d1.d1.d1.d1⟩⟩
  · rintro b78 d79 rc80 _ w hr81 ⟨rfl, hS⟩
    refine RE.n hS hr81.state hr81.pending fun w hS => RQ.inB_n (tsr (rr [3] hS ?_))
    refine it fun w hS => lr ?_
    have hS := O_heap_Heap.c (x := a2) hS.p4.p4
    cases h.some
    exact rtM1 (vs := [iV (-1)]) results313 hS.p5 fun w hS => ⟨⟨⟨_, rfl, run_loadVar1 isAgg3 (hS.cell 3 rfl rfl)⟩, trivial⟩, ⟨rfl, hS.d1.d1.d1.d1⟩⟩
def cmp_isNaN_int64.f (a1 : Int) : Option (Bool) := some (!decide (a1 = a1))
theorem cmp_isNaN_int64.ok {a1 : Int} {r : Bool} (h : cmp_isNaN_int64.f a1 = some r) (hS : St B w (l) hf) :
    Calls prog 227 #[iV a1] w (Ret fun v w => v = .bool r ∧ St B w (l) hf) := by
  have h := Holds.of h
  refine en func227 rfl ntmps227 rfl (sr (pn 1 rfl (lnsr (pn 4 rfl (lr ?_)))))
  cases h.some
  exact rt results227 rfl ⟨rfl, hS⟩
def cmp_Compare_int64.f (a1 a2 : Int) : Option (Int) := ((cmp_isNaN_int64.f a1).bind fun t16 => ((cmp_isNaN_int64.f a2).bind fun t18 => (if t16 = true then (if t18 = true then some 0 else some (-1)) else (if t18 = true then some 1 else (if a1 < a2 then some (-1) else (if a2 < a1 then some 1 else some 0))))))
theorem cmp_Compare_int64.ok {a1 a2 r : Int} (h : cmp_Compare_int64.f a1 a2 = some r) (hS : St B w (l) hf) :
    Calls prog 206 #[iV a1, iV a2] w (Ret fun v w => v = iV r ∧ St B w (l) hf) := by
  have h := Holds.of h
  refine en func206 rfl ntmps206 rfl (sr (pn 1 rfl (lnsr (pn 1 rfl (cF (fun _ hg => cmp_isNaN_int64.ok hg hS) call227 h rfl rfl rfl ?_)))))
  rintro t16 h _ w ⟨rfl, hS⟩
  refine pn 1 rfl (lnsr (pn 1 rfl (cF (fun _ hg => cmp_isNaN_int64.ok hg hS) call227 h rfl rfl rfl ?_)))
  rintro t18 h _ w ⟨rfl, hS⟩
  refine pn 1 rfl (ln (RC.seq (sr (pn 1 rfl (ln ?_)))))
  refine RC.iteB 11 rfl h (fun hc22 h => ?_) fun hc22 h => ?_
  next =>
   refine jt (RC.seq (sr (pn 1 rfl (ln ?_))))
   refine RC.iteB 12 rfl h (fun hc23 h => ?_) fun hc23 h => ?_
   next =>
    refine jtr (pn 1 rfl (lr (RQ.ret (RQ.ret ?_))))
    obtain rfl := h.some
    exact rt results206 rfl ⟨rfl, hS⟩
   refine jfs (sr (pn 1 rfl (lr (RQ.ret ?_))))
   cases h.some
   exact rt results206 rfl ⟨rfl, hS⟩
  refine jfs (RC.seq (sr (pn 1 rfl (ln ?_))))
  refine RC.iteB 13 rfl h (fun hc25 h => ?_) fun hc25 h => ?_
  next =>
   refine jtr (pn 1 rfl (lr (RQ.ret ?_)))
   obtain rfl := h.some
   exact rt results206 rfl ⟨rfl, hS⟩
  refine jfs (RC.seq (sr (pn 3 rfl (ln ?_))))
  refine RC.iteP 16 rfl h (fun hc27 h => ?_) fun hc27 h => ?_
  next =>
   refine jtr (pn 1 rfl (lr (RQ.ret ?_)))
   cases h.some
   exact rt results206 rfl ⟨rfl, hS⟩
  refine jfs (RC.seq (sr (pn 3 rfl (ln ?_))))
  refine RC.iteP 19 rfl h (fun hc28 h => ?_) fun hc28 h => ?_
  next =>
   refine jtr (pn 1 rfl (lr (RQ.ret ?_)))
   obtain rfl := h.some
   exact rt results206 rfl ⟨rfl, hS⟩
  refine jfs (sr (pn 1 rfl (lr ?_)))
  obtain rfl := h.some
  exact rt results206 rfl ⟨rfl, hS⟩
def cmp_isNaN_int.f (a1 : Int) : Option (Bool) := some (!decide (a1 = a1))
theorem cmp_isNaN_int.ok {a1 : Int} {r : Bool} (h : cmp_isNaN_int.f a1 = some r) (hS : St B w (l) hf) :
    Calls prog 228 #[iV a1] w (Ret fun v w => v = .bool r ∧ St B w (l) hf) := by
  have h := Holds.of h
  refine en func228 rfl ntmps228 rfl (sr (pn 1 rfl (lnsr (pn 4 rfl (lr ?_)))))
  cases h.some
  exact rt results228 rfl ⟨rfl, hS⟩
def cmp_Compare_int.f (a1 a2 : Int) : Option (Int) := ((cmp_isNaN_int.f a1).bind fun t16 => ((cmp_isNaN_int.f a2).bind fun t18 => (if t16 = true then (if t18 = true then some 0 else some (-1)) else (if t18 = true then some 1 else (if a1 < a2 then some (-1) else (if a2 < a1 then some 1 else some 0))))))
theorem cmp_Compare_int.ok {a1 a2 r : Int} (h : cmp_Compare_int.f a1 a2 = some r) (hS : St B w (l) hf) :
    Calls prog 207 #[iV a1, iV a2] w (Ret fun v w => v = iV r ∧ St B w (l) hf) := by
  have h := Holds.of h
  refine en func207 rfl ntmps207 rfl (sr (pn 1 rfl (lnsr (pn 1 rfl (cF (fun _ hg => cmp_isNaN_int.ok hg hS) call228 h rfl rfl rfl ?_)))))
  rintro t16 h _ w ⟨rfl, hS⟩
  refine pn 1 rfl (lnsr (pn 1 rfl (cF (fun _ hg => cmp_isNaN_int.ok hg hS) call228 h rfl rfl rfl ?_)))
  rintro t18 h _ w ⟨rfl, hS⟩
  refine pn 1 rfl (ln (RC.seq (sr (pn 1 rfl (ln ?_)))))
  refine RC.iteB 11 rfl h (fun hc22 h => ?_) fun hc22 h => ?_
  next =>
   refine jt (RC.seq (sr (pn 1 rfl (ln ?_))))
   refine RC.iteB 12 rfl h (fun hc23 h => ?_) fun hc23 h => ?_
   next =>
    refine jtr (pn 1 rfl (lr (RQ.ret (RQ.ret ?_))))
    obtain rfl := h.some
    exact rt results207 rfl ⟨rfl, hS⟩
   refine jfs (sr (pn 1 rfl (lr (RQ.ret ?_))))
   cases h.some
   exact rt results207 rfl ⟨rfl, hS⟩
  refine jfs (RC.seq (sr (pn 1 rfl (ln ?_))))
  refine RC.iteB 13 rfl h (fun hc25 h => ?_) fun hc25 h => ?_
  next =>
   refine jtr (pn 1 rfl (lr (RQ.ret ?_)))
   obtain rfl := h.some
   exact rt results207 rfl ⟨rfl, hS⟩
  refine jfs (RC.seq (sr (pn 3 rfl (ln ?_))))
  refine RC.iteP 16 rfl h (fun hc27 h => ?_) fun hc27 h => ?_
  next =>
   refine jtr (pn 1 rfl (lr (RQ.ret ?_)))
   cases h.some
   exact rt results207 rfl ⟨rfl, hS⟩
  refine jfs (RC.seq (sr (pn 3 rfl (ln ?_))))
  refine RC.iteP 19 rfl h (fun hc28 h => ?_) fun hc28 h => ?_
  next =>
   refine jtr (pn 1 rfl (lr (RQ.ret ?_)))
   obtain rfl := h.some
   exact rt results207 rfl ⟨rfl, hS⟩
  refine jfs (sr (pn 1 rfl (lr ?_)))
  obtain rfl := h.some
  exact rt results207 rfl ⟨rfl, hS⟩
def cmp_Or_int.l2b (a1 : List Int) : Int → Option ((Int) ⊕ (Int))
  | (x30) => (if x30 < (a1.length : Int) then (if 0 ≤ x30 then (if nth a1 x30 = 0 then some (.inl (IntKind.i64.wrap (x30 + 1))) else some (.inr (nth a1 x30))) else none) else some (.inr 0))
def cmp_Or_int.l2 (a1 : List Int) (s : Int) : Option (Int) := loopR (cmp_Or_int.l2b a1) s
def cmp_Or_int.f (a1 : List Int) : Option (Int) := cmp_Or_int.l2 a1 (0)
theorem cmp_Or_int.ok {a1 : List Int} {A2 : Option Addr} {c3 : Nat} (hr4 : SlR ((FI .i64).rep) hf A2 c3 a1) {r : Int} (h : cmp_Or_int.f a1 = some r) (hS : St B w (l) hf) :
    Calls prog 205 #[sV A2 a1 c3] w (Ret fun v w => v = iV r ∧ St B w (l) hf) := by
  have h := Holds.of h
  refine en func205 rfl ntmps205 rfl (sr (pn 1 rfl (lnsr (pn 1 rfl (ln (RC.seq (sr (r0 3 rfl (RL.nil ?_)))))))))
  refine RQ.then_n (RC.block (fun a ha => lp h (fun (s : Int) a w => ∃ x30, s = (x30) ∧ Has 18 [(3, iV 0), (6, sV A2 a1 c3), (7, iV (a1.length : Int)), (8, iV x30)] a ∧ St B w (l) hf) ⟨_, rfl, ha.tE rfl, hS⟩ ?_))
  rintro G38 x30 a w ⟨_, rfl, ha, hS⟩ h
  refine ro ha (sr (pn 1 rfl (ln (RC.seq ?_))))
  refine RC.iteP 9 rfl h (fun hc40 h => ?_) fun hc40 h => ?_
  next =>
   refine jt (sk (RC.seq (RC.block (sr ?_))))
   obtain ⟨hq43, h⟩ := h.req
   refine RL.s (Vl.indexAddr underlying99 sizeOf3 rfl rfl ((hr4.2.world hS.sub).adr hq43 hc40) hq43 hc40 rfl) rfl (RL.s (Vl.load isAgg3 rfl ((hr4.2.world hS.sub).cell (j := 0) hq43 hc40 rfl)) rfl (pn 1 rfl (lnsr (pn 3 rfl (ln ?_)))))
   refine RC.iteN 14 rfl h (fun hc44 h => ?_) fun hc44 h => ?_
   next =>
    refine jf (RC.skip (RQ.inB_n (RQ.then_n (RC.region (pn 2 rfl (RL.nil ?_))))))
    exact fun a ha => ⟨_, h.some, _, rfl, ha.tE rfl, hS⟩
   refine jtr (pn 2 rfl (lr (ir ?_)))
   have h := h.inrS
   refine RQ.ret (ir ?_)
   cases h.some
   exact rt results205 rfl ⟨rfl, hS⟩
  refine jf (RC.exit (RQ.exitT ?_))
  have h := h.inrS
  refine RQ.exitT (RQ.inB_hit (tsr (pn 2 rfl (lr ?_))))
  obtain rfl := h.some
  exact rt results205 rfl ⟨rfl, hS⟩
def event_Compare.f (a1 a2 : api_Key) : Option (Int) := (if a1 = a2 then some 0 else ((cmp_Compare_int64.f a1.Time a2.Time).bind fun t24 => ((cmp_Compare_int.f a1.From a2.From).bind fun t26 => ((cmp_Compare_int.f a1.Seq a2.Seq).bind fun t28 => ((cmp_Or_int.f ([t24, t26, t28] : List Int)).bind fun t35 => some t35)))))
theorem event_Compare.ok {a1 a2 : api_Key} {r : Int} (h : event_Compare.f a1 a2 = some r) (hS : St B w (l) hf) :
    Calls prog 172 #[.agg (C_api_Key a1).toArray, .agg (C_api_Key a2).toArray] w (Ret fun v w => v = iV r ∧ St B w (l) hf) := by
  have h := Holds.of h
  refine en func172 rfl ntmps172 rfl (sr (rr [0, 0, 0] hS ?_))
  refine fun b20 b21 => it fun w hS => ln (RC.seq (sr (rr [2, 1] hS ?_)))
  refine it fun w hS => RL.s (Vl.eqlS (run_eql_api_Key _ _ a1 a2) rfl rfl) rfl (ln ?_)
  refine RC.iteP 7 rfl h (fun hc23 h => ?_) fun hc23 h => ?_
  next =>
   refine jtr (pn 1 rfl (lr (RQ.ret ?_)))
   obtain rfl := h.some
   exact rt results172 rfl ⟨rfl, hS.d0.d0⟩
  refine jfs (RC.seq (dr [0, 4, 6, 10, 15, 19, 21, 25, 30, 34, 36, 40, 14, 29, 44, 47, 50, 53] [14, 15, 16, 17] hS fun w hS => rq [0, 2, 0, 1, 0, 2, 0, 1, 0, 2, 0, 1] hS ?_))
  refine it ?_
  obtain ⟨t24, hg25, h⟩ := h.bind
  have hc := cmp_Compare_int64.ok hg25 hS
  refine RP.e 4 rfl (OW.callF (ls := [.tmp 9, .tmp 11]) rfl call206 hc) rfl rfl ?_
  rintro _ w ⟨rfl, hS⟩
  refine ⟨kp ⟨fun _ => hS, trivial⟩, ?_⟩
  obtain ⟨t26, hg27, h⟩ := h.bind
  have hc := cmp_Compare_int.ok hg27 hS
  refine RP.e 9 rfl (OW.callF (ls := [.tmp 14, .tmp 16]) rfl call207 hc) rfl rfl ?_
  rintro _ w ⟨rfl, hS⟩
  refine ⟨kp ⟨fun _ => hS, trivial⟩, ?_⟩
  obtain ⟨t28, hg29, h⟩ := h.bind
  have hc := cmp_Compare_int.ok hg29 hS
  refine RP.e 14 rfl (OW.callF (ls := [.tmp 19, .tmp 21]) rfl call207 hc) rfl rfl ?_
  rintro _ w ⟨rfl, hS⟩
  refine ⟨kp ⟨(by intro hx; cases hx), trivial⟩, ?_⟩
  refine RP.e 15 rfl (OW.buildSlice (E := (FI .i64)) (xs := ([t24, t26, t28] : List Int)) (cs := [iV t24, iV t26, iV t28]) hS underlying99 zeroValue3 sizeOf3 (parts := [(0, .tmp 12), (1, .tmp 17), (2, .tmp 22)]) rfl rfl (by decide) (by decide) (by kernel_rfl) rfl) rfl rfl ?_
  rintro _ w ⟨b30, rfl, hS⟩
  refine ⟨kp ⟨(by intro hx; cases hx), trivial⟩, ?_⟩
  obtain ⟨hf34, hs32, hS, hr31, hb33⟩ := St.lendSl hS
  obtain ⟨t35, hg36, h⟩ := h.bind
  have hc := cmp_Or_int.ok hr31 hg36 hS
  refine RP.e 16 rfl (OW.callF (ls := [.tmp 23]) rfl call205 hc) rfl rfl ?_
  rintro _ w ⟨rfl, hS⟩
  have hS := hb33 _ _ hS
  have hS : St B w (_ :: _ :: _ :: l) hf := hS
  refine ⟨kp ⟨(by intro hx; cases hx), trivial⟩, ?_⟩
  refine rq [0] hS.d0 ?_
  refine it (RP.nil (tr ?_))
  obtain rfl := h.some
  exact rt results172 rfl ⟨rfl, hS.d0.d0.d0⟩
def event_order.f (a1 a2 : api_Message) : Option (Int) := ((event_Compare.f a1.Key a2.Key).bind fun t18 => ((cmp_Compare_int.f a1.Uid a2.Uid).bind fun t20 => ((cmp_Or_int.f ([t18, t20] : List Int)).bind fun t27 => some t27)))
theorem event_order.ok {a1 a2 : api_Message} {r : Int} (h : event_order.f a1 a2 = some r) (hS : St B w (l) hf) :
    Calls prog 191 #[.agg (C_api_Message a1).toArray, .agg (C_api_Message a2).toArray] w (Ret fun v w => v = iV r ∧ St B w (l) hf) := by
  have h := Holds.of h
  refine en func191 rfl ntmps191 rfl (sr (rr [0, 0, 0] hS ?_))
  refine fun b16 b17 => it fun w hS => ln (RC.seq (dr [0, 4, 6, 10, 15, 19, 21, 25, 14, 29, 32, 35, 38] [9, 10, 11, 12] hS fun w hS => rq [0, 2, 0, 1, 0, 2, 0, 1] hS ?_))
  refine it ?_
  obtain ⟨t18, hg19, h⟩ := h.bind
  have hc := event_Compare.ok hg19 hS
  refine RP.e 4 rfl (OW.callF (ls := [.tmp 6, .tmp 8]) rfl call172 hc) rfl rfl ?_
  rintro _ w ⟨rfl, hS⟩
  refine ⟨kp ⟨fun _ => hS, trivial⟩, ?_⟩
  obtain ⟨t20, hg21, h⟩ := h.bind
  have hc := cmp_Compare_int.ok hg21 hS
  refine RP.e 9 rfl (OW.callF (ls := [.tmp 11, .tmp 13]) rfl call207 hc) rfl rfl ?_
  rintro _ w ⟨rfl, hS⟩
  refine ⟨kp ⟨(by intro hx; cases hx), trivial⟩, ?_⟩
  refine RP.e 10 rfl (OW.buildSlice (E := (FI .i64)) (xs := ([t18, t20] : List Int)) (cs := [iV t18, iV t20]) hS underlying99 zeroValue3 sizeOf3 (parts := [(0, .tmp 9), (1, .tmp 14)]) rfl rfl (by decide) (by decide) (by kernel_rfl) rfl) rfl rfl ?_
  rintro _ w ⟨b22, rfl, hS⟩
  refine ⟨kp ⟨(by intro hx; cases hx), trivial⟩, ?_⟩
  obtain ⟨hf26, hs24, hS, hr23, hb25⟩ := St.lendSl hS
  obtain ⟨t27, hg28, h⟩ := h.bind
  have hc := cmp_Or_int.ok hr23 hg28 hS
  refine RP.e 11 rfl (OW.callF (ls := [.tmp 15]) rfl call205 hc) rfl rfl ?_
  rintro _ w ⟨rfl, hS⟩
  have hS := hb25 _ _ hS
  have hS : St B w (_ :: _ :: _ :: l) hf := hS
  refine ⟨kp ⟨(by intro hx; cases hx), trivial⟩, ?_⟩
  refine rq [0] hS.d0 ?_
  refine it (RP.nil (tr ?_))
  obtain rfl := h.some
  exact rt results191 rfl ⟨rfl, hS.d0.d0.d0⟩
def event_Before.f (a1 a2 : api_Message) : Option (Bool) := ((event_order.f a1 a2).bind fun t9 => some (decide (t9 < 0)))
theorem event_Before.ok {a1 a2 : api_Message} {r : Bool} (h : event_Before.f a1 a2 = some r) (hS : St B w (l) hf) :
    Calls prog 149 #[.agg (C_api_Message a1).toArray, .agg (C_api_Message a2).toArray] w (Ret fun v w => v = .bool r ∧ St B w (l) hf) := by
  have h := Holds.of h
  refine en func149 rfl ntmps149 rfl (sr (rr [0, 0, 0] hS ?_))
  refine fun b7 b8 => it fun w hS => lnsr (rr [2, 1] hS ?_)
  refine it fun w hS => cF (fun _ hg => event_order.ok hg hS) call191 h rfl rfl rfl ?_
  rintro t9 h _ w ⟨rfl, hS⟩
  refine pn 2 rfl (lr ?_)
  cases h.some
  exact rt results149 rfl ⟨rfl, hS.d0.d0⟩
def heap_pile_api_Message_up.l2b : List api_Message × Int → Option ((List api_Message × Int) ⊕ (List api_Message))
  | (l99, x102) => (if 0 < x102 then (if 0 ≤ x102 ∧ x102 < (l99.length : Int) then (if 0 ≤ IntKind.i64.wrap (Int.tdiv (IntKind.i64.wrap (x102 - 1)) 2) ∧ IntKind.i64.wrap (Int.tdiv (IntKind.i64.wrap (x102 - 1)) 2) < (l99.length : Int) then ((event_Before.f (nth l99 x102) (nth l99 (IntKind.i64.wrap (Int.tdiv (IntKind.i64.wrap (x102 - 1)) 2)))).bind fun t140 => (if t140 = true then (if IntKind.i64.wrap (Int.tdiv (IntKind.i64.wrap (x102 - 1)) 2) < ((setL l99 x102 (nth l99 (IntKind.i64.wrap (Int.tdiv (IntKind.i64.wrap (x102 - 1)) 2)))).length : Int) then some (.inl ((setL (setL l99 x102 (nth l99 (IntKind.i64.wrap (Int.tdiv (IntKind.i64.wrap (x102 - 1)) 2)))) (IntKind.i64.wrap (Int.tdiv (IntKind.i64.wrap (x102 - 1)) 2)) (nth l99 x102)), IntKind.i64.wrap (Int.tdiv (IntKind.i64.wrap (x102 - 1)) 2))) else none) else some (.inr l99))) else none) else none) else some (.inr l99))
def heap_pile_api_Message_up.l2 (s : List api_Message × Int) : Option (List api_Message) := loopR (heap_pile_api_Message_up.l2b) s
def heap_pile_api_Message_up.f (a4 : List api_Message) (a5 : Int) : Option (List api_Message) := heap_pile_api_Message_up.l2 (a4, a5)
theorem heap_pile_api_Message_up.ok {a4 r : List api_Message} {a5 : Int} {b1 c3 : Nat} {A2 : Option Addr} (h : heap_pile_api_Message_up.f a4 a5 = some r) (hS : St B w (Cl b1 [sV A2 a4 c3, .func (.func 149) #[] #[]] 371 :: OSf E_api_Message 84 (sV A2 a4 c3) a4 :: l) hf) :
    Calls prog 319 #[pV b1, iV a5] w (Ret fun v w => ∃ (A_1 : Option Addr) (c_2 : Nat), v = .tuple #[] ∧ St B w (OSf E_api_Message 84 (sV A_1 r c_2) r :: Cl b1 [sV A_1 r c_2, .func (.func 149) #[] #[]] 371 :: l) hf) := by
  have h := Holds.of h
  refine en func319 rfl ntmps319 rfl (RC.block (fun a ha => lp h (fun (s : List api_Message × Int) a w => ∃ l99 x102, s = (l99, x102) ∧ ∃ A100 c101, Has 57 [(0, pV b1), (1, iV x102)] a ∧ St B w (OSf E_api_Message 84 (sV A100 l99 c101) l99 :: Cl b1 [sV A100 l99 c101, .func (.func 149) #[] #[]] 371 :: l) hf) ⟨_, _, rfl, _, _, ha.tE rfl, hS.p1⟩ ?_))
  rintro G126 _ a w ⟨l99, x102, rfl, A100, c101, ha, hS⟩ h
  refine ro ha (RC.seq (sr (pn 2 rfl (ln ?_))))
  refine RC.iteP 6 rfl h (fun hc128 h => ?_) fun hc128 h => ?_
  next =>
   refine jt (sk (RC.block (sr (pn 2 rfl (RL.s (Vl.quo rfl rfl (by decide)) rfl (pn 1 rfl (ln (RC.seq (RC.seq (dr [0, 3, 6, 10, 12, 15, 18, 22, 24, 28, 31, 33, 36, 39, 43, 47, 50, 53, 56, 59] [18, 19] hS fun w hS => rq [0, 0, 0, 2, 0, 0, 0, 2, 0] hS ?_))))))))))
   refine it ?_
   obtain ⟨⟨hq136, hq137⟩, h⟩ := h.req
   refine RP.s 0 9 rfl rfl hS (fun w hS => Vl.indexOwn 0 hS rfl underlying52 sizeOf84 rfl rfl hq136 hq137) rfl (RP.s 0 10 rfl rfl hS (fun w hS => Vl.loadA isAgg84 sizeOf84 rfl rfl ((hS.slW 0 rfl).2.2.cells hq136 hq137)) rfl (rq [0, 0, 0, 2, 0] hS ?_))
   refine it ?_
   obtain ⟨⟨hq138, hq139⟩, h⟩ := h.req
   refine RP.v1 16 rfl (Vl.indexOwn 0 hS rfl underlying52 sizeOf84 rfl rfl hq138 hq139) rfl rfl (RP.v1 17 rfl (Vl.loadA isAgg84 sizeOf84 rfl rfl ((hS.slW 0 rfl).2.2.cells hq138 hq139)) rfl rfl ?_)
   obtain ⟨t140, hg141, h⟩ := h.bind
   have hc := event_Before.ok hg141 hS
   refine RP.e 18 rfl (OW.call (ls := [.tmp 20, .tmp 27]) rfl rfl call149 rfl hc) rfl rfl ?_
   rintro _ w ⟨rfl, hS⟩
   refine ⟨kp ⟨(by intro hx; cases hx), trivial⟩, ?_⟩
   refine rq [0] hS ?_
   refine it (RP.nil (RQ.then_n ?_))
   refine RC.iteM 29 rfl h (fun hc142 h => ?_) fun hc142 h => ?_
   next =>
    refine jfs (RC.seq (dr [0, 3, 6, 10, 12, 15, 18, 21, 25, 27, 30, 33, 36, 40, 42, 46, 49, 51, 54, 57, 61, 65, 68, 71, 74, 77, 80, 83] [24, 25, 26, 27] hS fun w hS => rq [0, 0, 0, 2, 0, 0, 0, 0, 2, 0, 0, 0, 0, 2, 0] hS ?_))
    refine it (RP.s 0 15 rfl rfl hS (fun w hS => Vl.indexOwn 0 hS rfl underlying52 sizeOf84 rfl rfl hq138 hq139) rfl (RP.s 0 16 rfl rfl hS (fun w hS => Vl.loadA isAgg84 sizeOf84 rfl rfl ((hS.slW 0 rfl).2.2.cells hq138 hq139)) rfl (rq [0, 0, 0, 2, 0] hS ?_)))
    refine it (RP.v1 22 rfl (Vl.indexOwn 0 hS rfl underlying52 sizeOf84 rfl rfl hq136 hq137) rfl rfl (RP.v1 23 rfl (Vl.loadA isAgg84 sizeOf84 rfl rfl ((hS.slW 0 rfl).2.2.cells hq136 hq137)) rfl rfl (RP.v1 24 rfl (Vl.indexOwn 0 hS rfl underlying52 sizeOf84 rfl rfl hq136 hq137) rfl rfl (RP.e0 25 rfl (OW.storeOwn (E := E_api_Message) (off := 0) (j := x102) (x' := nth l99 (IntKind.i64.wrap (Int.tdiv (IntKind.i64.wrap (x102 - 1)) 2))) (vs := (C_api_Message (nth l99 (IntKind.i64.wrap (Int.tdiv (IntKind.i64.wrap (x102 - 1)) 2))))) 0 hS rfl rfl rfl rfl sizeOf84 rfl (Nat.succ_pos _) hq136 hq137 (Nat.le_of_ble_eq_true rfl) rfl rfl) rfl ?_))))
    rintro _ w ⟨rfl, hS⟩
    have he143 := (hS.osN 0 rfl).1
    have hS : St B w (_ :: _ :: l) hf := (congrArg (fun k_ : Nat => St B w (OSf E_api_Message 84 (.slice A100 k_ c101) (setL l99 x102 (nth l99 (IntKind.i64.wrap (Int.tdiv (IntKind.i64.wrap (x102 - 1)) 2)))) :: Cl b1 [.slice A100 k_ c101, .func (.func 149) #[] #[]] 371 :: l) hf) he143).mp hS
    refine ⟨kp ⟨(by intro hx; cases hx), trivial⟩, ?_⟩
    refine RP.re 17 rfl (congrArg (fun k_ : Nat => (.slice A100 k_ c101 : Value)) he143) (RP.re 24 rfl (congrArg (fun k_ : Nat => (.slice A100 k_ c101 : Value)) he143) (RP.re 33 rfl (congrArg (fun k_ : Nat => (.slice A100 k_ c101 : Value)) he143) (RP.re 38 rfl (congrArg (fun k_ : Nat => (.slice A100 k_ c101 : Value)) he143) (RP.re 43 rfl (congrArg (fun k_ : Nat => (.slice A100 k_ c101 : Value)) he143) (RP.re 50 rfl (congrArg (fun k_ : Nat => (.slice A100 k_ c101 : Value)) he143) ?_)))))
    obtain ⟨hq144, h⟩ := h.req
    refine RP.v1 26 rfl (Vl.indexOwn 0 hS rfl underlying52 sizeOf84 rfl rfl hq138 hq144) rfl rfl (RP.e0 27 rfl (OW.storeOwn (E := E_api_Message) (off := 0) (j := IntKind.i64.wrap (Int.tdiv (IntKind.i64.wrap (x102 - 1)) 2)) (x' := nth l99 x102) (vs := (C_api_Message (nth l99 x102))) 0 hS rfl rfl rfl rfl sizeOf84 rfl (Nat.succ_pos _) hq138 hq144 (Nat.le_of_ble_eq_true rfl) rfl rfl) rfl ?_)
    rintro _ w ⟨rfl, hS⟩
    have he145 := (hS.osN 0 rfl).1
    have hS : St B w (_ :: _ :: l) hf := (congrArg (fun k_ : Nat => St B w (OSf E_api_Message 84 (.slice A100 k_ c101) (setL (setL l99 x102 (nth l99 (IntKind.i64.wrap (Int.tdiv (IntKind.i64.wrap (x102 - 1)) 2)))) (IntKind.i64.wrap (Int.tdiv (IntKind.i64.wrap (x102 - 1)) 2)) (nth l99 x102)) :: Cl b1 [.slice A100 k_ c101, .func (.func 149) #[] #[]] 371 :: l) hf) he145).mp hS
    refine ⟨kp ⟨(by intro hx; cases hx), trivial⟩, ?_⟩
    refine RP.re 17 rfl (congrArg (fun k_ : Nat => (.slice A100 k_ c101 : Value)) he145) (RP.re 24 rfl (congrArg (fun k_ : Nat => (.slice A100 k_ c101 : Value)) he145) (RP.re 33 rfl (congrArg (fun k_ : Nat => (.slice A100 k_ c101 : Value)) he145) (RP.re 38 rfl (congrArg (fun k_ : Nat => (.slice A100 k_ c101 : Value)) he145) (RP.re 43 rfl (congrArg (fun k_ : Nat => (.slice A100 k_ c101 : Value)) he145) (RP.re 50 rfl (congrArg (fun k_ : Nat => (.slice A100 k_ c101 : Value)) he145) (RP.nil (RQ.then_n (RC.region (pn 2 rfl (RL.nil (RQ.inB_n ?_)))))))))))
    exact fun a ha => ⟨_, h.some, _, _, rfl, _, _, ha.tE rfl, hS⟩
   refine jt (RC.ret (RQ.ret (RQ.inB_ret ?_)))
   have h := h.inrS
   refine RQ.ret (RQ.inB_ret ?_)
   obtain rfl := h.some
   exact rt results319 rfl ⟨A100, c101, rfl, hS⟩
  refine jf (RC.exit (RQ.exitT ?_))
  have h := h.inrS
  refine RQ.exitT (RQ.inB_hit ?_)
  obtain rfl := h.some
  exact rtE results319 rfl ⟨A100, c101, rfl, hS⟩
def heap_pile_api_Message_push.f (a4 : List api_Message) (a5 : api_Message) : Option (List api_Message) := (if (a4.length + 1) * 56 ≤ 140737488355328 then ((heap_pile_api_Message_up.f (a4 ++ ([a5])) (IntKind.i64.wrap (((a4 ++ ([a5])).length : Int) - 1))).bind fun t34 => some t34) else none)
theorem heap_pile_api_Message_push.ok {a4 r : List api_Message} {a5 : api_Message} {b1 c3 : Nat} {A2 : Option Addr} (h : heap_pile_api_Message_push.f a4 a5 = some r) (hS : St B w (Cl b1 [sV A2 a4 c3, .func (.func 149) #[] #[]] 371 :: OSf E_api_Message 84 (sV A2 a4 c3) a4 :: l) hf) :
    Calls prog 315 #[pV b1, .agg (C_api_Message a5).toArray] w (Ret fun v w => ∃ (A_1 : Option Addr) (c_2 : Nat), v = .tuple #[] ∧ St B w (OSf E_api_Message 84 (sV A_1 r c_2) r :: Cl b1 [sV A_1 r c_2, .func (.func 149) #[] #[]] 371 :: l) hf) := by
  have h := Holds.of h
  refine en func315 rfl ntmps315 rfl (sr (rr [0] hS ?_))
  refine fun b23 => it fun w hS => ln (RC.seq (dr [0, 3, 6, 9, 13, 17, 20, 23, 26, 29, 32] [7, 8, 9, 10] hS fun w hS => rq [0, 0, 0, 0, 2, 1] hS ?_))
  refine it (RP.e 6 rfl (OW.buildSlice (E := E_api_Message) (xs := [a5]) (cs := (C_api_Message a5)) hS underlying52 zeroValue84 sizeOf84 (parts := [(0, .tmp 9)]) rfl rfl (by decide) (by decide) (by kernel_rfl) rfl) rfl rfl ?_)
  rintro _ w ⟨b29, rfl, hS⟩
  refine ⟨kp ⟨fun _ => hS.d0, trivial⟩, ?_⟩
  obtain ⟨hq30, h⟩ := h.req
  refine RP.e 7 rfl (OW.append (E := E_api_Message) (xs := a4) (ys := [a5]) 3 hS rfl underlying52 type84 rfl rfl rfl rfl (by decide) rfl rfl rfl (hS.slW 0 rfl).2.2.flat (by simp only [maxLen, List.length_cons, List.length_nil] at *; omega) hq30 rfl) rfl rfl ?_
  rintro v33 w hS
  obtain ⟨A31, c32, rfl, _⟩ := hS.osShape 0 rfl
  have hS : St B w (_ :: _ :: _ :: _ :: l) hf := hS
  refine ⟨kp ⟨(by intro hx; cases hx), trivial⟩, ?_⟩
  refine RP.v1 8 rfl (Vl.nilCheck rfl) rfl rfl (RP.v1 9 rfl (Vl.fa 0 underlying369 rfl sizeOf52 rfl rfl) rfl rfl (RP.e0 10 rfl (OW.store (vs := [.slice A31 (a4 ++ ([a5])).length c32]) 3 hS rfl rfl rfl rfl sizeOf52 rfl rfl rfl rfl) rfl ?_))
  rintro _ w ⟨rfl, hS⟩
  have hS : St B w (_ :: _ :: _ :: Cl _ [_, _] _ :: l) hf := hS
  refine ⟨kp ⟨(by intro hx; cases hx), trivial⟩, ?_⟩
  refine RP.nil (RQ.then_n (RC.region (rr [0, 0, 0, 0, 4, 0, 0] hS ?_)))
  refine it fun w hS => cF (fun _ hg => heap_pile_api_Message_up.ok hg hS.p3) call319 h rfl rfl rfl ?_
  rintro t34 h _ w ⟨A36, c37, rfl, hS⟩
  refine RL.nil ?_
  obtain rfl := h.some
  exact rtE results315 rfl ⟨A36, c37, rfl, hS.d2.d2⟩
def heap_Heap_Push.f (a2 : heap_Heap) (a3 : api_Message) : Option (Int × heap_Heap) := ((heap_Heap_none.f a2).bind fun _ => ((heap_Heap_find.f a2 a3.Key.From a3.Uid).bind fun t54 => (if 0 ≤ t54 then some (8, a2) else (if 16384 ≤ (a2.p_l.length : Int) then some (9, a2) else ((heap_pile_api_Message_push.f a2.p_l a3).bind fun t60 => some (0, (⟨t60⟩ : heap_Heap)))))))
theorem heap_Heap_Push.ok {a2 : heap_Heap} {a3 : api_Message} {b1 : Nat} {r : Int × heap_Heap} (h : heap_Heap_Push.f a2 a3 = some r) (hS : St B w (O_heap_Heap hf a2 b1 :: l) hf) :
    Calls prog 310 #[pV b1, .agg (C_api_Message a3).toArray] w (Ret fun v w => v = iV r.1 ∧ St B w (O_heap_Heap hf r.2 b1 :: l) hf) := by
  have h := Holds.of h
  refine en func310 rfl ntmps310 rfl (sr (rr [0, 0] hS ?_))
  refine fun b35 => it fun w hS => ln (RC.seq (RC.block (sr (pn 1 rfl (cF (fun _ hg => heap_Heap_none.ok hg hS.p1) call311 h rfl rfl rfl ?_)))))
  rintro _ h _ w ⟨rfl, hS⟩
  refine pn 1 rfl (ln (jf (sr (rr [0, 0, 0, 2, 0, 2] hS ?_))))
  refine it fun w hS => cF (fun _ hg => heap_Heap_find.ok hg hS) call313 h rfl rfl rfl ?_
  rintro t54 h _ w ⟨rfl, hS⟩
  refine pn 2 rfl (ln ?_)
  refine RC.iteP 8 rfl h (fun hc56 h => ?_) fun hc56 h => ?_
  next =>
   refine jtr (pn 1 rfl (lr (ir ?_)))
   cases h.some
   exact rt results310 rfl ⟨rfl, hS.d1⟩
  refine jf (sr (r0 4 rfl ?_))
  obtain ⟨A57, c58, hS⟩ := O_heap_Heap.o hS
  refine rr [1, 0, 0, 0] hS ?_
  refine it fun w hS => ln ?_
  refine RC.iteP 17 rfl h (fun hc59 h => ?_) fun hc59 h => ?_
  next =>
   refine jtr (pn 1 rfl (lr (ir ?_)))
   have hS := O_heap_Heap.c (x := a2) hS
   cases h.some
   exact rt results310 rfl ⟨rfl, hS.d1⟩
  refine jf (RC.skip (RQ.inB_n (RQ.then_n (RC.seq (dr [0, 3, 6, 11, 14] [3, 4] hS fun w hS => rq [0, 0, 0, 3] hS ?_)))))
  refine it ?_
  obtain ⟨t60, hg61, h⟩ := h.bind
  have hc := heap_pile_api_Message_push.ok hg61 hS
  refine RP.e 4 rfl (OW.callF (ls := [.tmp 27, .tmp 28]) rfl call315 hc) rfl rfl ?_
  rintro _ w ⟨A62, c63, rfl, hS⟩
  refine ⟨kp ⟨(by intro hx; cases hx), trivial⟩, ?_⟩
  refine RP.nil (tsr (pn 1 rfl (lr ?_)))
  have hS := O_heap_Heap.c (x := (⟨t60⟩ : heap_Heap)) hS.p1
  cases h.some
  exact rt results310 rfl ⟨rfl, hS.d1⟩
def pend_Pend_Push.f (a2 : pend_Pend) (a3 : api_Message) : Option (Int × pend_Pend) := ((pend_Pend_none.f a2).bind fun _ => ((heap_Heap_Push.f a2.q a3).bind fun (y24, y25) => some (y24, (⟨y25⟩ : pend_Pend))))
theorem pend_Pend_Push.ok {a2 : pend_Pend} {a3 : api_Message} {b1 : Nat} {r : Int × pend_Pend} (h : pend_Pend_Push.f a2 a3 = some r) (hS : St B w (O_pend_Pend hf a2 b1 :: l) hf) :
    Calls prog 137 #[pV b1, .agg (C_api_Message a3).toArray] w (Ret fun v w => v = iV r.1 ∧ St B w (O_pend_Pend hf r.2 b1 :: l) hf) := by
  have h := Holds.of h
  refine en func137 rfl ntmps137 rfl (sr (rr [0, 0] hS ?_))
  refine fun b16 => it fun w hS => ln (RC.seq (sr (pn 1 rfl (cF (fun _ hg => pend_Pend_none.ok hg hS.p1) call123 h rfl rfl rfl ?_))))
  rintro _ h _ w ⟨rfl, hS⟩
  refine ln (jfs (RC.seq ?_))
  obtain ⟨b21, hS⟩ := O_pend_Pend.o hS
  refine dr [0, 3, 6, 10, 14, 17, 20] [5, 6] hS fun w hS => rq [0, 0, 0, 1, 3] hS ?_
  refine it ?_
  obtain ⟨t22, hg23, h⟩ := h.bind
  have hc := heap_Heap_Push.ok hg23 hS.p1
  obtain ⟨y24, y25⟩ := t22
  refine RP.e 5 rfl (OW.invoke (F := 310) (u' := pV b21) (ls := [.tmp 11]) rfl rfl (fun w => by kernel_rfl) call310 rfl hc) rfl rfl ?_
  rintro _ w ⟨rfl, hS⟩
  refine ⟨kp ⟨(by intro hx; cases hx), trivial⟩, ?_⟩
  refine RP.v1 6 rfl (Vl.assign rfl) rfl rfl (RP.nil (tr ?_))
  have hS := O_pend_Pend.c (x := (⟨y25⟩ : pend_Pend)) hS.p1
  cases h.some
  exact rt results137 rfl ⟨rfl, hS.d1⟩
def lane_of.f (a1 : api_Message) : Option (lane_sending) := some (⟨a1.Key.From, a1.Uid⟩ : lane_sending)
theorem lane_of.ok {a1 : api_Message} {r : lane_sending} (h : lane_of.f a1 = some r) (hS : St B w (l) hf) :
    Calls prog 138 #[.agg (C_api_Message a1).toArray] w (Ret fun v w => v = .agg #[iV r.from_, iV r.uid] ∧ St B w (l) hf) := by
  have h := Holds.of h
  refine en func138 rfl ntmps138 rfl (sr (rr [0, 0] hS ?_))
  refine fun b4 b5 => it fun w hS => lnsr (rr [0, 0, 2, 0, 2, 0, 1] hS ?_)
  refine it fun w hS => lr ?_
  cases h.some
  refine rz [0] results138 hS ?_
  exact it ⟨rfl, hS.d0.d0⟩
def lane_Lane_hold.f (a2 : lane_Lane) (a3 : api_Message) : Option (lane_Lane) := ((pend_Pend_Push.f a2.wait a3).bind fun (y57, y58) => (if y57 = 0 then ((lane_of.f a3).bind fun t60 => some ({ a2 with wait := y58, held := (mset a2.held t60 true) } : lane_Lane)) else some ({ a2 with wait := y58 } : lane_Lane)))
theorem lane_Lane_hold.ok {a2 r : lane_Lane} {a3 : api_Message} {b1 : Nat} (h : lane_Lane_hold.f a2 a3 = some r) (hS : St B w (O_lane_Lane hf a2 b1 :: l) hf) :
    Calls prog 90 #[pV b1, .agg (C_api_Message a3).toArray] w (Ret fun v w => v = .tuple #[] ∧ St B w (O_lane_Lane hf r b1 :: l) hf) := by
  have h := Holds.of h
  refine en func90 rfl ntmps90 rfl (sr (rr [0] hS ?_))
  refine fun b34 => it fun w hS => ln (RC.seq ?_)
  obtain ⟨A35, c36, A38, c39, A41, c42, A44, c45, b47, b48, A49, c50, A51, c52, b53, b54, hr37, hr40, hr43, hr46, hS⟩ := O_lane_Lane.o hS.p1
  refine dr [0, 3, 6, 10, 14, 17, 20] [5, 6] hS fun w hS => rq [0, 0, 0, 1, 8] hS ?_
  refine it ?_
  obtain ⟨t55, hg56, h⟩ := h.bind
  have hc := pend_Pend_Push.ok hg56 hS.p2
  obtain ⟨y57, y58⟩ := t55
  refine RP.e 5 rfl (OW.callF (ls := [.tmp 7, .tmp 8]) rfl call137 hc) rfl rfl ?_
  rintro _ w ⟨rfl, hS⟩
  refine ⟨kp ⟨(by intro hx; cases hx), trivial⟩, ?_⟩
  refine RP.v1 6 rfl (Vl.int rfl rfl rfl) rfl rfl (RP.nil (RQ.then_n ?_))
  refine RC.iteP 10 rfl h (fun hc59 h => ?_) fun hc59 h => ?_
  next =>
   refine jt (dr [0, 3, 6, 10, 14, 17, 20] [6] hS fun w hS => rq [0, 0, 0, 2, 8] hS ?_)
   refine it ?_
   obtain ⟨t60, hg61, h⟩ := h.bind
   have hc := lane_of.ok hg61 hS
   refine RP.e 5 rfl (OW.callF (ls := [.tmp 15]) rfl call138 hc) rfl rfl ?_
   rintro _ w ⟨rfl, hS⟩
   refine ⟨kp ⟨fun _ => hS, trivial⟩, ?_⟩
   refine RP.e0 6 rfl (OW.mapUpdF (k := t60) (v := true) 6 hS rfl keyok_lane_sending underlying148 rfl rfl rfl rfl) rfl ?_
   rintro _ w ⟨rfl, hS⟩
   have hS : St B w (_ :: _ :: _ :: _ :: _ :: _ :: _ :: _ :: l) hf := hS
   refine ⟨kp ⟨(by intro hx; cases hx), trivial⟩, ?_⟩
   refine RP.nil ?_
   have hS := O_lane_Lane.c (x := ({ a2 with wait := y58, held := (mset a2.held t60 true) } : lane_Lane)) hr37 hr40 hr43 hr46 hS.p6.p6.p6.p4.p6.p6
   cases h.some
   exact rtE results90 rfl ⟨rfl, hS.d1⟩
  refine jf (RC.skip ?_)
  have hS := O_lane_Lane.c (x := ({ a2 with wait := y58 } : lane_Lane)) hr37 hr40 hr43 hr46 hS.p2.p2
  cases h.some
  exact rtE results90 rfl ⟨rfl, hS.d1⟩
def lane_New.j20 (x1039 : Int) (y1063 : lane_Lane) : Option ((lane_Lane × Int) ⊕ ((Int) ⊕ (lane_Lane × Int))) := some (.inl (y1063, IntKind.i64.wrap (x1039 + 1)))
def lane_New.l19b (a11 : Int) (t1019 : List api_Message) : lane_Lane × Int → Option ((lane_Lane × Int) ⊕ ((Int) ⊕ (lane_Lane × Int)))
  | (y1038, x1039) => (if x1039 < (t1019.length : Int) then (if 0 ≤ x1039 then (if (nth t1019 x1039).To = a11 then ((lane_Lane_hold.f y1038 (nth t1019 x1039)).bind fun t1067 => lane_New.j20 x1039 t1067) else lane_New.j20 x1039 y1038) else none) else some (.inr (.inr ((y1038, 0)))))
def lane_New.l19 (a11 : Int) (t1019 : List api_Message) (s : lane_Lane × Int) : Option ((Int) ⊕ (lane_Lane × Int)) := loopR (lane_New.l19b a11 t1019) s
def lane_New.j12 (a1 : api_Model) (a11 : Int) (a12 : api_Caps) (y586 : api_World) (l864 : List Int) : Option ((Int) ⊕ (lane_Lane × Int)) := (if (([] : List api_Link).length + a1.Links.length) * 32 ≤ 140737488355328 then ((log_New.f y586 (⟨(⟨0, 0, 0, 0, 0, 0, 0, 0⟩ : Arr8xInti64), 0, 0⟩ : api_State) 4).bind fun t935 => match t935 with | .inl _ => none | .inr ((y937, y938)) => ((pend_New.f).bind fun (y951, y952) => ((model_Starts.f a1).bind fun t1019 => lane_New.l19 a11 t1019 ((⟨({ a1 with Links := (([] : List api_Link) ++ a1.Links) } : api_Model), a11, a12, l864, y937, y951, ([] : List lane_open), ([] : List api_Message), ([] : List (lane_sending × Int)), ([] : List (lane_sending × Bool)), 0, (⟨2, 4, 0, 1000, 0⟩ : api_Setting), (⟨0, 0, 0, 0⟩ : api_Stats)⟩ : lane_Lane), 0)))) else none)
def lane_New.f (a1 : api_Model) (a11 : Int) (a12 : api_Caps) : Option ((Int) ⊕ (lane_Lane × Int)) := ((model_World.f a1 a11).bind fun (y586, y587) => (if y587 = 0 then (if a12.Link < 1 then some (.inl 1) else (if 1024 < a12.Link then some (.inl 1) else (if (if a12.Log < a12.Wait then a12.Log else a12.Wait) < 1 then some (.inl 1) else (if 4096 < (if a12.Wait < a12.Log then a12.Log else a12.Wait) then some (.inl 1) else ((model_Ways.f a1 a11).bind fun t1069 => ((tune_First.f).bind fun _ => lane_New.j12 a1 a11 a12 y586 t1069)))))) else some (.inl y587)))
theorem lane_New.ok {a1 : api_Model} {a11 : Int} {a12 : api_Caps} {A2 A5 A8 : Option Addr} {c3 c6 c9 : Nat} (hr4 : SlR (Rep.sl E_api_Instr.rep) hf A2 c3 a1.Progs) (hr7 : SlR E_api_Link.rep hf A5 c6 a1.Links) (hr10 : SlR E_api_Start.rep hf A8 c9 a1.Starts) (hG0 : GlobAt hf 0 (.iface 255 (.agg #[.pointer (some ⟨1, 138, none⟩)]))) {r : (Int) ⊕ (lane_Lane × Int)} (h : lane_New.f a1 a11 a12 = some r) (hS : St B w (l) hf) :
    Calls prog 51 #[.agg (C_api_Model a1 A2 c3 A5 c6 A8 c9).toArray, iV a11, .agg (C_api_Caps a12).toArray] w (Ret fun v w => match (generalizing := false) r with | .inl r_ => v = .tuple #[.pointer none, iV r_] ∧ St B w (l) hf | .inr (r_) => ∃ hf_ : Hp, Sub hf hf_ ∧ ∃ (b_1 : Nat), v = .tuple #[pV b_1, iV r_.2] ∧ St B w (O_lane_Lane hf_ r_.1 b_1 :: l) hf_) := by
  have h := Holds.of h
  refine en func51 rfl ntmps51 rfl (sr (rr [0, 0, 0, 0] hS ?_))
  refine fun b573 b574 => it fun w hS => lnsr (rr [2, 0] hS ?_)
  refine it fun w hS => cF (fun _ hg => model_World.ok hr4 hr7 hr10 hG0 hg hS) call85 h rfl rfl rfl ?_
  rintro ⟨y586, y587⟩ h _ w ⟨A588, c589, A590, c591, rfl, hS⟩
  refine rr [0, 0, 0, 0, 1, 0] hS ?_
  refine fun b592 => it fun w hS => ln (RC.seq (sr (pn 2 rfl (ln ?_))))
  refine RC.iteN 20 rfl h (fun hc594 h => ?_) fun hc594 h => ?_
  next =>
   refine jfs (RC.seq (sr (rr [0, 4, 0, 0] hS ?_)))
   refine it fun w hS => RL.iteP 25 rfl h (fun hc599 h => ?_) fun hc599 h => ?_
   next =>
    refine pn 20 rfl (ln (jtr (pn 2 rfl (lr (RQ.ret ?_)))))
    cases h.some
    exact rt results51 rfl ⟨rfl, hS.d0.d0.d0.d0.d0⟩
   refine rr [0, 4, 0, 0, 0] hS ?_
   refine it fun w hS => RL.iteP 30 rfl h (fun hc600 h => ?_) fun hc600 h => ?_
   next =>
    refine pn 15 rfl (ln (jtr (pn 2 rfl (lr (RQ.ret ?_)))))
    cases h.some
    exact rt results51 rfl ⟨rfl, hS.d0.d0.d0.d0.d0⟩
   refine rr [0, 4, 0, 4] hS ?_
   refine it fun w hS => RL.sg (Vl.min2 rfl rfl) rfl rfl (pn 3 rfl ?_)
   refine RL.iteP 38 rfl h (fun hc601 h => ?_) fun hc601 h => ?_
   next =>
    refine pn 7 rfl (ln (jtr (pn 2 rfl (lr (RQ.ret ?_)))))
    cases h.some
    exact rt results51 rfl ⟨rfl, hS.d0.d0.d0.d0.d0⟩
   refine rr [0, 4, 0, 4] hS ?_
   refine it fun w hS => RL.sg (Vl.max2 rfl rfl) rfl rfl (pn 2 rfl (ln ?_))
   refine RC.iteP 45 rfl h (fun hc602 h => ?_) fun hc602 h => ?_
   next =>
    refine jtr (pn 2 rfl (lr (RQ.ret ?_)))
    cases h.some
    exact rt results51 rfl ⟨rfl, hS.d0.d0.d0.d0.d0⟩
   refine jfs (RC.seq (RC.planS (.early 0 0 (.pure 1 (.early 2 0 (.early 3 0 (.pure 4 (.fork3 5 6 7 (.fork3 6 7 8 (.fork 7 8 (.last 8 (.last 9 (.last 10 (.last 11 .nil)))) (.last 7 (.last 9 (.last 10 (.last 11 .nil))))) (.fork 6 8 (.last 8 (.last 9 (.last 10 (.last 11 .nil)))) (.last 6 (.last 9 (.last 10 (.last 11 .nil))))) (.fork 6 7 (.last 7 (.last 9 (.last 10 (.last 11 .nil)))) (.last 6 (.last 9 (.last 10 (.last 11 .nil)))))) (.fork 5 7 (.fork 7 8 (.last 8 (.last 9 (.last 10 (.last 11 .nil)))) (.last 7 (.last 9 (.last 10 (.last 11 .nil))))) (.last 5 (.last 8 (.last 9 (.last 10 (.last 11 .nil)))))) (.fork 5 6 (.fork 6 8 (.last 8 (.last 9 (.last 10 (.last 11 .nil)))) (.last 6 (.last 9 (.last 10 (.last 11 .nil))))) (.last 5 (.last 8 (.last 9 (.last 10 (.last 11 .nil)))))))))))) [9, 10, 11] hS (fun w hS => hS) follows rfl (by kernel_rfl) (NoTmp.then NoTmp.body) fun w hS => rq [5, 0, 4, 5, 0] hS ?_))
   refine it ?_
   refine RP.fj (fun (s : List Int) env w => ∃ l864, s = (l864) ∧ Holds (· = r) (lane_New.j12 a1 a11 a12 y586 l864) ∧ ∃ A865 c866 b867 b868, Ev env [(1, iV a11), (3, pV b573), (8, pV b592), (46, .agg (C_api_Model a1 A2 c3 A5 c6 A8 c9).toArray), (47, iV a11), (48, .agg (C_api_Caps a12).toArray), (51, sV A865 l864 c866), (52, .map (some b867)), (53, .map (some b868)), (54, .agg #[iV 2, iV 4, iV 0, iV 1000, iV 0])] ∧ St B w (OSf E_api_Instr 234 (sV A588 y586.Prog c589) y586.Prog :: OSf E_api_Link 125 (sV A590 y586.Links c591) y586.Links :: OSf (FI .i64) 3 (sV A865 l864 c866) l864 :: Cl b592 (C_api_World y586 A588 c589 A590 c591) 168 :: Cl b573 (C_api_Model a1 A2 c3 A5 c6 A8 c9) 30 :: MapF kv_lane_sending (Value.int .i64) b867 ([] : List (lane_sending × Int)) :: MapF kv_lane_sending Value.bool b868 ([] : List (lane_sending × Bool)) :: Cl b574 (C_api_Caps a12) 62 :: l) hf) (.last 9 (.last 10 (.last 11 .nil))) ?_ fun hk => ?_
   · rintro l864 env w ⟨_, rfl, h, A865, c866, b867, b868, ha, hS⟩
     refine RP.to ha (rq [0] hS.d2.d4.d4.p4.p2.p2.p3 ?_)
     refine it ?_
     obtain ⟨hf, hs869, hS, hr870⟩ := St.promote hS.p2
     refine RP.e 10 rfl (OW.box (cs := [sV A2 a1.Progs c3, sV A5 a1.Links c6, sV A8 a1.Starts c9, .int .u64 a1.Seed, iV a1.End, iV a1.Budget, iV a11, iV a12.Link, iV a12.Wait, iV a12.Log, sV A865 l864 c866, .pointer none, .pointer none, .slice none 0 0, .slice none 0 0, .map (some b867), .map (some b868), iV 0, iV 2, iV 4, iV 0, iV 1000, iV 0, iV 0, iV 0, iV 0, iV 0]) hS rfl rfl) rfl rfl ?_
     rintro _ w ⟨b871, rfl, hS⟩
     refine ⟨kp ⟨(by intro hx; cases hx), trivial⟩, ?_⟩
     refine rq [0] (St.down hS.d0.d4.d4.p4.p2.p2.p3 hs869) ?_
     refine it (RP.nil (tsr (rr [0, 0, 5] hS ?_)))
     refine it fun w hS => ?_
     obtain ⟨hq876, h⟩ := h.req
     have hS := hS.nilSl E_api_Link 125
     refine RL.e (OW.appendV (E := E_api_Link) (xs := ([] : List api_Link)) (ys := a1.Links) 0 hS rfl underlying26 type125 rfl rfl rfl rfl (by decide) (by decide) rfl rfl ((hr7.mono hs869).2.world hS.sub) hq876 rfl) rfl rfl ?_
     rintro v879 w hS
     obtain ⟨A877, c878, rfl, _⟩ := hS.osShape 0 rfl
     have hS : St B w (_ :: _ :: _ :: _ :: _ :: _ :: _ :: _ :: _ :: l) hf := hS
     refine rr [0, 0, 0, 2] hS ?_
     refine it fun w hS => ln (RC.seq (dk [0, 4, 6, 9, 12, 15, 18, 22, 26, 27, 30, 33, 38, 41, 44] [12, 13, 14] hS (fun w hS => hS.d2.d2) fun w hS => rq [0, 3, 0, 0, 0, 0, 0, 2] hS.d2.d2 ?_))
     refine it ?_
     obtain ⟨hf, hs931, hS, hr932⟩ := St.promote hS.p2
     have hS : St B w (_ :: _ :: _ :: _ :: _ :: _ :: _ :: _ :: l) hf := hS
     obtain ⟨hf, hs933, hS, hr934⟩ := St.promote hS.p2
     have hS : St B w (_ :: _ :: _ :: _ :: _ :: _ :: _ :: l) hf := hS
     obtain ⟨t935, hg936, h⟩ := h.bind
     have hc := log_New.ok (hr932.mono hs933) hr934 hg936 hS
     rcases t935 with _ | ⟨y937, y938⟩
     · exact h.none
     refine RP.e 8 rfl (OW.callF (ls := [.tmp 66, .tmp 67, .tmp 72]) rfl call87 hc) rfl rfl ?_
     rintro _ w ⟨hf, hs940, b939, rfl, hS⟩
     refine ⟨kp ⟨fun _ => (St.down hS.d0 ((hs931.trans hs933).trans hs940)), trivial⟩, ?_⟩
     refine rq [0, 0, 0, 0, 0] (St.down hS.d0 ((hs931.trans hs933).trans hs940)) ?_
     refine it (RP.e0 14 rfl (OW.store (vs := [pV b939]) 2 hS rfl rfl rfl rfl sizeOf144 rfl rfl rfl rfl) rfl ?_)
     rintro _ w ⟨rfl, hS⟩
     have hS : St B w (_ :: _ :: Cl _ [_, _, _, _, _, _, _, _, _, _, _, _, _, _, _, _, _, _, _, _, _, _, _, _, _, _, _] _ :: _ :: _ :: _ :: _ :: _ :: l) hf := hS
     refine ⟨kp ⟨(by intro hx; cases hx), trivial⟩, ?_⟩
     refine RP.nil (tsr (rr [0, 0, 0, 0, 0, 3] hS ?_))
     refine it fun w hS => cF (fun _ hg => pend_New.ok hg hS) call88 h rfl rfl rfl ?_
     rintro ⟨y951, y952⟩ h _ w ⟨b953, rfl, hS⟩
     refine rr [0, 0, 0, 0, 0, 4] hS ?_
     refine it fun w hS => ln (RC.seq (sr (rr [6] hS ?_)))
     refine it fun w hS => cF (fun _ hg => model_Starts.ok ((((hr4.mono hs869).mono hs931).mono hs933).mono hs940) ((((hr7.mono hs869).mono hs931).mono hs933).mono hs940) ((((hr10.mono hs869).mono hs931).mono hs933).mono hs940) hg hS) call89 h rfl rfl rfl ?_
     rintro t1019 h _ w ⟨A1021, c1022, rfl, hS⟩
     refine r0 2 rfl (ln (RC.block ?_))
     obtain ⟨hf, hs1023, hS, hr1024⟩ := St.promote hS.p3
     have hS := O_pend_Pend.l hs1023 hS.p1
     have hS := O_log_Log.l hs1023 hS.p2
     have hS := hS.nilSl E_lane_open 153
     have hS := hS.nilSl E_api_Message 84
     have hS := O_lane_Lane.c (x := (⟨({ a1 with Links := (([] : List api_Link) ++ a1.Links) } : api_Model), a11, a12, l864, y937, y951, ([] : List lane_open), ([] : List api_Message), ([] : List (lane_sending × Int)), ([] : List (lane_sending × Bool)), 0, (⟨2, 4, 0, 1000, 0⟩ : api_Setting), (⟨0, 0, 0, 0⟩ : api_Stats)⟩ : lane_Lane)) (((((hr4.mono hs869).mono hs931).mono hs933).mono hs940).mono hs1023) hr1024 (((((hr10.mono hs869).mono hs931).mono hs933).mono hs940).mono hs1023) ((((hr870.mono hs931).mono hs933).mono hs940).mono hs1023) hS.p9.p9.p2.p3.p5.p5.p7
     refine fun a ha => lp h (fun (s : lane_Lane × Int) a w => ∃ y1038 x1039, s = (y1038, x1039) ∧ Has 106 [(1, iV a11), (10, pV b871), (91, sV A1021 t1019 c1022), (92, iV (t1019.length : Int)), (93, iV x1039)] a ∧ St B w (OSf E_api_Message 84 (sV A1021 t1019 c1022) t1019 :: O_lane_Lane hf y1038 b871 :: l) hf) ⟨_, _, rfl, ha.tE rfl, hS.d2.d2.d2.p1⟩ ?_
     rintro G1055 _ a w ⟨y1038, x1039, rfl, ha, hS⟩ h
     refine ro ha (sr (pn 1 rfl (ln (RC.seq ?_))))
     refine RC.iteP 94 rfl h (fun hc1057 h => ?_) fun hc1057 h => ?_
     next =>
      refine jt (sk ?_)
      refine RC.join (fun (s : lane_Lane) a w => ∃ y1063, s = (y1063) ∧ Holds (Sum.elim G1055 (· = r)) (lane_New.j20 x1039 y1063) ∧ Has 106 [(1, iV a11), (10, pV b871), (91, sV A1021 t1019 c1022), (92, iV (t1019.length : Int)), (93, iV x1039)] a ∧ St B w (OSf E_api_Message 84 (sV A1021 t1019 c1022) t1019 :: O_lane_Lane hf y1063 b871 :: l) hf) ?_ ?_
      · rintro y1063 a w ⟨_, rfl, h, ha, hS⟩
        refine ro ha (RC.region (pn 2 rfl (RL.nil ?_)))
        exact fun a ha => ⟨_, h.some, _, _, rfl, ha.tE rfl, hS⟩
      refine RC.block (sr ?_)
      obtain ⟨hq1064, h⟩ := h.req
      refine RL.s (Vl.indexOwn 0 hS rfl underlying52 sizeOf84 rfl rfl hq1064 hc1057) rfl (RL.s (Vl.loadA isAgg84 sizeOf84 rfl rfl ((hS.slW 0 rfl).2.2.cells hq1064 hc1057)) rfl (rr [0, 1] hS ?_))
      refine fun b1065 => it fun w hS => lnsr (rr [0, 1, 0, 0] hS ?_)
      refine it fun w hS => ln ?_
      refine RC.iteP 100 rfl h (fun hc1066 h => ?_) fun hc1066 h => ?_
      next =>
       refine jt (RC.region (rr [0, 1] hS ?_))
       refine it fun w hS => cF (fun _ hg => lane_Lane_hold.ok hg hS.p2) call90 h rfl rfl rfl ?_
       rintro t1067 h _ w ⟨rfl, hS⟩
       refine RL.nil (RQ.inB_n ?_)
       exact fun a ha => ⟨_, _, rfl, h, ha.tE rfl, hS.d1.p1⟩
      refine jf (RC.skip (RQ.inB_n ?_))
      exact fun a ha => ⟨_, _, rfl, h, ha.tE rfl, hS.d0⟩
     refine jf (RC.exit (RQ.exitT ?_))
     have h := h.inrS
     refine RQ.exitT (RQ.inB_hit (tsr (pn 3 rfl (lr ?_))))
     cases h.some
     exact rt results51 rfl ⟨_, ((((hs869.trans hs931).trans hs933).trans hs940).trans hs1023), b871, rfl, hS.d0⟩
   refine RP.fork3 ?_ ?_ ?_
   · obtain ⟨t1069, hg1070, h⟩ := h.bind
     have hc := model_Ways.ok hr4 hr7 hr10 hg1070 hS
     refine RPW.e 5 rfl (OW.callF (ls := [.tmp 49, .tmp 50]) rfl call53 hc) rfl rfl ?_
     rintro _ w ⟨A1071, c1072, rfl, hS⟩
     refine ⟨kp ⟨fun _ => hS.d0, trivial⟩, ?_⟩
     refine RP.fork3 ?_ ?_ ?_
     · refine RPW.e 6 rfl (OW.makeMapF (kv := kv_lane_sending) (vv := (Value.int .i64)) hS) rfl rfl ?_
       rintro _ w ⟨b1073, rfl, hS⟩
       refine ⟨kp ⟨fun _ => hS.d0.d0, trivial⟩, ?_⟩
       refine RP.fork ?_ ?_
       · refine RPW.e 7 rfl (OW.makeMapF (kv := kv_lane_sending) (vv := Value.bool) hS) rfl rfl ?_
         rintro _ w ⟨b1074, rfl, hS⟩
         refine ⟨kp ⟨fun _ => hS.d0.d0.d0, trivial⟩, ?_⟩
         obtain ⟨t1075, hg1076, h⟩ := h.bind
         have hc := tune_First.ok hg1076 hS
         refine RP.e 8 rfl (OW.callF (ls := []) rfl call86 hc) rfl rfl ?_
         rintro _ w ⟨rfl, hS⟩
         refine ⟨kp ⟨fun _ => hS.d0.d0.d0, trivial⟩, ?_⟩
         exact hk _ _ _ ⟨_, rfl, h, _, _, _, _, ⟨rfl, rfl, rfl, rfl, rfl, rfl, rfl, rfl, rfl, rfl, trivial⟩, hS.p1.p7.p4.p4.p6.p6⟩
       · obtain ⟨t1077, hg1078, h⟩ := h.bind
         have hc := tune_First.ok hg1078 hS
         refine RPW.e 8 rfl (OW.callF (ls := []) rfl call86 hc) rfl rfl ?_
         rintro _ w ⟨rfl, hS⟩
         refine ⟨kp ⟨fun _ => hS.d0.d0, trivial⟩, ?_⟩
         refine RP.e 7 rfl (OW.makeMapF (kv := kv_lane_sending) (vv := Value.bool) hS) rfl rfl ?_
         rintro _ w ⟨b1079, rfl, hS⟩
         refine ⟨kp ⟨fun _ => hS.d0.d0.d0, trivial⟩, ?_⟩
         exact hk _ _ _ ⟨_, rfl, h, _, _, _, _, ⟨rfl, rfl, rfl, rfl, rfl, rfl, rfl, rfl, rfl, rfl, trivial⟩, hS.p1.p7.p4.p4.p6.p6⟩
     · refine RPW.e 7 rfl (OW.makeMapF (kv := kv_lane_sending) (vv := Value.bool) hS) rfl rfl ?_
       rintro _ w ⟨b1080, rfl, hS⟩
       refine ⟨kp ⟨fun _ => hS.d0.d0, trivial⟩, ?_⟩
       refine RP.fork ?_ ?_
       · refine RPW.e 6 rfl (OW.makeMapF (kv := kv_lane_sending) (vv := (Value.int .i64)) hS) rfl rfl ?_
         rintro _ w ⟨b1081, rfl, hS⟩
         refine ⟨kp ⟨fun _ => hS.d0.d0.d0, trivial⟩, ?_⟩
         obtain ⟨t1082, hg1083, h⟩ := h.bind
         have hc := tune_First.ok hg1083 hS
         refine RP.e 8 rfl (OW.callF (ls := []) rfl call86 hc) rfl rfl ?_
         rintro _ w ⟨rfl, hS⟩
         refine ⟨kp ⟨fun _ => hS.d0.d0.d0, trivial⟩, ?_⟩
         exact hk _ _ _ ⟨_, rfl, h, _, _, _, _, ⟨rfl, rfl, rfl, rfl, rfl, rfl, rfl, rfl, rfl, rfl, trivial⟩, hS.p7.p4.p4.p6.p6⟩
       · obtain ⟨t1084, hg1085, h⟩ := h.bind
         have hc := tune_First.ok hg1085 hS
         refine RPW.e 8 rfl (OW.callF (ls := []) rfl call86 hc) rfl rfl ?_
         rintro _ w ⟨rfl, hS⟩
         refine ⟨kp ⟨fun _ => hS.d0.d0, trivial⟩, ?_⟩
         refine RP.e 6 rfl (OW.makeMapF (kv := kv_lane_sending) (vv := (Value.int .i64)) hS) rfl rfl ?_
         rintro _ w ⟨b1086, rfl, hS⟩
         refine ⟨kp ⟨fun _ => hS.d0.d0.d0, trivial⟩, ?_⟩
         exact hk _ _ _ ⟨_, rfl, h, _, _, _, _, ⟨rfl, rfl, rfl, rfl, rfl, rfl, rfl, rfl, rfl, rfl, trivial⟩, hS.p7.p4.p4.p6.p6⟩
     · obtain ⟨t1087, hg1088, h⟩ := h.bind
       have hc := tune_First.ok hg1088 hS
       refine RPW.e 8 rfl (OW.callF (ls := []) rfl call86 hc) rfl rfl ?_
       rintro _ w ⟨rfl, hS⟩
       refine ⟨kp ⟨fun _ => hS.d0, trivial⟩, ?_⟩
       refine RP.fork ?_ ?_
       · refine RPW.e 6 rfl (OW.makeMapF (kv := kv_lane_sending) (vv := (Value.int .i64)) hS) rfl rfl ?_
         rintro _ w ⟨b1089, rfl, hS⟩
         refine ⟨kp ⟨fun _ => hS.d0.d0, trivial⟩, ?_⟩
         refine RP.e 7 rfl (OW.makeMapF (kv := kv_lane_sending) (vv := Value.bool) hS) rfl rfl ?_
         rintro _ w ⟨b1090, rfl, hS⟩
         refine ⟨kp ⟨fun _ => hS.d0.d0.d0, trivial⟩, ?_⟩
         exact hk _ _ _ ⟨_, rfl, h, _, _, _, _, ⟨rfl, rfl, rfl, rfl, rfl, rfl, rfl, rfl, rfl, rfl, trivial⟩, hS.p1.p7.p4.p4.p6.p6⟩
       · refine RPW.e 7 rfl (OW.makeMapF (kv := kv_lane_sending) (vv := Value.bool) hS) rfl rfl ?_
         rintro _ w ⟨b1091, rfl, hS⟩
         refine ⟨kp ⟨fun _ => hS.d0.d0, trivial⟩, ?_⟩
         refine RP.e 6 rfl (OW.makeMapF (kv := kv_lane_sending) (vv := (Value.int .i64)) hS) rfl rfl ?_
         rintro _ w ⟨b1092, rfl, hS⟩
         refine ⟨kp ⟨fun _ => hS.d0.d0.d0, trivial⟩, ?_⟩
         exact hk _ _ _ ⟨_, rfl, h, _, _, _, _, ⟨rfl, rfl, rfl, rfl, rfl, rfl, rfl, rfl, rfl, rfl, trivial⟩, hS.p7.p4.p4.p6.p6⟩
   · refine RPW.e 6 rfl (OW.makeMapF (kv := kv_lane_sending) (vv := (Value.int .i64)) hS) rfl rfl ?_
     rintro _ w ⟨b1093, rfl, hS⟩
     refine ⟨kp ⟨fun _ => hS.d0, trivial⟩, ?_⟩
     refine RP.fork ?_ ?_
     · obtain ⟨t1094, hg1095, h⟩ := h.bind
       have hc := model_Ways.ok hr4 hr7 hr10 hg1095 hS
       refine RPW.e 5 rfl (OW.callF (ls := [.tmp 49, .tmp 50]) rfl call53 hc) rfl rfl ?_
       rintro _ w ⟨A1096, c1097, rfl, hS⟩
       refine ⟨kp ⟨fun _ => hS.d0.d0, trivial⟩, ?_⟩
       refine RP.fork ?_ ?_
       · refine RPW.e 7 rfl (OW.makeMapF (kv := kv_lane_sending) (vv := Value.bool) hS) rfl rfl ?_
         rintro _ w ⟨b1098, rfl, hS⟩
         refine ⟨kp ⟨fun _ => hS.d0.d0.d0, trivial⟩, ?_⟩
         obtain ⟨t1099, hg1100, h⟩ := h.bind
         have hc := tune_First.ok hg1100 hS
         refine RP.e 8 rfl (OW.callF (ls := []) rfl call86 hc) rfl rfl ?_
         rintro _ w ⟨rfl, hS⟩
         refine ⟨kp ⟨fun _ => hS.d0.d0.d0, trivial⟩, ?_⟩
         exact hk _ _ _ ⟨_, rfl, h, _, _, _, _, ⟨rfl, rfl, rfl, rfl, rfl, rfl, rfl, rfl, rfl, rfl, trivial⟩, hS.p2.p7.p4.p4.p6.p6⟩
       · obtain ⟨t1101, hg1102, h⟩ := h.bind
         have hc := tune_First.ok hg1102 hS
         refine RPW.e 8 rfl (OW.callF (ls := []) rfl call86 hc) rfl rfl ?_
         rintro _ w ⟨rfl, hS⟩
         refine ⟨kp ⟨fun _ => hS.d0.d0, trivial⟩, ?_⟩
         refine RP.e 7 rfl (OW.makeMapF (kv := kv_lane_sending) (vv := Value.bool) hS) rfl rfl ?_
         rintro _ w ⟨b1103, rfl, hS⟩
         refine ⟨kp ⟨fun _ => hS.d0.d0.d0, trivial⟩, ?_⟩
         exact hk _ _ _ ⟨_, rfl, h, _, _, _, _, ⟨rfl, rfl, rfl, rfl, rfl, rfl, rfl, rfl, rfl, rfl, trivial⟩, hS.p2.p7.p4.p4.p6.p6⟩
     · refine RPW.e 7 rfl (OW.makeMapF (kv := kv_lane_sending) (vv := Value.bool) hS) rfl rfl ?_
       rintro _ w ⟨b1104, rfl, hS⟩
       refine ⟨kp ⟨fun _ => hS.d0.d0, trivial⟩, ?_⟩
       obtain ⟨t1105, hg1106, h⟩ := h.bind
       have hc := model_Ways.ok hr4 hr7 hr10 hg1106 hS
       refine RP.e 5 rfl (OW.callF (ls := [.tmp 49, .tmp 50]) rfl call53 hc) rfl rfl ?_
       rintro _ w ⟨A1107, c1108, rfl, hS⟩
       refine ⟨kp ⟨fun _ => hS.d0.d0.d0, trivial⟩, ?_⟩
       obtain ⟨t1109, hg1110, h⟩ := h.bind
       have hc := tune_First.ok hg1110 hS
       refine RP.e 8 rfl (OW.callF (ls := []) rfl call86 hc) rfl rfl ?_
       rintro _ w ⟨rfl, hS⟩
       refine ⟨kp ⟨fun _ => hS.d0.d0.d0, trivial⟩, ?_⟩
       exact hk _ _ _ ⟨_, rfl, h, _, _, _, _, ⟨rfl, rfl, rfl, rfl, rfl, rfl, rfl, rfl, rfl, rfl, trivial⟩, hS.p2.p7.p4.p3.p6.p6⟩
   · refine RPW.e 7 rfl (OW.makeMapF (kv := kv_lane_sending) (vv := Value.bool) hS) rfl rfl ?_
     rintro _ w ⟨b1111, rfl, hS⟩
     refine ⟨kp ⟨fun _ => hS.d0, trivial⟩, ?_⟩
     refine RP.fork ?_ ?_
     · obtain ⟨t1112, hg1113, h⟩ := h.bind
       have hc := model_Ways.ok hr4 hr7 hr10 hg1113 hS
       refine RPW.e 5 rfl (OW.callF (ls := [.tmp 49, .tmp 50]) rfl call53 hc) rfl rfl ?_
       rintro _ w ⟨A1114, c1115, rfl, hS⟩
       refine ⟨kp ⟨fun _ => hS.d0.d0, trivial⟩, ?_⟩
       refine RP.fork ?_ ?_
       · refine RPW.e 6 rfl (OW.makeMapF (kv := kv_lane_sending) (vv := (Value.int .i64)) hS) rfl rfl ?_
         rintro _ w ⟨b1116, rfl, hS⟩
         refine ⟨kp ⟨fun _ => hS.d0.d0.d0, trivial⟩, ?_⟩
         obtain ⟨t1117, hg1118, h⟩ := h.bind
         have hc := tune_First.ok hg1118 hS
         refine RP.e 8 rfl (OW.callF (ls := []) rfl call86 hc) rfl rfl ?_
         rintro _ w ⟨rfl, hS⟩
         refine ⟨kp ⟨fun _ => hS.d0.d0.d0, trivial⟩, ?_⟩
         exact hk _ _ _ ⟨_, rfl, h, _, _, _, _, ⟨rfl, rfl, rfl, rfl, rfl, rfl, rfl, rfl, rfl, rfl, trivial⟩, hS.p7.p4.p3.p6.p6⟩
       · obtain ⟨t1119, hg1120, h⟩ := h.bind
         have hc := tune_First.ok hg1120 hS
         refine RPW.e 8 rfl (OW.callF (ls := []) rfl call86 hc) rfl rfl ?_
         rintro _ w ⟨rfl, hS⟩
         refine ⟨kp ⟨fun _ => hS.d0.d0, trivial⟩, ?_⟩
         refine RP.e 6 rfl (OW.makeMapF (kv := kv_lane_sending) (vv := (Value.int .i64)) hS) rfl rfl ?_
         rintro _ w ⟨b1121, rfl, hS⟩
         refine ⟨kp ⟨fun _ => hS.d0.d0.d0, trivial⟩, ?_⟩
         exact hk _ _ _ ⟨_, rfl, h, _, _, _, _, ⟨rfl, rfl, rfl, rfl, rfl, rfl, rfl, rfl, rfl, rfl, trivial⟩, hS.p7.p4.p3.p6.p6⟩
     · refine RPW.e 6 rfl (OW.makeMapF (kv := kv_lane_sending) (vv := (Value.int .i64)) hS) rfl rfl ?_
       rintro _ w ⟨b1122, rfl, hS⟩
       refine ⟨kp ⟨fun _ => hS.d0.d0, trivial⟩, ?_⟩
       obtain ⟨t1123, hg1124, h⟩ := h.bind
       have hc := model_Ways.ok hr4 hr7 hr10 hg1124 hS
       refine RP.e 5 rfl (OW.callF (ls := [.tmp 49, .tmp 50]) rfl call53 hc) rfl rfl ?_
       rintro _ w ⟨A1125, c1126, rfl, hS⟩
       refine ⟨kp ⟨fun _ => hS.d0.d0.d0, trivial⟩, ?_⟩
       obtain ⟨t1127, hg1128, h⟩ := h.bind
       have hc := tune_First.ok hg1128 hS
       refine RP.e 8 rfl (OW.callF (ls := []) rfl call86 hc) rfl rfl ?_
       rintro _ w ⟨rfl, hS⟩
       refine ⟨kp ⟨fun _ => hS.d0.d0.d0, trivial⟩, ?_⟩
       exact hk _ _ _ ⟨_, rfl, h, _, _, _, _, ⟨rfl, rfl, rfl, rfl, rfl, rfl, rfl, rfl, rfl, rfl, trivial⟩, hS.p7.p4.p2.p6.p6⟩
  refine jtr (pn 3 rfl (lr (RQ.ret ?_)))
  cases h.some
  exact rt results51 rfl ⟨rfl, hS.d0.d0.d0.d0.d0⟩
def colour_New.f  : Option (colour_Tally) := some (⟨true, 0, (⟨0, 0⟩ : Arr2xInti64), 4611686018427387904⟩ : colour_Tally)
theorem colour_New.ok {r : colour_Tally} (h : colour_New.f = some r) (hS : St B w (l) hf) :
    Calls prog 52 #[] w (Ret fun v w => ∃ (b_1 : Nat), v = pV b_1 ∧ St B w (O_colour_Tally hf r b_1 :: l) hf) := by
  have h := Holds.of h
  refine en func52 rfl ntmps52 rfl (sr (pn 1 rfl (lnsr (rr [0, 0, 0] hS ?_))))
  refine fun b2 => it fun w hS => lr ?_
  have hS := O_colour_Tally.c (x := (⟨true, 0, (⟨0, 0⟩ : Arr2xInti64), 4611686018427387904⟩ : colour_Tally)) hS
  cases h.some
  exact rt results52 rfl ⟨b2, rfl, hS⟩
def model_Into_1.f (a1 : api_Link) (a3 : Int) : Option (Bool) := some (decide (a1.To = a3))
theorem model_Into_1.ok {a1 : api_Link} {a3 : Int} {b2 : Nat} {r : Bool} (h : model_Into_1.f a1 a3 = some r) (hS : St B w (Cl b2 [iV a3] 3 :: l) hf) :
    Calls prog 93 #[.agg (C_api_Link a1).toArray, pV b2] w (Ret fun v w => v = .bool r ∧ St B w (Cl b2 [iV a3] 3 :: l) hf) := by
  have h := Holds.of h
  refine en func93 rfl ntmps93 rfl (sr (rr [0, 0] hS ?_))
  refine fun b5 => it fun w hS => lnsr (rr [0, 1, 2, 0, 0] hS ?_)
  refine it fun w hS => lr ?_
  cases h.some
  exact rt results93 rfl ⟨rfl, hS.d0⟩
def model_places_2.j8 (x131 : Int) (l174 : List Int) : Option ((List Int × Int) ⊕ (List Int)) := some (.inl (l174, IntKind.i64.wrap (x131 + 1)))
def model_places_2.l7b (a1 : api_Model) (a12 : Int) : List Int × Int → Option ((List Int × Int) ⊕ (List Int))
  | (l128, x131) => (if x131 < (a1.Links.length : Int) then (if 0 ≤ x131 then ((model_Into_1.f (nth a1.Links x131) a12).bind fun t179 => (if t179 = true then (if (l128.length + 1) * 8 ≤ 140737488355328 then model_places_2.j8 x131 (l128 ++ ([x131] : List Int)) else none) else model_places_2.j8 x131 l128)) else none) else some (.inr l128))
def model_places_2.l7 (a1 : api_Model) (a12 : Int) (s : List Int × Int) : Option (List Int) := loopR (model_places_2.l7b a1 a12) s
def model_places_2.f (a1 : api_Model) (a12 : Int) : Option (List Int) := model_places_2.l7 a1 a12 ([], 0)
theorem model_places_2.ok {a1 : api_Model} {a12 : Int} {A2 A5 A8 : Option Addr} {c3 c6 c9 b11 : Nat} (hr4 : SlR (Rep.sl E_api_Instr.rep) hf A2 c3 a1.Progs) (hr7 : SlR E_api_Link.rep hf A5 c6 a1.Links) (hr10 : SlR E_api_Start.rep hf A8 c9 a1.Starts) {r : List Int} (h : model_places_2.f a1 a12 = some r) (hS : St B w (Cl b11 [iV a12] 3 :: l) hf) :
    Calls prog 91 #[.agg (C_api_Model a1 A2 c3 A5 c6 A8 c9).toArray, .func (.func 93) #[] #[pV b11]] w (Ret fun v w => ∃ (A_1 : Option Addr) (c_2 : Nat), v = sV A_1 r c_2 ∧ St B w (OSf (FI .i64) 3 (sV A_1 r c_2) r :: Cl b11 [iV a12] 3 :: l) hf) := by
  have h := Holds.of h
  refine en func91 rfl ntmps91 rfl (sr (rr [0, 0] hS ?_))
  refine fun b100 => it fun w hS => lnsr (pn 1 rfl (ln (RC.seq (sr (rr [0, 1, 0, 0] hS ?_)))))
  refine it fun w hS => RL.nil ?_
  refine RQ.then_n (RC.block ?_)
  have hS := hS.nilSl (FI .i64) 3
  refine fun a ha => lp h (fun (s : List Int × Int) a w => ∃ l128 x131, s = (l128, x131) ∧ ∃ A129 c130, Has 25 [(1, .func (.func 93) #[] #[pV b11]), (5, sV A129 l128 c130), (9, sV A5 a1.Links c6), (10, iV (a1.Links.length : Int)), (11, iV x131)] a ∧ St B w (OSf (FI .i64) 3 (sV A129 l128 c130) l128 :: Cl b11 [iV a12] 3 :: l) hf) ⟨_, _, rfl, _, _, ha.tE rfl, hS.d1⟩ ?_
  rintro G161 _ a w ⟨l128, x131, rfl, A129, c130, ha, hS⟩ h
  refine ro ha (sr (pn 1 rfl (ln (RC.seq ?_))))
  refine RC.iteP 12 rfl h (fun hc163 h => ?_) fun hc163 h => ?_
  next =>
   refine jt (sk ?_)
   refine RC.join (fun (s : List Int) a w => ∃ l174, s = (l174) ∧ Holds (Sum.elim G161 (· = r)) (model_places_2.j8 x131 l174) ∧ ∃ A175 c176, Has 25 [(1, .func (.func 93) #[] #[pV b11]), (5, sV A175 l174 c176), (9, sV A5 a1.Links c6), (10, iV (a1.Links.length : Int)), (11, iV x131)] a ∧ St B w (OSf (FI .i64) 3 (sV A175 l174 c176) l174 :: Cl b11 [iV a12] 3 :: l) hf) ?_ ?_
   · rintro l174 a w ⟨_, rfl, h, A175, c176, ha, hS⟩
     refine ro ha (RC.region (pn 2 rfl (RL.nil ?_)))
     exact fun a ha => ⟨_, h.some, _, _, rfl, _, _, ha.tE rfl, hS⟩
   refine RC.block (sr (pn 1 rfl ?_))
   obtain ⟨hq177, h⟩ := h.req
   refine RL.s (Vl.indexAddr underlying26 sizeOf125 rfl rfl ((hr7.2.world hS.sub).adr hq177 hc163) hq177 hc163 rfl) rfl (RL.s (Vl.loadA isAgg125 sizeOf125 rfl rfl ((hr7.2.world hS.sub).cells hq177 hc163)) rfl (rr [0, 0, 1] hS ?_))
   refine fun b178 => it fun w hS => lnsr (rr [0, 1] hS ?_)
   refine it fun w hS => ?_
   obtain ⟨t179, hg180, h⟩ := h.bind
   have hc := model_Into_1.ok hg180 hS.p2
   refine RL.e (OW.call (ls := [.tmp 17]) rfl rfl call93 rfl hc) rfl rfl ?_
   rintro _ w ⟨rfl, hS⟩
   refine ln ?_
   refine RC.iteB 18 rfl h (fun hc181 h => ?_) fun hc181 h => ?_
   next =>
    refine jt (RC.region (pn 2 rfl (RL.e (OW.buildSlice (E := (FI .i64)) (xs := ([x131] : List Int)) (cs := [iV x131]) hS underlying99 zeroValue3 sizeOf3 (parts := [(0, .tmp 20)]) rfl rfl (by decide) (by decide) (by kernel_rfl) rfl) rfl rfl ?_)))
    rintro _ w ⟨b182, rfl, hS⟩
    obtain ⟨hq183, h⟩ := h.req
    refine RL.e (OW.append (E := (FI .i64)) (xs := l128) (ys := ([x131] : List Int)) 3 hS rfl underlying99 type3 rfl rfl rfl rfl (by decide) rfl rfl rfl (hS.slW 0 rfl).2.2.flat (by simp only [maxLen, List.length_cons, List.length_nil] at *; omega) hq183 rfl) rfl rfl ?_
    rintro v186 w hS
    obtain ⟨A184, c185, rfl, _⟩ := hS.osShape 0 rfl
    have hS : St B w (_ :: _ :: _ :: _ :: l) hf := hS
    refine pn 1 rfl (RL.nil (RQ.inB_n ?_))
    exact fun a ha => ⟨_, _, rfl, h, _, _, ha.tE rfl, hS.d1.d2⟩
   refine jf (RC.skip (RQ.inB_n ?_))
   exact fun a ha => ⟨_, _, rfl, h, _, _, ha.tE rfl, hS.d1.p1⟩
  refine jf (RC.exit (RQ.exitT ?_))
  have h := h.inrS
  refine RQ.exitT (RQ.inB_hit (tsr (pn 2 rfl (lr ?_))))
  obtain rfl := h.some
  exact rt results91 rfl ⟨A129, c130, rfl, hS⟩
end
end Go.Proofs.Gx
