/-
  The walks of functions, each with what it computes: printed by wip/gx.py.
-/
import Derived.Test.YtofgeidjbfmmdaaGreatDoorW0
import Derived.Test.YtofgeidjbfmmdaaGreatDoorW14
import Derived.Test.YtofgeidjbfmmdaaGreatDoorW9
set_option linter.unusedVariables false
set_option maxRecDepth 100000
set_option maxHeartbeats 4000000
namespace Go.Proofs.Gx
open Go.Sl Tryz
variable {B : Base} {w : World} {l : List HProp} {hf : Hp}
/-! ### isochron/isochronlaw14.SeqEnds: function 5 -/
noncomputable def isochronlaw14vSeqEnds.j2 (a1 : api_Model) (a12 : Int) (y65 : List api_Done) (x80 : Int) : Option (Bool) := ((seq_Run.f (⟨a1.Progs, a1.Links, a1.Starts, a1.Seed, x80, (if IntKind.i64.wrap (a1.Budget + (IntKind.i64.wrap a12)) < 4096 then IntKind.i64.wrap (a1.Budget + (IntKind.i64.wrap a12)) else 4096)⟩ : api_Model)).bind fun (y83, y84, y85, y86) => (if y86 = 0 then (if (y65.length : Int) ≤ (y83.length : Int) then (if 0 ≤ (y65.length : Int) then ((isochronlaw14vhistory.f (subL y83 0 (y65.length : Int)) y65).bind fun t103 => (if t103 = true then ((isochronlaw14vawake.f).bind fun t106 => some t106) else some false)) else none) else some false) else some false))
noncomputable def isochronlaw14vSeqEnds.f (a1 : api_Model) (a11 a12 : Int) : Option (Bool) := ((seq_Run.f a1).bind fun (y65, y66, y67, y68) => (if y68 = 0 then (if a1.End ≤ 1000 then isochronlaw14vSeqEnds.j2 a1 a12 y65 (IntKind.i64.wrap (a1.End + (IntKind.i64.wrap a11))) else isochronlaw14vSeqEnds.j2 a1 a12 y65 a1.End) else ((isochronlaw14vawake.f).bind fun t109 => some t109)))
theorem isochronlaw14vSeqEnds.ok {a1 : api_Model} {a11 a12 : Int} {A2 : Option Addr} {c3 : Nat} {A5 : Option Addr} {c6 : Nat} {A8 : Option Addr} {c9 : Nat} (hr4 : SlR (Rep.sl E_api_Instr.rep) hf A2 c3 a1.Progs) (hr7 : SlR E_api_Link.rep hf A5 c6 a1.Links) (hr10 : SlR E_api_Start.rep hf A8 c9 a1.Starts) (hG0 : GlobAt hf 0 (.iface 148 (.agg #[.pointer (some ⟨1, 83, none⟩)]))) {r : Bool} (h : isochronlaw14vSeqEnds.f a1 a11 a12 = some r) (hS : St B w (l) hf) :
    Calls prog 5 #[.agg #[.slice A2 a1.Progs.length c3, .slice A5 a1.Links.length c6, .slice A8 a1.Starts.length c9, .int .u64 a1.Seed, .int .i64 a1.End, .int .i64 a1.Budget], .int .u8 a11, .int .u8 a12] w (Ret fun v w => v = .bool r ∧ St B w (l) hf) := by
  have h := Holds.of h
  refine en func5 rfl ntmps5 rfl (sr (bx hS rfl rfl rfl rfl fun b62 w hS => pn 1 rfl (lnsr (RL.s (Vl.lw 0 hS isAgg27 sizeOf27 rfl rfl rfl) rfl (cF (fun _ hg => seq_Run.ok hr4 hr7 hr10 hG0 hg hS) call9 h rfl rfl rfl ?_)))))
  rintro ⟨y65, y66, y67, y68⟩ h _ w ⟨A69, c70, A71, c72, rfl, hS⟩
  refine pn 3 rfl (al hS zeroValue31 rfl rfl rfl fun b73 w hS => RL.e0 (OW.store (vs := [.slice A69 y65.length c70, .slice A71 y66.length c72, .int .i64 y67]) 0 hS rfl rfl rfl rfl sizeOf31 rfl rfl rfl rfl) rfl ?_)
  rintro _ w ⟨rfl, hS⟩
  have hS : St B w (Cl _ [_, _, _] _ :: _ :: _ :: _ :: l) hf := hS
  refine pn 1 rfl (ln (RC.seq (sr (pn 2 rfl (ln ?_)))))
  refine RC.iteN 18 rfl h (fun hc77 h => ?_) fun hc77 h => ?_
  next =>
   refine RC.condF rfl (sk (sr (RL.s (Vl.lw 3 hS isAgg27 sizeOf27 rfl rfl rfl) rfl (al hS zeroValue27 rfl rfl rfl fun b78 w hS => RL.e0 (OW.store (vs := [.slice A2 a1.Progs.length c3, .slice A5 a1.Links.length c6, .slice A8 a1.Starts.length c9, .int .u64 a1.Seed, .int .i64 a1.End, .int .i64 a1.Budget]) 0 hS rfl rfl rfl rfl sizeOf27 rfl rfl rfl rfl) rfl ?_))))
   rintro _ w ⟨rfl, hS⟩
   have hS : St B w (Cl _ [_, _, _, _, _, _] _ :: _ :: _ :: _ :: _ :: l) hf := hS
   refine ln ?_
   refine RC.join (fun (s : Int) a w => ∃ (x80 : Int), s = (x80) ∧ Has 67 [(2, .int .u8 a12), (3, .pointer (some ⟨b62, 0, none⟩)), (7, .pointer (some ⟨b73, 0, none⟩)), (9, .pointer (some ⟨b78, 0, none⟩))] a ∧ St B w (OSf E_api_Done 44 (.slice A69 y65.length c70) y65 :: OSf E_api_State 105 (.slice A71 y66.length c72) y66 :: Cl b78 [.slice A2 a1.Progs.length c3, .slice A5 a1.Links.length c6, .slice A8 a1.Starts.length c9, .int .u64 a1.Seed, .int .i64 x80, .int .i64 a1.Budget] 27 :: Cl b73 [.slice A69 y65.length c70, .slice A71 y66.length c72, .int .i64 y67] 31 :: Cl b62 [.slice A2 a1.Progs.length c3, .slice A5 a1.Links.length c6, .slice A8 a1.Starts.length c9, .int .u64 a1.Seed, .int .i64 a1.End, .int .i64 a1.Budget] 27 :: l) hf ∧ Holds (· = r) (isochronlaw14vSeqEnds.j2 a1 a12 y65 x80)) ?_ ?_
   · rintro x80 a w ⟨_, rfl, ha, hS, h⟩
     revert a
     show RC _ _ _ _ _ _
     refine sr (RL.s (Vl.fa 5 underlying27 rfl sizeOf3 rfl rfl) rfl (RL.s (Vl.ld 4 hS isAgg3 rfl rfl rfl) rfl (pn 1 rfl (RL.s (Vl.conv underlying5 underlying3 rfl) rfl (pn 1 rfl (RL.s (Vl.min2 rfl rfl) rfl (RL.s (Vl.fa 5 underlying27 rfl sizeOf3 rfl rfl) rfl (RL.e0 (OW.store (vs := [.int .i64 (if IntKind.i64.wrap (a1.Budget + (IntKind.i64.wrap a12)) < 4096 then IntKind.i64.wrap (a1.Budget + (IntKind.i64.wrap a12)) else 4096)]) 2 hS rfl rfl rfl rfl sizeOf3 rfl rfl rfl rfl) rfl ?_))))))))
     rintro _ w ⟨rfl, hS⟩
     have hS : St B w (_ :: _ :: Cl _ [_, _, _, _, _, _] _ :: _ :: _ :: l) hf := hS
     refine lnsr (RL.s (Vl.lw 2 hS isAgg27 sizeOf27 rfl rfl rfl) rfl (cF (fun _ hg => seq_Run.ok (a1 := (⟨a1.Progs, a1.Links, a1.Starts, a1.Seed, x80, (if IntKind.i64.wrap (a1.Budget + (IntKind.i64.wrap a12)) < 4096 then IntKind.i64.wrap (a1.Budget + (IntKind.i64.wrap a12)) else 4096)⟩ : api_Model)) hr4 hr7 hr10 hG0 hg hS) call9 h rfl rfl rfl ?_))
     rintro ⟨y83, y84, y85, y86⟩ h _ w ⟨A87, c88, A89, c90, rfl, hS⟩
     refine pn 3 rfl (al hS zeroValue31 rfl rfl rfl fun b91 w hS => RL.e0 (OW.store (vs := [.slice A87 y83.length c88, .slice A89 y84.length c90, .int .i64 y85]) 0 hS rfl rfl rfl rfl sizeOf31 rfl rfl rfl rfl) rfl ?_)
     rintro _ w ⟨rfl, hS⟩
     have hS : St B w (Cl _ [_, _, _] _ :: _ :: _ :: _ :: _ :: _ :: _ :: _ :: l) hf := hS
     refine pn 1 rfl (ln (RC.seq (RC.planS (plD [0, 3, 6, 9, 13, 15, 18, 22, 24, 27, 30, 33, 36, 40, 42, 46, 48, 52, 56, 59, 62, 65, 68, 71, 74, 77]) [20, 21, 22, 23, 24, 25] hS (fun w hS => hS) follows rfl (by kernel_rfl) (NoTmp.then NoTmp.body) fun w hS => pp 3 rfl ?_)))
     refine RP.iteP 44 rfl h (fun hc92 h => ?_) fun hc92 h => ?_
     next =>
      refine RP.sg0 3 rfl (fun w => Vl.fa 0 underlying31 rfl sizeOf28 rfl rfl) rfl rfl (RP.sg 4 rfl rfl hS (fun w hS => Vl.ld 0 hS isAgg28 rfl rfl rfl) rfl rfl (RP.sg0 5 rfl (fun w => Vl.lenSl underlying28 rfl) rfl rfl (RP.sg0 6 rfl (fun w => Vl.fa 0 underlying31 rfl sizeOf28 rfl rfl) rfl rfl (RP.sg 7 rfl rfl hS (fun w hS => Vl.ld 6 hS isAgg28 rfl rfl rfl) rfl rfl (RP.sg0 8 rfl (fun w => Vl.lenSl underlying28 rfl) rfl rfl (pp 3 rfl ?_))))))
      refine RP.iteP 53 rfl h (fun hc93 h => ?_) fun hc93 h => ?_
      next =>
       refine RP.sg0 12 rfl (fun w => Vl.fa 0 underlying31 rfl sizeOf28 rfl rfl) rfl rfl (RP.sg 13 rfl rfl hS (fun w hS => Vl.ld 0 hS isAgg28 rfl rfl rfl) rfl rfl (RP.sg0 14 rfl (fun w => Vl.fa 0 underlying31 rfl sizeOf28 rfl rfl) rfl rfl (RP.sg 15 rfl rfl hS (fun w hS => Vl.ld 6 hS isAgg28 rfl rfl rfl) rfl rfl (RP.sg0 16 rfl (fun w => Vl.lenSl underlying28 rfl) rfl rfl ?_))))
       obtain ⟨hq94, h⟩ := h.req
       refine RP.sg 17 rfl rfl hS (fun w hS => Vl.sliceHO (xs := y83) 1 hS rfl underlying28 sizeOf44 rfl rfl  hq94 hc93) rfl rfl (RP.v1 18 rfl (Vl.fa 0 underlying31 rfl sizeOf28 rfl rfl) rfl rfl (RP.v1 19 rfl (Vl.ld 6 hS isAgg28 rfl rfl rfl) rfl rfl ?_))
       obtain ⟨hf98, hs96, hS, hr95, hb97⟩ := St.lendSl hS.p3.p2
       obtain ⟨hf102, hs100, hS, hr99, hb101⟩ := St.lendSl hS
       obtain ⟨t103, hg104, h⟩ := h.bind
       have hc := isochronlaw14vhistory.ok ((hr95.sub (lo := 0) (hi := (y65.length : Int)) (m := c88) (Int.le_refl 0) hq94 hc93 (by have : y83.length ≤ c88 := hr95.1; omega)).mono hs100) hr99 hg104 hS
       refine RP.e 20 rfl (OW.callF (ls := [.tmp 59, .tmp 61]) rfl call15 hc) rfl rfl ?_
       rintro _ w ⟨rfl, hS⟩
       have hS := hb101 _ _ hS
       have hS := hb97 _ _ hS
       have hS : St B w (_ :: _ :: _ :: _ :: _ :: _ :: _ :: _ :: l) hf := hS
       refine ⟨(by intro hx; cases hx), ?_⟩
       refine RP.v1 21 rfl (Vl.pickT rfl rfl) rfl rfl (RP.v1 22 rfl (Vl.move rfl) rfl rfl ?_)
       refine RP.iteB 64 rfl h (fun hc105 h => ?_) fun hc105 h => ?_
       next =>
        obtain ⟨t106, hg107, h⟩ := h.bind
        have hc := isochronlaw14vawake.ok hG0 hg107 hS
        refine RP.e 23 rfl (OW.callF (ls := []) rfl call12 hc) rfl rfl ?_
        rintro _ w ⟨rfl, hS⟩
        refine ⟨(by intro hx; cases hx), ?_⟩
        refine RP.v1 24 rfl (Vl.pickT rfl rfl) rfl rfl (RP.v1 25 rfl (Vl.assign rfl) rfl rfl (RP.nil (tr ?_)))
        obtain rfl := h.some
        exact rt results5 rfl ⟨rfl, hS.d0.d0.d0.d0.d0.d0.d0.d0⟩
       next =>
        refine RP.n1 23 rfl rfl rfl (RP.v1 24 rfl (Vl.pickF rfl rfl) rfl rfl (RP.v1 25 rfl (Vl.assign rfl) rfl rfl (RP.nil (tr ?_))))
        obtain rfl := h.some
        exact rt results5 rfl ⟨rfl, hS.d0.d0.d0.d0.d0.d0.d0.d0⟩
      next =>
       refine pp 1 rfl (RP.nn 13 rfl rfl rfl (pp 1 rfl (RP.nn 15 rfl rfl rfl (pp 1 rfl (RP.nn 17 rfl rfl rfl (RP.n1 18 rfl rfl rfl (RP.n1 19 rfl rfl rfl (RP.n1 20 rfl rfl rfl (RP.v1 21 rfl (Vl.pickF rfl rfl) rfl rfl (RP.v1 22 rfl (Vl.move rfl) rfl rfl (RP.n1 23 rfl rfl rfl (RP.v1 24 rfl (Vl.pickF rfl rfl) rfl rfl (RP.v1 25 rfl (Vl.assign rfl) rfl rfl (RP.nil (RQ.then_n ?_)))))))))))))))
       refine RC.ret ?_
       obtain rfl := h.some
       exact rt results5 rfl ⟨rfl, hS.d0.d0.d0.d0.d0.d0.d0.d0⟩
     next =>
      refine pp 1 rfl (RP.nn 4 rfl rfl rfl (pp 2 rfl (RP.nn 7 rfl rfl rfl (pp 5 rfl (RP.nn 13 rfl rfl rfl (pp 1 rfl (RP.nn 15 rfl rfl rfl (pp 1 rfl (RP.nn 17 rfl rfl rfl (RP.n1 18 rfl rfl rfl (RP.n1 19 rfl rfl rfl (RP.n1 20 rfl rfl rfl (RP.v1 21 rfl (Vl.pickF rfl rfl) rfl rfl (RP.v1 22 rfl (Vl.move rfl) rfl rfl (RP.n1 23 rfl rfl rfl ?_)))))))))))))))
      refine RP.v1 24 rfl (Vl.pickF rfl rfl) rfl rfl (RP.v1 25 rfl (Vl.assign rfl) rfl rfl (RP.nil (tr ?_)))
      obtain rfl := h.some
      exact rt results5 rfl ⟨rfl, hS.d0.d0.d0.d0.d0.d0.d0.d0⟩
   · refine RC.seq ?_
     refine RC.region (RL.s (Vl.fa 4 underlying27 rfl sizeOf2 rfl rfl) rfl (RL.s (Vl.ld 4 hS isAgg2 rfl rfl rfl) rfl (pn 1 rfl (ln ?_))))
     refine RC.iteP 23 rfl h (fun hc108 h => ?_) fun hc108 h => ?_
     next =>
      refine RC.condT rfl (RC.region (RL.s (Vl.fa 4 underlying27 rfl sizeOf2 rfl rfl) rfl (RL.s (Vl.ld 4 hS isAgg2 rfl rfl rfl) rfl (pn 1 rfl (RL.s (Vl.conv underlying5 underlying2 rfl) rfl (pn 1 rfl (RL.s (Vl.fa 4 underlying27 rfl sizeOf2 rfl rfl) rfl (RL.e0 (OW.store (vs := [.int .i64 (IntKind.i64.wrap (a1.End + (IntKind.i64.wrap a11)))]) 0 hS rfl rfl rfl rfl sizeOf2 rfl rfl rfl rfl) rfl ?_))))))))
      rintro _ w ⟨rfl, hS⟩
      have hS : St B w (Cl _ [_, _, _, _, _, _] _ :: _ :: _ :: _ :: _ :: l) hf := hS
      refine RL.nil ?_
      exact fun a ha => ⟨(IntKind.i64.wrap (a1.End + (IntKind.i64.wrap a11))), (IntKind.i64.wrap (a1.End + (IntKind.i64.wrap a11))), rfl, ha.to ⟨rfl, rfl, rfl, rfl, trivial⟩, hS.p3.p3, h⟩
     next =>
      refine RC.condF rfl (RC.skip ?_)
      exact fun a ha => ⟨(a1.End), a1.End, rfl, ha.to ⟨rfl, rfl, rfl, rfl, trivial⟩, hS.p3.p3, h⟩
  next =>
   refine RC.condT rfl (sr (cF (fun _ hg => isochronlaw14vawake.ok hG0 hg hS) call12 h rfl rfl rfl ?_))
   rintro t109 h _ w ⟨rfl, hS⟩
   refine pn 1 rfl (lr (RQ.ret ?_))
   obtain rfl := h.some
   exact rt results5 rfl ⟨rfl, hS.d0.d0.d0.d0⟩

end Go.Proofs.Gx
