/-
  The walks of functions, each with what it computes: printed by wip/gx.py.
-/
import Derived.Test.YtofgeidjbfmmdaaGreatDoorW0
import Derived.Test.YtofgeidjbfmmdaaGreatDoorW14
import Derived.Test.YtofgeidjbfmmdaaGreatDoorW18
import Derived.Test.YtofgeidjbfmmdaaGreatDoorW9
set_option linter.unusedVariables false
set_option maxRecDepth 100000
set_option maxHeartbeats 4000000
namespace Go.Proofs.Gx
open Go.Sl Tryz
variable {B : Base} {w : World} {l : List HProp} {hf : Hp}
/-! ### isochron/isochronlaw14.SeqBegins: function 6 -/
noncomputable def isochronlaw14vSeqBegins.f (a1 : api_Model) (a11 a12 : Int) : Option (Bool) := ((seq_Run.f a1).bind fun (y88, y89, y90, y91) => ((seq_Part.f a1 (IntKind.i64.wrap a11)).bind fun (y99, y100, y101, y102) => ((seq_Part.f a1 (IntKind.i64.wrap ((IntKind.i64.wrap a11) + (IntKind.i64.wrap a12)))).bind fun (y110, y111, y112, y113) => (if y91 = y102 then (if y91 = y113 then (if (y110.length : Int) < (y99.length : Int) then some false else (if (y88.length : Int) < (y110.length : Int) then some false else (if (y99.length : Int) = (if (y88.length : Int) < IntKind.i64.wrap a11 then (y88.length : Int) else IntKind.i64.wrap a11) then (if 0 ≤ (y99.length : Int) ∧ (y99.length : Int) ≤ (y110.length : Int) then ((isochronlaw14vhistory.f y99 (subL y110 0 (y99.length : Int))).bind fun t139 => (if t139 = true then (if 0 ≤ (y110.length : Int) ∧ (y110.length : Int) ≤ (y88.length : Int) then ((isochronlaw14vhistory.f y110 (subL y88 0 (y110.length : Int))).bind fun t152 => (if t152 = true then ((isochronlaw14vawake.f).bind fun t155 => some t155) else some false)) else none) else some false)) else none) else some false))) else some false) else some false))))
theorem isochronlaw14vSeqBegins.ok {a1 : api_Model} {a11 a12 : Int} {A2 : Option Addr} {c3 : Nat} {A5 : Option Addr} {c6 : Nat} {A8 : Option Addr} {c9 : Nat} (hr4 : SlR (Rep.sl E_api_Instr.rep) hf A2 c3 a1.Progs) (hr7 : SlR E_api_Link.rep hf A5 c6 a1.Links) (hr10 : SlR E_api_Start.rep hf A8 c9 a1.Starts) (hG0 : GlobAt hf 0 (.iface 148 (.agg #[.pointer (some ⟨1, 83, none⟩)]))) {r : Bool} (h : isochronlaw14vSeqBegins.f a1 a11 a12 = some r) (hS : St B w (l) hf) :
    Calls prog 6 #[.agg #[.slice A2 a1.Progs.length c3, .slice A5 a1.Links.length c6, .slice A8 a1.Starts.length c9, .int .u64 a1.Seed, .int .i64 a1.End, .int .i64 a1.Budget], .int .u8 a11, .int .u8 a12] w (Ret fun v w => v = .bool r ∧ St B w (l) hf) := by
  have h := Holds.of h
  refine en func6 rfl ntmps6 rfl (sr (bx hS rfl rfl rfl rfl fun b85 w hS => pn 1 rfl (lnsr (RL.s (Vl.lw 0 hS isAgg27 sizeOf27 rfl rfl rfl) rfl (cF (fun _ hg => seq_Run.ok hr4 hr7 hr10 hG0 hg hS) call9 h rfl rfl rfl ?_)))))
  rintro ⟨y88, y89, y90, y91⟩ h _ w ⟨A92, c93, A94, c95, rfl, hS⟩
  refine pn 3 rfl (al hS zeroValue31 rfl rfl rfl fun b96 w hS => RL.e0 (OW.store (vs := [.slice A92 y88.length c93, .slice A94 y89.length c95, .int .i64 y90]) 0 hS rfl rfl rfl rfl sizeOf31 rfl rfl rfl rfl) rfl ?_)
  rintro _ w ⟨rfl, hS⟩
  have hS : St B w (Cl _ [_, _, _] _ :: _ :: _ :: _ :: l) hf := hS
  refine pn 1 rfl (lnsr (RL.s (Vl.lw 3 hS isAgg27 sizeOf27 rfl rfl rfl) rfl (pn 1 rfl (RL.s (Vl.conv underlying5 underlying3 rfl) rfl (cF (fun _ hg => seq_Part.ok hr4 hr7 hr10 hG0 hg hS) call16 h rfl rfl rfl ?_)))))
  rintro ⟨y99, y100, y101, y102⟩ h _ w ⟨A103, c104, A105, c106, rfl, hS⟩
  refine pn 3 rfl (al hS zeroValue31 rfl rfl rfl fun b107 w hS => RL.e0 (OW.store (vs := [.slice A103 y99.length c104, .slice A105 y100.length c106, .int .i64 y101]) 0 hS rfl rfl rfl rfl sizeOf31 rfl rfl rfl rfl) rfl ?_)
  rintro _ w ⟨rfl, hS⟩
  have hS : St B w (Cl _ [_, _, _] _ :: _ :: _ :: _ :: _ :: _ :: _ :: l) hf := hS
  refine pn 1 rfl (lnsr (RL.s (Vl.lw 6 hS isAgg27 sizeOf27 rfl rfl rfl) rfl (pn 1 rfl (RL.s (Vl.conv underlying5 underlying3 rfl) rfl (pn 1 rfl (RL.s (Vl.conv underlying5 underlying3 rfl) rfl (pn 1 rfl (cF (fun _ hg => seq_Part.ok hr4 hr7 hr10 hG0 hg hS) call16 h rfl rfl rfl ?_))))))))
  rintro ⟨y110, y111, y112, y113⟩ h _ w ⟨A114, c115, A116, c117, rfl, hS⟩
  refine pn 3 rfl (al hS zeroValue31 rfl rfl rfl fun b118 w hS => RL.e0 (OW.store (vs := [.slice A114 y110.length c115, .slice A116 y111.length c117, .int .i64 y112]) 0 hS rfl rfl rfl rfl sizeOf31 rfl rfl rfl rfl) rfl ?_)
  rintro _ w ⟨rfl, hS⟩
  have hS : St B w (Cl _ [_, _, _] _ :: _ :: _ :: _ :: _ :: _ :: _ :: _ :: _ :: _ :: l) hf := hS
  refine pn 1 rfl (ln (RC.seq (sr (pn 4 rfl ?_))))
  refine RL.iteN 38 rfl h (fun hc121 h => ?_) fun hc121 h => ?_
  next =>
   refine pn 4 rfl (ln ?_)
   refine RC.iteN 42 rfl h (fun hc122 h => ?_) fun hc122 h => ?_
   next =>
    refine RC.condF rfl (sk (RC.seq (sr (RL.s (Vl.fa 0 underlying31 rfl sizeOf28 rfl rfl) rfl (RL.s (Vl.ld 3 hS isAgg28 rfl rfl rfl) rfl (RL.s (Vl.lenSl underlying28 rfl) rfl (RL.s (Vl.fa 0 underlying31 rfl sizeOf28 rfl rfl) rfl (RL.s (Vl.ld 0 hS isAgg28 rfl rfl rfl) rfl (RL.s (Vl.lenSl underlying28 rfl) rfl (pn 2 rfl ?_))))))))))
    refine RL.iteP 50 rfl h (fun hc126 h => ?_) fun hc126 h => ?_
    next =>
     refine pn 20 rfl (ln (RC.condT rfl (sr (pn 1 rfl (lr (RQ.ret ?_))))))
     obtain rfl := h.some
     exact rt results6 rfl ⟨rfl, hS.d0.d0.d0.d0.d0.d0.d0.d0.d0.d0⟩
    next =>
     refine RL.sg (Vl.fa 0 underlying31 rfl sizeOf28 rfl rfl) rfl rfl (RL.sg (Vl.ld 0 hS isAgg28 rfl rfl rfl) rfl rfl (RL.sg (Vl.lenSl underlying28 rfl) rfl rfl (RL.sg (Vl.fa 0 underlying31 rfl sizeOf28 rfl rfl) rfl rfl (RL.sg (Vl.ld 6 hS isAgg28 rfl rfl rfl) rfl rfl (RL.sg (Vl.lenSl underlying28 rfl) rfl rfl (pn 3 rfl ?_))))))
     refine RL.iteP 59 rfl h (fun hc127 h => ?_) fun hc127 h => ?_
     next =>
      refine pn 11 rfl (ln (RC.condT rfl (sr (pn 1 rfl (lr (RQ.ret ?_))))))
      obtain rfl := h.some
      exact rt results6 rfl ⟨rfl, hS.d0.d0.d0.d0.d0.d0.d0.d0.d0.d0⟩
     next =>
      refine RL.sg (Vl.fa 0 underlying31 rfl sizeOf28 rfl rfl) rfl rfl (RL.sg (Vl.ld 3 hS isAgg28 rfl rfl rfl) rfl rfl (RL.sg (Vl.lenSl underlying28 rfl) rfl rfl (pn 1 rfl (RL.sg (Vl.conv underlying5 underlying3 rfl) rfl rfl (RL.sg (Vl.fa 0 underlying31 rfl sizeOf28 rfl rfl) rfl rfl (RL.sg (Vl.ld 6 hS isAgg28 rfl rfl rfl) rfl rfl (RL.sg (Vl.lenSl underlying28 rfl) rfl rfl (RL.sg (Vl.min2 rfl rfl) rfl rfl (pn 2 rfl (ln ?_))))))))))
      refine RC.iteN 70 rfl h (fun hc128 h => ?_) fun hc128 h => ?_
      next =>
       refine RC.condF rfl (sk (RC.seq (RC.planS (plD [0, 4, 6, 10, 12, 16, 18, 22, 26, 27, 30, 34, 36, 40, 44, 47, 50, 53, 56, 59, 62, 65, 68, 71]) [18, 19, 20, 21, 22, 23] hS (fun w hS => hS) follows rfl (by kernel_rfl) (NoTmp.then NoTmp.body) fun w hS => RP.s0 0 rfl (fun w => Vl.fa 0 underlying31 rfl sizeOf28 rfl rfl) rfl (RP.s 1 rfl rfl hS (fun w hS => Vl.ld 3 hS isAgg28 rfl rfl rfl) rfl (RP.s0 2 rfl (fun w => Vl.fa 0 underlying31 rfl sizeOf28 rfl rfl) rfl (RP.s 3 rfl rfl hS (fun w hS => Vl.ld 0 hS isAgg28 rfl rfl rfl) rfl (RP.s0 4 rfl (fun w => Vl.fa 0 underlying31 rfl sizeOf28 rfl rfl) rfl (RP.s 5 rfl rfl hS (fun w hS => Vl.ld 3 hS isAgg28 rfl rfl rfl) rfl (RP.s0 6 rfl (fun w => Vl.lenSl underlying28 rfl) rfl ?_)))))))))
       obtain ⟨⟨hq129, hq130⟩, h⟩ := h.req
       refine RP.s 7 rfl rfl hS (fun w hS => Vl.sliceHO (xs := y110) 1 hS rfl underlying28 sizeOf44 rfl rfl  hq129 hq130) rfl ?_
       obtain ⟨hf134, hs132, hS, hr131, hb133⟩ := St.lendSl hS.p1.p4
       obtain ⟨hf138, hs136, hS, hr135, hb137⟩ := St.lendSl hS
       obtain ⟨t139, hg140, h⟩ := h.bind
       have hc := isochronlaw14vhistory.ok (hr131.mono hs136) (hr135.sub (lo := 0) (hi := (y99.length : Int)) (m := c115) (Int.le_refl 0) hq129 hq130 (by have : y110.length ≤ c115 := hr135.1; omega)) hg140 hS
       refine RP.e 8 rfl (OW.callF (ls := [.tmp 72, .tmp 78]) rfl call15 hc) rfl rfl ?_
       rintro _ w ⟨rfl, hS⟩
       have hS := hb137 _ _ hS
       have hS := hb133 _ _ hS
       have hS : St B w (_ :: _ :: _ :: _ :: _ :: _ :: _ :: _ :: _ :: _ :: l) hf := hS
       refine ⟨fun _ => hS.p4.p4.p3.p4, ?_⟩
       refine pp 1 rfl ?_
       refine RP.iteB 80 rfl h (fun hc141 h => ?_) fun hc141 h => ?_
       next =>
        refine RP.sg0 10 rfl (fun w => Vl.fa 0 underlying31 rfl sizeOf28 rfl rfl) rfl rfl (RP.sg 11 rfl rfl hS.p4.p4.p3.p4 (fun w hS => Vl.ld 0 hS isAgg28 rfl rfl rfl) rfl rfl (RP.sg0 12 rfl (fun w => Vl.fa 0 underlying31 rfl sizeOf28 rfl rfl) rfl rfl (RP.sg 13 rfl rfl hS.p4.p4.p3.p4 (fun w hS => Vl.ld 6 hS isAgg28 rfl rfl rfl) rfl rfl (RP.v1 14 rfl (Vl.fa 0 underlying31 rfl sizeOf28 rfl rfl) rfl rfl (RP.v1 15 rfl (Vl.ld 2 hS isAgg28 rfl rfl rfl) rfl rfl (RP.v1 16 rfl (Vl.lenSl underlying28 rfl) rfl rfl ?_))))))
        obtain ⟨⟨hq142, hq143⟩, h⟩ := h.req
        refine RP.v1 17 rfl (Vl.sliceHO (xs := y88) 7 hS rfl underlying28 sizeOf44 rfl rfl  hq142 hq143) rfl rfl ?_
        obtain ⟨hf147, hs145, hS, hr144, hb146⟩ := St.lendSl hS.p7.p2
        obtain ⟨hf151, hs149, hS, hr148, hb150⟩ := St.lendSl hS
        obtain ⟨t152, hg153, h⟩ := h.bind
        have hc := isochronlaw14vhistory.ok (hr144.mono hs149) (hr148.sub (lo := 0) (hi := (y110.length : Int)) (m := c93) (Int.le_refl 0) hq142 hq143 (by have : y88.length ≤ c93 := hr148.1; omega)) hg153 hS
        refine RP.e 18 rfl (OW.callF (ls := [.tmp 82, .tmp 88]) rfl call15 hc) rfl rfl ?_
        rintro _ w ⟨rfl, hS⟩
        have hS := hb150 _ _ hS
        have hS := hb146 _ _ hS
        have hS : St B w (_ :: _ :: _ :: _ :: _ :: _ :: _ :: _ :: _ :: _ :: l) hf := hS
        refine ⟨(by intro hx; cases hx), ?_⟩
        refine RP.v1 19 rfl (Vl.pickT rfl rfl) rfl rfl (RP.v1 20 rfl (Vl.move rfl) rfl rfl ?_)
        refine RP.iteB 91 rfl h (fun hc154 h => ?_) fun hc154 h => ?_
        next =>
         obtain ⟨t155, hg156, h⟩ := h.bind
         have hc := isochronlaw14vawake.ok hG0 hg156 hS
         refine RP.e 21 rfl (OW.callF (ls := []) rfl call12 hc) rfl rfl ?_
         rintro _ w ⟨rfl, hS⟩
         refine ⟨(by intro hx; cases hx), ?_⟩
         refine RP.v1 22 rfl (Vl.pickT rfl rfl) rfl rfl (RP.v1 23 rfl (Vl.assign rfl) rfl rfl (RP.nil (tr ?_)))
         obtain rfl := h.some
         exact rt results6 rfl ⟨rfl, hS.d0.d0.d0.d0.d0.d0.d0.d0.d0.d0⟩
        next =>
         refine RP.n1 21 rfl rfl rfl (RP.v1 22 rfl (Vl.pickF rfl rfl) rfl rfl (RP.v1 23 rfl (Vl.assign rfl) rfl rfl (RP.nil (tr ?_))))
         obtain rfl := h.some
         exact rt results6 rfl ⟨rfl, hS.d0.d0.d0.d0.d0.d0.d0.d0.d0.d0⟩
       next =>
        refine pp 1 rfl (RP.nn 11 rfl rfl rfl (pp 1 rfl (RP.nn 13 rfl rfl rfl (RP.n1 14 rfl rfl rfl (RP.n1 15 rfl rfl rfl (RP.n1 16 rfl rfl rfl (RP.n1 17 rfl rfl rfl (RP.n1 18 rfl rfl rfl (RP.v1 19 rfl (Vl.pickF rfl rfl) rfl rfl (RP.v1 20 rfl (Vl.move rfl) rfl rfl (RP.n1 21 rfl rfl rfl (RP.v1 22 rfl (Vl.pickF rfl rfl) rfl rfl (RP.v1 23 rfl (Vl.assign rfl) rfl rfl (RP.nil (RQ.then_n ?_)))))))))))))))
        refine RC.ret ?_
        obtain rfl := h.some
        exact rt results6 rfl ⟨rfl, hS.d0.d0.d0.d0.d0.d0.d0.d0.d0.d0⟩
      next =>
       refine RC.condT rfl (sr (pn 1 rfl (lr (RQ.ret ?_))))
       obtain rfl := h.some
       exact rt results6 rfl ⟨rfl, hS.d0.d0.d0.d0.d0.d0.d0.d0.d0.d0⟩
   next =>
    refine RC.condT rfl (sr (pn 1 rfl (lr (RQ.ret ?_))))
    obtain rfl := h.some
    exact rt results6 rfl ⟨rfl, hS.d0.d0.d0.d0.d0.d0.d0.d0.d0.d0⟩
  next =>
   refine pn 4 rfl (ln (RC.condT rfl (sr (pn 1 rfl (lr (RQ.ret ?_))))))
   obtain rfl := h.some
   exact rt results6 rfl ⟨rfl, hS.d0.d0.d0.d0.d0.d0.d0.d0.d0.d0⟩

end Go.Proofs.Gx
