/-
  The walks of functions, each with what it computes: printed by wip/gx.py.
-/
import Derived.Test.YtbkjjaikmngciaaGreatDoorW0
import Derived.Test.YtbkjjaikmngciaaGreatDoorW1
import Derived.Test.YtbkjjaikmngciaaGreatDoorW11
import Derived.Test.YtbkjjaikmngciaaGreatDoorW3
import Derived.Test.YtbkjjaikmngciaaGreatDoorW9
set_option linter.unusedVariables false
set_option linter.unusedSimpArgs false
set_option maxRecDepth 100000
set_option maxHeartbeats 4000000
namespace Go.Proofs.Gx
open Go.Sl Tryz
variable {B : Base} {w : World} {l : List HProp} {hf : Hp}
noncomputable section
def isochronlaw21vScriptBack.f (a1 : api_Model) (a11 : api_Caps) (a12 : List api_Pick) : Option (Bool) := ((script_Print.f a1 a11 a12).bind fun (y109, y110) => (if y110 = 0 then ((script_Parse.f y109).bind fun (y142, y143, y144, y145, y146) => (if y146 = 0 then (if y145 = 0 then ((isochronlaw21vsame.f a1 y142 a11 y143 a12 y144).bind fun t173 => some t173) else some false) else some false)) else (if y109 = lit_ then (if y110 = 1 then ((isochronlaw21vawake.f).bind fun t177 => some t177) else (if y110 = 2 then ((isochronlaw21vawake.f).bind fun t180 => some t180) else some false)) else some false)))
theorem isochronlaw21vScriptBack.ok {a1 : api_Model} {a11 : api_Caps} {a12 : List api_Pick} {A2 A5 A8 A13 : Option Addr} {c3 c6 c9 c14 : Nat} (hr4 : SlR (Rep.sl E_api_Instr.rep) hf A2 c3 a1.Progs) (hr7 : SlR E_api_Link.rep hf A5 c6 a1.Links) (hr10 : SlR E_api_Start.rep hf A8 c9 a1.Starts) (hr15 : SlR E_api_Pick.rep hf A13 c14 a12) (hT : TabH prog hf) (hG0 : GlobAt hf 0 (.iface 144 (.agg #[.pointer (some ⟨9, 53, none⟩)]))) {r : Bool} (h : isochronlaw21vScriptBack.f a1 a11 a12 = some r) (hS : St B w (l) hf) :
    Calls prog 5 #[.agg (C_api_Model a1 A2 c3 A5 c6 A8 c9).toArray, .agg (C_api_Caps a11).toArray, sV A13 a12 c14] w (Ret fun v w => v = .bool r ∧ St B w (l) hf) := by
  have h := Holds.of h
  refine en func5 rfl ntmps5 rfl (sr (rr [0, 0, 0] hS ?_))
  refine fun b101 b102 => it fun w hS => lnsr (rr [2, 1, 0] hS ?_)
  refine it fun w hS => cF (fun _ hg => script_Print.ok hr4 hr7 hr10 hr15 hT hg hS) call9 h rfl rfl rfl ?_
  rintro ⟨y109, y110⟩ h _ w ⟨rfl, hS⟩
  refine pn 5 rfl (ln (RC.seq (sr (pn 2 rfl (ln ?_)))))
  refine RC.iteN 22 rfl h (fun hc119 h => ?_) fun hc119 h => ?_
  next =>
   refine jfs (sr (pn 1 rfl (cF (fun _ hg => script_Parse.ok hT hg hS) call11 h rfl rfl rfl ?_)))
   rintro ⟨y142, y143, y144, y145, y146⟩ h _ w ⟨hf, hs156, A147, c148, A150, c151, A152, c153, A154, c155, rfl, hS, hr149⟩
   refine rr [0, 0, 0, 0, 0, 0, 0, 0, 2, 1, 0, 0, 0] hS ?_
   refine fun b157 b158 => it fun w hS => lnsr (pn 3 rfl ?_)
   refine RL.iteP 46 rfl h (fun hc159 h => ?_) fun hc159 h => ?_
   next =>
    refine pn 4 rfl ?_
    refine RL.iteP 50 rfl h (fun hc160 h => ?_) fun hc160 h => ?_
    next =>
     refine rr [7, 2, 6, 1, 0, 0] hS ?_
     refine it fun w hS => ?_
     obtain ⟨hf164, hs162, hS, hr161, hb163⟩ := St.lendSl hS.p4.p4.p4
     obtain ⟨hf168, hs166, hS, hr165, hb167⟩ := St.lendSl hS
     obtain ⟨hf172, hs170, hS, hr169, hb171⟩ := St.lendSl hS
     obtain ⟨t173, hg174, h⟩ := h.bind
     have hc := isochronlaw21vsame.ok ((((hr4.mono hs156).mono hs162).mono hs166).mono hs170) ((((hr7.mono hs156).mono hs162).mono hs166).mono hs170) ((((hr10.mono hs156).mono hs162).mono hs166).mono hs170) (((hr149.mono hs162).mono hs166).mono hs170) ((hr161.mono hs166).mono hs170) (hr165.mono hs170) ((((hr15.mono hs156).mono hs162).mono hs166).mono hs170) hr169 hg174 hS
     refine RL.e (OW.callF (ls := [.tmp 51, .tmp 52, .tmp 53, .tmp 54, .tmp 55, .tmp 56]) rfl call12 hc) rfl rfl ?_
     rintro _ w ⟨rfl, hS⟩
     have hS := hb171 _ _ hS
     have hS := hb167 _ _ hS
     have hS := hb163 _ _ hS
     have hS : St B w (_ :: _ :: _ :: _ :: _ :: _ :: _ :: l) hf := hS
     refine pn 2 rfl (lr ?_)
     obtain rfl := h.some
     exact rt results5 rfl ⟨rfl, (hS.d0.d0.d0.d0.d0.d0.d0).down hs156⟩
    refine pn 9 rfl (lr ?_)
    obtain rfl := h.some
    exact rt results5 rfl ⟨rfl, (hS.d0.d0.d0.d0.d0.d0.d0).down hs156⟩
   refine pn 13 rfl (lr ?_)
   obtain rfl := h.some
   exact rt results5 rfl ⟨rfl, (hS.d0.d0.d0.d0.d0.d0.d0).down hs156⟩
  refine jtr (pn 1 rfl (RL.s (Vl.strEq rfl rfl) rfl (pn 1 rfl ?_)))
  refine RL.iteP 25 rfl h (fun hc175 h => ?_) fun hc175 h => ?_
  next =>
   refine pn 3 rfl ?_
   refine RL.iteP 28 rfl h (fun hc176 h => ?_) fun hc176 h => ?_
   next =>
    refine pn 5 rfl (cF (fun _ hg => isochronlaw21vawake.ok hT hG0 hg hS) call8 h rfl rfl rfl ?_)
    rintro t177 h _ w ⟨rfl, hS⟩
    refine pn 2 rfl (lr (RQ.ret ?_))
    obtain rfl := h.some
    exact rt results5 rfl ⟨rfl, hS.d0.d0⟩
   refine pn 5 rfl ?_
   refine RL.iteP 33 rfl h (fun hc179 h => ?_) fun hc179 h => ?_
   next =>
    refine cF (fun _ hg => isochronlaw21vawake.ok hT hG0 hg hS) call8 h rfl rfl rfl ?_
    rintro t180 h _ w ⟨rfl, hS⟩
    refine pn 2 rfl (lr (RQ.ret ?_))
    obtain rfl := h.some
    exact rt results5 rfl ⟨rfl, hS.d0.d0⟩
   refine pn 3 rfl (lr (RQ.ret ?_))
   obtain rfl := h.some
   exact rt results5 rfl ⟨rfl, hS.d0.d0⟩
  refine pn 11 rfl (lr (RQ.ret ?_))
  obtain rfl := h.some
  exact rt results5 rfl ⟨rfl, hS.d0.d0⟩
end
end Go.Proofs.Gx
