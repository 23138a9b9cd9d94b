/-
  The walks of functions, each with what it computes: printed by wip/gx.py.
-/
import Derived.Test.YtbkjjaikmngciaaGreatDoorW0
import Derived.Test.YtbkjjaikmngciaaGreatDoorW1
import Derived.Test.YtbkjjaikmngciaaGreatDoorW2
import Derived.Test.YtbkjjaikmngciaaGreatDoorW9
set_option linter.unusedVariables false
set_option linter.unusedSimpArgs false
set_option maxRecDepth 100000
set_option maxHeartbeats 4000000
namespace Go.Proofs.Gx
open Go.Sl Tryz
variable {B : Base} {w : World} {l : List HProp} {hf : Hp}
noncomputable section
def isochronlaw21vScriptPrints.f (a1 : api_Model) (a11 : api_Caps) (a12 : List api_Pick) : Option (Bool) := ((script_Print.f a1 a11 a12).bind fun (y50, y51) => ((isochronref21vPrint.f a1 a11 a12).bind fun (y58, y59) => (if y50 = y58 then (if y51 = y59 then ((isochronlaw21vawake.f).bind fun t62 => some t62) else some false) else some false)))
theorem isochronlaw21vScriptPrints.ok {a1 : api_Model} {a11 : api_Caps} {a12 : List api_Pick} {A2 A5 A8 A13 : Option Addr} {c3 c6 c9 c14 : Nat} (hr4 : SlR (Rep.sl E_api_Instr.rep) hf A2 c3 a1.Progs) (hr7 : SlR E_api_Link.rep hf A5 c6 a1.Links) (hr10 : SlR E_api_Start.rep hf A8 c9 a1.Starts) (hr15 : SlR E_api_Pick.rep hf A13 c14 a12) (hT : TabH prog hf) (hG0 : GlobAt hf 0 (.iface 144 (.agg #[.pointer (some ⟨9, 53, none⟩)]))) {r : Bool} (h : isochronlaw21vScriptPrints.f a1 a11 a12 = some r) (hS : St B w (l) hf) :
    Calls prog 4 #[.agg (C_api_Model a1 A2 c3 A5 c6 A8 c9).toArray, .agg (C_api_Caps a11).toArray, sV A13 a12 c14] w (Ret fun v w => v = .bool r ∧ St B w (l) hf) := by
  have h := Holds.of h
  refine en func4 rfl ntmps4 rfl (sr (rr [0, 0, 0] hS ?_))
  refine fun b42 b43 => it fun w hS => lnsr (rr [2, 1, 0] hS ?_)
  refine it fun w hS => cF (fun _ hg => script_Print.ok hr4 hr7 hr10 hr15 hT hg hS) call9 h rfl rfl rfl ?_
  rintro ⟨y50, y51⟩ h _ w ⟨rfl, hS⟩
  refine pn 5 rfl (lnsr (rr [2, 1, 0] hS ?_))
  refine it fun w hS => cF (fun _ hg => isochronref21vPrint.ok hr4 hr7 hr10 hr15 hg hS) call10 h rfl rfl rfl ?_
  rintro ⟨y58, y59⟩ h _ w ⟨rfl, hS⟩
  refine pn 5 rfl (lnsr (pn 2 rfl (RL.s (Vl.strEq rfl rfl) rfl (pn 1 rfl ?_))))
  refine RL.iteP 28 rfl h (fun hc60 h => ?_) fun hc60 h => ?_
  next =>
   refine pn 5 rfl ?_
   refine RL.iteP 33 rfl h (fun hc61 h => ?_) fun hc61 h => ?_
   next =>
    refine cF (fun _ hg => isochronlaw21vawake.ok hT hG0 hg hS) call8 h rfl rfl rfl ?_
    rintro t62 h _ w ⟨rfl, hS⟩
    refine pn 2 rfl (lr ?_)
    obtain rfl := h.some
    exact rt results4 rfl ⟨rfl, hS.d0.d0⟩
   refine pn 3 rfl (lr ?_)
   obtain rfl := h.some
   exact rt results4 rfl ⟨rfl, hS.d0.d0⟩
  refine pn 8 rfl (lr ?_)
  obtain rfl := h.some
  exact rt results4 rfl ⟨rfl, hS.d0.d0⟩
end
end Go.Proofs.Gx
