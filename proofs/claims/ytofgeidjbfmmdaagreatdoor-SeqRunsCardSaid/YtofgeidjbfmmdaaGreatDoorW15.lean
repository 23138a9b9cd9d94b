/-
  The walks of functions, each with what it computes: printed by wip/gx.py.
-/
import Derived.Test.YtofgeidjbfmmdaaGreatDoorW0
import Derived.Test.YtofgeidjbfmmdaaGreatDoorW14
import Derived.Test.YtofgeidjbfmmdaaGreatDoorW9
set_option linter.unusedVariables false
set_option maxRecDepth 100000
set_option maxHeartbeats 4000000
namespace Go.Proofs.Gx
open Go.Sl Tryz
variable {B : Base} {w : World} {l : List HProp} {hf : Hp}
/-! ### isochron/isochronlaw14.SeqRuns: function 3 -/
noncomputable def isochronlaw14vSeqRuns.f (a1 : api_Model) : Option (Bool) := ((seq_Run.f a1).bind fun (y59, y60, y61, y62) => ((isochronref14vRun.f a1).bind fun (y70, y71, y72, y73) => ((isochronlaw14vresult.f (⟨y59, y60, y61⟩ : api_Result) (⟨y70, y71, y72⟩ : api_Result)).bind fun t95 => (if t95 = true then (if y62 = y73 then ((isochronlaw14vawake.f).bind fun t99 => some t99) else some false) else some false))))
theorem isochronlaw14vSeqRuns.ok {a1 : api_Model} {A2 : Option Addr} {c3 : Nat} {A5 : Option Addr} {c6 : Nat} {A8 : Option Addr} {c9 : Nat} (hr4 : SlR (Rep.sl E_api_Instr.rep) hf A2 c3 a1.Progs) (hr7 : SlR E_api_Link.rep hf A5 c6 a1.Links) (hr10 : SlR E_api_Start.rep hf A8 c9 a1.Starts) (hG0 : GlobAt hf 0 (.iface 148 (.agg #[.pointer (some ⟨1, 83, none⟩)]))) {r : Bool} (h : isochronlaw14vSeqRuns.f a1 = some r) (hS : St B w (l) hf) :
    Calls prog 3 #[.agg #[.slice A2 a1.Progs.length c3, .slice A5 a1.Links.length c6, .slice A8 a1.Starts.length c9, .int .u64 a1.Seed, .int .i64 a1.End, .int .i64 a1.Budget]] w (Ret fun v w => v = .bool r ∧ St B w (l) hf) := by
  have h := Holds.of h
  refine en func3 rfl ntmps3 rfl (sr (bx hS rfl rfl rfl rfl fun b56 w hS => pn 1 rfl (lnsr (RL.s (Vl.lw 0 hS isAgg27 sizeOf27 rfl rfl rfl) rfl (cF (fun _ hg => seq_Run.ok hr4 hr7 hr10 hG0 hg hS) call9 h rfl rfl rfl ?_)))))
  rintro ⟨y59, y60, y61, y62⟩ h _ w ⟨A63, c64, A65, c66, rfl, hS⟩
  refine pn 3 rfl (al hS zeroValue31 rfl rfl rfl fun b67 w hS => RL.e0 (OW.store (vs := [.slice A63 y59.length c64, .slice A65 y60.length c66, .int .i64 y61]) 0 hS rfl rfl rfl rfl sizeOf31 rfl rfl rfl rfl) rfl ?_)
  rintro _ w ⟨rfl, hS⟩
  have hS : St B w (Cl _ [_, _, _] _ :: _ :: _ :: _ :: l) hf := hS
  refine pn 1 rfl (lnsr (RL.s (Vl.lw 3 hS isAgg27 sizeOf27 rfl rfl rfl) rfl (cF (fun _ hg => isochronref14vRun.ok hr4 hr7 hr10 hg hS) call10 h rfl rfl rfl ?_)))
  rintro ⟨y70, y71, y72, y73⟩ h _ w ⟨A74, c75, A76, c77, rfl, hS⟩
  refine pn 3 rfl (al hS zeroValue31 rfl rfl rfl fun b78 w hS => RL.e0 (OW.store (vs := [.slice A74 y70.length c75, .slice A76 y71.length c77, .int .i64 y72]) 0 hS rfl rfl rfl rfl sizeOf31 rfl rfl rfl rfl) rfl ?_)
  rintro _ w ⟨rfl, hS⟩
  have hS : St B w (Cl _ [_, _, _] _ :: _ :: _ :: _ :: _ :: _ :: _ :: l) hf := hS
  refine pn 1 rfl (lnsr (RL.s (Vl.lw 3 hS isAgg31 sizeOf31 rfl rfl rfl) rfl (RL.s (Vl.lw 0 hS isAgg31 sizeOf31 rfl rfl rfl) rfl ?_)))
  obtain ⟨hf82, hs80, hS, hr79, hb81⟩ := St.lendSl hS.p2.p2.p5.p5
  obtain ⟨hf86, hs84, hS, hr83, hb85⟩ := St.lendSl hS
  obtain ⟨hf90, hs88, hS, hr87, hb89⟩ := St.lendSl hS
  obtain ⟨hf94, hs92, hS, hr91, hb93⟩ := St.lendSl hS
  obtain ⟨t95, hg96, h⟩ := h.bind
  have hc := isochronlaw14vresult.ok (a1 := (⟨y59, y60, y61⟩ : api_Result)) (a8 := (⟨y70, y71, y72⟩ : api_Result)) (((hr79.mono hs84).mono hs88).mono hs92) ((hr83.mono hs88).mono hs92) (hr87.mono hs92) hr91 hg96 hS
  refine RL.e (OW.callF (ls := [.tmp 17, .tmp 18]) rfl call11 hc) rfl rfl ?_
  rintro _ w ⟨rfl, hS⟩
  have hS := hb93 _ _ hS
  have hS := hb89 _ _ hS
  have hS := hb85 _ _ hS
  have hS := hb81 _ _ hS
  have hS : St B w (_ :: _ :: _ :: _ :: _ :: _ :: _ :: l) hf := hS
  refine pn 1 rfl ?_
  refine RL.iteB 20 rfl h (fun hc97 h => ?_) fun hc97 h => ?_
  next =>
   refine pn 5 rfl ?_
   refine RL.iteP 25 rfl h (fun hc98 h => ?_) fun hc98 h => ?_
   next =>
    refine cF (fun _ hg => isochronlaw14vawake.ok hG0 hg hS) call12 h rfl rfl rfl ?_
    rintro t99 h _ w ⟨rfl, hS⟩
    refine pn 2 rfl (lr ?_)
    obtain rfl := h.some
    exact rt results3 rfl ⟨rfl, hS.d0.d0.d0.d0.d0.d0.d0⟩
   next =>
    refine pn 3 rfl (lr ?_)
    obtain rfl := h.some
    exact rt results3 rfl ⟨rfl, hS.d0.d0.d0.d0.d0.d0.d0⟩
  next =>
   refine pn 8 rfl (lr ?_)
   obtain rfl := h.some
   exact rt results3 rfl ⟨rfl, hS.d0.d0.d0.d0.d0.d0.d0⟩

end Go.Proofs.Gx
