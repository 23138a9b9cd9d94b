/-
  The walks of functions, each with what it computes: printed by wip/gx.py.
-/
import Derived.Test.YtofgeidjbfmmdaaGreatDoorW0
import Derived.Test.YtofgeidjbfmmdaaGreatDoorW11
import Derived.Test.YtofgeidjbfmmdaaGreatDoorW9
set_option linter.unusedVariables false
set_option maxRecDepth 100000
set_option maxHeartbeats 4000000
namespace Go.Proofs.Gx
open Go.Sl Tryz
variable {B : Base} {w : World} {l : List HProp} {hf : Hp}
/-! ### isochron/isochronref05.math: function 96 -/
noncomputable def isochronref05vmath.j2 (a1 a2 a3 : Int) : Option (Int) := (if a1 = 6 then (if ¬ a3 = 0 then some (IntKind.i64.wrap (Int.tdiv a2 a3)) else none) else (if ¬ a3 = 0 then some (Int.tmod a2 a3) else none))
noncomputable def isochronref05vmath.f (a1 a2 a3 : Int) : Option (Int) := (if a1 = 3 then some (IntKind.i64.wrap (a2 + a3)) else (if a1 = 4 then some (IntKind.i64.wrap (a2 - a3)) else (if a1 = 5 then some (IntKind.i64.wrap (a2 * a3)) else (if a1 = 8 then (if a2 < a3 then some 1 else some 0) else (if a1 = 9 then (if a2 = a3 then some 1 else some 0) else (if a3 = 0 then some 0 else ((isochronref05vleast.f a2).bind fun t61 => (if t61 = true then (if a3 = (-1) then (if a1 = 6 then some a2 else some 0) else isochronref05vmath.j2 a1 a2 a3) else isochronref05vmath.j2 a1 a2 a3))))))))
theorem isochronref05vmath.ok {a1 a2 a3 : Int} {r : Int} (h : isochronref05vmath.f a1 a2 a3 = some r) (hS : St B w (l) hf) :
    Calls prog 96 #[.int .i64 a1, .int .i64 a2, .int .i64 a3] w (Ret fun v w => v = .int .i64 r ∧ St B w (l) hf) := by
  have h := Holds.of h
  refine en func96 rfl ntmps96 rfl (sr (pn 1 rfl (ln (RC.seq (sr (pn 1 rfl (ln (RC.block (sr (pn 2 rfl ?_))))))))))
  refine ln ?_
  refine RC.iteP 8 rfl h (fun hc42 h => ?_) fun hc42 h => ?_
  next =>
   refine RC.condT rfl (sr (pn 4 rfl (lr (RQ.inB_ret (RQ.ret ?_)))))
   obtain rfl := h.some
   exact rt results96 rfl ⟨rfl, hS⟩
  next =>
   refine RC.condF rfl (sr (pn 2 rfl (ln ?_)))
   refine RC.iteP 13 rfl h (fun hc43 h => ?_) fun hc43 h => ?_
   next =>
    refine RC.condT rfl (sr (pn 4 rfl (lr (RQ.inB_ret (RQ.ret ?_)))))
    obtain rfl := h.some
    exact rt results96 rfl ⟨rfl, hS⟩
   next =>
    refine RC.condF rfl (sr (pn 2 rfl (ln ?_)))
    refine RC.iteP 18 rfl h (fun hc44 h => ?_) fun hc44 h => ?_
    next =>
     refine RC.condT rfl (sr (pn 4 rfl (lr (RQ.inB_ret (RQ.ret ?_)))))
     obtain rfl := h.some
     exact rt results96 rfl ⟨rfl, hS⟩
    next =>
     refine RC.condF rfl (sr (pn 2 rfl (ln ?_)))
     refine RC.iteP 23 rfl h (fun hc45 h => ?_) fun hc45 h => ?_
     next =>
      refine RC.condT rfl (RC.seq (sr (pn 3 rfl (ln ?_))))
      refine RC.iteP 27 rfl h (fun hc46 h => ?_) fun hc46 h => ?_
      next =>
       refine RC.condT rfl (sr (pn 1 rfl (lr (RQ.ret (RQ.inB_ret (RQ.ret ?_))))))
       obtain rfl := h.some
       exact rt results96 rfl ⟨rfl, hS⟩
      next =>
       refine RC.condF rfl (sk (sr (pn 1 rfl (lr (RQ.inB_ret (RQ.ret ?_))))))
       obtain rfl := h.some
       exact rt results96 rfl ⟨rfl, hS⟩
     next =>
      refine RC.condF rfl (sr (pn 2 rfl (ln ?_)))
      refine RC.iteP 28 rfl h (fun hc47 h => ?_) fun hc47 h => ?_
      next =>
       refine RC.condT rfl (RC.seq (sr (pn 3 rfl (ln ?_))))
       refine RC.iteP 32 rfl h (fun hc48 h => ?_) fun hc48 h => ?_
       next =>
        refine RC.condT rfl (sr (pn 1 rfl (lr (RQ.ret (RQ.inB_ret (RQ.ret ?_))))))
        obtain rfl := h.some
        exact rt results96 rfl ⟨rfl, hS⟩
       next =>
        refine RC.condF rfl (sk (sr (pn 1 rfl (lr (RQ.inB_ret (RQ.ret ?_))))))
        obtain rfl := h.some
        exact rt results96 rfl ⟨rfl, hS⟩
      next =>
       refine RC.condF rfl (RC.skip (RQ.inB_n (RQ.then_n (RC.seq (sr (pn 2 rfl (ln ?_)))))))
       refine RC.iteP 34 rfl h (fun hc50 h => ?_) fun hc50 h => ?_
       next =>
        refine RC.condT rfl (sr (pn 1 rfl (lr (RQ.ret ?_))))
        obtain rfl := h.some
        exact rt results96 rfl ⟨rfl, hS⟩
       next =>
        refine RC.condF rfl (sk ?_)
        refine RC.join (fun (s : Unit) a w => s = () ∧ Has 52 [(0, .int .i64 a1), (1, .int .i64 a2), (2, .int .i64 a3)] a ∧ St B w (l) hf ∧ Holds (· = r) (isochronref05vmath.j2 a1 a2 a3)) ?_ ?_
        · rintro _ a w ⟨rfl, ha, hS, h⟩
          revert a
          show RC _ _ _ _ _ _
          refine RC.seq (sr (pn 2 rfl (ln ?_)))
          refine RC.iteP 45 rfl h (fun hc58 h => ?_) fun hc58 h => ?_
          next =>
           refine RC.condT rfl (sr (pn 2 rfl ?_))
           obtain ⟨hq59, h⟩ := h.req
           refine RL.s (Vl.quo rfl rfl hq59) rfl (pn 1 rfl (lr (RQ.ret ?_)))
           obtain rfl := h.some
           exact rt results96 rfl ⟨rfl, hS⟩
          next =>
           refine RC.condF rfl (sk (sr (pn 2 rfl ?_)))
           obtain ⟨hq60, h⟩ := h.req
           refine RL.s (Vl.rem rfl rfl hq60) rfl (pn 1 rfl (lr ?_))
           obtain rfl := h.some
           exact rt results96 rfl ⟨rfl, hS⟩
        · refine RC.seq ?_
          refine RC.region (pn 1 rfl (cF (fun _ hg => isochronref05vleast.ok hg hS) call118 h rfl rfl rfl ?_))
          rintro t61 h _ w ⟨rfl, hS⟩
          refine pn 1 rfl ?_
          refine RL.iteB 37 rfl h (fun hc63 h => ?_) fun hc63 h => ?_
          next =>
           refine pn 3 rfl (ln ?_)
           refine RC.iteP 40 rfl h (fun hc64 h => ?_) fun hc64 h => ?_
           next =>
            refine RC.condT rfl (RC.seq (sr (pn 2 rfl (ln ?_))))
            refine RC.iteP 42 rfl h (fun hc65 h => ?_) fun hc65 h => ?_
            next =>
             refine RC.condT rfl (sr (pn 2 rfl (lr (RQ.ret (RQ.ret ?_)))))
             obtain rfl := h.some
             exact rt results96 rfl ⟨rfl, hS⟩
            next =>
             refine RC.condF rfl (sk (sr (pn 1 rfl (lr (RQ.ret ?_)))))
             obtain rfl := h.some
             exact rt results96 rfl ⟨rfl, hS⟩
           next =>
            refine RC.condF rfl (RC.skip ?_)
            exact fun a ha => ⟨(), rfl, ha.to ⟨rfl, rfl, rfl, trivial⟩, hS, h⟩
          next =>
           refine pn 3 rfl (ln (RC.condF rfl (RC.skip ?_)))
           exact fun a ha => ⟨(), rfl, ha.to ⟨rfl, rfl, rfl, trivial⟩, hS, h⟩

/-! ### isochron/isochronlaw14.awake: function 12 -/
noncomputable def isochronlaw14vawake.f  : Option (Bool) := ((seq_Run.f (⟨[([] : List api_Instr)], [], [(⟨0, 0, 3⟩ : api_Start)], 0, 0, 5⟩ : api_Model)).bind fun (y36, y37) => (if y37 = 0 then (if y36.Stop = 1 then some (decide ((y36.History.length : Int) = 1)) else some false) else some false))
theorem isochronlaw14vawake.ok (hG0 : GlobAt hf 0 (.iface 148 (.agg #[.pointer (some ⟨1, 83, none⟩)]))) {r : Bool} (h : isochronlaw14vawake.f = some r) (hS : St B w (l) hf) :
    Calls prog 12 #[] w (Ret fun v w => v = .bool r ∧ St B w (l) hf) := by
  have h := Holds.of h
  refine en func12 rfl ntmps12 rfl (sr (pn 1 rfl (lnsr ?_)))
  have hx24 : RepL (Rep.sl E_api_Instr.rep) hf [.slice none 0 0] [([] : List api_Instr)] := (RepL.cons (c := [.slice none 0 0]) (r := []) ⟨none, 0, rfl, SlR.nil⟩ RepL.nil)
  refine RL.e (OW.buildSliceR (sz := 1) (cs := [.slice none 0 0]) hS underlying22 zeroValue100 sizeOf100 (parts := [(0, .const (.slice none 0 0))]) rfl rfl (by decide) (by decide) (by kernel_rfl)) rfl rfl ?_
  rintro _ w ⟨b23, rfl, hS⟩
  refine RL.s (Vl.build (v := .agg #[.int .i64 0, .int .i64 0, .int .i64 3]) (parts := [(2, .const (.int .i64 3))]) rfl (by kernel_rfl)) rfl (RL.e (OW.buildSlice (E := E_api_Start) (xs := [(⟨0, 0, 3⟩ : api_Start)]) (cs := [.int .i64 0, .int .i64 0, .int .i64 3]) hS underlying24 zeroValue74 sizeOf74 (parts := [(0, .tmp 5)]) rfl rfl (by decide) (by decide) (by kernel_rfl) rfl) rfl rfl ?_)
  rintro _ w ⟨b25, rfl, hS⟩
  refine RL.s (Vl.build (v := .agg #[.slice (some ⟨b23, 0, none⟩) ([([] : List api_Instr)]).length 1, .slice none 0 0, .slice (some ⟨b25, 0, none⟩) ([(⟨0, 0, 3⟩ : api_Start)]).length 1, .int .u64 0, .int .i64 0, .int .i64 5]) (parts := [(0, .tmp 4), (2, .tmp 6), (5, .const (.int .i64 5))]) rfl (by kernel_rfl)) rfl ?_
  obtain ⟨hf29, hs27, hS, hr26, hb28⟩ := St.lendSlR (Rep.sl_ok E_api_Instr.rep) hS.p1 rfl hx24
  obtain ⟨hf33, hs31, hS, hr30, hb32⟩ := St.lendSl hS
  obtain ⟨t34, hg35, h⟩ := h.bind
  have hc := seq_Run.ok (a1 := (⟨[([] : List api_Instr)], [], [(⟨0, 0, 3⟩ : api_Start)], 0, 0, 5⟩ : api_Model)) (hr26.mono hs31) (SlR.nil (A := none) (c := 0)) hr30 ((hG0.mono hs27).mono hs31) hg35 hS
  obtain ⟨y36, y37⟩ := t34
  refine RL.e (OW.callF (ls := [.tmp 7]) rfl call9 hc) rfl rfl ?_
  rintro _ w ⟨A38, c39, A40, c41, rfl, hS⟩
  have hS := hb32 _ _ hS
  have hS := hb28 _ _ hS
  have hS : St B w (_ :: _ :: _ :: _ :: l) hf := hS
  refine pn 3 rfl (al hS zeroValue31 rfl rfl rfl fun b42 w hS => RL.e0 (OW.store (vs := [.slice A38 y36.History.length c39, .slice A40 y36.States.length c41, .int .i64 y36.Stop]) 0 hS rfl rfl rfl rfl sizeOf31 rfl rfl rfl rfl) rfl ?_)
  rintro _ w ⟨rfl, hS⟩
  have hS : St B w (Cl _ [_, _, _] _ :: _ :: _ :: _ :: _ :: l) hf := hS
  refine pn 1 rfl (lnsr (pn 3 rfl ?_))
  refine RL.iteP 13 rfl h (fun hc43 h => ?_) fun hc43 h => ?_
  next =>
   refine RL.sg (Vl.fa 2 underlying31 rfl sizeOf3 rfl rfl) rfl rfl (RL.sg (Vl.ld 0 hS isAgg3 rfl rfl rfl) rfl rfl (pn 3 rfl ?_))
   refine RL.iteP 18 rfl h (fun hc44 h => ?_) fun hc44 h => ?_
   next =>
    refine RL.sg (Vl.fa 0 underlying31 rfl sizeOf28 rfl rfl) rfl rfl (RL.sg (Vl.ld 0 hS isAgg28 rfl rfl rfl) rfl rfl (RL.sg (Vl.lenSl underlying28 rfl) rfl rfl (pn 3 rfl (lr ?_))))
    obtain rfl := h.some
    exact rt results12 rfl ⟨rfl, hS.d0.d0.d0.d0.d0⟩
   next =>
    refine pn 6 rfl (lr ?_)
    obtain rfl := h.some
    exact rt results12 rfl ⟨rfl, hS.d0.d0.d0.d0.d0⟩
  next =>
   refine pn 11 rfl (lr ?_)
   obtain rfl := h.some
   exact rt results12 rfl ⟨rfl, hS.d0.d0.d0.d0.d0⟩

end Go.Proofs.Gx
