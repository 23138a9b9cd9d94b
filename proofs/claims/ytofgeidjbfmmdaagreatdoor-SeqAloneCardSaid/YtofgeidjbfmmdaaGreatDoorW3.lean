/-
  The walks of functions, each with what it computes: printed by wip/gx.py.
-/
import Derived.Test.YtofgeidjbfmmdaaGreatDoorW0
import Derived.Test.YtofgeidjbfmmdaaGreatDoorW1
import Derived.Test.YtofgeidjbfmmdaaGreatDoorW2
set_option linter.unusedVariables false
set_option maxRecDepth 100000
set_option maxHeartbeats 4000000
namespace Go.Proofs.Gx
open Go.Sl Tryz
variable {B : Base} {w : World} {l : List HProp} {hf : Hp}
/-! ### isochron/model.Check: function 13 -/
noncomputable def model_Check.f (a1 : api_Model) : Option (Int) := ((model_rules.f).bind fun _ => ((model_sizes.f a1).bind fun t205 => match t205 with | .inl y207 => ((errors_As.f y207 (⟨0, 0⟩ : model_flaw)).bind fun t208 => (if t208 = true then some 0 else ((errors_Is.f y207 131).bind fun t211 => (if t211 = true then some 131 else ((errors_Is.f y207 132).bind fun t214 => (if t214 = true then some 132 else some 1)))))) | .inr (_) => ((model_programs.f a1).bind fun t239 => match t239 with | .inl (y241, y242) => ((errors_As_2.f y241 y242 (⟨0, 0⟩ : model_flaw)).bind fun (y248, y249) => (if y248 = true then some y249.why else ((errors_Is_4.f y241 y242 131).bind fun t251 => (if t251 = true then some 131 else ((errors_Is_4.f y241 y242 132).bind fun t254 => (if t254 = true then some 132 else some 1)))))) | .inr (_) => ((model_links.f a1).bind fun t285 => match t285 with | .inl y287 => ((errors_As.f y287 (⟨0, 0⟩ : model_flaw)).bind fun t288 => (if t288 = true then some 0 else ((errors_Is.f y287 131).bind fun t291 => (if t291 = true then some 131 else ((errors_Is.f y287 132).bind fun t294 => (if t294 = true then some 132 else some 1)))))) | .inr (.inl y297) => ((errors_As_3.f y297 (⟨0, 0⟩ : model_flaw)).bind fun (y300, y301) => (if y300 = true then some y301.why else ((errors_Is_5.f y297 131).bind fun t303 => (if t303 = true then some 131 else ((errors_Is_5.f y297 132).bind fun t306 => (if t306 = true then some 132 else some 1)))))) | .inr (.inr (_)) => ((model_starts.f a1).bind fun t337 => match t337 with | .inl y339 => ((errors_As.f y339 (⟨0, 0⟩ : model_flaw)).bind fun t340 => (if t340 = true then some 0 else ((errors_Is.f y339 131).bind fun t343 => (if t343 = true then some 131 else ((errors_Is.f y339 132).bind fun t346 => (if t346 = true then some 132 else some 1)))))) | .inr (.inl y349) => ((errors_As_3.f y349 (⟨0, 0⟩ : model_flaw)).bind fun (y352, y353) => (if y352 = true then some y353.why else ((errors_Is_5.f y349 131).bind fun t355 => (if t355 = true then some 131 else ((errors_Is_5.f y349 132).bind fun t358 => (if t358 = true then some 132 else some 1)))))) | .inr (.inr (_)) => some 0)))))
theorem model_Check.ok {a1 : api_Model} {A2 : Option Addr} {c3 : Nat} {A5 : Option Addr} {c6 : Nat} {A8 : Option Addr} {c9 : Nat} (hr4 : SlR (Rep.sl E_api_Instr.rep) hf A2 c3 a1.Progs) (hr7 : SlR E_api_Link.rep hf A5 c6 a1.Links) (hr10 : SlR E_api_Start.rep hf A8 c9 a1.Starts) (hG0 : GlobAt hf 0 (.iface 148 (.agg #[.pointer (some ⟨1, 83, none⟩)]))) {r : Int} (h : model_Check.f a1 = some r) (hS : St B w (l) hf) :
    Calls prog 13 #[.agg #[.slice A2 a1.Progs.length c3, .slice A5 a1.Links.length c6, .slice A8 a1.Starts.length c9, .int .u64 a1.Seed, .int .i64 a1.End, .int .i64 a1.Budget]] w (Ret fun v w => v = .int .i64 r ∧ St B w (l) hf) := by
  have h := Holds.of h
  refine en func13 rfl ntmps13 rfl (sr (bx hS rfl rfl rfl rfl fun b186 w hS => pn 1 rfl (ln (RC.seq (sr (cF (fun _ hg => model_rules.ok hg hS) call24 h rfl rfl rfl ?_))))))
  rintro _ h _ w ⟨rfl, hS⟩
  refine pn 1 rfl (ln (RC.block (RC.unroll (RQ.round (sr (pn 1 rfl (ln (RC.seq (RC.condT rfl (sk (RC.seq ?_)))))))))))
  refine RC.block (sr (RL.s (Vl.indexA (v := .agg #[.func (.func 41) #[] #[]]) underlying78 sizeOf77 rfl rfl (by decide) (by decide) (run_partA isAgg77 sizeOf77)) rfl (al hS zeroValue77 rfl rfl rfl fun b203 w hS => RL.e0 (OW.store (vs := [.func (.func 41) #[] #[]]) 0 hS rfl rfl rfl rfl sizeOf77 rfl rfl rfl rfl) rfl ?_)))
  rintro _ w ⟨rfl, hS⟩
  have hS : St B w (Cl _ [_] _ :: _ :: l) hf := hS
  refine lnsr (al hS zeroValue81 rfl rfl rfl fun b204 w hS => ln (RC.seq (sr (RL.s (Vl.fa 0 underlying77 rfl sizeOf75 rfl rfl) rfl (RL.s (Vl.ld 1 hS isAgg75 rfl rfl rfl) rfl (RL.s (Vl.lw 2 hS isAgg27 sizeOf27 rfl rfl rfl) rfl ?_))))))
  obtain ⟨t205, hg206, h⟩ := h.bind
  have hc := model_sizes.ok hr4 hr7 hr10 hg206 hS
  rcases t205 with y207 | _
  · refine RL.e (OW.call (ls := [.tmp 13]) rfl rfl call41 rfl hc) rfl rfl ?_
    rintro _ w ⟨rfl, hS⟩
    refine pn 1 rfl (ln (RC.block (sr (pn 1 rfl (RL.s (Vl.bin (v := .bool false) rfl rfl (by kernel_rfl)) rfl (pn 1 rfl (ln (RC.condF rfl (sr (pn 1 rfl (RL.s (Vl.makeIface underlying85 rfl rfl) rfl ?_)))))))))))
    refine cF (fun _ hg => errors_As.ok hG0 hg hS) call25 h rfl rfl rfl ?_
    rintro t208 h _ w ⟨rfl, hS⟩
    refine pn 1 rfl (ln ?_)
    refine RC.iteB 18 rfl h (fun hc210 h => ?_) fun hc210 h => ?_
    next =>
     refine RC.condT rfl (sr (RL.s (Vl.fa 1 underlying81 rfl sizeOf32 rfl rfl) rfl (RL.s (Vl.ld 0 hS isAgg32 rfl rfl rfl) rfl (pn 1 rfl (lr (RQ.inB_ret (RQ.ret (RQ.inB_ret (RQ.ret (RQ.ret (RQ.inB_ret (RQ.ret ?_))))))))))))
     obtain rfl := h.some
     exact rt results13 rfl ⟨rfl, hS.d0.d0.d0⟩
    next =>
     refine RC.condF rfl (sr (pn 1 rfl (RL.s (Vl.makeIface underlying32 rfl rfl) rfl (cF (fun _ hg => errors_Is.ok hg hS) call26 h rfl rfl rfl ?_))))
     rintro t211 h _ w ⟨rfl, hS⟩
     refine pn 1 rfl (ln ?_)
     refine RC.iteB 24 rfl h (fun hc213 h => ?_) fun hc213 h => ?_
     next =>
      refine RC.condT rfl (sr (pn 1 rfl (lr (RQ.inB_ret (RQ.ret (RQ.inB_ret (RQ.ret (RQ.ret (RQ.inB_ret (RQ.ret ?_))))))))))
      obtain rfl := h.some
      exact rt results13 rfl ⟨rfl, hS.d0.d0.d0⟩
     next =>
      refine RC.condF rfl (sr (pn 1 rfl (RL.s (Vl.makeIface underlying32 rfl rfl) rfl (cF (fun _ hg => errors_Is.ok hg hS) call26 h rfl rfl rfl ?_))))
      rintro t214 h _ w ⟨rfl, hS⟩
      refine pn 1 rfl (ln ?_)
      refine RC.iteB 28 rfl h (fun hc216 h => ?_) fun hc216 h => ?_
      next =>
       refine RC.condT rfl (sr (pn 1 rfl (lr (RQ.inB_ret (RQ.ret (RQ.inB_ret (RQ.ret (RQ.ret (RQ.inB_ret (RQ.ret ?_))))))))))
       obtain rfl := h.some
       exact rt results13 rfl ⟨rfl, hS.d0.d0.d0⟩
      next =>
       refine RC.condF rfl (RC.skip (RQ.inB_n (tsr (pn 1 rfl (lr (RQ.inB_ret (RQ.ret (RQ.ret (RQ.inB_ret (RQ.ret ?_))))))))))
       obtain rfl := h.some
       exact rt results13 rfl ⟨rfl, hS.d0.d0.d0⟩
  · refine RL.e (OW.call (ls := [.tmp 13]) rfl rfl call41 rfl hc) rfl rfl ?_
    rintro _ w ⟨rfl, hS⟩
    refine pn 1 rfl (ln (RC.block (sr (pn 1 rfl (RL.s (Vl.bin (v := .bool true) rfl rfl (by kernel_rfl)) rfl (pn 1 rfl (ln (RC.condT rfl (RC.exit (RQ.inB_miss rfl (RQ.exitT (RQ.inB_hit ?_))))))))))))
    refine RQ.then_n (RC.region (pn 2 rfl (ln (RQ.round (sr (pn 1 rfl (ln (RC.seq (RC.condT rfl (sk (RC.seq ?_)))))))))))
    refine RC.block (sr (RL.s (Vl.indexA (v := .agg #[.func (.func 42) #[] #[]]) underlying78 sizeOf77 rfl rfl (by decide) (by decide) (run_partA isAgg77 sizeOf77)) rfl (al hS zeroValue77 rfl rfl rfl fun b237 w hS => RL.e0 (OW.store (vs := [.func (.func 42) #[] #[]]) 0 hS rfl rfl rfl rfl sizeOf77 rfl rfl rfl rfl) rfl ?_)))
    rintro _ w ⟨rfl, hS⟩
    have hS : St B w (Cl _ [_] _ :: _ :: _ :: _ :: l) hf := hS
    refine lnsr (al hS zeroValue81 rfl rfl rfl fun b238 w hS => ln (RC.seq (sr (RL.s (Vl.fa 0 underlying77 rfl sizeOf75 rfl rfl) rfl (RL.s (Vl.ld 1 hS isAgg75 rfl rfl rfl) rfl (RL.s (Vl.lw 4 hS isAgg27 sizeOf27 rfl rfl rfl) rfl ?_))))))
    obtain ⟨t239, hg240, h⟩ := h.bind
    have hc := model_programs.ok hr4 hr7 hr10 hg240 hS
    rcases t239 with ⟨y241, y242⟩ | _
    · refine RL.e (OW.call (ls := [.tmp 13]) rfl rfl call42 rfl hc) rfl rfl ?_
      rintro _ w ⟨b243, A244, c245, rfl, hS⟩
      refine pn 1 rfl (ln (RC.block (sr (pn 1 rfl (RL.s (Vl.bin (v := .bool false) rfl rfl (by kernel_rfl)) rfl (pn 1 rfl (ln (RC.condF rfl (sr (pn 1 rfl (RL.s (Vl.makeIface underlying85 rfl rfl) rfl ?_)))))))))))
      refine cF (fun _ hg => errors_As_2.ok hG0 hg hS.p1) call25 h rfl rfl rfl ?_
      rintro ⟨y248, y249⟩ h _ w ⟨rfl, hS⟩
      refine pn 1 rfl (ln ?_)
      refine RC.iteB 18 rfl h (fun hc250 h => ?_) fun hc250 h => ?_
      next =>
       refine RC.condT rfl (sr (RL.s (Vl.fa 1 underlying81 rfl sizeOf32 rfl rfl) rfl (RL.s (Vl.ld 2 hS isAgg32 rfl rfl rfl) rfl (pn 1 rfl (lr (RQ.inB_ret (RQ.ret (RQ.inB_ret (RQ.ret (RQ.ret (RQ.inB_ret (RQ.ret ?_))))))))))))
       obtain rfl := h.some
       exact rt results13 rfl ⟨rfl, hS.d0.d0.d0.d0.d0.d0.d0⟩
      next =>
       refine RC.condF rfl (sr (pn 1 rfl (RL.s (Vl.makeIface underlying32 rfl rfl) rfl (cF (fun _ hg => errors_Is_4.ok hg hS) call26 h rfl rfl rfl ?_))))
       rintro t251 h _ w ⟨rfl, hS⟩
       refine pn 1 rfl (ln ?_)
       refine RC.iteB 24 rfl h (fun hc253 h => ?_) fun hc253 h => ?_
       next =>
        refine RC.condT rfl (sr (pn 1 rfl (lr (RQ.inB_ret (RQ.ret (RQ.inB_ret (RQ.ret (RQ.ret (RQ.inB_ret (RQ.ret ?_))))))))))
        obtain rfl := h.some
        exact rt results13 rfl ⟨rfl, hS.d0.d0.d0.d0.d0.d0.d0⟩
       next =>
        refine RC.condF rfl (sr (pn 1 rfl (RL.s (Vl.makeIface underlying32 rfl rfl) rfl (cF (fun _ hg => errors_Is_4.ok hg hS) call26 h rfl rfl rfl ?_))))
        rintro t254 h _ w ⟨rfl, hS⟩
        refine pn 1 rfl (ln ?_)
        refine RC.iteB 28 rfl h (fun hc256 h => ?_) fun hc256 h => ?_
        next =>
         refine RC.condT rfl (sr (pn 1 rfl (lr (RQ.inB_ret (RQ.ret (RQ.inB_ret (RQ.ret (RQ.ret (RQ.inB_ret (RQ.ret ?_))))))))))
         obtain rfl := h.some
         exact rt results13 rfl ⟨rfl, hS.d0.d0.d0.d0.d0.d0.d0⟩
        next =>
         refine RC.condF rfl (RC.skip (RQ.inB_n (tsr (pn 1 rfl (lr (RQ.inB_ret (RQ.ret (RQ.ret (RQ.inB_ret (RQ.ret ?_))))))))))
         obtain rfl := h.some
         exact rt results13 rfl ⟨rfl, hS.d0.d0.d0.d0.d0.d0.d0⟩
    · refine RL.e (OW.call (ls := [.tmp 13]) rfl rfl call42 rfl hc) rfl rfl ?_
      rintro _ w ⟨rfl, hS⟩
      refine pn 1 rfl (ln (RC.block (sr (pn 1 rfl (RL.s (Vl.bin (v := .bool true) rfl rfl (by kernel_rfl)) rfl (pn 1 rfl (ln (RC.condT rfl (RC.exit (RQ.inB_miss rfl (RQ.exitT (RQ.inB_hit ?_))))))))))))
      refine RQ.then_n (RC.region (pn 2 rfl (ln (RQ.round (sr (pn 1 rfl (ln (RC.seq (RC.condT rfl (sk (RC.seq ?_)))))))))))
      refine RC.block (sr (RL.s (Vl.indexA (v := .agg #[.func (.func 43) #[] #[]]) underlying78 sizeOf77 rfl rfl (by decide) (by decide) (run_partA isAgg77 sizeOf77)) rfl (al hS zeroValue77 rfl rfl rfl fun b283 w hS => RL.e0 (OW.store (vs := [.func (.func 43) #[] #[]]) 0 hS rfl rfl rfl rfl sizeOf77 rfl rfl rfl rfl) rfl ?_)))
      rintro _ w ⟨rfl, hS⟩
      have hS : St B w (Cl _ [_] _ :: _ :: _ :: _ :: _ :: _ :: l) hf := hS
      refine lnsr (al hS zeroValue81 rfl rfl rfl fun b284 w hS => ln (RC.seq (sr (RL.s (Vl.fa 0 underlying77 rfl sizeOf75 rfl rfl) rfl (RL.s (Vl.ld 1 hS isAgg75 rfl rfl rfl) rfl (RL.s (Vl.lw 6 hS isAgg27 sizeOf27 rfl rfl rfl) rfl ?_))))))
      obtain ⟨t285, hg286, h⟩ := h.bind
      have hc := model_links.ok hr4 hr7 hr10 hg286 hS
      rcases t285 with y287 | y297 | _
      · refine RL.e (OW.call (ls := [.tmp 13]) rfl rfl call43 rfl hc) rfl rfl ?_
        rintro _ w ⟨rfl, hS⟩
        refine pn 1 rfl (ln (RC.block (sr (pn 1 rfl (RL.s (Vl.bin (v := .bool false) rfl rfl (by kernel_rfl)) rfl (pn 1 rfl (ln (RC.condF rfl (sr (pn 1 rfl (RL.s (Vl.makeIface underlying85 rfl rfl) rfl ?_)))))))))))
        refine cF (fun _ hg => errors_As.ok hG0 hg hS) call25 h rfl rfl rfl ?_
        rintro t288 h _ w ⟨rfl, hS⟩
        refine pn 1 rfl (ln ?_)
        refine RC.iteB 18 rfl h (fun hc290 h => ?_) fun hc290 h => ?_
        next =>
         refine RC.condT rfl (sr (RL.s (Vl.fa 1 underlying81 rfl sizeOf32 rfl rfl) rfl (RL.s (Vl.ld 0 hS isAgg32 rfl rfl rfl) rfl (pn 1 rfl (lr (RQ.inB_ret (RQ.ret (RQ.inB_ret (RQ.ret (RQ.ret (RQ.inB_ret (RQ.ret ?_))))))))))))
         obtain rfl := h.some
         exact rt results13 rfl ⟨rfl, hS.d0.d0.d0.d0.d0.d0.d0⟩
        next =>
         refine RC.condF rfl (sr (pn 1 rfl (RL.s (Vl.makeIface underlying32 rfl rfl) rfl (cF (fun _ hg => errors_Is.ok hg hS) call26 h rfl rfl rfl ?_))))
         rintro t291 h _ w ⟨rfl, hS⟩
         refine pn 1 rfl (ln ?_)
         refine RC.iteB 24 rfl h (fun hc293 h => ?_) fun hc293 h => ?_
         next =>
          refine RC.condT rfl (sr (pn 1 rfl (lr (RQ.inB_ret (RQ.ret (RQ.inB_ret (RQ.ret (RQ.ret (RQ.inB_ret (RQ.ret ?_))))))))))
          obtain rfl := h.some
          exact rt results13 rfl ⟨rfl, hS.d0.d0.d0.d0.d0.d0.d0⟩
         next =>
          refine RC.condF rfl (sr (pn 1 rfl (RL.s (Vl.makeIface underlying32 rfl rfl) rfl (cF (fun _ hg => errors_Is.ok hg hS) call26 h rfl rfl rfl ?_))))
          rintro t294 h _ w ⟨rfl, hS⟩
          refine pn 1 rfl (ln ?_)
          refine RC.iteB 28 rfl h (fun hc296 h => ?_) fun hc296 h => ?_
          next =>
           refine RC.condT rfl (sr (pn 1 rfl (lr (RQ.inB_ret (RQ.ret (RQ.inB_ret (RQ.ret (RQ.ret (RQ.inB_ret (RQ.ret ?_))))))))))
           obtain rfl := h.some
           exact rt results13 rfl ⟨rfl, hS.d0.d0.d0.d0.d0.d0.d0⟩
          next =>
           refine RC.condF rfl (RC.skip (RQ.inB_n (tsr (pn 1 rfl (lr (RQ.inB_ret (RQ.ret (RQ.ret (RQ.inB_ret (RQ.ret ?_))))))))))
           obtain rfl := h.some
           exact rt results13 rfl ⟨rfl, hS.d0.d0.d0.d0.d0.d0.d0⟩
      · refine RL.e (OW.call (ls := [.tmp 13]) rfl rfl call43 rfl hc) rfl rfl ?_
        rintro _ w ⟨rfl, hS⟩
        refine pn 1 rfl (ln (RC.block (sr (pn 1 rfl (RL.s (Vl.bin (v := .bool false) rfl rfl (by kernel_rfl)) rfl (pn 1 rfl (ln (RC.condF rfl (sr (pn 1 rfl (RL.s (Vl.makeIface underlying85 rfl rfl) rfl ?_)))))))))))
        refine cF (fun _ hg => errors_As_3.ok hG0 hg hS) call25 h rfl rfl rfl ?_
        rintro ⟨y300, y301⟩ h _ w ⟨rfl, hS⟩
        refine pn 1 rfl (ln ?_)
        refine RC.iteB 18 rfl h (fun hc302 h => ?_) fun hc302 h => ?_
        next =>
         refine RC.condT rfl (sr (RL.s (Vl.fa 1 underlying81 rfl sizeOf32 rfl rfl) rfl (RL.s (Vl.ld 0 hS isAgg32 rfl rfl rfl) rfl (pn 1 rfl (lr (RQ.inB_ret (RQ.ret (RQ.inB_ret (RQ.ret (RQ.ret (RQ.inB_ret (RQ.ret ?_))))))))))))
         obtain rfl := h.some
         exact rt results13 rfl ⟨rfl, hS.d0.d0.d0.d0.d0.d0.d0⟩
        next =>
         refine RC.condF rfl (sr (pn 1 rfl (RL.s (Vl.makeIface underlying32 rfl rfl) rfl (cF (fun _ hg => errors_Is_5.ok hg hS) call26 h rfl rfl rfl ?_))))
         rintro t303 h _ w ⟨rfl, hS⟩
         refine pn 1 rfl (ln ?_)
         refine RC.iteB 24 rfl h (fun hc305 h => ?_) fun hc305 h => ?_
         next =>
          refine RC.condT rfl (sr (pn 1 rfl (lr (RQ.inB_ret (RQ.ret (RQ.inB_ret (RQ.ret (RQ.ret (RQ.inB_ret (RQ.ret ?_))))))))))
          obtain rfl := h.some
          exact rt results13 rfl ⟨rfl, hS.d0.d0.d0.d0.d0.d0.d0⟩
         next =>
          refine RC.condF rfl (sr (pn 1 rfl (RL.s (Vl.makeIface underlying32 rfl rfl) rfl (cF (fun _ hg => errors_Is_5.ok hg hS) call26 h rfl rfl rfl ?_))))
          rintro t306 h _ w ⟨rfl, hS⟩
          refine pn 1 rfl (ln ?_)
          refine RC.iteB 28 rfl h (fun hc308 h => ?_) fun hc308 h => ?_
          next =>
           refine RC.condT rfl (sr (pn 1 rfl (lr (RQ.inB_ret (RQ.ret (RQ.inB_ret (RQ.ret (RQ.ret (RQ.inB_ret (RQ.ret ?_))))))))))
           obtain rfl := h.some
           exact rt results13 rfl ⟨rfl, hS.d0.d0.d0.d0.d0.d0.d0⟩
          next =>
           refine RC.condF rfl (RC.skip (RQ.inB_n (tsr (pn 1 rfl (lr (RQ.inB_ret (RQ.ret (RQ.ret (RQ.inB_ret (RQ.ret ?_))))))))))
           obtain rfl := h.some
           exact rt results13 rfl ⟨rfl, hS.d0.d0.d0.d0.d0.d0.d0⟩
      · refine RL.e (OW.call (ls := [.tmp 13]) rfl rfl call43 rfl hc) rfl rfl ?_
        rintro _ w ⟨rfl, hS⟩
        refine pn 1 rfl (ln (RC.block (sr (pn 1 rfl (RL.s (Vl.bin (v := .bool true) rfl rfl (by kernel_rfl)) rfl (pn 1 rfl (ln (RC.condT rfl (RC.exit (RQ.inB_miss rfl (RQ.exitT (RQ.inB_hit ?_))))))))))))
        refine RQ.then_n (RC.region (pn 2 rfl (ln (RQ.round (sr (pn 1 rfl (ln (RC.seq (RC.condT rfl (sk (RC.seq ?_)))))))))))
        refine RC.block (sr (RL.s (Vl.indexA (v := .agg #[.func (.func 44) #[] #[]]) underlying78 sizeOf77 rfl rfl (by decide) (by decide) (run_partA isAgg77 sizeOf77)) rfl (al hS zeroValue77 rfl rfl rfl fun b335 w hS => RL.e0 (OW.store (vs := [.func (.func 44) #[] #[]]) 0 hS rfl rfl rfl rfl sizeOf77 rfl rfl rfl rfl) rfl ?_)))
        rintro _ w ⟨rfl, hS⟩
        have hS : St B w (Cl _ [_] _ :: _ :: _ :: _ :: _ :: _ :: _ :: _ :: l) hf := hS
        refine lnsr (al hS zeroValue81 rfl rfl rfl fun b336 w hS => ln (RC.seq (sr (RL.s (Vl.fa 0 underlying77 rfl sizeOf75 rfl rfl) rfl (RL.s (Vl.ld 1 hS isAgg75 rfl rfl rfl) rfl (RL.s (Vl.lw 8 hS isAgg27 sizeOf27 rfl rfl rfl) rfl ?_))))))
        obtain ⟨t337, hg338, h⟩ := h.bind
        have hc := model_starts.ok hr4 hr7 hr10 hg338 hS
        rcases t337 with y339 | y349 | _
        · refine RL.e (OW.call (ls := [.tmp 13]) rfl rfl call44 rfl hc) rfl rfl ?_
          rintro _ w ⟨rfl, hS⟩
          refine pn 1 rfl (ln (RC.block (sr (pn 1 rfl (RL.s (Vl.bin (v := .bool false) rfl rfl (by kernel_rfl)) rfl (pn 1 rfl (ln (RC.condF rfl (sr (pn 1 rfl (RL.s (Vl.makeIface underlying85 rfl rfl) rfl ?_)))))))))))
          refine cF (fun _ hg => errors_As.ok hG0 hg hS) call25 h rfl rfl rfl ?_
          rintro t340 h _ w ⟨rfl, hS⟩
          refine pn 1 rfl (ln ?_)
          refine RC.iteB 18 rfl h (fun hc342 h => ?_) fun hc342 h => ?_
          next =>
           refine RC.condT rfl (sr (RL.s (Vl.fa 1 underlying81 rfl sizeOf32 rfl rfl) rfl (RL.s (Vl.ld 0 hS isAgg32 rfl rfl rfl) rfl (pn 1 rfl (lr (RQ.inB_ret (RQ.ret (RQ.inB_ret (RQ.ret (RQ.ret (RQ.inB_ret (RQ.ret ?_))))))))))))
           obtain rfl := h.some
           exact rt results13 rfl ⟨rfl, hS.d0.d0.d0.d0.d0.d0.d0.d0.d0⟩
          next =>
           refine RC.condF rfl (sr (pn 1 rfl (RL.s (Vl.makeIface underlying32 rfl rfl) rfl (cF (fun _ hg => errors_Is.ok hg hS) call26 h rfl rfl rfl ?_))))
           rintro t343 h _ w ⟨rfl, hS⟩
           refine pn 1 rfl (ln ?_)
           refine RC.iteB 24 rfl h (fun hc345 h => ?_) fun hc345 h => ?_
           next =>
            refine RC.condT rfl (sr (pn 1 rfl (lr (RQ.inB_ret (RQ.ret (RQ.inB_ret (RQ.ret (RQ.ret (RQ.inB_ret (RQ.ret ?_))))))))))
            obtain rfl := h.some
            exact rt results13 rfl ⟨rfl, hS.d0.d0.d0.d0.d0.d0.d0.d0.d0⟩
           next =>
            refine RC.condF rfl (sr (pn 1 rfl (RL.s (Vl.makeIface underlying32 rfl rfl) rfl (cF (fun _ hg => errors_Is.ok hg hS) call26 h rfl rfl rfl ?_))))
            rintro t346 h _ w ⟨rfl, hS⟩
            refine pn 1 rfl (ln ?_)
            refine RC.iteB 28 rfl h (fun hc348 h => ?_) fun hc348 h => ?_
            next =>
             refine RC.condT rfl (sr (pn 1 rfl (lr (RQ.inB_ret (RQ.ret (RQ.inB_ret (RQ.ret (RQ.ret (RQ.inB_ret (RQ.ret ?_))))))))))
             obtain rfl := h.some
             exact rt results13 rfl ⟨rfl, hS.d0.d0.d0.d0.d0.d0.d0.d0.d0⟩
            next =>
             refine RC.condF rfl (RC.skip (RQ.inB_n (tsr (pn 1 rfl (lr (RQ.inB_ret (RQ.ret (RQ.ret (RQ.inB_ret (RQ.ret ?_))))))))))
             obtain rfl := h.some
             exact rt results13 rfl ⟨rfl, hS.d0.d0.d0.d0.d0.d0.d0.d0.d0⟩
        · refine RL.e (OW.call (ls := [.tmp 13]) rfl rfl call44 rfl hc) rfl rfl ?_
          rintro _ w ⟨rfl, hS⟩
          refine pn 1 rfl (ln (RC.block (sr (pn 1 rfl (RL.s (Vl.bin (v := .bool false) rfl rfl (by kernel_rfl)) rfl (pn 1 rfl (ln (RC.condF rfl (sr (pn 1 rfl (RL.s (Vl.makeIface underlying85 rfl rfl) rfl ?_)))))))))))
          refine cF (fun _ hg => errors_As_3.ok hG0 hg hS) call25 h rfl rfl rfl ?_
          rintro ⟨y352, y353⟩ h _ w ⟨rfl, hS⟩
          refine pn 1 rfl (ln ?_)
          refine RC.iteB 18 rfl h (fun hc354 h => ?_) fun hc354 h => ?_
          next =>
           refine RC.condT rfl (sr (RL.s (Vl.fa 1 underlying81 rfl sizeOf32 rfl rfl) rfl (RL.s (Vl.ld 0 hS isAgg32 rfl rfl rfl) rfl (pn 1 rfl (lr (RQ.inB_ret (RQ.ret (RQ.inB_ret (RQ.ret (RQ.ret (RQ.inB_ret (RQ.ret ?_))))))))))))
           obtain rfl := h.some
           exact rt results13 rfl ⟨rfl, hS.d0.d0.d0.d0.d0.d0.d0.d0.d0⟩
          next =>
           refine RC.condF rfl (sr (pn 1 rfl (RL.s (Vl.makeIface underlying32 rfl rfl) rfl (cF (fun _ hg => errors_Is_5.ok hg hS) call26 h rfl rfl rfl ?_))))
           rintro t355 h _ w ⟨rfl, hS⟩
           refine pn 1 rfl (ln ?_)
           refine RC.iteB 24 rfl h (fun hc357 h => ?_) fun hc357 h => ?_
           next =>
            refine RC.condT rfl (sr (pn 1 rfl (lr (RQ.inB_ret (RQ.ret (RQ.inB_ret (RQ.ret (RQ.ret (RQ.inB_ret (RQ.ret ?_))))))))))
            obtain rfl := h.some
            exact rt results13 rfl ⟨rfl, hS.d0.d0.d0.d0.d0.d0.d0.d0.d0⟩
           next =>
            refine RC.condF rfl (sr (pn 1 rfl (RL.s (Vl.makeIface underlying32 rfl rfl) rfl (cF (fun _ hg => errors_Is_5.ok hg hS) call26 h rfl rfl rfl ?_))))
            rintro t358 h _ w ⟨rfl, hS⟩
            refine pn 1 rfl (ln ?_)
            refine RC.iteB 28 rfl h (fun hc360 h => ?_) fun hc360 h => ?_
            next =>
             refine RC.condT rfl (sr (pn 1 rfl (lr (RQ.inB_ret (RQ.ret (RQ.inB_ret (RQ.ret (RQ.ret (RQ.inB_ret (RQ.ret ?_))))))))))
             obtain rfl := h.some
             exact rt results13 rfl ⟨rfl, hS.d0.d0.d0.d0.d0.d0.d0.d0.d0⟩
            next =>
             refine RC.condF rfl (RC.skip (RQ.inB_n (tsr (pn 1 rfl (lr (RQ.inB_ret (RQ.ret (RQ.ret (RQ.inB_ret (RQ.ret ?_))))))))))
             obtain rfl := h.some
             exact rt results13 rfl ⟨rfl, hS.d0.d0.d0.d0.d0.d0.d0.d0.d0⟩
        · refine RL.e (OW.call (ls := [.tmp 13]) rfl rfl call44 rfl hc) rfl rfl ?_
          rintro _ w ⟨rfl, hS⟩
          refine pn 1 rfl (ln (RC.block (sr (pn 1 rfl (RL.s (Vl.bin (v := .bool true) rfl rfl (by kernel_rfl)) rfl (pn 1 rfl (ln (RC.condT rfl (RC.exit (RQ.inB_miss rfl (RQ.exitT (RQ.inB_hit ?_))))))))))))
          refine RQ.then_n (RC.region (pn 2 rfl (ln (RQ.round (sr (pn 1 rfl (ln (RC.seq (RC.condF rfl (RC.exit (RQ.exitT (RQ.exitT ?_))))))))))))
          refine RQ.inB_hit (tsr (pn 1 rfl (lr ?_)))
          obtain rfl := h.some
          exact rt results13 rfl ⟨rfl, hS.d0.d0.d0.d0.d0.d0.d0.d0.d0⟩

/-! ### isochron/model.Ways$1: function 89 -/
noncomputable def model_Ways_1.f (a1 : api_Link) (a3 : Int) : Option (Bool) := some (decide (a1.From = a3))
theorem model_Ways_1.ok {a1 : api_Link} {a3 : Int} {b2 : Nat} {r : Bool} (h : model_Ways_1.f a1 a3 = some r) (hS : St B w (Cl b2 [.int .i64 a3] 3 :: l) hf) :
    Calls prog 89 #[.agg #[.int .i64 a1.From, .int .i64 a1.To, .int .i64 a1.Look, .bool a1.Loose], .pointer (some ⟨b2, 0, none⟩)] w (Ret fun v w => v = .bool r ∧ St B w (Cl b2 [.int .i64 a3] 3 :: l) hf) := by
  have h := Holds.of h
  refine en func89 rfl ntmps89 rfl (sr (bx hS rfl rfl rfl rfl fun b5 w hS => pn 1 rfl (lnsr (RL.s (Vl.fa 0 underlying136 rfl sizeOf3 rfl rfl) rfl (RL.s (Vl.ld 0 hS isAgg3 rfl rfl rfl) rfl (RL.s (Vl.ld 1 hS isAgg3 rfl rfl rfl) rfl (pn 2 rfl (lr ?_))))))))
  obtain rfl := h.some
  exact rt results89 rfl ⟨rfl, hS.d0⟩

/-! ### isochron/model.places: function 88 -/
noncomputable def model_places.j8 (x131 : Int) (l174 : List Int) : Option ((List Int × Int) ⊕ (List Int)) := some (.inl (l174, IntKind.i64.wrap (x131 + 1)))
noncomputable def model_places.l7b (a1 : api_Model) (a12 : Int) : List Int × Int → Option ((List Int × Int) ⊕ (List Int))
  | (l128, x131) => (if x131 < (a1.Links.length : Int) then (if 0 ≤ x131 then ((model_Ways_1.f (⟨(nth a1.Links x131).From, (nth a1.Links x131).To, (nth a1.Links x131).Look, ((nth a1.Links x131).Loose)⟩ : api_Link) a12).bind fun t179 => (if t179 = true then (if (l128.length + 1) * 8 ≤ 140737488355328 then model_places.j8 x131 (l128 ++ ([x131] : List Int)) else none) else model_places.j8 x131 l128)) else none) else some (.inr l128))
noncomputable def model_places.l7 (a1 : api_Model) (a12 : Int) (s : List Int × Int) : Option (List Int) := loopR (model_places.l7b a1 a12) s
noncomputable def model_places.f (a1 : api_Model) (a12 : Int) : Option (List Int) := model_places.l7 a1 a12 ([], 0)
theorem model_places.ok {a1 : api_Model} {a12 : Int} {A2 : Option Addr} {c3 : Nat} {A5 : Option Addr} {c6 : Nat} {A8 : Option Addr} {c9 b11 : Nat} (hr4 : SlR (Rep.sl E_api_Instr.rep) hf A2 c3 a1.Progs) (hr7 : SlR E_api_Link.rep hf A5 c6 a1.Links) (hr10 : SlR E_api_Start.rep hf A8 c9 a1.Starts) {r : List Int} (h : model_places.f a1 a12 = some r) (hS : St B w (Cl b11 [.int .i64 a12] 3 :: l) hf) :
    Calls prog 88 #[.agg #[.slice A2 a1.Progs.length c3, .slice A5 a1.Links.length c6, .slice A8 a1.Starts.length c9, .int .u64 a1.Seed, .int .i64 a1.End, .int .i64 a1.Budget], .func (.func 89) #[] #[.pointer (some ⟨b11, 0, none⟩)]] w (Ret fun v w => ∃ (A_1 : Option Addr) (c_2 : Nat), v = .slice A_1 r.length c_2 ∧ St B w (OSf (FI .i64) 3 (.slice A_1 r.length c_2) r :: Cl b11 [.int .i64 a12] 3 :: l) hf) := by
  have h := Holds.of h
  refine en func88 rfl ntmps88 rfl (sr (bx hS rfl rfl rfl rfl fun b100 w hS => pn 1 rfl (lnsr (pn 1 rfl (ln (RC.seq (sr (RL.s (Vl.fa 1 underlying27 rfl sizeOf23 rfl rfl) rfl ?_))))))))
  refine RL.s (Vl.ld 0 hS isAgg23 rfl rfl rfl) rfl (RL.s (Vl.lenSl underlying23 rfl) rfl (pn 1 rfl (ln (RC.block ?_))))
  have hS := hS.nilSl (FI .i64) 3
  refine fun a ha => RC.loop (N := 25) (body := (model_places.l7b a1 a12)) (φ := (· = r)) (fun (s : List Int × Int) a w => ∃ (l128 : List Int) (x131 : Int), s = (l128, x131) ∧ ∃ (A129 : Option Addr) (c130 : Nat), Has 25 [(1, .func (.func 89) #[] #[.pointer (some ⟨b11, 0, none⟩)]), (5, .slice A129 l128.length c130), (9, .slice A5 a1.Links.length c6), (10, .int .i64 (a1.Links.length : Int)), (11, .int .i64 x131)] a ∧ St B w (OSf (FI .i64) 3 (.slice A129 l128.length c130) l128 :: Cl b11 [.int .i64 a12] 3 :: l) hf) ?_ (s0 := ([], 0)) h ⟨([]), 0, rfl, none, 0, ha.to ⟨rfl, rfl, rfl, rfl, rfl, trivial⟩, hS.d1⟩
  rintro G161 _ a w ⟨l128, x131, rfl, A129, c130, ha, hS⟩ h
  revert a
  show RC _ _ _ _ _ _
  refine sr (pn 1 rfl (ln (RC.seq ?_)))
  refine RC.iteP 12 rfl h (fun hc163 h => ?_) fun hc163 h => ?_
  next =>
   refine RC.condT rfl (sk ?_)
   refine RC.join (fun (s : List Int) a w => ∃ (l174 : List Int), s = (l174) ∧ ∃ (A175 : Option Addr) (c176 : Nat), Has 25 [(1, .func (.func 89) #[] #[.pointer (some ⟨b11, 0, none⟩)]), (5, .slice A175 l174.length c176), (9, .slice A5 a1.Links.length c6), (10, .int .i64 (a1.Links.length : Int)), (11, .int .i64 x131)] a ∧ St B w (OSf (FI .i64) 3 (.slice A175 l174.length c176) l174 :: Cl b11 [.int .i64 a12] 3 :: l) hf ∧ Holds (Sum.elim G161 (· = r)) (model_places.j8 x131 l174)) ?_ ?_
   · rintro l174 a w ⟨_, rfl, A175, c176, ha, hS, h⟩
     revert a
     show RC _ _ _ _ _ _
     refine RC.region (pn 2 rfl (RL.nil ?_))
     exact fun a ha => ⟨(l174, IntKind.i64.wrap (x131 + 1)), ⟨l174, (IntKind.i64.wrap (x131 + 1)), rfl, A175, c176, ha.to ⟨rfl, rfl, rfl, rfl, rfl, trivial⟩, hS⟩, h.some⟩
   · refine RC.block ?_
     refine sr (pn 1 rfl ?_)
     obtain ⟨hq177, h⟩ := h.req
     refine RL.s (Vl.indexAddr underlying23 sizeOf136 rfl rfl ((hr7.2.world hS.sub).adr hq177 hc163) hq177 hc163 rfl) rfl (RL.s (Vl.loadA isAgg136 sizeOf136 rfl rfl ((hr7.2.world hS.sub).cells hq177 hc163)) rfl (al hS zeroValue136 rfl rfl rfl fun b178 w hS => pn 1 rfl (RL.e0 (OW.store (vs := [.int .i64 ((nth a1.Links x131).From), .int .i64 ((nth a1.Links x131).To), .int .i64 ((nth a1.Links x131).Look), .bool ((nth a1.Links x131).Loose)]) 0 hS rfl rfl rfl rfl sizeOf136 rfl rfl rfl rfl) rfl ?_)))
     rintro _ w ⟨rfl, hS⟩
     have hS : St B w (Cl _ [_, _, _, _] _ :: _ :: _ :: l) hf := hS
     refine lnsr (pn 1 rfl (RL.s (Vl.lw 0 hS isAgg136 sizeOf136 rfl rfl rfl) rfl ?_))
     obtain ⟨t179, hg180, h⟩ := h.bind
     have hc := model_Ways_1.ok hg180 hS.p2
     refine RL.e (OW.call (ls := [.tmp 17]) rfl rfl call89 rfl hc) rfl rfl ?_
     rintro _ w ⟨rfl, hS⟩
     refine ln ?_
     refine RC.iteB 18 rfl h (fun hc181 h => ?_) fun hc181 h => ?_
     next =>
      refine RC.condT rfl (RC.region (pn 2 rfl (RL.e (OW.buildSlice (E := (FI .i64)) (xs := ([x131] : List Int)) (cs := [.int .i64 x131]) hS underlying120 zeroValue3 sizeOf3 (parts := [(0, .tmp 20)]) rfl rfl (by decide) (by decide) (by kernel_rfl) rfl) rfl rfl ?_)))
      rintro _ w ⟨b182, rfl, hS⟩
      obtain ⟨hq183, h⟩ := h.req
      refine RL.e (OW.append (E := (FI .i64)) (xs := l128) (ys := ([x131] : List Int)) 3 hS rfl underlying120 type3 rfl rfl rfl rfl (by decide) rfl rfl rfl (hS.slW 0 rfl).2.2.flat (by simp only [maxLen, List.length_cons, List.length_nil] at *; omega) hq183 rfl) rfl rfl ?_
      rintro v186 w hS
      obtain ⟨A184, c185, rfl, _⟩ := hS.osShape 0 rfl
      have hS : St B w (_ :: _ :: _ :: _ :: l) hf := hS
      refine pn 1 rfl (RL.nil (RQ.inB_n ?_))
      exact fun a ha => ⟨((l128 ++ ([x131] : List Int))), (l128 ++ ([x131] : List Int)), rfl, A184, c185, ha.to ⟨rfl, rfl, rfl, rfl, rfl, trivial⟩, hS.d1.d2, h⟩
     next =>
      refine RC.condF rfl (RC.skip (RQ.inB_n ?_))
      exact fun a ha => ⟨(l128), l128, rfl, A129, c130, ha.to ⟨rfl, rfl, rfl, rfl, rfl, trivial⟩, hS.d1.p1, h⟩
  next =>
   refine RC.condF rfl (RC.exit (RQ.exitT ?_))
   have h := h.inrS
   refine RQ.exitT (RQ.inB_hit (tsr (pn 2 rfl (lr ?_))))
   obtain rfl := h.some
   exact rt results88 rfl ⟨A129, c130, rfl, hS⟩

/-! ### isochron/model.Ways: function 74 -/
noncomputable def model_Ways.f (a1 : api_Model) (a11 : Int) : Option (List Int) := ((model_places.f a1 a11).bind fun t20 => some t20)
theorem model_Ways.ok {a1 : api_Model} {a11 : Int} {A2 : Option Addr} {c3 : Nat} {A5 : Option Addr} {c6 : Nat} {A8 : Option Addr} {c9 : Nat} (hr4 : SlR (Rep.sl E_api_Instr.rep) hf A2 c3 a1.Progs) (hr7 : SlR E_api_Link.rep hf A5 c6 a1.Links) (hr10 : SlR E_api_Start.rep hf A8 c9 a1.Starts) {r : List Int} (h : model_Ways.f a1 a11 = some r) (hS : St B w (l) hf) :
    Calls prog 74 #[.agg #[.slice A2 a1.Progs.length c3, .slice A5 a1.Links.length c6, .slice A8 a1.Starts.length c9, .int .u64 a1.Seed, .int .i64 a1.End, .int .i64 a1.Budget], .int .i64 a11] w (Ret fun v w => ∃ (A_1 : Option Addr) (c_2 : Nat), v = .slice A_1 r.length c_2 ∧ St B w (OSf (FI .i64) 3 (.slice A_1 r.length c_2) r :: l) hf) := by
  have h := Holds.of h
  refine en func74 rfl ntmps74 rfl (sr (bx hS rfl rfl rfl rfl fun b18 w hS => bx hS rfl rfl rfl rfl fun b19 w hS => pn 1 rfl (lnsr (RL.s (Vl.lw 1 hS isAgg27 sizeOf27 rfl rfl rfl) rfl (RL.s (Vl.makeFunc (fi := []) (ca := [.tmp 3]) rfl rfl) rfl (cF (fun _ hg => model_places.ok hr4 hr7 hr10 hg hS) call88 h rfl rfl rfl ?_))))))
  rintro t20 h _ w ⟨A22, c23, rfl, hS⟩
  refine pn 1 rfl (lr ?_)
  obtain rfl := h.some
  exact rt results74 rfl ⟨A22, c23, rfl, hS.d1.d1⟩

/-! ### isochron/model.World: function 56 -/
noncomputable def model_World.l6b (a1 : api_Model) (a11 : Int) (l231 : List api_Instr) (t303 : List Int) : List api_Link × Int → Option ((List api_Link × Int) ⊕ (api_World × Int))
  | (l327, x330) => (if x330 < (t303.length : Int) then (if 0 ≤ x330 then (if 0 ≤ nth t303 x330 ∧ nth t303 x330 < (a1.Links.length : Int) then (if (l327.length + 1) * 32 ≤ 140737488355328 then some (.inl ((l327 ++ ([(⟨(nth a1.Links (nth t303 x330)).From, (nth a1.Links (nth t303 x330)).To, (nth a1.Links (nth t303 x330)).Look, ((nth a1.Links (nth t303 x330)).Loose)⟩ : api_Link)])), IntKind.i64.wrap (x330 + 1))) else none) else none) else none) else some (.inr ((⟨l231, a11, l327, a1.Seed⟩ : api_World), 0)))
noncomputable def model_World.l6 (a1 : api_Model) (a11 : Int) (l231 : List api_Instr) (t303 : List Int) (s : List api_Link × Int) : Option (api_World × Int) := loopR (model_World.l6b a1 a11 l231 t303) s
noncomputable def model_World.j4 (a1 : api_Model) (a11 : Int) (l231 : List api_Instr) : Option (api_World × Int) := ((model_Ways.f a1 a11).bind fun t303 => model_World.l6 a1 a11 l231 t303 ([], 0))
noncomputable def model_World.f (a1 : api_Model) (a11 : Int) : Option (api_World × Int) := ((model_Check.f a1).bind fun t205 => (if t205 = 0 then ((model_lane.f a1 a11).bind fun t211 => (if t211 = true then (if 0 ≤ a11 ∧ a11 < (a1.Progs.length : Int) then (if (([] : List api_Instr).length + (nth a1.Progs a11).length) * 32 ≤ 140737488355328 then model_World.j4 a1 a11 (([] : List api_Instr) ++ (nth a1.Progs a11)) else none) else none) else some ((⟨([] : List api_Instr), 0, ([] : List api_Link), 0⟩ : api_World), 1))) else some ((⟨([] : List api_Instr), 0, ([] : List api_Link), 0⟩ : api_World), t205)))
theorem model_World.ok {a1 : api_Model} {a11 : Int} {A2 : Option Addr} {c3 : Nat} {A5 : Option Addr} {c6 : Nat} {A8 : Option Addr} {c9 : Nat} (hr4 : SlR (Rep.sl E_api_Instr.rep) hf A2 c3 a1.Progs) (hr7 : SlR E_api_Link.rep hf A5 c6 a1.Links) (hr10 : SlR E_api_Start.rep hf A8 c9 a1.Starts) (hG0 : GlobAt hf 0 (.iface 148 (.agg #[.pointer (some ⟨1, 83, none⟩)]))) {r : api_World × Int} (h : model_World.f a1 a11 = some r) (hS : St B w (l) hf) :
    Calls prog 56 #[.agg #[.slice A2 a1.Progs.length c3, .slice A5 a1.Links.length c6, .slice A8 a1.Starts.length c9, .int .u64 a1.Seed, .int .i64 a1.End, .int .i64 a1.Budget], .int .i64 a11] w (Ret fun v w => ∃ (A_1 : Option Addr) (c_2 : Nat) (A_3 : Option Addr) (c_4 : Nat), v = .tuple #[.agg #[.slice A_1 r.1.Prog.length c_2, .int .i64 r.1.Self, .slice A_3 r.1.Links.length c_4, .int .u64 r.1.Seed], .int .i64 r.2] ∧ St B w (OSf E_api_Instr 134 (.slice A_1 r.1.Prog.length c_2) r.1.Prog :: OSf E_api_Link 136 (.slice A_3 r.1.Links.length c_4) r.1.Links :: l) hf) := by
  have h := Holds.of h
  refine en func56 rfl ntmps56 rfl (sr (bx hS rfl rfl rfl rfl fun b200 w hS => al hS zeroValue124 rfl rfl rfl fun b201 w hS => pn 1 rfl (ln (RC.seq (sr (RL.s (Vl.lw 1 hS isAgg27 sizeOf27 rfl rfl rfl) rfl (cF (fun _ hg => model_Check.ok hr4 hr7 hr10 hG0 hg hS) call13 h rfl rfl rfl ?_)))))))
  rintro t205 h _ w ⟨rfl, hS⟩
  refine pn 1 rfl (lnsr (pn 2 rfl (ln ?_)))
  refine RC.iteN 13 rfl h (fun hc207 h => ?_) fun hc207 h => ?_
  next =>
   refine RC.condF rfl (sk (RC.seq (sr (RL.s (Vl.lw 1 hS isAgg27 sizeOf27 rfl rfl rfl) rfl (pn 1 rfl (cF (fun _ hg => model_lane.ok hr4 hr7 hr10 hg hS) call70 h rfl rfl rfl ?_))))))
   rintro t211 h _ w ⟨rfl, hS⟩
   refine pn 1 rfl (ln ?_)
   refine RC.iteM 19 rfl h (fun hc213 h => ?_) fun hc213 h => ?_
   next =>
    refine RC.condF rfl (sk ?_)
    refine RC.join (fun (s : List api_Instr) a w => ∃ (l231 : List api_Instr), s = (l231) ∧ ∃ (b230 : Nat) (A232 : Option Addr) (c233 : Nat), Has 51 [(1, .int .i64 a11), (2, .pointer (some ⟨b200, 0, none⟩)), (4, .pointer (some ⟨b201, 0, none⟩)), (7, .pointer (some ⟨b230, 0, none⟩))] a ∧ St B w (OSf E_api_Instr 134 (.slice A232 l231.length c233) l231 :: Cl b201 [.slice none 0 0, .int .i64 0, .slice none 0 0, .int .u64 0] 124 :: Cl b200 [.slice A2 a1.Progs.length c3, .slice A5 a1.Links.length c6, .slice A8 a1.Starts.length c9, .int .u64 a1.Seed, .int .i64 a1.End, .int .i64 a1.Budget] 27 :: Cl b230 [.slice A232 l231.length c233, .int .i64 a11, .slice none 0 0, .int .u64 a1.Seed] 124 :: l) hf ∧ Holds (· = r) (model_World.j4 a1 a11 l231)) ?_ ?_
    · rintro l231 a w ⟨_, rfl, b230, A232, c233, ha, hS, h⟩
      revert a
      show RC _ _ _ _ _ _
      refine RC.seq (sr (RL.s (Vl.lw 2 hS isAgg27 sizeOf27 rfl rfl rfl) rfl (pn 1 rfl (cF (fun _ hg => model_Ways.ok hr4 hr7 hr10 hg hS) call74 h rfl rfl rfl ?_))))
      rintro t303 h _ w ⟨A305, c306, rfl, hS⟩
      refine RL.s (Vl.lenSl underlying120 rfl) rfl (pn 1 rfl (ln (RC.block ?_)))
      have hS := hS.nilSl E_api_Link 136
      refine fun a ha => RC.loop (N := 51) (body := (model_World.l6b a1 a11 l231 t303)) (φ := (· = r)) (fun (s : List api_Link × Int) a w => ∃ (l327 : List api_Link) (x330 : Int), s = (l327, x330) ∧ ∃ (A328 : Option Addr) (c329 : Nat), Has 51 [(2, .pointer (some ⟨b200, 0, none⟩)), (4, .pointer (some ⟨b201, 0, none⟩)), (7, .pointer (some ⟨b230, 0, none⟩)), (33, .slice A305 t303.length c306), (34, .int .i64 (t303.length : Int)), (35, .int .i64 x330)] a ∧ St B w (OSf E_api_Instr 134 (.slice A232 l231.length c233) l231 :: OSf E_api_Link 136 (.slice A328 l327.length c329) l327 :: OSf (FI .i64) 3 (.slice A305 t303.length c306) t303 :: Cl b201 [.slice none 0 0, .int .i64 0, .slice none 0 0, .int .u64 0] 124 :: Cl b200 [.slice A2 a1.Progs.length c3, .slice A5 a1.Links.length c6, .slice A8 a1.Starts.length c9, .int .u64 a1.Seed, .int .i64 a1.End, .int .i64 a1.Budget] 27 :: Cl b230 [.slice A232 l231.length c233, .int .i64 a11, .slice A328 l327.length c329, .int .u64 a1.Seed] 124 :: l) hf) ?_ (s0 := ([], 0)) h ⟨([]), 0, rfl, none, 0, ha.to ⟨rfl, rfl, rfl, rfl, rfl, rfl, trivial⟩, hS.p2⟩
      rintro G353 _ a w ⟨l327, x330, rfl, A328, c329, ha, hS⟩ h
      revert a
      show RC _ _ _ _ _ _
      refine sr (pn 1 rfl (ln (RC.seq ?_)))
      refine RC.iteP 36 rfl h (fun hc355 h => ?_) fun hc355 h => ?_
      next =>
       refine RC.condT rfl (sk (RC.seq (RC.block (sr ?_))))
       obtain ⟨hq364, h⟩ := h.req
       refine RL.s (Vl.indexOwn 2 hS rfl underlying120 sizeOf3 rfl rfl hq364 hc355) rfl (RL.s (Vl.load isAgg3 rfl ((hS.slW 2 rfl).2.2.cell (j := 0) hq364 hc355 rfl)) rfl (pn 1 rfl (ln (RC.planS (plD [0, 4, 6, 10, 14, 17, 20, 23, 26, 29, 32]) [8, 9, 10] hS (fun w hS => hS) follows rfl (by kernel_rfl) (NoTmp.block (NoTmp.then (NoTmp.then (NoTmp.block (NoTmp.then NoTmp.body))))) fun w hS => RP.s0 0 rfl (fun w => Vl.fa 2 underlying124 rfl sizeOf23 rfl rfl) rfl (RP.s 0 1 rfl rfl hS (fun w hS => Vl.ld 5 hS isAgg23 rfl rfl rfl) rfl (RP.s0 2 rfl (fun w => Vl.fa 1 underlying27 rfl sizeOf23 rfl rfl) rfl (RP.s 0 3 rfl rfl hS (fun w hS => Vl.ld 4 hS isAgg23 rfl rfl rfl) rfl (RP.v1 4 rfl (Vl.move rfl) rfl rfl ?_))))))))
       obtain ⟨⟨hq365, hq366⟩, h⟩ := h.req
       refine RP.v1 5 rfl (Vl.indexAddr underlying23 sizeOf136 rfl rfl ((hr7.2.world hS.sub).adr hq365 hq366) hq365 hq366 rfl) rfl rfl (RP.v1 6 rfl (Vl.loadA isAgg136 sizeOf136 rfl rfl ((hr7.2.world hS.sub).cells hq365 hq366)) rfl rfl (RP.e 7 rfl (OW.buildSlice (E := E_api_Link) (xs := [(⟨(nth a1.Links (nth t303 x330)).From, (nth a1.Links (nth t303 x330)).To, (nth a1.Links (nth t303 x330)).Look, ((nth a1.Links (nth t303 x330)).Loose)⟩ : api_Link)]) (cs := [.int .i64 ((nth a1.Links (nth t303 x330)).From), .int .i64 ((nth a1.Links (nth t303 x330)).To), .int .i64 ((nth a1.Links (nth t303 x330)).Look), .bool ((nth a1.Links (nth t303 x330)).Loose)]) hS underlying23 zeroValue136 sizeOf136 (parts := [(0, .tmp 45)]) rfl rfl (by decide) (by decide) (by kernel_rfl) rfl) rfl rfl ?_))
       rintro _ w ⟨b367, rfl, hS⟩
       refine ⟨kp ⟨fun _ => hS.d0, trivial⟩, ?_⟩
       obtain ⟨hq368, h⟩ := h.req
       refine RP.e 8 rfl (OW.append (E := E_api_Link) (xs := l327) (ys := [(⟨(nth a1.Links (nth t303 x330)).From, (nth a1.Links (nth t303 x330)).To, (nth a1.Links (nth t303 x330)).Look, ((nth a1.Links (nth t303 x330)).Loose)⟩ : api_Link)]) 2 hS rfl underlying23 type136 rfl rfl rfl rfl (by decide) rfl rfl rfl (hS.slW 0 rfl).2.2.flat (by simp only [maxLen, List.length_cons, List.length_nil] at *; omega) hq368 rfl) rfl rfl ?_
       rintro v371 w hS
       obtain ⟨A369, c370, rfl, _⟩ := hS.osShape 0 rfl
       have hS : St B w (_ :: _ :: _ :: _ :: _ :: _ :: _ :: l) hf := hS
       refine ⟨kp ⟨(by intro hx; cases hx), trivial⟩, ?_⟩
       refine RP.v1 9 rfl (Vl.fa 2 underlying124 rfl sizeOf23 rfl rfl) rfl rfl (RP.e0 10 rfl (OW.store (vs := [.slice A369 (l327 ++ ([(⟨(nth a1.Links (nth t303 x330)).From, (nth a1.Links (nth t303 x330)).To, (nth a1.Links (nth t303 x330)).Look, ((nth a1.Links (nth t303 x330)).Loose)⟩ : api_Link)])).length c370]) 6 hS rfl rfl rfl rfl sizeOf23 rfl rfl rfl rfl) rfl ?_)
       rintro _ w ⟨rfl, hS⟩
       have hS : St B w (_ :: _ :: _ :: _ :: _ :: _ :: Cl _ [_, _, _, _] _ :: l) hf := hS
       refine ⟨kp ⟨(by intro hx; cases hx), trivial⟩, ?_⟩
       refine RP.nil (RQ.inB_n (RQ.then_n (RC.region (pn 2 rfl (RL.nil ?_)))))
       exact fun a ha => ⟨((l327 ++ ([(⟨(nth a1.Links (nth t303 x330)).From, (nth a1.Links (nth t303 x330)).To, (nth a1.Links (nth t303 x330)).Look, ((nth a1.Links (nth t303 x330)).Loose)⟩ : api_Link)])), IntKind.i64.wrap (x330 + 1)), ⟨(l327 ++ ([(⟨(nth a1.Links (nth t303 x330)).From, (nth a1.Links (nth t303 x330)).To, (nth a1.Links (nth t303 x330)).Look, ((nth a1.Links (nth t303 x330)).Loose)⟩ : api_Link)])), (IntKind.i64.wrap (x330 + 1)), rfl, A369, c370, ha.to ⟨rfl, rfl, rfl, rfl, rfl, rfl, trivial⟩, hS.d1.p1⟩, h.some⟩
      next =>
       refine RC.condF rfl (RC.exit (RQ.exitT ?_))
       have h := h.inrS
       refine RQ.exitT (RQ.inB_hit (tsr (RL.s (Vl.lw 5 hS isAgg124 sizeOf124 rfl rfl rfl) rfl (RL.e0 (OW.store (vs := [.slice A232 l231.length c233, .int .i64 a11, .slice A328 l327.length c329, .int .u64 a1.Seed]) 3 hS rfl rfl rfl rfl sizeOf124 rfl rfl rfl rfl) rfl ?_))))
       rintro _ w ⟨rfl, hS⟩
       have hS : St B w (_ :: _ :: _ :: Cl _ [_, _, _, _] _ :: _ :: _ :: l) hf := hS
       refine pn 1 rfl (lr ?_)
       obtain rfl := h.some
       refine RQ.ret0 (vs := [.agg #[.slice A232 l231.length c233, .int .i64 a11, .slice A328 l327.length c329, .int .u64 a1.Seed], .int .i64 0]) results56 ⟨⟨_, rfl, run_loadVarA (vs := [.slice A232 l231.length c233, .int .i64 a11, .slice A328 l327.length c329, .int .u64 a1.Seed]) isAgg124 sizeOf124 rfl (hS.cellsAt 3 rfl rfl)⟩, rfl, trivial⟩ ?_
       exact ⟨A232, c233, A328, c329, rfl, hS.d2.d2.d2.d2⟩
    · refine RC.planS (.pure 0 (.early 1 0 (.pure 2 (.early 3 0 (.early 4 0 (.pure 6 (.pure 7 (.early 8 0 (.fork 5 10 (.pure 9 (.last 10 (.last 11 .nil))) (.last 5 (.last 9 (.last 11 .nil)))))))))))) [11] hS (fun w hS => hS) follows rfl (by kernel_rfl) (NoTmp.then NoTmp.body) fun w hS => ?_
      refine RP.s0 0 rfl (fun w => Vl.fa 0 underlying27 rfl sizeOf22 rfl rfl) rfl (RP.s 0 1 rfl rfl hS (fun w hS => Vl.ld 1 hS isAgg22 rfl rfl rfl) rfl (pp 1 rfl ?_))
      obtain ⟨⟨hq372, hq373⟩, h⟩ := h.req
      refine RP.s 0 3 rfl rfl hS (fun w hS => Vl.indexAddr underlying22 sizeOf100 rfl rfl (hr4.2.adr hq372 hq373) hq372 hq373 rfl) rfl ?_
      obtain ⟨_, _, ⟨A374, c375, rfl, hr376⟩, hl377⟩ := hr4.2.elem hq372 hq373
      refine RP.s 0 4 rfl rfl hS (fun w hS => Vl.load isAgg100 rfl (cellH_world hS.sub (hl377 0 _ rfl))) rfl (pp 1 rfl (RP.s0 7 rfl (fun w => Vl.fa 3 underlying27 rfl sizeOf25 rfl rfl) rfl (RP.s 0 8 rfl rfl hS (fun w hS => Vl.ld 1 hS isAgg25 rfl rfl rfl) rfl ?_)))
      refine RP.fork ?_ ?_
      · obtain ⟨hq378, h⟩ := h.req
        have hS := hS.nilSl E_api_Instr 134
        refine RPW.e 5 rfl (OW.appendV (E := E_api_Instr) (xs := ([] : List api_Instr)) (ys := nth a1.Progs a11) 0 hS rfl underlying100 type134 rfl rfl rfl rfl (by decide) (by decide) rfl rfl (hr376.2.world hS.sub) hq378 rfl) rfl rfl ?_
        rintro v381 w hS
        obtain ⟨A379, c380, rfl, _⟩ := hS.osShape 0 rfl
        have hS : St B w (_ :: _ :: _ :: l) hf := hS
        refine ⟨kp ⟨fun _ => hS.d0, trivial⟩, ?_⟩
        refine RP.s0 9 rfl (fun w => Vl.build (v := .agg #[.slice A379 (([] : List api_Instr) ++ (nth a1.Progs a11)).length c380, .int .i64 a11, .slice none 0 0, .int .u64 a1.Seed]) (parts := [(0, .tmp 26), (1, .tmp 27), (3, .tmp 29)]) rfl (by kernel_rfl)) rfl (RP.e 10 rfl (OW.alloc (cs := [.slice none 0 0, .int .i64 0, .slice none 0 0, .int .u64 0]) hS zeroValue124 rfl) rfl rfl ?_)
        rintro _ w ⟨b382, rfl, hS⟩
        refine ⟨kp ⟨fun _ => hS.d0.d0, trivial⟩, ?_⟩
        refine RP.e0 11 rfl (OW.store (vs := [.slice A379 (([] : List api_Instr) ++ (nth a1.Progs a11)).length c380, .int .i64 a11, .slice none 0 0, .int .u64 a1.Seed]) 0 hS rfl rfl rfl rfl sizeOf124 rfl rfl rfl rfl) rfl ?_
        rintro _ w ⟨rfl, hS⟩
        have hS : St B w (Cl _ [_, _, _, _] _ :: _ :: _ :: _ :: l) hf := hS
        refine ⟨kp ⟨(by intro hx; cases hx), trivial⟩, ?_⟩
        refine RP.nil ?_
        exact fun a ha => ⟨((([] : List api_Instr) ++ (nth a1.Progs a11))), (([] : List api_Instr) ++ (nth a1.Progs a11)), rfl, b382, A379, c380, ha.to ⟨rfl, rfl, rfl, rfl, trivial⟩, hS.p3.p3.p3, h⟩
      · refine RPW.e 10 rfl (OW.alloc (cs := [.slice none 0 0, .int .i64 0, .slice none 0 0, .int .u64 0]) hS zeroValue124 rfl) rfl rfl ?_
        rintro _ w ⟨b383, rfl, hS⟩
        refine ⟨kp ⟨fun _ => hS.d0, trivial⟩, ?_⟩
        obtain ⟨hq384, h⟩ := h.req
        have hS := hS.nilSl E_api_Instr 134
        refine RP.e 5 rfl (OW.appendV (E := E_api_Instr) (xs := ([] : List api_Instr)) (ys := nth a1.Progs a11) 0 hS rfl underlying100 type134 rfl rfl rfl rfl (by decide) (by decide) rfl rfl (hr376.2.world hS.sub) hq384 rfl) rfl rfl ?_
        rintro v387 w hS
        obtain ⟨A385, c386, rfl, _⟩ := hS.osShape 0 rfl
        have hS : St B w (_ :: _ :: _ :: _ :: l) hf := hS
        refine ⟨kp ⟨fun _ => hS.d0.d0, trivial⟩, ?_⟩
        refine RP.v1 9 rfl (Vl.build (v := .agg #[.slice A385 (([] : List api_Instr) ++ (nth a1.Progs a11)).length c386, .int .i64 a11, .slice none 0 0, .int .u64 a1.Seed]) (parts := [(0, .tmp 26), (1, .tmp 27), (3, .tmp 29)]) rfl (by kernel_rfl)) rfl rfl (RP.e0 11 rfl (OW.store (vs := [.slice A385 (([] : List api_Instr) ++ (nth a1.Progs a11)).length c386, .int .i64 a11, .slice none 0 0, .int .u64 a1.Seed]) 1 hS rfl rfl rfl rfl sizeOf124 rfl rfl rfl rfl) rfl ?_)
        rintro _ w ⟨rfl, hS⟩
        have hS : St B w (_ :: Cl _ [_, _, _, _] _ :: _ :: _ :: l) hf := hS
        refine ⟨kp ⟨(by intro hx; cases hx), trivial⟩, ?_⟩
        refine RP.nil ?_
        exact fun a ha => ⟨((([] : List api_Instr) ++ (nth a1.Progs a11))), (([] : List api_Instr) ++ (nth a1.Progs a11)), rfl, b383, A385, c386, ha.to ⟨rfl, rfl, rfl, rfl, trivial⟩, hS.p3.p3.p2, h⟩
   next =>
    refine RC.condT rfl (sr (RL.s (Vl.build (v := .agg #[.slice none 0 0, .int .i64 0, .slice none 0 0, .int .u64 0]) (parts := []) rfl (by kernel_rfl)) rfl (RL.e0 (OW.store (vs := [.slice none 0 0, .int .i64 0, .slice none 0 0, .int .u64 0]) 0 hS rfl rfl rfl rfl sizeOf124 rfl rfl rfl rfl) rfl ?_)))
    rintro _ w ⟨rfl, hS⟩
    have hS : St B w (Cl _ [_, _, _, _] _ :: _ :: l) hf := hS
    refine pn 1 rfl (lr (RQ.ret ?_))
    have hS := hS.nilSl E_api_Instr 134
    have hS := hS.nilSl E_api_Link 136
    obtain rfl := h.some
    refine RQ.ret0 (vs := [.agg #[.slice none 0 0, .int .i64 0, .slice none 0 0, .int .u64 0], .int .i64 1]) results56 ⟨⟨_, rfl, run_loadVarA (vs := [.slice none 0 0, .int .i64 0, .slice none 0 0, .int .u64 0]) isAgg124 sizeOf124 rfl (hS.cellsAt 2 rfl rfl)⟩, rfl, trivial⟩ ?_
    exact ⟨none, 0, none, 0, rfl, hS.d2.d2.p1⟩
  next =>
   refine RC.condT rfl (sr (RL.s (Vl.build (v := .agg #[.slice none 0 0, .int .i64 0, .slice none 0 0, .int .u64 0]) (parts := []) rfl (by kernel_rfl)) rfl (pn 1 rfl (RL.e0 (OW.store (vs := [.slice none 0 0, .int .i64 0, .slice none 0 0, .int .u64 0]) 0 hS rfl rfl rfl rfl sizeOf124 rfl rfl rfl rfl) rfl ?_))))
   rintro _ w ⟨rfl, hS⟩
   have hS : St B w (Cl _ [_, _, _, _] _ :: _ :: l) hf := hS
   refine pn 1 rfl (lr (RQ.ret ?_))
   have hS := hS.nilSl E_api_Instr 134
   have hS := hS.nilSl E_api_Link 136
   obtain rfl := h.some
   refine RQ.ret0 (vs := [.agg #[.slice none 0 0, .int .i64 0, .slice none 0 0, .int .u64 0], .int .i64 t205]) results56 ⟨⟨_, rfl, run_loadVarA (vs := [.slice none 0 0, .int .i64 0, .slice none 0 0, .int .u64 0]) isAgg124 sizeOf124 rfl (hS.cellsAt 2 rfl rfl)⟩, rfl, trivial⟩ ?_
   exact ⟨none, 0, none, 0, rfl, hS.d2.d2.p1⟩

/-! ### isochron/model.Starts: function 19 -/
noncomputable def model_Starts.l2b (a1 : api_Model) : List api_Message × Int → Option ((List api_Message × Int) ⊕ (List api_Message))
  | (l90, x93) => (if x93 < (a1.Starts.length : Int) then (if 0 ≤ x93 then (if (l90.length + 1) * 56 ≤ 140737488355328 then some (.inl ((l90 ++ ([(⟨(⟨(nth a1.Starts x93).Time, (-1), x93⟩ : api_Key), (nth a1.Starts x93).To, (nth a1.Starts x93).Value, x93, false⟩ : api_Message)])), IntKind.i64.wrap (x93 + 1))) else none) else none) else some (.inr l90))
noncomputable def model_Starts.l2 (a1 : api_Model) (s : List api_Message × Int) : Option (List api_Message) := loopR (model_Starts.l2b a1) s
noncomputable def model_Starts.f (a1 : api_Model) : Option (List api_Message) := model_Starts.l2 a1 ([], 0)
theorem model_Starts.ok {a1 : api_Model} {A2 : Option Addr} {c3 : Nat} {A5 : Option Addr} {c6 : Nat} {A8 : Option Addr} {c9 : Nat} (hr4 : SlR (Rep.sl E_api_Instr.rep) hf A2 c3 a1.Progs) (hr7 : SlR E_api_Link.rep hf A5 c6 a1.Links) (hr10 : SlR E_api_Start.rep hf A8 c9 a1.Starts) {r : List api_Message} (h : model_Starts.f a1 = some r) (hS : St B w (l) hf) :
    Calls prog 19 #[.agg #[.slice A2 a1.Progs.length c3, .slice A5 a1.Links.length c6, .slice A8 a1.Starts.length c9, .int .u64 a1.Seed, .int .i64 a1.End, .int .i64 a1.Budget]] w (Ret fun v w => ∃ (A_1 : Option Addr) (c_2 : Nat), v = .slice A_1 r.length c_2 ∧ St B w (OSf E_api_Message 53 (.slice A_1 r.length c_2) r :: l) hf) := by
  have h := Holds.of h
  refine en func19 rfl ntmps19 rfl (sr (bx hS rfl rfl rfl rfl fun b71 w hS => pn 1 rfl (lnsr (pn 1 rfl (ln (RC.seq (sr (RL.s (Vl.fa 2 underlying27 rfl sizeOf24 rfl rfl) rfl ?_))))))))
  refine RL.s (Vl.ld 0 hS isAgg24 rfl rfl rfl) rfl (RL.s (Vl.lenSl underlying24 rfl) rfl (pn 1 rfl (ln (RC.block ?_))))
  have hS := hS.nilSl E_api_Message 53
  refine fun a ha => RC.loop (N := 29) (body := (model_Starts.l2b a1)) (φ := (· = r)) (fun (s : List api_Message × Int) a w => ∃ (l90 : List api_Message) (x93 : Int), s = (l90, x93) ∧ ∃ (A91 : Option Addr) (c92 : Nat), Has 29 [(3, .slice A91 l90.length c92), (7, .slice A8 a1.Starts.length c9), (8, .int .i64 (a1.Starts.length : Int)), (9, .int .i64 x93)] a ∧ St B w (OSf E_api_Message 53 (.slice A91 l90.length c92) l90 :: l) hf) ?_ (s0 := ([], 0)) h ⟨([]), 0, rfl, none, 0, ha.to ⟨rfl, rfl, rfl, rfl, trivial⟩, hS.d1⟩
  rintro G114 _ a w ⟨l90, x93, rfl, A91, c92, ha, hS⟩ h
  revert a
  show RC _ _ _ _ _ _
  refine sr (pn 1 rfl (ln (RC.seq ?_)))
  refine RC.iteP 10 rfl h (fun hc116 h => ?_) fun hc116 h => ?_
  next =>
   refine RC.condT rfl (sk (RC.seq (RC.block (sr (pn 1 rfl ?_)))))
   obtain ⟨hq124, h⟩ := h.req
   refine RL.s (Vl.indexAddr underlying24 sizeOf74 rfl rfl ((hr10.2.world hS.sub).adr hq124 hc116) hq124 hc116 rfl) rfl (RL.s (Vl.loadA isAgg74 sizeOf74 rfl rfl ((hr10.2.world hS.sub).cells hq124 hc116)) rfl (al hS zeroValue74 rfl rfl rfl fun b125 w hS => pn 1 rfl (RL.e0 (OW.store (vs := [.int .i64 ((nth a1.Starts x93).To), .int .i64 ((nth a1.Starts x93).Time), .int .i64 ((nth a1.Starts x93).Value)]) 0 hS rfl rfl rfl rfl sizeOf74 rfl rfl rfl rfl) rfl ?_)))
   rintro _ w ⟨rfl, hS⟩
   have hS : St B w (Cl _ [_, _, _] _ :: _ :: l) hf := hS
   refine ln (RC.region (pn 1 rfl (RL.s (Vl.fa 1 underlying74 rfl sizeOf2 rfl rfl) rfl (RL.s (Vl.ld 0 hS isAgg2 rfl rfl rfl) rfl (pn 1 rfl (RL.s (Vl.build (v := .agg #[.int .i64 ((nth a1.Starts x93).Time), .int .i64 (-1), .int .i64 x93]) (parts := [(0, .tmp 16), (1, .const (.int .i64 (-1))), (2, .tmp 17)]) rfl (by kernel_rfl)) rfl (RL.s (Vl.fa 0 underlying74 rfl sizeOf3 rfl rfl) rfl (RL.s (Vl.ld 0 hS isAgg3 rfl rfl rfl) rfl (RL.s (Vl.fa 2 underlying74 rfl sizeOf2 rfl rfl) rfl (RL.s (Vl.ld 0 hS isAgg2 rfl rfl rfl) rfl (pn 1 rfl (RL.s (Vl.build (v := .agg #[.int .i64 ((nth a1.Starts x93).Time), .int .i64 (-1), .int .i64 x93, .int .i64 ((nth a1.Starts x93).To), .int .i64 ((nth a1.Starts x93).Value), .int .i64 x93, .bool false]) (parts := [(0, .tmp 18), (1, .tmp 20), (2, .tmp 22), (3, .tmp 23)]) rfl (by kernel_rfl)) rfl (RL.e (OW.buildSlice (E := E_api_Message) (xs := [(⟨(⟨(nth a1.Starts x93).Time, (-1), x93⟩ : api_Key), (nth a1.Starts x93).To, (nth a1.Starts x93).Value, x93, false⟩ : api_Message)]) (cs := [.int .i64 ((nth a1.Starts x93).Time), .int .i64 (-1), .int .i64 x93, .int .i64 ((nth a1.Starts x93).To), .int .i64 ((nth a1.Starts x93).Value), .int .i64 x93, .bool false]) hS underlying49 zeroValue53 sizeOf53 (parts := [(0, .tmp 24)]) rfl rfl (by decide) (by decide) (by kernel_rfl) rfl) rfl rfl ?_)))))))))))))
   rintro _ w ⟨b126, rfl, hS⟩
   obtain ⟨hq127, h⟩ := h.req
   refine RL.e (OW.append (E := E_api_Message) (xs := l90) (ys := [(⟨(⟨(nth a1.Starts x93).Time, (-1), x93⟩ : api_Key), (nth a1.Starts x93).To, (nth a1.Starts x93).Value, x93, false⟩ : api_Message)]) 2 hS rfl underlying49 type53 rfl rfl rfl rfl (by decide) rfl rfl rfl (hS.slW 0 rfl).2.2.flat (by simp only [maxLen, List.length_cons, List.length_nil] at *; omega) hq127 rfl) rfl rfl ?_
   rintro v130 w hS
   obtain ⟨A128, c129, rfl, _⟩ := hS.osShape 0 rfl
   have hS : St B w (_ :: _ :: _ :: l) hf := hS
   refine pn 1 rfl (RL.nil (RQ.inB_n (RQ.then_n (RC.region (pn 2 rfl (RL.nil ?_))))))
   exact fun a ha => ⟨((l90 ++ ([(⟨(⟨(nth a1.Starts x93).Time, (-1), x93⟩ : api_Key), (nth a1.Starts x93).To, (nth a1.Starts x93).Value, x93, false⟩ : api_Message)])), IntKind.i64.wrap (x93 + 1)), ⟨(l90 ++ ([(⟨(⟨(nth a1.Starts x93).Time, (-1), x93⟩ : api_Key), (nth a1.Starts x93).To, (nth a1.Starts x93).Value, x93, false⟩ : api_Message)])), (IntKind.i64.wrap (x93 + 1)), rfl, A128, c129, ha.to ⟨rfl, rfl, rfl, rfl, trivial⟩, hS.d1.d1⟩, h.some⟩
  next =>
   refine RC.condF rfl (RC.exit (RQ.exitT ?_))
   have h := h.inrS
   refine RQ.exitT (RQ.inB_hit (tsr (pn 2 rfl (lr ?_))))
   obtain rfl := h.some
   exact rt results19 rfl ⟨A91, c92, rfl, hS⟩

/-! ### cmp.isNaN[int64]: function 51 -/
noncomputable def cmp_isNaN_int64.f (a1 : Int) : Option (Bool) := some (!decide (a1 = a1))
theorem cmp_isNaN_int64.ok {a1 : Int} {r : Bool} (h : cmp_isNaN_int64.f a1 = some r) (hS : St B w (l) hf) :
    Calls prog 51 #[.int .i64 a1] w (Ret fun v w => v = .bool r ∧ St B w (l) hf) := by
  have h := Holds.of h
  refine en func51 rfl ntmps51 rfl (sr (pn 1 rfl (lnsr (pn 4 rfl (lr ?_)))))
  obtain rfl := h.some
  exact rt results51 rfl ⟨rfl, hS⟩

/-! ### cmp.Compare[int64]: function 28 -/
noncomputable def cmp_Compare_int64.f (a1 a2 : Int) : Option (Int) := ((cmp_isNaN_int64.f a1).bind fun t16 => ((cmp_isNaN_int64.f a2).bind fun t18 => (if t16 = true then (if t18 = true then some 0 else some (-1)) else (if t18 = true then some 1 else (if a1 < a2 then some (-1) else (if a2 < a1 then some 1 else some 0))))))
theorem cmp_Compare_int64.ok {a1 a2 : Int} {r : Int} (h : cmp_Compare_int64.f a1 a2 = some r) (hS : St B w (l) hf) :
    Calls prog 28 #[.int .i64 a1, .int .i64 a2] w (Ret fun v w => v = .int .i64 r ∧ St B w (l) hf) := by
  have h := Holds.of h
  refine en func28 rfl ntmps28 rfl (sr (pn 1 rfl (lnsr (pn 1 rfl (cF (fun _ hg => cmp_isNaN_int64.ok hg hS) call51 h rfl rfl rfl ?_)))))
  rintro t16 h _ w ⟨rfl, hS⟩
  refine pn 1 rfl (lnsr (pn 1 rfl (cF (fun _ hg => cmp_isNaN_int64.ok hg hS) call51 h rfl rfl rfl ?_)))
  rintro t18 h _ w ⟨rfl, hS⟩
  refine pn 1 rfl (ln (RC.seq (sr (pn 1 rfl (ln ?_)))))
  refine RC.iteB 11 rfl h (fun hc22 h => ?_) fun hc22 h => ?_
  next =>
   refine RC.condT rfl (RC.seq (sr (pn 1 rfl (ln ?_))))
   refine RC.iteB 12 rfl h (fun hc23 h => ?_) fun hc23 h => ?_
   next =>
    refine RC.condT rfl (sr (pn 1 rfl (lr (RQ.ret (RQ.ret ?_)))))
    obtain rfl := h.some
    exact rt results28 rfl ⟨rfl, hS⟩
   next =>
    refine RC.condF rfl (sk (sr (pn 1 rfl (lr (RQ.ret ?_)))))
    obtain rfl := h.some
    exact rt results28 rfl ⟨rfl, hS⟩
  next =>
   refine RC.condF rfl (sk (RC.seq (sr (pn 1 rfl (ln ?_)))))
   refine RC.iteB 13 rfl h (fun hc25 h => ?_) fun hc25 h => ?_
   next =>
    refine RC.condT rfl (sr (pn 1 rfl (lr (RQ.ret ?_))))
    obtain rfl := h.some
    exact rt results28 rfl ⟨rfl, hS⟩
   next =>
    refine RC.condF rfl (sk (RC.seq (sr (pn 3 rfl (ln ?_)))))
    refine RC.iteP 16 rfl h (fun hc27 h => ?_) fun hc27 h => ?_
    next =>
     refine RC.condT rfl (sr (pn 1 rfl (lr (RQ.ret ?_))))
     obtain rfl := h.some
     exact rt results28 rfl ⟨rfl, hS⟩
    next =>
     refine RC.condF rfl (sk (RC.seq (sr (pn 3 rfl (ln ?_)))))
     refine RC.iteP 19 rfl h (fun hc28 h => ?_) fun hc28 h => ?_
     next =>
      refine RC.condT rfl (sr (pn 1 rfl (lr (RQ.ret ?_))))
      obtain rfl := h.some
      exact rt results28 rfl ⟨rfl, hS⟩
     next =>
      refine RC.condF rfl (sk (sr (pn 1 rfl (lr ?_))))
      obtain rfl := h.some
      exact rt results28 rfl ⟨rfl, hS⟩

/-! ### cmp.isNaN[int]: function 52 -/
noncomputable def cmp_isNaN_int.f (a1 : Int) : Option (Bool) := some (!decide (a1 = a1))
theorem cmp_isNaN_int.ok {a1 : Int} {r : Bool} (h : cmp_isNaN_int.f a1 = some r) (hS : St B w (l) hf) :
    Calls prog 52 #[.int .i64 a1] w (Ret fun v w => v = .bool r ∧ St B w (l) hf) := by
  have h := Holds.of h
  refine en func52 rfl ntmps52 rfl (sr (pn 1 rfl (lnsr (pn 4 rfl (lr ?_)))))
  obtain rfl := h.some
  exact rt results52 rfl ⟨rfl, hS⟩

/-! ### cmp.Compare[int]: function 29 -/
noncomputable def cmp_Compare_int.f (a1 a2 : Int) : Option (Int) := ((cmp_isNaN_int.f a1).bind fun t16 => ((cmp_isNaN_int.f a2).bind fun t18 => (if t16 = true then (if t18 = true then some 0 else some (-1)) else (if t18 = true then some 1 else (if a1 < a2 then some (-1) else (if a2 < a1 then some 1 else some 0))))))
theorem cmp_Compare_int.ok {a1 a2 : Int} {r : Int} (h : cmp_Compare_int.f a1 a2 = some r) (hS : St B w (l) hf) :
    Calls prog 29 #[.int .i64 a1, .int .i64 a2] w (Ret fun v w => v = .int .i64 r ∧ St B w (l) hf) := by
  have h := Holds.of h
  refine en func29 rfl ntmps29 rfl (sr (pn 1 rfl (lnsr (pn 1 rfl (cF (fun _ hg => cmp_isNaN_int.ok hg hS) call52 h rfl rfl rfl ?_)))))
  rintro t16 h _ w ⟨rfl, hS⟩
  refine pn 1 rfl (lnsr (pn 1 rfl (cF (fun _ hg => cmp_isNaN_int.ok hg hS) call52 h rfl rfl rfl ?_)))
  rintro t18 h _ w ⟨rfl, hS⟩
  refine pn 1 rfl (ln (RC.seq (sr (pn 1 rfl (ln ?_)))))
  refine RC.iteB 11 rfl h (fun hc22 h => ?_) fun hc22 h => ?_
  next =>
   refine RC.condT rfl (RC.seq (sr (pn 1 rfl (ln ?_))))
   refine RC.iteB 12 rfl h (fun hc23 h => ?_) fun hc23 h => ?_
   next =>
    refine RC.condT rfl (sr (pn 1 rfl (lr (RQ.ret (RQ.ret ?_)))))
    obtain rfl := h.some
    exact rt results29 rfl ⟨rfl, hS⟩
   next =>
    refine RC.condF rfl (sk (sr (pn 1 rfl (lr (RQ.ret ?_)))))
    obtain rfl := h.some
    exact rt results29 rfl ⟨rfl, hS⟩
  next =>
   refine RC.condF rfl (sk (RC.seq (sr (pn 1 rfl (ln ?_)))))
   refine RC.iteB 13 rfl h (fun hc25 h => ?_) fun hc25 h => ?_
   next =>
    refine RC.condT rfl (sr (pn 1 rfl (lr (RQ.ret ?_))))
    obtain rfl := h.some
    exact rt results29 rfl ⟨rfl, hS⟩
   next =>
    refine RC.condF rfl (sk (RC.seq (sr (pn 3 rfl (ln ?_)))))
    refine RC.iteP 16 rfl h (fun hc27 h => ?_) fun hc27 h => ?_
    next =>
     refine RC.condT rfl (sr (pn 1 rfl (lr (RQ.ret ?_))))
     obtain rfl := h.some
     exact rt results29 rfl ⟨rfl, hS⟩
    next =>
     refine RC.condF rfl (sk (RC.seq (sr (pn 3 rfl (ln ?_)))))
     refine RC.iteP 19 rfl h (fun hc28 h => ?_) fun hc28 h => ?_
     next =>
      refine RC.condT rfl (sr (pn 1 rfl (lr (RQ.ret ?_))))
      obtain rfl := h.some
      exact rt results29 rfl ⟨rfl, hS⟩
     next =>
      refine RC.condF rfl (sk (sr (pn 1 rfl (lr ?_))))
      obtain rfl := h.some
      exact rt results29 rfl ⟨rfl, hS⟩

/-! ### cmp.Or[int]: function 27 -/
noncomputable def cmp_Or_int.l2b (a1 : List Int) : Int → Option ((Int) ⊕ (Int))
  | (x30) => (if x30 < (a1.length : Int) then (if 0 ≤ x30 then (if nth a1 x30 = 0 then some (.inl (IntKind.i64.wrap (x30 + 1))) else some (.inr (nth a1 x30))) else none) else some (.inr 0))
noncomputable def cmp_Or_int.l2 (a1 : List Int) (s : Int) : Option (Int) := loopR (cmp_Or_int.l2b a1) s
noncomputable def cmp_Or_int.f (a1 : List Int) : Option (Int) := cmp_Or_int.l2 a1 (0)
theorem cmp_Or_int.ok {a1 : List Int} {A2 : Option Addr} {c3 : Nat} (hr4 : SlR ((FI .i64).rep) hf A2 c3 a1) {r : Int} (h : cmp_Or_int.f a1 = some r) (hS : St B w (l) hf) :
    Calls prog 27 #[.slice A2 a1.length c3] w (Ret fun v w => v = .int .i64 r ∧ St B w (l) hf) := by
  have h := Holds.of h
  refine en func27 rfl ntmps27 rfl (sr (pn 1 rfl (lnsr (pn 1 rfl (ln (RC.seq (sr (pn 1 rfl (RL.s (Vl.lenSl underlying120 rfl) rfl ?_)))))))))
  refine pn 1 rfl (ln (RC.block ?_))
  refine fun a ha => RC.loop (N := 18) (body := (cmp_Or_int.l2b a1)) (φ := (· = r)) (fun (s : Int) a w => ∃ (x30 : Int), s = (x30) ∧ Has 18 [(3, .int .i64 0), (6, .slice A2 a1.length c3), (7, .int .i64 (a1.length : Int)), (8, .int .i64 x30)] a ∧ St B w (l) hf) ?_ (s0 := (0)) h ⟨0, rfl, ha.to ⟨rfl, rfl, rfl, rfl, trivial⟩, hS⟩
  rintro G38 x30 a w ⟨_, rfl, ha, hS⟩ h
  revert a
  show RC _ _ _ _ _ _
  refine sr (pn 1 rfl (ln (RC.seq ?_)))
  refine RC.iteP 9 rfl h (fun hc40 h => ?_) fun hc40 h => ?_
  next =>
   refine RC.condT rfl (sk (RC.seq (RC.block (sr ?_))))
   obtain ⟨hq43, h⟩ := h.req
   refine RL.s (Vl.indexAddr underlying120 sizeOf3 rfl rfl ((hr4.2.world hS.sub).adr hq43 hc40) hq43 hc40 rfl) rfl (RL.s (Vl.load isAgg3 rfl ((hr4.2.world hS.sub).cell (j := 0) hq43 hc40 rfl)) rfl (pn 1 rfl (lnsr (pn 3 rfl (ln ?_)))))
   refine RC.iteN 14 rfl h (fun hc44 h => ?_) fun hc44 h => ?_
   next =>
    refine RC.condF rfl (RC.skip (RQ.inB_n (RQ.then_n (RC.region (pn 2 rfl (RL.nil ?_))))))
    exact fun a ha => ⟨(IntKind.i64.wrap (x30 + 1)), ⟨(IntKind.i64.wrap (x30 + 1)), rfl, ha.to ⟨rfl, rfl, rfl, rfl, trivial⟩, hS⟩, h.some⟩
   next =>
    refine RC.condT rfl (sr (pn 2 rfl (lr (RQ.inB_ret (RQ.ret ?_)))))
    have h := h.inrS
    refine RQ.ret (RQ.inB_ret (RQ.ret ?_))
    obtain rfl := h.some
    exact rt results27 rfl ⟨rfl, hS⟩
  next =>
   refine RC.condF rfl (RC.exit (RQ.exitT ?_))
   have h := h.inrS
   refine RQ.exitT (RQ.inB_hit (tsr (pn 2 rfl (lr ?_))))
   obtain rfl := h.some
   exact rt results27 rfl ⟨rfl, hS⟩

/-! ### isochron/event.Compare: function 14 -/
noncomputable def event_Compare.f (a1 a2 : api_Key) : Option (Int) := (if a1 = a2 then some 0 else ((cmp_Compare_int64.f a1.Time a2.Time).bind fun t24 => ((cmp_Compare_int.f a1.From a2.From).bind fun t26 => ((cmp_Compare_int.f a1.Seq a2.Seq).bind fun t28 => ((cmp_Or_int.f ([t24, t26, t28] : List Int)).bind fun t35 => some t35)))))
theorem event_Compare.ok {a1 a2 : api_Key} {r : Int} (h : event_Compare.f a1 a2 = some r) (hS : St B w (l) hf) :
    Calls prog 14 #[.agg #[.int .i64 a1.Time, .int .i64 a1.From, .int .i64 a1.Seq], .agg #[.int .i64 a2.Time, .int .i64 a2.From, .int .i64 a2.Seq]] w (Ret fun v w => v = .int .i64 r ∧ St B w (l) hf) := by
  have h := Holds.of h
  refine en func14 rfl ntmps14 rfl (sr (bx hS rfl rfl rfl rfl fun b20 w hS => bx hS rfl rfl rfl rfl fun b21 w hS => pn 1 rfl (ln (RC.seq (sr (RL.s (Vl.lw 1 hS isAgg42 sizeOf42 rfl rfl rfl) rfl (RL.s (Vl.lw 0 hS isAgg42 sizeOf42 rfl rfl rfl) rfl (RL.s (Vl.eqlS (run_eql_api_Key _ _ a1 a2) rfl rfl) rfl (ln ?_)))))))))
  refine RC.iteP 7 rfl h (fun hc23 h => ?_) fun hc23 h => ?_
  next =>
   refine RC.condT rfl (sr (pn 1 rfl (lr (RQ.ret ?_))))
   obtain rfl := h.some
   exact rt results14 rfl ⟨rfl, hS.d0.d0⟩
  next =>
   refine RC.condF rfl (sk (RC.seq (RC.planS (plD [0, 4, 6, 10, 15, 19, 21, 25, 30, 34, 36, 40, 14, 29, 44, 47, 50, 53]) [14, 15, 16, 17] hS (fun w hS => hS) follows rfl (by kernel_rfl) (NoTmp.then NoTmp.body) fun w hS => RP.s0 0 rfl (fun w => Vl.fa 0 underlying42 rfl sizeOf2 rfl rfl) rfl (RP.s 0 1 rfl rfl hS (fun w hS => Vl.ld 1 hS isAgg2 rfl rfl rfl) rfl (RP.s0 2 rfl (fun w => Vl.fa 0 underlying42 rfl sizeOf2 rfl rfl) rfl (RP.s 0 3 rfl rfl hS (fun w hS => Vl.ld 0 hS isAgg2 rfl rfl rfl) rfl (RP.s0 5 rfl (fun w => Vl.fa 1 underlying42 rfl sizeOf3 rfl rfl) rfl (RP.s 0 6 rfl rfl hS (fun w hS => Vl.ld 1 hS isAgg3 rfl rfl rfl) rfl (RP.s0 7 rfl (fun w => Vl.fa 1 underlying42 rfl sizeOf3 rfl rfl) rfl (RP.s 0 8 rfl rfl hS (fun w hS => Vl.ld 0 hS isAgg3 rfl rfl rfl) rfl (RP.s0 10 rfl (fun w => Vl.fa 2 underlying42 rfl sizeOf3 rfl rfl) rfl (RP.s 0 11 rfl rfl hS (fun w hS => Vl.ld 1 hS isAgg3 rfl rfl rfl) rfl (RP.s0 12 rfl (fun w => Vl.fa 2 underlying42 rfl sizeOf3 rfl rfl) rfl ?_)))))))))))))
   refine RP.s 0 13 rfl rfl hS (fun w hS => Vl.ld 0 hS isAgg3 rfl rfl rfl) rfl ?_
   obtain ⟨t24, hg25, h⟩ := h.bind
   have hc := cmp_Compare_int64.ok hg25 hS
   refine RP.e 4 rfl (OW.callF (ls := [.tmp 9, .tmp 11]) rfl call28 hc) rfl rfl ?_
   rintro _ w ⟨rfl, hS⟩
   refine ⟨kp ⟨fun _ => hS, trivial⟩, ?_⟩
   obtain ⟨t26, hg27, h⟩ := h.bind
   have hc := cmp_Compare_int.ok hg27 hS
   refine RP.e 9 rfl (OW.callF (ls := [.tmp 14, .tmp 16]) rfl call29 hc) rfl rfl ?_
   rintro _ w ⟨rfl, hS⟩
   refine ⟨kp ⟨fun _ => hS, trivial⟩, ?_⟩
   obtain ⟨t28, hg29, h⟩ := h.bind
   have hc := cmp_Compare_int.ok hg29 hS
   refine RP.e 14 rfl (OW.callF (ls := [.tmp 19, .tmp 21]) rfl call29 hc) rfl rfl ?_
   rintro _ w ⟨rfl, hS⟩
   refine ⟨kp ⟨(by intro hx; cases hx), trivial⟩, ?_⟩
   refine RP.e 15 rfl (OW.buildSlice (E := (FI .i64)) (xs := ([t24, t26, t28] : List Int)) (cs := [.int .i64 t24, .int .i64 t26, .int .i64 t28]) hS underlying120 zeroValue3 sizeOf3 (parts := [(0, .tmp 12), (1, .tmp 17), (2, .tmp 22)]) rfl rfl (by decide) (by decide) (by kernel_rfl) rfl) rfl rfl ?_
   rintro _ w ⟨b30, rfl, hS⟩
   refine ⟨kp ⟨(by intro hx; cases hx), trivial⟩, ?_⟩
   obtain ⟨hf34, hs32, hS, hr31, hb33⟩ := St.lendSl hS
   obtain ⟨t35, hg36, h⟩ := h.bind
   have hc := cmp_Or_int.ok hr31 hg36 hS
   refine RP.e 16 rfl (OW.callF (ls := [.tmp 23]) rfl call27 hc) rfl rfl ?_
   rintro _ w ⟨rfl, hS⟩
   have hS := hb33 _ _ hS
   have hS : St B w (_ :: _ :: _ :: l) hf := hS
   refine ⟨kp ⟨(by intro hx; cases hx), trivial⟩, ?_⟩
   refine RP.v1 17 rfl (Vl.assign rfl) rfl rfl (RP.nil (tr ?_))
   obtain rfl := h.some
   exact rt results14 rfl ⟨rfl, hS.d0.d0.d0⟩

end Go.Proofs.Gx
