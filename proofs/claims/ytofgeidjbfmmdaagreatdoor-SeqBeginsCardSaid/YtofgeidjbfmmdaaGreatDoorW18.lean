/-
  The walks of functions, each with what it computes: printed by wip/gx.py.
-/
import Derived.Test.YtofgeidjbfmmdaaGreatDoorW0
import Derived.Test.YtofgeidjbfmmdaaGreatDoorW3
import Derived.Test.YtofgeidjbfmmdaaGreatDoorW9
set_option linter.unusedVariables false
set_option maxRecDepth 100000
set_option maxHeartbeats 4000000
namespace Go.Proofs.Gx
open Go.Sl Tryz
variable {B : Base} {w : World} {l : List HProp} {hf : Hp}
/-! ### isochron/seq.may: function 30 -/
noncomputable def seq_may.f (a1 : api_Model) (a11 : Int) : Option (Int) := ((model_Check.f a1).bind fun t18 => (if t18 = 0 then (if a11 < 0 then some 1 else some t18) else some t18))
theorem seq_may.ok {a1 : api_Model} {a11 : Int} {A2 : Option Addr} {c3 : Nat} {A5 : Option Addr} {c6 : Nat} {A8 : Option Addr} {c9 : Nat} (hr4 : SlR (Rep.sl E_api_Instr.rep) hf A2 c3 a1.Progs) (hr7 : SlR E_api_Link.rep hf A5 c6 a1.Links) (hr10 : SlR E_api_Start.rep hf A8 c9 a1.Starts) (hG0 : GlobAt hf 0 (.iface 148 (.agg #[.pointer (some ⟨1, 83, none⟩)]))) {r : Int} (h : seq_may.f a1 a11 = some r) (hS : St B w (l) hf) :
    Calls prog 30 #[.agg #[.slice A2 a1.Progs.length c3, .slice A5 a1.Links.length c6, .slice A8 a1.Starts.length c9, .int .u64 a1.Seed, .int .i64 a1.End, .int .i64 a1.Budget], .int .i64 a11] w (Ret fun v w => v = .int .i64 r ∧ St B w (l) hf) := by
  have h := Holds.of h
  refine en func30 rfl ntmps30 rfl (sr (bx hS rfl rfl rfl rfl fun b17 w hS => pn 1 rfl (lnsr (RL.s (Vl.lw 0 hS isAgg27 sizeOf27 rfl rfl rfl) rfl (cF (fun _ hg => model_Check.ok hr4 hr7 hr10 hG0 hg hS) call13 h rfl rfl rfl ?_)))))
  rintro t18 h _ w ⟨rfl, hS⟩
  refine pn 1 rfl (ln (RC.seq (sr (pn 3 rfl ?_))))
  refine RL.iteP 10 rfl h (fun hc20 h => ?_) fun hc20 h => ?_
  next =>
   refine pn 3 rfl (ln ?_)
   refine RC.iteP 13 rfl h (fun hc21 h => ?_) fun hc21 h => ?_
   next =>
    refine RC.condT rfl (RC.region (pn 1 rfl (lnsr (pn 2 rfl (lr ?_)))))
    obtain rfl := h.some
    exact rt results30 rfl ⟨rfl, hS.d0⟩
   next =>
    refine RC.condF rfl (sk (sr (pn 2 rfl (lr ?_))))
    obtain rfl := h.some
    exact rt results30 rfl ⟨rfl, hS.d0⟩
  next =>
   refine pn 3 rfl (ln (RC.condF rfl (sk (sr (pn 2 rfl (lr ?_))))))
   obtain rfl := h.some
   exact rt results30 rfl ⟨rfl, hS.d0⟩

/-! ### isochron/seq.Part: function 16 -/
noncomputable def seq_Part.f (a1 : api_Model) (a11 : Int) : Option (List api_Done × List api_State × Int × Int) := ((seq_may.f a1 a11).bind fun t59 => (if t59 = 0 then ((seq_run.f a1 a11).bind fun (y64, y65, y66, y67, y68, y69, y70, y71, y72, y73, y74) => some (y73, y71, y74, 0)) else some (([] : List api_Done), ([] : List api_State), 0, t59)))
theorem seq_Part.ok {a1 : api_Model} {a11 : Int} {A2 : Option Addr} {c3 : Nat} {A5 : Option Addr} {c6 : Nat} {A8 : Option Addr} {c9 : Nat} (hr4 : SlR (Rep.sl E_api_Instr.rep) hf A2 c3 a1.Progs) (hr7 : SlR E_api_Link.rep hf A5 c6 a1.Links) (hr10 : SlR E_api_Start.rep hf A8 c9 a1.Starts) (hG0 : GlobAt hf 0 (.iface 148 (.agg #[.pointer (some ⟨1, 83, none⟩)]))) {r : List api_Done × List api_State × Int × Int} (h : seq_Part.f a1 a11 = some r) (hS : St B w (l) hf) :
    Calls prog 16 #[.agg #[.slice A2 a1.Progs.length c3, .slice A5 a1.Links.length c6, .slice A8 a1.Starts.length c9, .int .u64 a1.Seed, .int .i64 a1.End, .int .i64 a1.Budget], .int .i64 a11] w (Ret fun v w => ∃ (A_1 : Option Addr) (c_2 : Nat) (A_3 : Option Addr) (c_4 : Nat), v = .tuple #[.agg #[.slice A_1 r.1.length c_2, .slice A_3 r.2.1.length c_4, .int .i64 r.2.2.1], .int .i64 r.2.2.2] ∧ St B w (OSf E_api_Done 44 (.slice A_1 r.1.length c_2) r.1 :: OSf E_api_State 105 (.slice A_3 r.2.1.length c_4) r.2.1 :: l) hf) := by
  have h := Holds.of h
  refine en func16 rfl ntmps16 rfl (sr (bx hS rfl rfl rfl rfl fun b54 w hS => al hS zeroValue31 rfl rfl rfl fun b55 w hS => pn 1 rfl (ln (RC.seq (sr (RL.s (Vl.lw 1 hS isAgg27 sizeOf27 rfl rfl rfl) rfl (pn 1 rfl (cF (fun _ hg => seq_may.ok hr4 hr7 hr10 hG0 hg hS) call30 h rfl rfl rfl ?_))))))))
  rintro t59 h _ w ⟨rfl, hS⟩
  refine pn 1 rfl (lnsr (pn 2 rfl (ln ?_)))
  refine RC.iteN 13 rfl h (fun hc61 h => ?_) fun hc61 h => ?_
  next =>
   refine RC.condF rfl (sk (sr (RL.s (Vl.lw 1 hS isAgg27 sizeOf27 rfl rfl rfl) rfl (pn 1 rfl (cF (fun _ hg => seq_run.ok hr4 hr7 hr10 hG0 hg hS) call20 h rfl rfl rfl ?_)))))
   rintro ⟨y64, y65, y66, y67, y68, y69, y70, y71, y72, y73, y74⟩ h _ w ⟨hf, hs95, b75, A76, c77, A79, c80, A82, c83, A85, c86, cs87, A89, c90, A91, c92, A93, c94, rfl, hS, hr78, hr81, hr84, hx88⟩
   refine pn 5 rfl (ln (RC.seq (RC.planS (plD [0, 3, 6, 10, 12, 15, 18, 22, 26, 29, 32, 35]) [9, 10, 11] hS (fun w hS => hS) follows rfl (by kernel_rfl) (NoTmp.then NoTmp.body) fun w hS => pp 2 rfl (RP.s0 2 rfl (fun w => Vl.fa 10 underlying65 rfl sizeOf28 rfl rfl) rfl (RP.s 3 rfl rfl hS (fun w hS => Vl.ld 0 hS isAgg28 rfl rfl rfl) rfl (pp 2 rfl (RP.s0 6 rfl (fun w => Vl.fa 7 underlying65 rfl sizeOf29 rfl rfl) rfl (RP.s 7 rfl rfl hS (fun w hS => Vl.ld 0 hS isAgg29 rfl rfl rfl) rfl (RP.v1 8 rfl (Vl.move rfl) rfl rfl (RP.v1 9 rfl (Vl.build (v := .agg #[.slice A93 y73.length c94, .slice A89 y71.length c90, .int .i64 y74]) (parts := [(0, .tmp 25), (1, .tmp 29), (2, .tmp 30)]) rfl (by kernel_rfl)) rfl rfl (RP.e0 10 rfl (OW.store (vs := [.slice A93 y73.length c94, .slice A89 y71.length c90, .int .i64 y74]) 5 hS rfl rfl rfl rfl sizeOf31 rfl rfl rfl rfl) rfl ?_)))))))))))
   rintro _ w ⟨rfl, hS⟩
   have hS : St B w (_ :: _ :: _ :: _ :: _ :: Cl _ [_, _, _] _ :: _ :: l) hf := hS
   refine ⟨(by intro hx; cases hx), ?_⟩
   refine RP.v1 11 rfl (Vl.assign rfl) rfl rfl (RP.nil (tr ?_))
   obtain rfl := h.some
   refine RQ.ret0 (vs := [.agg #[.slice A93 y73.length c94, .slice A89 y71.length c90, .int .i64 y74], .int .i64 0]) results16 ⟨⟨_, rfl, run_loadVarA (vs := [.slice A93 y73.length c94, .slice A89 y71.length c90, .int .i64 y74]) isAgg31 sizeOf31 rfl (hS.cellsAt 5 rfl rfl)⟩, rfl, trivial⟩ ?_
   exact ⟨A93, c94, A89, c90, rfl, (hS.d0.d0.d1.d2.d2.p1).down hs95⟩
  next =>
   refine RC.condT rfl (sr (RL.s (Vl.build (v := .agg #[.slice none 0 0, .slice none 0 0, .int .i64 0]) (parts := []) rfl (by kernel_rfl)) rfl (pn 1 rfl (RL.e0 (OW.store (vs := [.slice none 0 0, .slice none 0 0, .int .i64 0]) 0 hS rfl rfl rfl rfl sizeOf31 rfl rfl rfl rfl) rfl ?_))))
   rintro _ w ⟨rfl, hS⟩
   have hS : St B w (Cl _ [_, _, _] _ :: _ :: l) hf := hS
   refine pn 1 rfl (lr (RQ.ret ?_))
   have hS := hS.nilSl E_api_Done 44
   have hS := hS.nilSl E_api_State 105
   obtain rfl := h.some
   refine RQ.ret0 (vs := [.agg #[.slice none 0 0, .slice none 0 0, .int .i64 0], .int .i64 t59]) results16 ⟨⟨_, rfl, run_loadVarA (vs := [.slice none 0 0, .slice none 0 0, .int .i64 0]) isAgg31 sizeOf31 rfl (hS.cellsAt 2 rfl rfl)⟩, rfl, trivial⟩ ?_
   exact ⟨none, 0, none, 0, rfl, hS.d2.d2.p1⟩

end Go.Proofs.Gx
