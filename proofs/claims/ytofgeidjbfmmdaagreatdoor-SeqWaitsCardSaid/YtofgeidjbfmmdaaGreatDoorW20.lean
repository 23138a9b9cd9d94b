/-
  The walks of functions, each with what it computes: printed by wip/gx.py.
-/
import Derived.Test.YtofgeidjbfmmdaaGreatDoorW0
import Derived.Test.YtofgeidjbfmmdaaGreatDoorW18
import Derived.Test.YtofgeidjbfmmdaaGreatDoorW9
set_option linter.unusedVariables false
set_option maxRecDepth 100000
set_option maxHeartbeats 4000000
namespace Go.Proofs.Gx
open Go.Sl Tryz
variable {B : Base} {w : World} {l : List HProp} {hf : Hp}
/-! ### isochron/seq.Left: function 17 -/
noncomputable def seq_Left.l4b (y136 : List api_Message) : List api_Message × Int → Option ((List api_Message × Int) ⊕ (List api_Message × Int))
  | (l201, x204) => (if x204 < (y136.length : Int) then (if 0 ≤ x204 ∧ x204 < (l201.length : Int) then some (.inl ((setL l201 x204 (⟨(nth l201 x204).Key, (nth l201 x204).To, (nth l201 x204).Value, 0, ((nth l201 x204).Anti)⟩ : api_Message)), IntKind.i64.wrap (x204 + 1))) else none) else some (.inr (l201, 0)))
noncomputable def seq_Left.l4 (y136 : List api_Message) (s : List api_Message × Int) : Option (List api_Message × Int) := loopR (seq_Left.l4b y136) s
noncomputable def seq_Left.f (a1 : api_Model) (a11 : Int) : Option (List api_Message × Int) := ((seq_may.f a1 a11).bind fun t123 => (if t123 = 0 then ((seq_run.f a1 a11).bind fun (y128, y129, y130, y131, y132, y133, y134, y135, y136, y137, y138) => seq_Left.l4 y136 (y136, 0)) else some (([] : List api_Message), t123)))
theorem seq_Left.ok {a1 : api_Model} {a11 : Int} {A2 : Option Addr} {c3 : Nat} {A5 : Option Addr} {c6 : Nat} {A8 : Option Addr} {c9 : Nat} (hr4 : SlR (Rep.sl E_api_Instr.rep) hf A2 c3 a1.Progs) (hr7 : SlR E_api_Link.rep hf A5 c6 a1.Links) (hr10 : SlR E_api_Start.rep hf A8 c9 a1.Starts) (hG0 : GlobAt hf 0 (.iface 148 (.agg #[.pointer (some ⟨1, 83, none⟩)]))) {r : List api_Message × Int} (h : seq_Left.f a1 a11 = some r) (hS : St B w (l) hf) :
    Calls prog 17 #[.agg #[.slice A2 a1.Progs.length c3, .slice A5 a1.Links.length c6, .slice A8 a1.Starts.length c9, .int .u64 a1.Seed, .int .i64 a1.End, .int .i64 a1.Budget], .int .i64 a11] w (Ret fun v w => ∃ (A_1 : Option Addr) (c_2 : Nat), v = .tuple #[.slice A_1 r.1.length c_2, .int .i64 r.2] ∧ St B w (OSf E_api_Message 53 (.slice A_1 r.1.length c_2) r.1 :: l) hf) := by
  have h := Holds.of h
  refine en func17 rfl ntmps17 rfl (sr (bx hS rfl rfl rfl rfl fun b119 w hS => pn 2 rfl (ln (RC.seq (sr (RL.s (Vl.lw 0 hS isAgg27 sizeOf27 rfl rfl rfl) rfl (pn 1 rfl (cF (fun _ hg => seq_may.ok hr4 hr7 hr10 hG0 hg hS) call30 h rfl rfl rfl ?_))))))))
  rintro t123 h _ w ⟨rfl, hS⟩
  refine pn 1 rfl (lnsr (pn 2 rfl (ln ?_)))
  refine RC.iteN 14 rfl h (fun hc125 h => ?_) fun hc125 h => ?_
  next =>
   refine RC.condF rfl (sk (sr (RL.s (Vl.lw 0 hS isAgg27 sizeOf27 rfl rfl rfl) rfl (pn 1 rfl (cF (fun _ hg => seq_run.ok hr4 hr7 hr10 hG0 hg hS) call20 h rfl rfl rfl ?_)))))
   rintro ⟨y128, y129, y130, y131, y132, y133, y134, y135, y136, y137, y138⟩ h _ w ⟨hf, hs159, b139, A140, c141, A143, c144, A146, c147, A149, c150, cs151, A153, c154, A155, c156, A157, c158, rfl, hS, hr142, hr145, hr148, hx152⟩
   refine pn 5 rfl (ln (RC.seq (sr (pn 2 rfl (RL.s (Vl.fa 8 underlying65 rfl sizeOf63 rfl rfl) rfl (RL.s (Vl.fa 8 underlying63 rfl sizeOf49 rfl rfl) rfl (RL.s (Vl.ld 0 hS isAgg49 rfl rfl rfl) rfl (RL.s (Vl.lenSl underlying49 rfl) rfl (pn 1 rfl (ln (RC.block ?_)))))))))))
   refine fun a ha => RC.loop (N := 45) (body := (seq_Left.l4b y136)) (φ := (· = r)) (fun (s : List api_Message × Int) a w => ∃ (l201 : List api_Message) (x204 : Int), s = (l201, x204) ∧ ∃ (A202 : Option Addr) (c203 : Nat), Has 45 [(7, .pointer (some ⟨b139, 0, none⟩)), (27, .int .i64 (y136.length : Int)), (28, .int .i64 x204)] a ∧ St B w (OSl 124 4 (.slice A149 y134.length c150) y134.length cs151 :: OSf E_api_State 105 (.slice A153 y135.length c154) y135 :: OSf E_api_Message 53 (.slice A202 l201.length c203) l201 :: OSf E_api_Done 44 (.slice A157 y137.length c158) y137 :: Cl b139 [.slice A140 y128.length c141, .slice A143 y129.length c144, .slice A146 y130.length c147, .int .u64 y131, .int .i64 y132, .int .i64 y133, .slice A149 y134.length c150, .slice A153 y135.length c154, .slice A202 l201.length c203, .func (.func 55) #[] #[], .slice A157 y137.length c158] 65 :: l) hf) ?_ (s0 := (y136, 0)) h ⟨y136, 0, rfl, A155, c156, ha.to ⟨rfl, rfl, rfl, trivial⟩, hS.d5.p4.p4.p4.p4⟩
   rintro G217 _ a w ⟨l201, x204, rfl, A202, c203, ha, hS⟩ h
   revert a
   show RC _ _ _ _ _ _
   refine sr (pn 1 rfl (ln (RC.seq ?_)))
   refine RC.iteP 29 rfl h (fun hc219 h => ?_) fun hc219 h => ?_
   next =>
    refine RC.condT rfl (sk (RC.seq (RC.block (sr (pn 2 rfl (ln (RC.region (pn 2 rfl (RL.s (Vl.fa 8 underlying65 rfl sizeOf63 rfl rfl) rfl (RL.s (Vl.fa 8 underlying63 rfl sizeOf49 rfl rfl) rfl (RL.s (Vl.ld 4 hS isAgg49 rfl rfl rfl) rfl (pn 1 rfl ?_))))))))))))
    obtain ⟨⟨hq223, hq224⟩, h⟩ := h.req
    refine RL.s (Vl.indexOwn 2 hS rfl underlying49 sizeOf53 rfl rfl hq223 hq224) rfl (RL.s (Vl.fieldAddr (a'' := (ad A202).add (x204.toNat * 7 + 5)) underlying53 rfl sizeOf3 rfl (add_add _ _ _)) rfl (RL.e0 (OW.storeOwn (E := E_api_Message) (off := 5) (j := x204) (x' := (⟨(nth l201 x204).Key, (nth l201 x204).To, (nth l201 x204).Value, 0, ((nth l201 x204).Anti)⟩ : api_Message)) (vs := [.int .i64 0]) 2 hS rfl rfl rfl rfl sizeOf3 rfl (Nat.succ_pos _) hq223 hq224 (Nat.le_of_ble_eq_true rfl) rfl rfl) rfl ?_))
    rintro _ w ⟨rfl, hS⟩
    have he225 := (hS.osN 2 rfl).1
    have hS : St B w (_ :: _ :: _ :: _ :: _ :: l) hf := (congrArg (fun k_ : Nat => St B w (OSl 124 4 (.slice A149 y134.length c150) y134.length cs151 :: OSf E_api_State 105 (.slice A153 y135.length c154) y135 :: OSf E_api_Message 53 (.slice A202 k_ c203) (setL l201 x204 (⟨(nth l201 x204).Key, (nth l201 x204).To, (nth l201 x204).Value, 0, ((nth l201 x204).Anti)⟩ : api_Message)) :: OSf E_api_Done 44 (.slice A157 y137.length c158) y137 :: Cl b139 [.slice A140 y128.length c141, .slice A143 y129.length c144, .slice A146 y130.length c147, .int .u64 y131, .int .i64 y132, .int .i64 y133, .slice A149 y134.length c150, .slice A153 y135.length c154, .slice A202 k_ c203, .func (.func 55) #[] #[], .slice A157 y137.length c158] 65 :: l) hf) he225).mp hS
    refine RL.re 35 rfl (congrArg (fun k_ : Nat => (.slice A202 k_ c203 : Value)) he225) (RL.nil (RQ.inB_n (RQ.then_n (RC.region (pn 2 rfl (RL.nil ?_))))))
    exact fun a ha => ⟨((setL l201 x204 (⟨(nth l201 x204).Key, (nth l201 x204).To, (nth l201 x204).Value, 0, ((nth l201 x204).Anti)⟩ : api_Message)), IntKind.i64.wrap (x204 + 1)), ⟨(setL l201 x204 (⟨(nth l201 x204).Key, (nth l201 x204).To, (nth l201 x204).Value, 0, ((nth l201 x204).Anti)⟩ : api_Message)), (IntKind.i64.wrap (x204 + 1)), rfl, A202, c203, ha.to ⟨rfl, rfl, rfl, trivial⟩, hS⟩, h.some⟩
   next =>
    refine RC.condF rfl (RC.exit (RQ.exitT ?_))
    have h := h.inrS
    refine RQ.exitT (RQ.inB_hit (tsr (pn 2 rfl (RL.s (Vl.fa 8 underlying65 rfl sizeOf63 rfl rfl) rfl (RL.s (Vl.fa 8 underlying63 rfl sizeOf49 rfl rfl) rfl (RL.s (Vl.ld 4 hS isAgg49 rfl rfl rfl) rfl (pn 2 rfl (lr ?_))))))))
    obtain rfl := h.some
    exact rt results17 rfl ⟨A202, c203, rfl, (hS.d0.d0.d1.d1).down hs159⟩
  next =>
   refine RC.condT rfl (sr (pn 3 rfl (lr (RQ.ret ?_))))
   have hS := hS.nilSl E_api_Message 53
   obtain rfl := h.some
   exact rt results17 rfl ⟨none, 0, rfl, hS.d1⟩

end Go.Proofs.Gx
