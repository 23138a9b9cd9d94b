/-
  The walks of functions, each with what it computes: printed by wip/gx.py.
-/
import Derived.Test.YtbkjjaikmngciaaGreatDoorW0
import Derived.Test.YtbkjjaikmngciaaGreatDoorW1
set_option linter.unusedVariables false
set_option linter.unusedSimpArgs false
set_option maxRecDepth 100000
set_option maxHeartbeats 4000000
namespace Go.Proofs.Gx
open Go.Sl Tryz
variable {B : Base} {w : World} {l : List HProp} {hf : Hp}
noncomputable section
def script_reader_take.f (a2 : script_reader) (a13 : ByteArray) (a14 : List Int) : Option (Bool × script_reader) := (if a13 = lit_lane then (if (a2.m.Progs.length + ([([] : List api_Instr)]).length) * 24 ≤ 140737488355328 then some (true, ({ a2 with m := (⟨(a2.m.Progs ++ ([([] : List api_Instr)])), a2.m.Links, a2.m.Starts, a2.m.Seed, a2.m.End, a2.m.Budget⟩ : api_Model) } : script_reader)) else none) else (if a13 = lit_seed then (if 0 < (a14.length : Int) then some ((decide (0 ≤ nth a14 0)), ({ a2 with m := (⟨a2.m.Progs, a2.m.Links, a2.m.Starts, IntKind.u64.wrap (nth a14 0), a2.m.End, a2.m.Budget⟩ : api_Model) } : script_reader)) else none) else (if a13 = lit_end then (if 0 < (a14.length : Int) then some (true, ({ a2 with m := (⟨a2.m.Progs, a2.m.Links, a2.m.Starts, a2.m.Seed, nth a14 0, a2.m.Budget⟩ : api_Model) } : script_reader)) else none) else (if a13 = lit_budget then (if 0 < (a14.length : Int) then some (true, ({ a2 with m := (⟨a2.m.Progs, a2.m.Links, a2.m.Starts, a2.m.Seed, a2.m.End, nth a14 0⟩ : api_Model) } : script_reader)) else none) else (if a13 = lit_caps then (if 0 < (a14.length : Int) then (if 1 < (a14.length : Int) then (if 2 < (a14.length : Int) then some (true, ({ a2 with c := (⟨nth a14 0, nth a14 1, nth a14 2⟩ : api_Caps) } : script_reader)) else none) else none) else none) else (if a13 = lit_op then (if (a2.m.Progs.length : Int) = 0 then some (false, a2) else (if 0 ≤ IntKind.i64.wrap ((a2.m.Progs.length : Int) - 1) ∧ IntKind.i64.wrap ((a2.m.Progs.length : Int) - 1) < (a2.m.Progs.length : Int) then none else none)) else (if a13 = lit_link then (if 0 < (a14.length : Int) then (if 1 < (a14.length : Int) then (if 2 < (a14.length : Int) then (if 3 < (a14.length : Int) then (if (a2.m.Links.length + 1) * 32 ≤ 140737488355328 then some ((decide (IntKind.i64.wrap (BitVec.ofInt IntKind.i64.bits (nth a14 3) &&& ~~~ BitVec.ofInt IntKind.i64.bits 1).toNat = 0)), ({ a2 with m := (⟨a2.m.Progs, (a2.m.Links ++ ([(⟨nth a14 0, nth a14 1, nth a14 2, (decide (nth a14 3 = 1))⟩ : api_Link)])), a2.m.Starts, a2.m.Seed, a2.m.End, a2.m.Budget⟩ : api_Model) } : script_reader)) else none) else none) else none) else none) else none) else (if a13 = lit_start then (if 0 < (a14.length : Int) then (if 1 < (a14.length : Int) then (if 2 < (a14.length : Int) then (if (a2.m.Starts.length + 1) * 24 ≤ 140737488355328 then some (true, ({ a2 with m := (⟨a2.m.Progs, a2.m.Links, (a2.m.Starts ++ ([(⟨nth a14 0, nth a14 1, nth a14 2⟩ : api_Start)])), a2.m.Seed, a2.m.End, a2.m.Budget⟩ : api_Model) } : script_reader)) else none) else none) else none) else none) else (if a13 = lit_pick then (if 0 < (a14.length : Int) then (if 1 < (a14.length : Int) then (if 2 < (a14.length : Int) then (if (a2.picks.length + 1) * 24 ≤ 140737488355328 then some (true, ({ a2 with picks := (a2.picks ++ ([(⟨nth a14 0, nth a14 1, nth a14 2⟩ : api_Pick)])) } : script_reader)) else none) else none) else none) else none) else some (true, a2))))))))))
theorem script_reader_take.ok {a2 : script_reader} {a13 : ByteArray} {a14 : List Int} {b1 c4 c8 c10 c12 c16 : Nat} {A3 A7 A9 A11 A15 : Option Addr} {cs5 : List Value} (hx6 : RepL (Rep.sl E_api_Instr.rep) hf cs5 a2.m.Progs) (hr17 : SlR ((FI .i64).rep) hf A15 c16 a14) {r : Bool × script_reader} (h : script_reader_take.f a2 a13 a14 = some r) (hS : St B w (Cl b1 (C_script_reader a2 A3 c4 A7 c8 A9 c10 A11 c12) 95 :: OSl 72 1 (sV A3 a2.m.Progs c4) a2.m.Progs.length cs5 :: OSf E_api_Link 76 (sV A7 a2.m.Links c8) a2.m.Links :: OSf E_api_Start 78 (sV A9 a2.m.Starts c10) a2.m.Starts :: OSf E_api_Pick 80 (sV A11 a2.picks c12) a2.picks :: l) hf) :
    Calls prog 34 #[pV b1, .string a13, sV A15 a14 c16] w (Ret fun v w => ∃ hf_ : Hp, Sub hf hf_ ∧ ∃ (A_1 : Option Addr) (c_2 : Nat) (cs_3 : List Value) (A_5 : Option Addr) (c_6 : Nat) (A_7 : Option Addr) (c_8 : Nat) (A_9 : Option Addr) (c_10 : Nat), v = .bool r.1 ∧ St B w (OSl 72 1 (sV A_1 r.2.m.Progs c_2) r.2.m.Progs.length cs_3 :: OSf E_api_Link 76 (sV A_5 r.2.m.Links c_6) r.2.m.Links :: OSf E_api_Start 78 (sV A_7 r.2.m.Starts c_8) r.2.m.Starts :: OSf E_api_Pick 80 (sV A_9 r.2.picks c_10) r.2.picks :: Cl b1 (C_script_reader r.2 A_1 c_2 A_5 c_6 A_7 c_8 A_9 c_10) 95 :: l) hf_ ∧ RepL (Rep.sl E_api_Instr.rep) hf_ cs_3 r.2.m.Progs) := by
  have h := Holds.of h
  refine en func34 rfl ntmps34 rfl (sr (pn 1 rfl (ln (RC.seq (sr (pn 1 rfl (ln (RC.block (sr (RL.s (Vl.strEq rfl rfl) rfl ?_))))))))))
  refine pn 1 rfl (ln ?_)
  refine RC.iteP 9 rfl h (fun hc72 h => ?_) fun hc72 h => ?_
  next =>
   refine jt (RC.region (rr [0, 0, 0, 0, 0, 1] hS ?_))
   refine it fun w hS => ?_
   have hx74 : RepL (Rep.sl E_api_Instr.rep) hf [.slice none 0 0] [([] : List api_Instr)] := (RepL.cons (c := [.slice none 0 0]) (r := []) ⟨none, 0, rfl, SlR.nil⟩ RepL.nil)
   refine RL.e (OW.buildSliceR (sz := 1) (cs := [.slice none 0 0]) hS underlying29 zeroValue72 sizeOf72 (parts := [(0, .const (.slice none 0 0))]) rfl rfl (by decide) (by decide) (by kernel_rfl)) rfl rfl ?_
   rintro _ w ⟨b73, rfl, hS⟩
   obtain ⟨hq77, h⟩ := h.req
   obtain ⟨hf, hs75, hS, hr76⟩ := St.promoteR (Rep.sl_ok E_api_Instr.rep) hS rfl hx74
   refine RL.e (OW.appendR (R := Rep.sl E_api_Instr.rep) (Rep.sl_ok E_api_Instr.rep) (xs := a2.m.Progs) (ys := [([] : List api_Instr)]) 1 hS rfl underlying29 type72 rfl rfl rfl rfl (by decide) (by decide) (hx6.mono hs75) rfl rfl hr76 hq77 rfl) rfl rfl ?_
   rintro _ w ⟨cs80, hx81, hS⟩
   obtain ⟨A78, c79, rfl, _⟩ := hS.osShape 0 rfl
   have hS : St B w (_ :: _ :: _ :: _ :: _ :: l) hf := hS
   refine rr [0, 0, 0, 2] hS ?_
   refine it fun w hS => RL.nil (RQ.inB_n (tsr (pn 1 rfl (lr ?_))))
   cases h.some
   exact rt results34 rfl ⟨_, hs75, A78, c79, cs80, A7, c8, A9, c10, A11, c12, rfl, hS.p4.p4.p4.p3, hx81⟩
  refine jf (sr (RL.s (Vl.strEq rfl rfl) rfl (pn 1 rfl (ln ?_))))
  refine RC.iteP 22 rfl h (fun hc82 h => ?_) fun hc82 h => ?_
  next =>
   refine jtr (pn 2 rfl ?_)
   obtain ⟨hq83, h⟩ := h.req
   refine RL.s (Vl.indexAddr underlying51 sizeOf2 rfl rfl ((hr17.2.world hS.sub).adr (by decide) hq83) (by decide) hq83 rfl) rfl (RL.s (Vl.load isAgg2 rfl ((hr17.2.world hS.sub).cell (j := 0) (by decide) hq83 rfl)) rfl (rr [0, 0, 0, 0, 1] hS ?_))
   refine it fun w hS => lnsr (pn 1 rfl (RL.s (Vl.indexAddr underlying51 sizeOf2 rfl rfl ((hr17.2.world hS.sub).adr (by decide) hq83) (by decide) hq83 rfl) rfl (RL.s (Vl.load isAgg2 rfl ((hr17.2.world hS.sub).cell (j := 0) (by decide) hq83 rfl)) rfl (pn 2 rfl (lr (ir ?_))))))
   cases h.some
   exact rt results34 rfl ⟨_, (Sub.refl _), A3, c4, cs5, A7, c8, A9, c10, A11, c12, rfl, hS.p4.p4.p4.p4, hx6⟩
  refine jf (sr (RL.s (Vl.strEq rfl rfl) rfl (pn 1 rfl (ln ?_))))
  refine RC.iteP 36 rfl h (fun hc84 h => ?_) fun hc84 h => ?_
  next =>
   refine jt (RC.region (pn 2 rfl ?_))
   obtain ⟨hq85, h⟩ := h.req
   refine RL.s (Vl.indexAddr underlying51 sizeOf2 rfl rfl ((hr17.2.world hS.sub).adr (by decide) hq85) (by decide) hq85 rfl) rfl (RL.s (Vl.load isAgg2 rfl ((hr17.2.world hS.sub).cell (j := 0) (by decide) hq85 rfl)) rfl (rr [0, 0, 0, 1] hS ?_))
   refine it fun w hS => RL.nil (RQ.inB_n (tsr (pn 1 rfl (lr ?_))))
   cases h.some
   exact rt results34 rfl ⟨_, (Sub.refl _), A3, c4, cs5, A7, c8, A9, c10, A11, c12, rfl, hS.p4.p4.p4.p4, hx6⟩
  refine jf (sr (RL.s (Vl.strEq rfl rfl) rfl (pn 1 rfl (ln ?_))))
  refine RC.iteP 45 rfl h (fun hc86 h => ?_) fun hc86 h => ?_
  next =>
   refine jt (RC.region (pn 2 rfl ?_))
   obtain ⟨hq87, h⟩ := h.req
   refine RL.s (Vl.indexAddr underlying51 sizeOf2 rfl rfl ((hr17.2.world hS.sub).adr (by decide) hq87) (by decide) hq87 rfl) rfl (RL.s (Vl.load isAgg2 rfl ((hr17.2.world hS.sub).cell (j := 0) (by decide) hq87 rfl)) rfl (rr [0, 0, 0, 1] hS ?_))
   refine it fun w hS => RL.nil (RQ.inB_n (tsr (pn 1 rfl (lr ?_))))
   cases h.some
   exact rt results34 rfl ⟨_, (Sub.refl _), A3, c4, cs5, A7, c8, A9, c10, A11, c12, rfl, hS.p4.p4.p4.p4, hx6⟩
  refine jf (sr (RL.s (Vl.strEq rfl rfl) rfl (pn 1 rfl (ln ?_))))
  refine RC.iteP 54 rfl h (fun hc88 h => ?_) fun hc88 h => ?_
  next =>
   refine jt (dr [0, 3, 7, 10, 12, 16, 19, 23, 26, 29, 32, 35, 38, 41] [10, 11, 12, 13] hS fun w hS => pp 2 rfl ?_)
   obtain ⟨hq89, h⟩ := h.req
   refine RP.s 0 2 rfl rfl hS (fun w hS => Vl.indexAddr underlying51 sizeOf2 rfl rfl ((hr17.2.world hS.sub).adr (by decide) hq89) (by decide) hq89 rfl) rfl (RP.s 0 3 rfl rfl hS (fun w hS => Vl.load isAgg2 rfl ((hr17.2.world hS.sub).cell (j := 0) (by decide) hq89 rfl)) rfl (pp 1 rfl ?_))
   obtain ⟨hq90, h⟩ := h.req
   refine RP.s 0 5 rfl rfl hS (fun w hS => Vl.indexAddr underlying51 sizeOf2 rfl rfl ((hr17.2.world hS.sub).adr (by decide) hq90) (by decide) hq90 rfl) rfl (RP.s 0 6 rfl rfl hS (fun w hS => Vl.load isAgg2 rfl ((hr17.2.world hS.sub).cell (j := 0) (by decide) hq90 rfl)) rfl (rq [0] hS ?_))
   refine it ?_
   obtain ⟨hq91, h⟩ := h.req
   refine RP.v1 8 rfl (Vl.indexAddr underlying51 sizeOf2 rfl rfl ((hr17.2.world hS.sub).adr (by decide) hq91) (by decide) hq91 rfl) rfl rfl (RP.v1 9 rfl (Vl.load isAgg2 rfl ((hr17.2.world hS.sub).cell (j := 0) (by decide) hq91 rfl)) rfl rfl (rq [0, 0, 0] hS ?_))
   refine it (RP.e0 13 rfl (OW.store (vs := [iV (nth a14 0), iV (nth a14 1), iV (nth a14 2)]) 0 hS rfl rfl rfl rfl sizeOf36 rfl rfl rfl rfl) rfl ?_)
   rintro _ w ⟨rfl, hS⟩
   have hS : St B w (Cl _ [_, _, _, _, _, _, _, _, _, _] _ :: _ :: _ :: _ :: _ :: l) hf := hS
   refine ⟨kp ⟨(by intro hx; cases hx), trivial⟩, ?_⟩
   refine RP.nil (RQ.inB_n (tsr (pn 1 rfl (lr ?_))))
   cases h.some
   exact rt results34 rfl ⟨_, (Sub.refl _), A3, c4, cs5, A7, c8, A9, c10, A11, c12, rfl, hS.p4.p4.p4.p4, hx6⟩
  refine jf (sr (RL.s (Vl.strEq rfl rfl) rfl (pn 1 rfl (ln ?_))))
  refine RC.iteP 69 rfl h (fun hc92 h => ?_) fun hc92 h => ?_
  next =>
   refine jt (RC.seq (sr (rr [0, 0, 0, 0, 1, 0, 0] hS ?_)))
   refine it fun w hS => ln ?_
   refine RC.iteP 77 rfl h (fun hc94 h => ?_) fun hc94 h => ?_
   next =>
    refine jtr (pn 1 rfl (lr (RQ.ret (ir ?_))))
    cases h.some
    exact rt results34 rfl ⟨_, (Sub.refl _), A3, c4, cs5, A7, c8, A9, c10, A11, c12, rfl, hS.p4.p4.p4.p4, hx6⟩
   refine jfs (RC.seq (dr [0, 3, 6, 9, 13, 17, 20, 23, 26, 29, 32, 35, 38, 41] [12, 13] hS fun w hS => rq [0, 0, 0, 0, 1, 0, 0, 0, 0, 1, 0, 0] hS ?_))
   refine it ?_
   obtain ⟨⟨hq95, hq96⟩, h⟩ := h.req
   refine RP.v1 12 rfl (Vl.indexOwn 1 hS rfl underlying29 sizeOf72 rfl rfl hq95 hq96) rfl rfl (rq [0] hS ?_)
   refine it (RP.nil (RQ.then_n (dr [0, 3, 6, 10, 12, 16, 19, 21, 25, 28, 30, 34, 37, 41, 44, 47, 50, 53, 56, 59, 62] [18, 19, 20] hS fun w hS => pp 3 rfl ?_)))
   exact h.none
  refine jf (sr (RL.s (Vl.strEq rfl rfl) rfl (pn 1 rfl (ln ?_))))
  refine RC.iteP 111 rfl h (fun hc98 h => ?_) fun hc98 h => ?_
  next =>
   refine jt (RC.seq (dr [0, 3, 6, 9, 12, 16, 18, 22, 25, 27, 31, 34, 36, 40, 43, 47, 50, 53, 56, 59, 62, 65, 68, 71, 74, 77] [21, 22, 23, 24, 25] hS fun w hS => rq [0, 0, 0, 0, 0, 1, 0] hS ?_))
   refine it ?_
   obtain ⟨hq99, h⟩ := h.req
   refine RP.s 0 7 rfl rfl hS (fun w hS => Vl.indexAddr underlying51 sizeOf2 rfl rfl ((hr17.2.world hS.sub).adr (by decide) hq99) (by decide) hq99 rfl) rfl (RP.s 0 8 rfl rfl hS (fun w hS => Vl.load isAgg2 rfl ((hr17.2.world hS.sub).cell (j := 0) (by decide) hq99 rfl)) rfl (pp 1 rfl ?_))
   obtain ⟨hq100, h⟩ := h.req
   refine RP.s 0 10 rfl rfl hS (fun w hS => Vl.indexAddr underlying51 sizeOf2 rfl rfl ((hr17.2.world hS.sub).adr (by decide) hq100) (by decide) hq100 rfl) rfl (RP.s 0 11 rfl rfl hS (fun w hS => Vl.load isAgg2 rfl ((hr17.2.world hS.sub).cell (j := 0) (by decide) hq100 rfl)) rfl (pp 1 rfl ?_))
   obtain ⟨hq101, h⟩ := h.req
   refine RP.s 0 13 rfl rfl hS (fun w hS => Vl.indexAddr underlying51 sizeOf2 rfl rfl ((hr17.2.world hS.sub).adr (by decide) hq101) (by decide) hq101 rfl) rfl (RP.s 0 14 rfl rfl hS (fun w hS => Vl.load isAgg2 rfl ((hr17.2.world hS.sub).cell (j := 0) (by decide) hq101 rfl)) rfl (rq [0] hS ?_))
   refine it ?_
   obtain ⟨hq102, h⟩ := h.req
   refine RP.v1 16 rfl (Vl.indexAddr underlying51 sizeOf2 rfl rfl ((hr17.2.world hS.sub).adr (by decide) hq102) (by decide) hq102 rfl) rfl rfl (RP.v1 17 rfl (Vl.load isAgg2 rfl ((hr17.2.world hS.sub).cell (j := 0) (by decide) hq102 rfl)) rfl rfl (rq [0, 0] hS ?_))
   refine it (RP.e 20 rfl (OW.buildSlice (E := E_api_Link) (xs := [(⟨nth a14 0, nth a14 1, nth a14 2, (decide (nth a14 3 = 1))⟩ : api_Link)]) (cs := [iV (nth a14 0), iV (nth a14 1), iV (nth a14 2), .bool (decide (nth a14 3 = 1))]) hS underlying30 zeroValue76 sizeOf76 (parts := [(0, .tmp 132)]) rfl rfl (by decide) (by decide) (by kernel_rfl) rfl) rfl rfl ?_)
   rintro _ w ⟨b103, rfl, hS⟩
   refine ⟨kp ⟨fun _ => hS.d0, trivial⟩, ?_⟩
   obtain ⟨hq104, h⟩ := h.req
   refine RP.e 21 rfl (OW.append (E := E_api_Link) (xs := a2.m.Links) (ys := [(⟨nth a14 0, nth a14 1, nth a14 2, (decide (nth a14 3 = 1))⟩ : api_Link)]) 3 hS rfl underlying30 type76 rfl rfl rfl rfl (by decide) rfl rfl rfl (hS.slW 0 rfl).2.2.flat (by simp only [maxLen, List.length_cons, List.length_nil] at *; omega) hq104 rfl) rfl rfl ?_
   rintro v107 w hS
   obtain ⟨A105, c106, rfl, _⟩ := hS.osShape 0 rfl
   have hS : St B w (_ :: _ :: _ :: _ :: _ :: _ :: l) hf := hS
   refine ⟨kp ⟨(by intro hx; cases hx), trivial⟩, ?_⟩
   refine RP.v1 22 rfl (Vl.nilCheck rfl) rfl rfl (RP.v1 23 rfl (Vl.fa 0 underlying95 rfl sizeOf34 rfl rfl) rfl rfl (RP.v1 24 rfl (Vl.fa 1 underlying34 rfl sizeOf30 rfl rfl) rfl rfl (RP.e0 25 rfl (OW.store (vs := [.slice A105 (a2.m.Links ++ ([(⟨nth a14 0, nth a14 1, nth a14 2, (decide (nth a14 3 = 1))⟩ : api_Link)])).length c106]) 2 hS rfl rfl rfl rfl sizeOf30 rfl rfl rfl rfl) rfl ?_)))
   rintro _ w ⟨rfl, hS⟩
   have hS : St B w (_ :: _ :: Cl _ [_, _, _, _, _, _, _, _, _, _] _ :: _ :: _ :: _ :: l) hf := hS
   refine ⟨kp ⟨(by intro hx; cases hx), trivial⟩, ?_⟩
   refine RP.nil (tsr (pn 1 rfl (RL.s (Vl.indexAddr underlying51 sizeOf2 rfl rfl ((hr17.2.world hS.sub).adr (by decide) hq102) (by decide) hq102 rfl) rfl (RL.s (Vl.load isAgg2 rfl ((hr17.2.world hS.sub).cell (j := 0) (by decide) hq102 rfl)) rfl (pn 3 rfl (lr (ir ?_)))))))
   cases h.some
   exact rt results34 rfl ⟨_, (Sub.refl _), A3, c4, cs5, A105, c106, A9, c10, A11, c12, rfl, hS.d1.p4.p4.p2.p4, hx6⟩
  refine jf (sr (RL.s (Vl.strEq rfl rfl) rfl (pn 1 rfl (ln ?_))))
  refine RC.iteP 143 rfl h (fun hc108 h => ?_) fun hc108 h => ?_
  next =>
   refine jt (dr [0, 3, 6, 9, 12, 16, 18, 22, 25, 27, 31, 34, 38, 41, 44, 47, 50, 53, 56, 59, 62, 65] [17, 18, 19, 20, 21] hS fun w hS => rq [0, 0, 0, 0, 0, 1, 0] hS ?_)
   refine it ?_
   obtain ⟨hq109, h⟩ := h.req
   refine RP.s 0 7 rfl rfl hS (fun w hS => Vl.indexAddr underlying51 sizeOf2 rfl rfl ((hr17.2.world hS.sub).adr (by decide) hq109) (by decide) hq109 rfl) rfl (RP.s 0 8 rfl rfl hS (fun w hS => Vl.load isAgg2 rfl ((hr17.2.world hS.sub).cell (j := 0) (by decide) hq109 rfl)) rfl (pp 1 rfl ?_))
   obtain ⟨hq110, h⟩ := h.req
   refine RP.s 0 10 rfl rfl hS (fun w hS => Vl.indexAddr underlying51 sizeOf2 rfl rfl ((hr17.2.world hS.sub).adr (by decide) hq110) (by decide) hq110 rfl) rfl (RP.s 0 11 rfl rfl hS (fun w hS => Vl.load isAgg2 rfl ((hr17.2.world hS.sub).cell (j := 0) (by decide) hq110 rfl)) rfl (rq [0] hS ?_))
   refine it ?_
   obtain ⟨hq111, h⟩ := h.req
   refine RP.v1 13 rfl (Vl.indexAddr underlying51 sizeOf2 rfl rfl ((hr17.2.world hS.sub).adr (by decide) hq111) (by decide) hq111 rfl) rfl rfl (RP.v1 14 rfl (Vl.load isAgg2 rfl ((hr17.2.world hS.sub).cell (j := 0) (by decide) hq111 rfl)) rfl rfl (rq [0] hS ?_))
   refine it (RP.e 16 rfl (OW.buildSlice (E := E_api_Start) (xs := [(⟨nth a14 0, nth a14 1, nth a14 2⟩ : api_Start)]) (cs := [iV (nth a14 0), iV (nth a14 1), iV (nth a14 2)]) hS underlying31 zeroValue78 sizeOf78 (parts := [(0, .tmp 160)]) rfl rfl (by decide) (by decide) (by kernel_rfl) rfl) rfl rfl ?_)
   rintro _ w ⟨b112, rfl, hS⟩
   refine ⟨kp ⟨fun _ => hS.d0, trivial⟩, ?_⟩
   obtain ⟨hq113, h⟩ := h.req
   refine RP.e 17 rfl (OW.append (E := E_api_Start) (xs := a2.m.Starts) (ys := [(⟨nth a14 0, nth a14 1, nth a14 2⟩ : api_Start)]) 4 hS rfl underlying31 type78 rfl rfl rfl rfl (by decide) rfl rfl rfl (hS.slW 0 rfl).2.2.flat (by simp only [maxLen, List.length_cons, List.length_nil] at *; omega) hq113 rfl) rfl rfl ?_
   rintro v116 w hS
   obtain ⟨A114, c115, rfl, _⟩ := hS.osShape 0 rfl
   have hS : St B w (_ :: _ :: _ :: _ :: _ :: _ :: l) hf := hS
   refine ⟨kp ⟨(by intro hx; cases hx), trivial⟩, ?_⟩
   refine RP.v1 18 rfl (Vl.nilCheck rfl) rfl rfl (RP.v1 19 rfl (Vl.fa 0 underlying95 rfl sizeOf34 rfl rfl) rfl rfl (RP.v1 20 rfl (Vl.fa 2 underlying34 rfl sizeOf31 rfl rfl) rfl rfl (RP.e0 21 rfl (OW.store (vs := [.slice A114 (a2.m.Starts ++ ([(⟨nth a14 0, nth a14 1, nth a14 2⟩ : api_Start)])).length c115]) 2 hS rfl rfl rfl rfl sizeOf31 rfl rfl rfl rfl) rfl ?_)))
   rintro _ w ⟨rfl, hS⟩
   have hS : St B w (_ :: _ :: Cl _ [_, _, _, _, _, _, _, _, _, _] _ :: _ :: _ :: _ :: l) hf := hS
   refine ⟨kp ⟨(by intro hx; cases hx), trivial⟩, ?_⟩
   refine RP.nil (RQ.inB_n (tsr (pn 1 rfl (lr ?_))))
   cases h.some
   exact rt results34 rfl ⟨_, (Sub.refl _), A3, c4, cs5, A7, c8, A114, c115, A11, c12, rfl, hS.d1.p4.p1.p4.p4, hx6⟩
  refine jf (sr (RL.s (Vl.strEq rfl rfl) rfl (pn 1 rfl (ln ?_))))
  refine RC.iteP 166 rfl h (fun hc117 h => ?_) fun hc117 h => ?_
  next =>
   refine jt (dr [0, 3, 6, 9, 13, 15, 19, 22, 24, 28, 31, 35, 38, 41, 44, 47, 50, 53, 56, 59] [16, 17, 18, 19] hS fun w hS => rq [0, 0, 0, 0, 1, 0] hS ?_)
   refine it ?_
   obtain ⟨hq118, h⟩ := h.req
   refine RP.s 0 6 rfl rfl hS (fun w hS => Vl.indexAddr underlying51 sizeOf2 rfl rfl ((hr17.2.world hS.sub).adr (by decide) hq118) (by decide) hq118 rfl) rfl (RP.s 0 7 rfl rfl hS (fun w hS => Vl.load isAgg2 rfl ((hr17.2.world hS.sub).cell (j := 0) (by decide) hq118 rfl)) rfl (pp 1 rfl ?_))
   obtain ⟨hq119, h⟩ := h.req
   refine RP.s 0 9 rfl rfl hS (fun w hS => Vl.indexAddr underlying51 sizeOf2 rfl rfl ((hr17.2.world hS.sub).adr (by decide) hq119) (by decide) hq119 rfl) rfl (RP.s 0 10 rfl rfl hS (fun w hS => Vl.load isAgg2 rfl ((hr17.2.world hS.sub).cell (j := 0) (by decide) hq119 rfl)) rfl (rq [0] hS ?_))
   refine it ?_
   obtain ⟨hq120, h⟩ := h.req
   refine RP.v1 12 rfl (Vl.indexAddr underlying51 sizeOf2 rfl rfl ((hr17.2.world hS.sub).adr (by decide) hq120) (by decide) hq120 rfl) rfl rfl (RP.v1 13 rfl (Vl.load isAgg2 rfl ((hr17.2.world hS.sub).cell (j := 0) (by decide) hq120 rfl)) rfl rfl (rq [0] hS ?_))
   refine it (RP.e 15 rfl (OW.buildSlice (E := E_api_Pick) (xs := [(⟨nth a14 0, nth a14 1, nth a14 2⟩ : api_Pick)]) (cs := [iV (nth a14 0), iV (nth a14 1), iV (nth a14 2)]) hS underlying37 zeroValue80 sizeOf80 (parts := [(0, .tmp 182)]) rfl rfl (by decide) (by decide) (by kernel_rfl) rfl) rfl rfl ?_)
   rintro _ w ⟨b121, rfl, hS⟩
   refine ⟨kp ⟨fun _ => hS.d0, trivial⟩, ?_⟩
   obtain ⟨hq122, h⟩ := h.req
   refine RP.e 16 rfl (OW.append (E := E_api_Pick) (xs := a2.picks) (ys := [(⟨nth a14 0, nth a14 1, nth a14 2⟩ : api_Pick)]) 5 hS rfl underlying37 type80 rfl rfl rfl rfl (by decide) rfl rfl rfl (hS.slW 0 rfl).2.2.flat (by simp only [maxLen, List.length_cons, List.length_nil] at *; omega) hq122 rfl) rfl rfl ?_
   rintro v125 w hS
   obtain ⟨A123, c124, rfl, _⟩ := hS.osShape 0 rfl
   have hS : St B w (_ :: _ :: _ :: _ :: _ :: _ :: l) hf := hS
   refine ⟨kp ⟨(by intro hx; cases hx), trivial⟩, ?_⟩
   refine RP.v1 17 rfl (Vl.nilCheck rfl) rfl rfl (RP.v1 18 rfl (Vl.fa 9 underlying95 rfl sizeOf37 rfl rfl) rfl rfl (RP.e0 19 rfl (OW.store (vs := [.slice A123 (a2.picks ++ ([(⟨nth a14 0, nth a14 1, nth a14 2⟩ : api_Pick)])).length c124]) 2 hS rfl rfl rfl rfl sizeOf37 rfl rfl rfl rfl) rfl ?_))
   rintro _ w ⟨rfl, hS⟩
   have hS : St B w (_ :: _ :: Cl _ [_, _, _, _, _, _, _, _, _, _] _ :: _ :: _ :: _ :: l) hf := hS
   refine ⟨kp ⟨(by intro hx; cases hx), trivial⟩, ?_⟩
   refine RP.nil (RQ.inB_n (tsr (pn 1 rfl (lr ?_))))
   cases h.some
   exact rt results34 rfl ⟨_, (Sub.refl _), A3, c4, cs5, A7, c8, A9, c10, A123, c124, rfl, hS.d1.p4.p4.p4, hx6⟩
  refine jf (RC.skip (RQ.inB_n (tsr (pn 1 rfl (lr ?_)))))
  cases h.some
  exact rt results34 rfl ⟨_, (Sub.refl _), A3, c4, cs5, A7, c8, A9, c10, A11, c12, rfl, hS.p4.p4.p4.p4, hx6⟩
def script_read.l4b (a1 : ByteArray) : script_reader × Int → Option ((script_reader × Int) ⊕ (script_reader))
  | (y1099, x1110) => (if x1110 < ((splitL a1 10).length : Int) then (if 0 ≤ x1110 then (if nth (splitL a1 10) x1110 = lit_ then some (.inl (y1099, IntKind.i64.wrap (x1110 + 1))) else (if hasP (nth (splitL a1 10) x1110) lit_23 = true then some (.inl (y1099, IntKind.i64.wrap (x1110 + 1))) else ((script_Line.f (nth (splitL a1 10) x1110)).bind fun (y1236, y1237, y1238) => (if y1238 = 0 then ((script_reader_take.f y1099 y1236 y1237).bind fun (y1246, y1247) => (if y1246 = true then some (.inl (y1247, IntKind.i64.wrap (x1110 + 1))) else (Option.map Sum.inr none))) else (Option.map Sum.inr none))))) else none) else some (.inr y1099))
def script_read.l4 (a1 : ByteArray) (s : script_reader × Int) : Option (script_reader) := loopR (script_read.l4b a1) s
def script_read.f (a1 : ByteArray) : Option (script_reader) := (if 65536 < (a1.size : Int) then none else (if a1.size < 4294967281 then script_read.l4 a1 ((⟨(⟨[], [], [], 0, 1000, 1000⟩ : api_Model), (⟨16, 64, 64⟩ : api_Caps), []⟩ : script_reader), 0) else none))
theorem script_read.ok {a1 : ByteArray} (hT : TabH prog hf) {r : script_reader} (h : script_read.f a1 = some r) (hS : St B w (l) hf) :
    Calls prog 24 #[.string a1] w (Ret fun v w => ∃ hf_ : Hp, Sub hf hf_ ∧ ∃ (b_1 : Nat) (A_2 : Option Addr) (c_3 : Nat) (cs_4 : List Value) (A_6 : Option Addr) (c_7 : Nat) (A_8 : Option Addr) (c_9 : Nat) (A_10 : Option Addr) (c_11 : Nat), v = .tuple #[pV b_1, .nilIface] ∧ St B w (Cl b_1 (C_script_reader r A_2 c_3 A_6 c_7 A_8 c_9 A_10 c_11) 95 :: OSl 72 1 (sV A_2 r.m.Progs c_3) r.m.Progs.length cs_4 :: OSf E_api_Link 76 (sV A_6 r.m.Links c_7) r.m.Links :: OSf E_api_Start 78 (sV A_8 r.m.Starts c_9) r.m.Starts :: OSf E_api_Pick 80 (sV A_10 r.picks c_11) r.picks :: l) hf_ ∧ RepL (Rep.sl E_api_Instr.rep) hf_ cs_4 r.m.Progs) := by
  have h := Holds.of h
  refine en func24 rfl ntmps24 rfl (sr (pn 2 rfl (ln (RC.seq (sr (r0 3 rfl (ln ?_)))))))
  refine RC.iteP 12 rfl h (fun hc634 h => ?_) fun hc634 h => ?_
  next =>
   refine jtr (rr [0, 0, 0, 0, 0] hS ?_)
   refine fun b635 => it fun w hS => lr (RQ.ret ?_)
   exact h.none
  refine jfs (sr (rr [0, 0, 0, 0, 0] hS ?_))
  refine fun b636 => it fun w hS => ln (RC.seq (sr (pn 1 rfl ?_)))
  obtain ⟨hq950, h⟩ := h.req
  refine RL.e (OW.callF (ls := [.tmp 20, .const (.string lit_0a)]) rfl call31 (split_ok (fun s x w hs => Any.strings_Split_one lays146 (by kernel_rfl) s x w hs) a1 10 hq950 hS)) rfl rfl ?_
  rintro _ w ⟨b951, rfl, hS⟩
  refine r0 2 rfl (ln (RC.block ?_))
  have hS := hS.nilSlR 72 1
  have hS := hS.nilSl E_api_Link 76
  have hS := hS.nilSl E_api_Start 78
  have hS := hS.nilSl E_api_Pick 80
  refine fun a ha => lp h (fun (s : script_reader × Int) a w => ∃ y1099 x1110, s = (y1099, x1110) ∧ ∃ hf_, Sub hf hf_ ∧ ∃ A1100 c1101 cs1102 A1104 c1105 A1106 c1107 A1108 c1109, Has 56 [(4, pV b636), (21, .slice (some ⟨b951, 0, none⟩) (splitL a1 10).length ((splitL a1 10).length)), (22, iV ((splitL a1 10).length : Int)), (23, iV x1110)] a ∧ St B w (OSl 72 1 (sV A1100 y1099.m.Progs c1101) y1099.m.Progs.length cs1102 :: OSf E_api_Link 76 (sV A1104 y1099.m.Links c1105) y1099.m.Links :: OSf E_api_Start 78 (sV A1106 y1099.m.Starts c1107) y1099.m.Starts :: OSf E_api_Pick 80 (sV A1108 y1099.picks c1109) y1099.picks :: OSf FS 9 (.slice (some ⟨b951, 0, none⟩) (splitL a1 10).length ((splitL a1 10).length)) (splitL a1 10) :: Cl b636 (C_script_reader y1099 A1100 c1101 A1104 c1105 A1106 c1107 A1108 c1109) 95 :: l) hf_ ∧ RepL (Rep.sl E_api_Instr.rep) hf_ cs1102 y1099.m.Progs) ⟨_, _, rfl, _, (Sub.refl _), _, _, _, _, _, _, _, _, _, ha.tE rfl, hS.p1.p2.p3, RepL.nil⟩ ?_
  rintro G1192 _ a w ⟨y1099, x1110, rfl, hf, hs1019, A1100, c1101, cs1102, A1104, c1105, A1106, c1107, A1108, c1109, ha, hS, hx1103⟩ h
  refine ro ha (sr (pn 1 rfl (ln (RC.seq ?_))))
  refine RC.iteP 24 rfl h (fun hc1194 h => ?_) fun hc1194 h => ?_
  next =>
   refine jt (sk (RC.seq (RC.block (sr (pn 1 rfl ?_)))))
   obtain ⟨hq1229, h⟩ := h.req
   refine RL.s (Vl.indexOwn 4 hS rfl underlying101 sizeOf9 rfl rfl hq1229 hc1194) rfl (RL.s (Vl.load isAgg9 rfl ((hS.slW 4 rfl).2.2.cell (j := 0) hq1229 hc1194 rfl)) rfl (pn 2 rfl (ln (RC.seq (sr (pn 1 rfl (RL.s (Vl.strEq rfl rfl) rfl (pn 1 rfl ?_))))))))
   refine RL.iteP 30 rfl h (fun hc1232 h => ?_) fun hc1232 h => ?_
   next =>
    refine pn 3 rfl (ln (jt (RC.exit (RQ.exitT (RQ.inB_hit (RQ.then_n (RC.region (pn 2 rfl (RL.nil ?_)))))))))
    exact fun a ha => ⟨_, h.some, _, _, rfl, _, hs1019, _, _, _, _, _, _, _, _, _, ha.tE rfl, hS, hx1103⟩
   refine pn 1 rfl (RL.e (OW.callF (ls := [.tmp 31, .const (.string lit_23)]) rfl call32 (hasP_ok strings_HasPrefix (nth (splitL a1 10) x1110) lit_23 hS)) rfl rfl ?_)
   rintro _ w ⟨rfl, hS⟩
   refine pn 1 rfl (ln ?_)
   refine RC.iteB 33 rfl h (fun hc1233 h => ?_) fun hc1233 h => ?_
   next =>
    refine jt (RC.exit (RQ.exitT (RQ.inB_hit (RQ.then_n (RC.region (pn 2 rfl (RL.nil ?_)))))))
    exact fun a ha => ⟨_, h.some, _, _, rfl, _, hs1019, _, _, _, _, _, _, _, _, _, ha.tE rfl, hS, hx1103⟩
   refine jfs (sr (pn 1 rfl (cF (fun _ hg => script_Line.ok (hT.mono hs1019) hg hS) call33 h rfl rfl rfl ?_)))
   rintro ⟨y1236, y1237, y1238⟩ h _ w ⟨A1239, c1240, rfl, hS⟩
   refine pn 7 rfl (lnsr (pn 3 rfl ?_))
   refine RL.iteN 42 rfl h (fun hc1241 h => ?_) fun hc1241 h => ?_
   next =>
    refine pn 3 rfl ?_
    obtain ⟨hf, hs1242, hS, hr1243⟩ := St.promote hS
    have hS : St B w (_ :: _ :: _ :: _ :: _ :: _ :: l) hf := hS
    refine cF (fun _ hg => script_reader_take.ok (hx1103.mono hs1242) hr1243 hg hS.p5) call34 h rfl rfl rfl ?_
    rintro ⟨y1246, y1247⟩ h _ w ⟨hf, hs1258, A1248, c1249, cs1250, A1252, c1253, A1254, c1255, A1256, c1257, rfl, hS, hx1251⟩
    refine pn 2 rfl (ln ?_)
    refine RC.iteM 48 rfl h (fun hc1259 h => ?_) fun hc1259 h => ?_
    next =>
     refine jf (RC.skip (RQ.inB_n (RQ.then_n (RC.region (pn 2 rfl (RL.nil ?_))))))
     exact fun a ha => ⟨_, h.some, _, _, rfl, _, ((hs1019.trans hs1242).trans hs1258), _, _, _, _, _, _, _, _, _, ha.tE rfl, hS.p5.p4.p4.p4.p4, hx1251⟩
    refine jtr (rr [0, 0, 0, 0, 0, 0, 0] hS ?_)
    refine fun b1260 => it fun w hS => lr (ir ?_)
    have h := h.inr
    refine RQ.ret (ir ?_)
    exact h.none
   refine pn 6 rfl (ln (jtr (rr [0, 0, 0, 0, 0, 0, 0] hS ?_)))
   refine fun b1261 => it fun w hS => lr (ir ?_)
   have h := h.inr
   refine RQ.ret (ir ?_)
   exact h.none
  refine jf (RC.exit (RQ.exitT ?_))
  have h := h.inrS
  refine RQ.exitT (RQ.inB_hit (tsr (pn 3 rfl (lr ?_))))
  obtain rfl := h.some
  exact rt results24 rfl ⟨_, hs1019, b636, A1100, c1101, cs1102, A1104, c1105, A1106, c1107, A1108, c1109, rfl, hS.d4.p4, hx1103⟩
def errors_As.f  : Option (Bool) := some false
theorem errors_As.ok {b1 : Nat} {r : Bool} (h : errors_As.f = some r) (hS : St B w (Cl b1 [.pointer none] 89 :: l) hf) :
    Calls prog 25 #[.nilIface, .iface 91 (pV b1)] w (Ret fun v w => v = .bool r ∧ St B w (Cl b1 [.pointer none] 89 :: l) hf) := by
  have h := Holds.of h
  refine en func25 rfl ntmps25 rfl (sr (pn 1 rfl (ln (RC.seq (sr (pn 1 rfl (RL.s (Vl.bn true rfl rfl) rfl (ln (jtr ?_)))))))))
  refine pn 1 rfl (lr (RQ.ret ?_))
  obtain rfl := h.some
  exact rt results25 rfl ⟨rfl, hS⟩
def script_Parse.f (a1 : ByteArray) : Option (api_Model × api_Caps × List api_Pick × Int × Int) := ((script_read.f a1).bind fun t27 => ((errors_As.f).bind fun t45 => (if t45 = true then none else some (t27.m, t27.c, t27.picks, 0, 0))))
theorem script_Parse.ok {a1 : ByteArray} (hT : TabH prog hf) {r : api_Model × api_Caps × List api_Pick × Int × Int} (h : script_Parse.f a1 = some r) (hS : St B w (l) hf) :
    Calls prog 11 #[.string a1] w (Ret fun v w => ∃ hf_ : Hp, Sub hf hf_ ∧ ∃ (A_1 : Option Addr) (c_2 : Nat) (cs_3 : List Value) (A_5 : Option Addr) (c_6 : Nat) (A_7 : Option Addr) (c_8 : Nat) (A_9 : Option Addr) (c_10 : Nat), v = .tuple #[.agg (C_api_Model r.1 A_1 c_2 A_5 c_6 A_7 c_8).toArray, .agg (C_api_Caps r.2.1).toArray, sV A_9 r.2.2.1 c_10, iV r.2.2.2.1, iV r.2.2.2.2] ∧ St B w (OSl 72 1 (sV A_1 r.1.Progs c_2) r.1.Progs.length cs_3 :: OSf E_api_Link 76 (sV A_5 r.1.Links c_6) r.1.Links :: OSf E_api_Start 78 (sV A_7 r.1.Starts c_8) r.1.Starts :: OSf E_api_Pick 80 (sV A_9 r.2.2.1 c_10) r.2.2.1 :: l) hf_ ∧ RepL (Rep.sl E_api_Instr.rep) hf_ cs_3 r.1.Progs) := by
  have h := Holds.of h
  refine en func11 rfl ntmps11 rfl (sr (rr [0, 0, 0, 0, 0] hS ?_))
  refine fun b25 b26 => it fun w hS => lnsr (pn 1 rfl (cF (fun _ hg => script_read.ok hT hg hS) call24 h rfl rfl rfl ?_))
  rintro t27 h _ w ⟨hf, hs40, b29, A30, c31, cs32, A34, c35, A36, c37, A38, c39, rfl, hS, hx33⟩
  refine pn 5 rfl (lnsr (rr [0] hS ?_))
  refine fun b41 => it fun w hS => ln (RC.seq (sr (r0 2 rfl (cF (fun _ hg => errors_As.ok hg hS) call25 h rfl rfl rfl ?_))))
  rintro t45 h _ w ⟨rfl, hS⟩
  refine ln ?_
  refine RC.iteB 17 rfl h (fun hc47 h => ?_) fun hc47 h => ?_
  next =>
   refine jt (RC.seq (dr [0, 3, 7, 9, 12, 16, 19, 21, 24, 28, 32, 35, 38, 41, 44] [14] hS fun w hS => rq [0, 0, 1] hS ?_))
   refine it ?_
   exact h.none
  refine jfs (RC.seq (dk [0, 3, 6, 10, 12, 15, 18, 22, 24, 27, 30, 34, 38, 41, 44, 47, 50] [14, 15, 16] hS (fun w hS => hS.d6.d6) fun w hS => rq [0, 0, 0, 2, 0, 0, 0, 2, 0, 0, 0, 2] hS.d6.d6 ?_))
  refine it (RP.e0 12 rfl (OW.store (vs := (C_api_Model t27.m A30 c31 A34 c35 A36 c37)) 7 hS rfl rfl rfl rfl sizeOf34 rfl rfl rfl rfl) rfl ?_)
  rintro _ w ⟨rfl, hS⟩
  have hS : St B w (_ :: _ :: _ :: _ :: _ :: _ :: _ :: Cl _ [_, _, _, _, _, _] _ :: l) hf := hS
  refine ⟨kp ⟨fun _ => hS.d6.d6, trivial⟩, ?_⟩
  refine RP.e0 13 rfl (OW.store (vs := (C_api_Caps t27.c)) 6 hS rfl rfl rfl rfl sizeOf36 rfl rfl rfl rfl) rfl ?_
  rintro _ w ⟨rfl, hS⟩
  have hS : St B w (_ :: _ :: _ :: _ :: _ :: _ :: Cl _ [_, _, _] _ :: _ :: l) hf := hS
  refine ⟨kp ⟨fun _ => hS.d6.d6, trivial⟩, ?_⟩
  refine rq [0, 0, 0] hS.d6.d6 ?_
  refine it (RP.nil (tr ?_))
  cases h.some
  refine rz [7, 6] results11 hS ?_
  exact it ⟨_, hs40, A30, c31, cs32, A34, c35, A36, c37, A38, c39, rfl, hS.d0.d0.d4.d4, hx33⟩
def model_rules.f  : Option (Unit) := some ()
theorem model_rules.ok {r : Unit} (h : model_rules.f = some r) (hS : St B w (l) hf) :
    Calls prog 78 #[] w (Ret fun v w => v = .agg #[.func (.func 105) #[] #[], .func (.func 106) #[] #[], .func (.func 107) #[] #[], .func (.func 108) #[] #[]] ∧ St B w (l) hf) := by
  have h := Holds.of h
  refine en func78 rfl ntmps78 rfl (sr (rr [0] hS ?_))
  refine fun b2 => it fun w hS => lnsr (r0 4 rfl (RL.s (Vl.build (v := .agg #[.func (.func 105) #[] #[], .func (.func 106) #[] #[], .func (.func 107) #[] #[], .func (.func 108) #[] #[]]) (parts := [(0, .tmp 1), (1, .tmp 2), (2, .tmp 3), (3, .tmp 4)]) rfl (by kernel_rfl)) rfl (rr [1] hS ?_)))
  refine it fun w hS => lr ?_
  have e := h.some
  refine rz [0] results78 hS ?_
  exact it ⟨rfl, hS.d0⟩
def vtime_Valid.f (a1 : Int) : Option (Bool) := (if 0 ≤ a1 then some (decide (a1 ≤ 4611686018427387903)) else some false)
theorem vtime_Valid.ok {a1 : Int} {r : Bool} (h : vtime_Valid.f a1 = some r) (hS : St B w (l) hf) :
    Calls prog 149 #[iV a1] w (Ret fun v w => v = .bool r ∧ St B w (l) hf) := by
  have h := Holds.of h
  refine en func149 rfl ntmps149 rfl (sr (pn 1 rfl (lnsr (pn 3 rfl ?_))))
  refine RL.iteP 5 rfl h (fun hc3 h => ?_) fun hc3 h => ?_
  next =>
   refine pn 4 rfl (lr ?_)
   cases h.some
   exact rt results149 rfl ⟨rfl, hS⟩
  refine pn 4 rfl (lr ?_)
  obtain rfl := h.some
  exact rt results149 rfl ⟨rfl, hS⟩
def model_sizes.f (a1 : api_Model) : Option ((Int) ⊕ (Unit)) := (if (a1.Progs.length : Int) < 1 then some (.inl 1) else (if 16 < (a1.Progs.length : Int) then some (.inl 1) else ((vtime_Valid.f a1.End).bind fun t22 => (if t22 = true then (if a1.Budget < 0 then some (.inl 1) else (if 4096 < a1.Budget then some (.inl 1) else some (.inr (())))) else some (.inl 1)))))
theorem model_sizes.ok {a1 : api_Model} {A2 A5 A8 : Option Addr} {c3 c6 c9 : Nat} (hr4 : SlR (Rep.sl E_api_Instr.rep) hf A2 c3 a1.Progs) (hr7 : SlR E_api_Link.rep hf A5 c6 a1.Links) (hr10 : SlR E_api_Start.rep hf A8 c9 a1.Starts) {r : (Int) ⊕ (Unit)} (h : model_sizes.f a1 = some r) (hS : St B w (l) hf) :
    Calls prog 105 #[.agg (C_api_Model a1 A2 c3 A5 c6 A8 c9).toArray] w (Ret fun v w => match (generalizing := false) r with | .inl r_ => v = .iface 38 (iV r_) ∧ St B w (l) hf | .inr (r_) => v = .nilIface ∧ St B w (l) hf) := by
  have h := Holds.of h
  refine en func105 rfl ntmps105 rfl (sr (rr [0, 0] hS ?_))
  refine fun b19 => it fun w hS => ln (RC.seq (sr (rr [0, 1, 0, 0, 0] hS ?_)))
  refine it fun w hS => RL.iteP 7 rfl h (fun hc20 h => ?_) fun hc20 h => ?_
  next =>
   refine pn 21 rfl (ln (jtr (r0 2 rfl (lr (RQ.ret ?_)))))
   cases h.some
   exact rt results105 rfl ⟨rfl, hS.d0⟩
  refine rr [0, 1, 0, 0, 0, 0] hS ?_
  refine it fun w hS => RL.iteP 13 rfl h (fun hc21 h => ?_) fun hc21 h => ?_
  next =>
   refine pn 15 rfl (ln (jtr (r0 2 rfl (lr (RQ.ret ?_)))))
   cases h.some
   exact rt results105 rfl ⟨rfl, hS.d0⟩
  refine rr [0, 1] hS ?_
  refine it fun w hS => cF (fun _ hg => vtime_Valid.ok hg hS) call149 h rfl rfl rfl ?_
  rintro t22 h _ w ⟨rfl, hS⟩
  refine pn 3 rfl ?_
  refine RL.iteM 19 rfl h (fun hc24 h => ?_) fun hc24 h => ?_
  next =>
   refine rr [0, 1, 0, 0, 0] hS ?_
   refine it fun w hS => RL.iteP 24 rfl h (fun hc25 h => ?_) fun hc25 h => ?_
   next =>
    refine pn 4 rfl (ln (jtr (r0 2 rfl (lr (RQ.ret ?_)))))
    cases h.some
    exact rt results105 rfl ⟨rfl, hS.d0⟩
   refine rr [0, 1, 0, 0] hS ?_
   refine it fun w hS => ln ?_
   refine RC.iteP 28 rfl h (fun hc26 h => ?_) fun hc26 h => ?_
   next =>
    refine jtr (r0 2 rfl (lr (RQ.ret ?_)))
    cases h.some
    exact rt results105 rfl ⟨rfl, hS.d0⟩
   refine jfs (sr (pn 1 rfl (lr ?_)))
   cases h.some
   exact rt results105 rfl ⟨rfl, hS.d0⟩
  refine pn 9 rfl (ln (jtr (r0 2 rfl (lr (RQ.ret ?_)))))
  cases h.some
  exact rt results105 rfl ⟨rfl, hS.d0⟩
def errors_as.f (a1 : Int) (a3 : model_flaw) : Option (Bool) := some false
theorem errors_as.ok {a1 : Int} {a3 : model_flaw} {b2 b4 : Nat} {r : Bool} (h : errors_as.f a1 a3 = some r) (hS : St B w (Cl b2 [iV a3.at_, iV a3.why] 200 :: Cl b4 [pV b2] 201 :: l) hf) :
    Calls prog 38 #[.iface 38 (iV a1), .iface 201 (pV b2), .agg #[.pointer (some ⟨9, 201, none⟩), pV b4, .int .u64 150], .iface 144 (.agg #[.pointer (some ⟨9, 200, none⟩)])] w (Ret fun v w => v = .bool r ∧ St B w (Cl b2 [iV a3.at_, iV a3.why] 200 :: Cl b4 [pV b2] 201 :: l) hf) := by
  have h := Holds.of h
  refine en func38 rfl ntmps38 rfl (sr (rr [0, 0] hS ?_))
  refine fun b6 => it fun w hS => ln (RC.block (RC.unroll (RQ.round (RC.block (RC.seq (sr (pn 1 rfl (RL.s (Vl.eX [.tmp 16] (.iface 144 (.agg #[.pointer (some ⟨9, 38, none⟩)])) Ex1 func52 rfl) rfl (pn 1 rfl ?_)))))))))
  refine RL.s (Vl.iX [.tmp 18] (.bool false) (.agg #[.pointer (some ⟨9, 38, none⟩)]) Ex2 func305 rfl rfl) rfl (ln (jfs (RC.seq (sr (pn 1 rfl (tno underlying149 rfl rfl (pn 5 rfl (lnsr ?_))))))))
  refine pn 6 rfl (ln (jfs (sr (pn 1 rfl (ln (RC.block (sr (tno underlying152 rfl rfl (pn 2 rfl ?_)))))))))
  refine ln (jf (sr (tno underlying154 rfl rfl (pn 2 rfl (ln (jf (sr (pn 1 rfl (ln (RC.seq ?_))))))))))
  refine RC.region (pn 1 rfl (lr (RQ.inB_ret (ir (RQ.inB_ret ?_)))))
  obtain rfl := h.some
  exact rt results38 rfl ⟨rfl, hS.d0⟩
def errors_As_2.f (a1 : Int) (a3 : model_flaw) : Option (Bool) := ((errors_as.f a1 a3).bind fun t10 => some t10)
theorem errors_As_2.ok {a1 : Int} {a3 : model_flaw} {b2 : Nat} (hG0 : GlobAt hf 0 (.iface 144 (.agg #[.pointer (some ⟨9, 53, none⟩)]))) {r : Bool} (h : errors_As_2.f a1 a3 = some r) (hS : St B w (Cl b2 [iV a3.at_, iV a3.why] 200 :: l) hf) :
    Calls prog 25 #[.iface 38 (iV a1), .iface 201 (pV b2)] w (Ret fun v w => v = .bool r ∧ St B w (Cl b2 [iV a3.at_, iV a3.why] 200 :: l) hf) := by
  have h := Holds.of h
  refine en func25 rfl ntmps25 rfl (sr (pn 1 rfl (ln (RC.seq (sr (pn 1 rfl (RL.s (Vl.bn false rfl rfl) rfl (ln (jfs ?_)))))))))
  refine RC.seq (sr (pn 1 rfl (RL.s (Vl.bn false rfl rfl) rfl (ln (jfs (sr (pn 1 rfl (RL.e (OW.externNew (ls := [.tmp 13]) (cs := [pV b2]) (T := 201) (v := fun b => .agg #[.pointer (some ⟨9, 201, none⟩), pV b, .int .u64 150]) hS rfl func35 (by kernel_rfl) (by kernel_rfl) (by kernel_rfl) (e := fun args => Extern.ReflectliteValue.unpack (args.getD 0 (.tuple #[]))) (by kernel_rfl) (fun w => by kernel_rfl)) rfl rfl ?_))))))))
  rintro _ w ⟨b8, rfl, hS⟩
  refine rr [0, 1] hS ?_
  refine fun b9 => it fun w hS => lnsr (rr [1] hS ?_)
  refine it fun w hS => RL.s (Vl.eX [.tmp 15] (.iface 144 (.agg #[.pointer (some ⟨9, 201, none⟩)])) Ex3 func36 rfl) rfl (pn 1 rfl (ln (RC.seq (sr (pn 1 rfl (RL.s (Vl.iX [] (.int .u8 22) (.pointer (some ⟨9, 201, none⟩)) Ex4 func291 rfl rfl) rfl (rr [0, 0, 1] hS ?_)))))))
  refine it fun w hS => ?_
  refine RL.sg (Vl.externAt (ls := [.tmp 21]) (v := .bool false) rfl func37 (by kernel_rfl) (by kernel_rfl) (by kernel_rfl) (e := Extern.ReflectliteValue.method (Extern.ReflectliteValue.valueError "reflectlite.Value.IsNil" 0) Extern.ReflectliteValue.isNil) (by kernel_rfl) (run_isNil (n := 150) (a := ⟨b8, 0, none⟩) (fun w => by kernel_rfl) underlying201 rfl (hS.cell 1 rfl rfl))) rfl rfl (pn 1 rfl (ln (jfs (sr (pn 1 rfl (RL.s (Vl.iX [] (.iface 144 (.agg #[.pointer (some ⟨9, 200, none⟩)])) (.agg #[.pointer (some ⟨9, 201, none⟩)]) Ex5 func307 rfl rfl) rfl (pn 1 rfl (ln (RC.seq (RC.seq ?_))))))))))
  refine RC.region (pn 1 rfl (RL.s (Vl.iX [] (.int .u8 25) (.pointer (some ⟨9, 200, none⟩)) Ex4 func291 rfl rfl) rfl (pn 3 rfl (RL.sg (Vl.load isAgg113 rfl (cellH_world hS.sub hG0)) rfl rfl (RL.sg (Vl.iX [.tmp 32] (.bool true) (.agg #[.pointer (some ⟨9, 200, none⟩)]) Ex6 func308 rfl rfl) rfl rfl (pn 2 rfl (ln (jfs (sr (rr [0, 0, 1, 0] hS ?_))))))))))
  refine it fun w hS => cF (fun _ hg => errors_as.ok hg hS.p1.p2) call38 h rfl rfl rfl ?_
  rintro t10 h _ w ⟨rfl, hS⟩
  refine pn 1 rfl (lr ?_)
  obtain rfl := h.some
  exact rt results25 rfl ⟨rfl, hS.d1.d1⟩
def errors_is.f (a1 a2 : Int) (a3 : Bool) : Option (Bool) := (if a3 = true then (if a1 = a2 then some true else some false) else some false)
theorem errors_is.ok {a1 a2 : Int} {a3 r : Bool} (h : errors_is.f a1 a2 a3 = some r) (hS : St B w (l) hf) :
    Calls prog 109 #[.iface 38 (iV a1), .iface 38 (iV a2), .bool a3] w (Ret fun v w => v = .bool r ∧ St B w (l) hf) := by
  have h := Holds.of h
  refine en func109 rfl ntmps109 rfl (sr (pn 1 rfl (ln (RC.block (RC.unroll (RQ.round (RC.block (RC.seq (sr (pn 2 rfl ?_))))))))))
  refine RL.iteB 15 rfl h (fun hc10 h => ?_) fun hc10 h => ?_
  next =>
   refine pn 2 rfl (RL.sg (Vl.ifaceInt rfl rfl underlying53 underlying38 type38 rfl) rfl rfl (pn 1 rfl (ln ?_)))
   refine RC.iteP 19 rfl h (fun hc11 h => ?_) fun hc11 h => ?_
   next =>
    refine jtr (pn 1 rfl (lr (RQ.ret (ir (RQ.inB_ret ?_)))))
    obtain rfl := h.some
    exact rt results109 rfl ⟨rfl, hS⟩
   refine jfs (RC.seq (sr (pn 1 rfl (tno underlying298 rfl rfl (pn 5 rfl (lnsr (pn 6 rfl (ln ?_))))))))
   refine jfs (sr (pn 1 rfl (ln (RC.block (sr (tno underlying152 rfl rfl (pn 2 rfl (ln (jf ?_)))))))))
   refine sr (tno underlying154 rfl rfl (pn 2 rfl (ln (jf (sr (pn 1 rfl (lnsr (pn 1 rfl (RL.nil ?_)))))))))
   refine tr (RQ.inB_ret (ir (RQ.inB_ret ?_)))
   obtain rfl := h.some
   exact rt results109 rfl ⟨rfl, hS⟩
  refine pn 4 rfl (ln (jfs (RC.seq (sr (pn 1 rfl (tno underlying298 rfl rfl (pn 5 rfl (lnsr ?_))))))))
  refine pn 6 rfl (ln (jfs (sr (pn 1 rfl (ln (RC.block (sr (tno underlying152 rfl rfl (pn 2 rfl ?_)))))))))
  refine ln (jf (sr (tno underlying154 rfl rfl (pn 2 rfl (ln (jf (sr (pn 1 rfl (ln (RC.seq ?_))))))))))
  refine RC.region (pn 1 rfl (lr (RQ.inB_ret (ir (RQ.inB_ret ?_)))))
  obtain rfl := h.some
  exact rt results109 rfl ⟨rfl, hS⟩
def errors_Is.f (a1 a2 : Int) : Option (Bool) := ((errors_is.f a1 a2 true).bind fun t5 => some t5)
theorem errors_Is.ok {a1 a2 : Int} {r : Bool} (h : errors_Is.f a1 a2 = some r) (hS : St B w (l) hf) :
    Calls prog 79 #[.iface 38 (iV a1), .iface 38 (iV a2)] w (Ret fun v w => v = .bool r ∧ St B w (l) hf) := by
  have h := Holds.of h
  refine en func79 rfl ntmps79 rfl (sr (pn 1 rfl (ln (RC.seq (sr (pn 1 rfl (RL.s (Vl.bn false rfl rfl) rfl (pn 2 rfl (RL.sg (Vl.bn false rfl rfl) rfl rfl (pn 1 rfl (ln ?_)))))))))))
  refine jfs (sr (pn 1 rfl (RL.s (Vl.eX [.tmp 15] (.iface 144 (.agg #[.pointer (some ⟨9, 38, none⟩)])) Ex1 func52 rfl) rfl (RL.s (Vl.iX [] (.bool true) (.agg #[.pointer (some ⟨9, 38, none⟩)]) Ex7 func306 rfl rfl) rfl (pn 1 rfl (lnsr (pn 3 rfl (cF (fun _ hg => errors_is.ok hg hS) call109 h rfl rfl rfl ?_))))))))
  rintro t5 h _ w ⟨rfl, hS⟩
  refine pn 1 rfl (lr ?_)
  obtain rfl := h.some
  exact rt results79 rfl ⟨rfl, hS⟩
def code_shapes.f  : Option (Unit) := some ()
theorem code_shapes.ok {r : Unit} (h : code_shapes.f = some r) (hS : St B w (l) hf) :
    Calls prog 244 #[] w (Ret fun v w => v = .agg #[.string lit_2d2d2d, .string lit_726e2d, .string lit_72722d, .string lit_rrr, .string lit_rrr, .string lit_rrr, .string lit_rrr, .string lit_rrr, .string lit_rrr, .string lit_rrr, .string lit_702d2d, .string lit_72702d, .string lit_rrr, .string lit_72722d, .string lit_722d2d, .string lit_722d2d, .string lit_722d2d] ∧ St B w (l) hf) := by
  have h := Holds.of h
  refine en func244 rfl ntmps244 rfl (sr (rr [0] hS ?_))
  refine fun b2 => it fun w hS => lnsr (RL.s (Vl.build (v := .agg #[.string lit_2d2d2d, .string lit_726e2d, .string lit_72722d, .string lit_rrr, .string lit_rrr, .string lit_rrr, .string lit_rrr, .string lit_rrr, .string lit_rrr, .string lit_rrr, .string lit_702d2d, .string lit_72702d, .string lit_rrr, .string lit_72722d, .string lit_722d2d, .string lit_722d2d, .string lit_722d2d]) (parts := [(0, .const (.string lit_2d2d2d)), (1, .const (.string lit_726e2d)), (2, .const (.string lit_72722d)), (3, .const (.string lit_rrr)), (4, .const (.string lit_rrr)), (5, .const (.string lit_rrr)), (6, .const (.string lit_rrr)), (7, .const (.string lit_rrr)), (8, .const (.string lit_rrr)), (9, .const (.string lit_rrr)), (10, .const (.string lit_702d2d)), (11, .const (.string lit_72702d)), (12, .const (.string lit_rrr)), (13, .const (.string lit_72722d)), (14, .const (.string lit_722d2d)), (15, .const (.string lit_722d2d)), (16, .const (.string lit_722d2d))]) rfl (by kernel_rfl)) rfl (rr [1] hS ?_))
  refine it fun w hS => lr ?_
  have e := h.some
  refine rz [0] results244 hS ?_
  exact it ⟨rfl, hS.d0⟩
def code_right.j2 (a1 x22 x23 : Int) : Option (Bool) := (if x22 ≤ a1 then some (decide (a1 ≤ x23)) else some false)
def code_right.f (a1 a2 a3 : Int) : Option (Bool) := (if a2 = 110 then code_right.j2 a1 (-2147483648) 2147483647 else (if a2 = 112 then code_right.j2 a1 0 a3 else (if a2 = 114 then code_right.j2 a1 0 15 else code_right.j2 a1 0 0)))
theorem code_right.ok {a1 a2 a3 : Int} {r : Bool} (h : code_right.f a1 a2 a3 = some r) (hS : St B w (l) hf) :
    Calls prog 245 #[iV a1, .int .u8 a2, iV a3] w (Ret fun v w => v = .bool r ∧ St B w (l) hf) := by
  have h := Holds.of h
  refine en func245 rfl ntmps245 rfl (sr (pn 1 rfl (lnsr (pn 2 rfl (ln ?_)))))
  refine RC.join (fun (s : Int × Int) a w => ∃ x22 x23, s = (x22, x23) ∧ Holds (· = r) (code_right.j2 a1 x22 x23) ∧ Has 25 [(0, iV a1), (7, iV x22), (8, iV x23)] a ∧ St B w (l) hf) ?_ ?_
  · rintro _ a w ⟨x22, x23, rfl, h, ha, hS⟩
    refine ro ha (sr (pn 4 rfl ?_))
    refine RL.iteP 20 rfl h (fun hc24 h => ?_) fun hc24 h => ?_
    next =>
     refine pn 5 rfl (lr ?_)
     cases h.some
     exact rt results245 rfl ⟨rfl, hS⟩
    refine pn 5 rfl (lr ?_)
    obtain rfl := h.some
    exact rt results245 rfl ⟨rfl, hS⟩
  refine sr (pn 1 rfl (ln (RC.block (RC.seq (RC.block (RC.seq (RC.block (RC.seq (RC.block (RC.seq (RC.block (RC.seq (RC.seq ?_)))))))))))))
  refine sr (pn 2 rfl (ln ?_))
  refine RC.iteP 10 rfl h (fun hc26 h => ?_) fun hc26 h => ?_
  next =>
   refine jt (RC.exit (RQ.exitT (RQ.exitT (RQ.inB_hit (tsr (pn 2 rfl (ln (RC.exit (RQ.inB_miss rfl (RQ.exitT (RQ.inB_miss rfl (RQ.exitT ?_))))))))))))
   refine RQ.inB_miss rfl (RQ.exitT (RQ.inB_hit ?_))
   exact fun a ha => ⟨_, _, _, rfl, h, ha.tE rfl, hS⟩
  refine jfs (RC.seq (sr (pn 2 rfl (ln ?_))))
  refine RC.iteP 12 rfl h (fun hc28 h => ?_) fun hc28 h => ?_
  next =>
   refine jt (RC.exit (RQ.exitT (RQ.exitT (RQ.inB_miss rfl (RQ.exitT (RQ.inB_hit (tsr (pn 2 rfl (ln (RC.exit (RQ.inB_miss rfl (RQ.exitT ?_))))))))))))
   refine RQ.inB_miss rfl (RQ.exitT (RQ.inB_hit ?_))
   exact fun a ha => ⟨_, _, _, rfl, h, ha.tE rfl, hS⟩
  refine jfs (sr (pn 2 rfl (ln ?_)))
  refine RC.iteP 14 rfl h (fun hc29 h => ?_) fun hc29 h => ?_
  next =>
   refine jt (RC.exit (RQ.exitT (RQ.inB_miss rfl (RQ.exitT (RQ.inB_miss rfl (RQ.exitT (RQ.inB_hit (RQ.then_n (RC.region (pn 1 rfl (RL.nil (RQ.inB_n (tsr ?_)))))))))))))
   refine pn 1 rfl (ln (RC.exit (RQ.inB_hit ?_)))
   exact fun a ha => ⟨_, _, _, rfl, h, ha.tE rfl, hS⟩
  refine jfs (RC.exit (RQ.inB_miss rfl (RQ.exitT (RQ.inB_miss rfl (RQ.exitT (RQ.inB_miss rfl (RQ.exitT (RQ.inB_hit (tsr (pn 1 rfl (RL.nil ?_)))))))))))
  refine RQ.then_n (RC.exit (RQ.inB_hit ?_))
  exact fun a ha => ⟨_, _, _, rfl, h, ha.tE rfl, hS⟩
def code_may.f (a1 : api_Instr) (a2 : Int) : Option (Bool) := (if a1.Op < 0 then some false else (if 17 ≤ a1.Op then some false else ((code_shapes.f).bind fun _ => (if 0 ≤ a1.Op ∧ a1.Op < 17 then (if 0 < ((nth ([lit_2d2d2d, lit_726e2d, lit_72722d, lit_rrr, lit_rrr, lit_rrr, lit_rrr, lit_rrr, lit_rrr, lit_rrr, lit_702d2d, lit_72702d, lit_rrr, lit_72722d, lit_722d2d, lit_722d2d, lit_722d2d] : List ByteArray) a1.Op).size : Int) then ((code_right.f a1.A (bt (nth ([lit_2d2d2d, lit_726e2d, lit_72722d, lit_rrr, lit_rrr, lit_rrr, lit_rrr, lit_rrr, lit_rrr, lit_rrr, lit_702d2d, lit_72702d, lit_rrr, lit_72722d, lit_722d2d, lit_722d2d, lit_722d2d] : List ByteArray) a1.Op) 0) a2).bind fun t33 => (if t33 = true then (if 1 < ((nth ([lit_2d2d2d, lit_726e2d, lit_72722d, lit_rrr, lit_rrr, lit_rrr, lit_rrr, lit_rrr, lit_rrr, lit_rrr, lit_702d2d, lit_72702d, lit_rrr, lit_72722d, lit_722d2d, lit_722d2d, lit_722d2d] : List ByteArray) a1.Op).size : Int) then ((code_right.f a1.B (bt (nth ([lit_2d2d2d, lit_726e2d, lit_72722d, lit_rrr, lit_rrr, lit_rrr, lit_rrr, lit_rrr, lit_rrr, lit_rrr, lit_702d2d, lit_72702d, lit_rrr, lit_72722d, lit_722d2d, lit_722d2d, lit_722d2d] : List ByteArray) a1.Op) 1) a2).bind fun t37 => (if t37 = true then (if 2 < ((nth ([lit_2d2d2d, lit_726e2d, lit_72722d, lit_rrr, lit_rrr, lit_rrr, lit_rrr, lit_rrr, lit_rrr, lit_rrr, lit_702d2d, lit_72702d, lit_rrr, lit_72722d, lit_722d2d, lit_722d2d, lit_722d2d] : List ByteArray) a1.Op).size : Int) then ((code_right.f a1.C (bt (nth ([lit_2d2d2d, lit_726e2d, lit_72722d, lit_rrr, lit_rrr, lit_rrr, lit_rrr, lit_rrr, lit_rrr, lit_rrr, lit_702d2d, lit_72702d, lit_rrr, lit_72722d, lit_722d2d, lit_722d2d, lit_722d2d] : List ByteArray) a1.Op) 2) a2).bind fun t41 => some t41) else none) else some false)) else none) else some false)) else none) else none))))
theorem code_may.ok {a1 : api_Instr} {a2 : Int} {r : Bool} (h : code_may.f a1 a2 = some r) (hS : St B w (l) hf) :
    Calls prog 233 #[.agg (C_api_Instr a1).toArray, iV a2] w (Ret fun v w => v = .bool r ∧ St B w (l) hf) := by
  have h := Holds.of h
  refine en func233 rfl ntmps233 rfl (sr (rr [0, 0] hS ?_))
  refine fun b23 => it fun w hS => ln (RC.seq (sr (rr [0, 1, 0, 0] hS ?_)))
  refine it fun w hS => RL.iteP 9 rfl h (fun hc26 h => ?_) fun hc26 h => ?_
  next =>
   refine pn 4 rfl (ln (jtr (pn 1 rfl (lr (RQ.ret ?_)))))
   obtain rfl := h.some
   exact rt results233 rfl ⟨rfl, hS.d0⟩
  refine rr [0, 1, 0, 0] hS ?_
  refine it fun w hS => ln ?_
  refine RC.iteP 13 rfl h (fun hc27 h => ?_) fun hc27 h => ?_
  next =>
   refine jtr (pn 1 rfl (lr (RQ.ret ?_)))
   obtain rfl := h.some
   exact rt results233 rfl ⟨rfl, hS.d0⟩
  refine jfs (RC.seq (dr [3, 7, 2, 11, 14] [3, 4] hS fun w hS => rq [0, 1] hS ?_))
  refine it ?_
  obtain ⟨t28, hg29, h⟩ := h.bind
  have hc := code_shapes.ok hg29 hS
  refine RP.e 0 rfl (OW.callF (ls := []) rfl call244 hc) rfl rfl ?_
  rintro _ w ⟨rfl, hS⟩
  refine ⟨kp ⟨fun _ => hS, trivial⟩, ?_⟩
  obtain ⟨⟨hq30, hq31⟩, h⟩ := h.req
  refine RP.v1 3 rfl (Vl.indexMap (f := Value.string) (l := ([lit_2d2d2d, lit_726e2d, lit_72722d, lit_rrr, lit_rrr, lit_rrr, lit_rrr, lit_rrr, lit_rrr, lit_rrr, lit_702d2d, lit_72702d, lit_rrr, lit_72722d, lit_722d2d, lit_722d2d, lit_722d2d] : List ByteArray)) underlying434 sizeOf9 isAgg9 rfl rfl rfl hq30 hq31) rfl rfl (rq [0] hS ?_)
  refine it (RP.nil (RQ.then_n (RC.seq (dr [0, 4, 6, 10, 12, 17, 18, 21, 25, 27, 31, 33, 38, 39, 42, 45, 49, 51, 55, 59, 62, 65, 68] [20, 21, 22] hS fun w hS => rq [0, 1, 0] hS ?_))))
  refine it ?_
  obtain ⟨hq32, h⟩ := h.req
  refine RP.s 0 3 rfl rfl hS (fun w hS => Vl.indexS underlying9 rfl rfl (by decide) hq32) rfl (pp 1 rfl ?_)
  obtain ⟨t33, hg34, h⟩ := h.bind
  have hc := code_right.ok hg34 hS
  refine RP.e 5 rfl (OW.callF (ls := [.tmp 19, .tmp 21, .tmp 22]) rfl call245 hc) rfl rfl ?_
  rintro _ w ⟨rfl, hS⟩
  refine ⟨kp ⟨fun _ => hS, trivial⟩, ?_⟩
  refine pp 1 rfl ?_
  refine RP.iteB 24 rfl h (fun hc35 h => ?_) fun hc35 h => ?_
  next =>
   refine rq [0, 1, 0] hS ?_
   refine it ?_
   obtain ⟨hq36, h⟩ := h.req
   refine RP.sg 0 10 rfl rfl hS (fun w hS => Vl.indexS underlying9 rfl rfl (by decide) hq36) rfl rfl (pp 1 rfl ?_)
   obtain ⟨t37, hg38, h⟩ := h.bind
   have hc := code_right.ok hg38 hS
   refine RP.e 12 rfl (OW.callF (ls := [.tmp 26, .tmp 28, .tmp 29]) rfl call245 hc) rfl rfl ?_
   rintro _ w ⟨rfl, hS⟩
   refine ⟨kp ⟨fun _ => hS, trivial⟩, ?_⟩
   refine pp 2 rfl ?_
   refine RP.iteB 32 rfl h (fun hc39 h => ?_) fun hc39 h => ?_
   next =>
    refine rq [0, 1, 0] hS ?_
    refine it ?_
    obtain ⟨hq40, h⟩ := h.req
    refine RP.sg 0 18 rfl rfl hS (fun w hS => Vl.indexS underlying9 rfl rfl (by decide) hq40) rfl rfl (rq [0] hS ?_)
    refine it ?_
    obtain ⟨t41, hg42, h⟩ := h.bind
    have hc := code_right.ok hg42 hS
    refine RP.e 20 rfl (OW.callF (ls := [.tmp 34, .tmp 36, .tmp 37]) rfl call245 hc) rfl rfl ?_
    rintro _ w ⟨rfl, hS⟩
    refine ⟨kp ⟨(by intro hx; cases hx), trivial⟩, ?_⟩
    refine rq [0, 0] hS ?_
    refine it (RP.nil (tr ?_))
    obtain rfl := h.some
    exact rt results233 rfl ⟨rfl, hS.d0⟩
   refine rq [0, 0, 0, 0, 0, 0, 0, 0] hS ?_
   refine it (RP.nil (tr ?_))
   obtain rfl := h.some
   exact rt results233 rfl ⟨rfl, hS.d0⟩
  refine rq [0, 0, 0, 0, 0, 0, 0, 0, 0, 0, 0, 0, 0, 0, 0, 0] hS ?_
  refine it (RP.nil (tr ?_))
  obtain rfl := h.some
  exact rt results233 rfl ⟨rfl, hS.d0⟩
def code_check.l2b (a1 : List api_Instr) : Int → Option ((Int) ⊕ ((Int) ⊕ (Int × Int) ⊕ (Unit)))
  | (x66) => (if x66 < (a1.length : Int) then (if 0 ≤ x66 then ((code_may.f (nth a1 x66) (a1.length : Int)).bind fun t93 => (if t93 = true then some (.inl (IntKind.i64.wrap (x66 + 1))) else some (.inr (.inr (.inl (x66, 130)))))) else none) else some (.inr (.inr (.inr (())))))
def code_check.l2 (a1 : List api_Instr) (s : Int) : Option ((Int) ⊕ (Int × Int) ⊕ (Unit)) := loopR (code_check.l2b a1) s
def code_check.f (a1 : List api_Instr) : Option ((Int) ⊕ (Int × Int) ⊕ (Unit)) := (if 256 < (a1.length : Int) then some (.inl 2) else code_check.l2 a1 (0))
theorem code_check.ok {a1 : List api_Instr} {A2 : Option Addr} {c3 : Nat} (hr4 : SlR E_api_Instr.rep hf A2 c3 a1) {r : (Int) ⊕ (Int × Int) ⊕ (Unit)} (h : code_check.f a1 = some r) (hS : St B w (l) hf) :
    Calls prog 206 #[sV A2 a1 c3] w (Ret fun v w => match (generalizing := false) r with | .inl r_ => v = .iface 38 (iV r_) ∧ St B w (l) hf | .inr (.inl r_) => ∃ (b_1 : Nat), v = .iface 419 (pV b_1) ∧ St B w (Cl b_1 [iV r_.1, .iface 38 (iV r_.2)] 421 :: l) hf | .inr (.inr (r_)) => v = .nilIface ∧ St B w (l) hf) := by
  have h := Holds.of h
  refine en func206 rfl ntmps206 rfl (sr (pn 1 rfl (ln (RC.seq (sr (r0 3 rfl (ln ?_)))))))
  refine RC.iteP 7 rfl h (fun hc52 h => ?_) fun hc52 h => ?_
  next =>
   refine jtr (r0 2 rfl (lr (RQ.ret ?_)))
   cases h.some
   exact rt results206 rfl ⟨rfl, hS⟩
  refine jfs (RC.seq (sr (r0 3 rfl (ln (RC.block (fun a ha => lp h (fun (s : Int) a w => ∃ x66, s = (x66) ∧ Has 27 [(0, sV A2 a1 c3), (9, sV A2 a1 c3), (10, iV (a1.length : Int)), (11, iV x66)] a ∧ St B w (l) hf) ⟨_, rfl, ha.tE rfl, hS⟩ ?_))))))
  rintro G82 x66 a w ⟨_, rfl, ha, hS⟩ h
  refine ro ha (sr (pn 1 rfl (ln (RC.seq ?_))))
  refine RC.iteP 12 rfl h (fun hc84 h => ?_) fun hc84 h => ?_
  next =>
   refine jt (sk (RC.seq (RC.block (sr (pn 1 rfl ?_)))))
   obtain ⟨hq91, h⟩ := h.req
   refine RL.s (Vl.indexAddr underlying72 sizeOf74 rfl rfl ((hr4.2.world hS.sub).adr hq91 hc84) hq91 hc84 rfl) rfl (RL.s (Vl.loadA isAgg74 sizeOf74 rfl rfl ((hr4.2.world hS.sub).cells hq91 hc84)) rfl (rr [0, 0, 1] hS ?_))
   refine fun b92 => it fun w hS => lnsr (rr [1, 0, 0] hS ?_)
   refine it fun w hS => cF (fun _ hg => code_may.ok hg hS) call233 h rfl rfl rfl ?_
   rintro t93 h _ w ⟨rfl, hS⟩
   refine pn 1 rfl (ln ?_)
   refine RC.iteM 20 rfl h (fun hc95 h => ?_) fun hc95 h => ?_
   next =>
    refine jf (RC.skip (RQ.inB_n (RQ.then_n (RC.region (pn 2 rfl (RL.nil ?_))))))
    exact fun a ha => ⟨_, h.some, _, rfl, ha.tE rfl, hS.d0⟩
   refine jtr (rr [0, 0, 0, 0, 0, 0] hS ?_)
   refine fun b96 => it fun w hS => lr (ir ?_)
   have h := h.inrS
   refine RQ.ret (ir ?_)
   cases h.some
   exact rt results206 rfl ⟨b96, rfl, hS.d1⟩
  refine jf (RC.exit (RQ.exitT ?_))
  have h := h.inrS
  refine RQ.exitT (RQ.inB_hit (tsr (pn 1 rfl (lr ?_))))
  cases h.some
  exact rt results206 rfl ⟨rfl, hS⟩
def code_wrong_Unwrap.f (a2 a3 : Int) : Option (Int) := some a3
theorem code_wrong_Unwrap.ok {a2 a3 r : Int} {b1 : Nat} (h : code_wrong_Unwrap.f a2 a3 = some r) (hS : St B w (Cl b1 [iV a2, .iface 38 (iV a3)] 421 :: l) hf) :
    Calls prog 387 #[pV b1] w (Ret fun v w => v = .iface 38 (iV r) ∧ St B w (Cl b1 [iV a2, .iface 38 (iV a3)] 421 :: l) hf) := by
  have h := Holds.of h
  refine en func387 rfl ntmps387 rfl (sr (pn 1 rfl (lnsr (rr [0, 0, 0, 1, 0] hS ?_))))
  refine it fun w hS => lr ?_
  obtain rfl := h.some
  exact rt results387 rfl ⟨rfl, hS⟩
def errors_is_2.f (a2 a3 a4 : Int) (a5 : Bool) : Option (Bool) := (if a5 = true then ((code_wrong_Unwrap.f a2 a3).bind fun t16 => (if t16 = a4 then some true else some false)) else ((code_wrong_Unwrap.f a2 a3).bind fun t20 => some false))
theorem errors_is_2.ok {a2 a3 a4 : Int} {a5 r : Bool} {b1 : Nat} (h : errors_is_2.f a2 a3 a4 a5 = some r) (hS : St B w (Cl b1 [iV a2, .iface 38 (iV a3)] 421 :: l) hf) :
    Calls prog 109 #[.iface 419 (pV b1), .iface 38 (iV a4), .bool a5] w (Ret fun v w => v = .bool r ∧ St B w (Cl b1 [iV a2, .iface 38 (iV a3)] 421 :: l) hf) := by
  have h := Holds.of h
  refine en func109 rfl ntmps109 rfl (sr (pn 1 rfl (ln (RC.block (RC.unroll (RQ.round (RC.block (RC.seq (sr (pn 2 rfl ?_))))))))))
  refine RL.iteB 15 rfl h (fun hc15 h => ?_) fun hc15 h => ?_
  next =>
   refine pn 2 rfl (RL.sg (Vl.ifaceNeq rfl rfl underlying53 rfl) rfl rfl (pn 1 rfl (ln (jfs (RC.seq (sr (pn 1 rfl (tno underlying298 rfl rfl (pn 5 rfl (ln ?_))))))))))
   refine sr (pn 6 rfl (ln (jfs (sr (pn 1 rfl (ln (RC.block (sr ?_))))))))
   refine tys underlying152 rfl rfl (pn 2 rfl (ln (jtr (pn 1 rfl (lnsr (pn 1 rfl ?_))))))
   obtain ⟨t16, hg17, h⟩ := h.bind
   have hc := code_wrong_Unwrap.ok hg17 hS
   refine RL.e (OW.invoke (F := 387) (u' := pV b1) (ls := []) rfl rfl (fun w => by kernel_rfl) call387 rfl hc) rfl rfl ?_
   rintro _ w ⟨rfl, hS⟩
   refine pn 1 rfl (lnsr (pn 1 rfl (RL.s (Vl.bn false rfl rfl) rfl (ln (jf (RC.skip (RQ.inB_n (RQ.inB_n (RQ.then_n (RQ.round (RC.block ?_)))))))))))
   refine RC.seq (sr (pn 2 rfl (RL.re 15 rfl (congrArg Value.bool (id hc15)) (pn 2 rfl (RL.sg (Vl.ifaceInt rfl rfl underlying53 underlying38 type38 rfl) rfl rfl (pn 1 rfl (ln ?_)))))))
   refine RC.iteP 19 rfl h (fun hc19 h => ?_) fun hc19 h => ?_
   next =>
    refine jtr (pn 1 rfl (lr (RQ.ret (ir (RQ.inB_ret ?_)))))
    obtain rfl := h.some
    exact rt results109 rfl ⟨rfl, hS⟩
   refine jfs (RC.seq (sr (pn 1 rfl (tno underlying298 rfl rfl (pn 5 rfl (lnsr (pn 6 rfl (ln ?_))))))))
   refine jfs (sr (pn 1 rfl (ln (RC.block (sr (tno underlying152 rfl rfl (pn 2 rfl (ln (jf ?_)))))))))
   refine sr (tno underlying154 rfl rfl (pn 2 rfl (ln (jf (sr (pn 1 rfl (lnsr (pn 1 rfl (RL.nil ?_)))))))))
   refine tr (RQ.inB_ret (ir (RQ.inB_ret ?_)))
   obtain rfl := h.some
   exact rt results109 rfl ⟨rfl, hS⟩
  refine pn 4 rfl (ln (jfs (RC.seq (sr (pn 1 rfl (tno underlying298 rfl rfl (pn 5 rfl (lnsr ?_))))))))
  refine pn 6 rfl (ln (jfs (sr (pn 1 rfl (ln (RC.block (sr (tys underlying152 rfl rfl (pn 2 rfl ?_)))))))))
  refine ln (jtr (pn 1 rfl (lnsr (pn 1 rfl ?_))))
  obtain ⟨t20, hg21, h⟩ := h.bind
  have hc := code_wrong_Unwrap.ok hg21 hS
  refine RL.e (OW.invoke (F := 387) (u' := pV b1) (ls := []) rfl rfl (fun w => by kernel_rfl) call387 rfl hc) rfl rfl ?_
  rintro _ w ⟨rfl, hS⟩
  refine pn 1 rfl (lnsr (pn 1 rfl (RL.s (Vl.bn false rfl rfl) rfl (ln (jf (RC.skip (RQ.inB_n (RQ.inB_n (RQ.then_n (RQ.round (RC.block ?_)))))))))))
  refine RC.seq (sr (pn 2 rfl (RL.re 15 rfl (congrArg Value.bool (eq_false_of hc15)) (pn 4 rfl (ln (jfs (RC.seq (sr (pn 1 rfl (tno underlying298 rfl rfl ?_))))))))))
  refine pn 5 rfl (lnsr (pn 6 rfl (ln (jfs (sr (pn 1 rfl (ln ?_)))))))
  refine RC.block (sr (tno underlying152 rfl rfl (pn 2 rfl (ln (jf (sr (tno underlying154 rfl rfl (pn 2 rfl (ln (jf (RC.seq ?_)))))))))))
  refine RC.region (pn 1 rfl (lnsr (pn 1 rfl (lr (RQ.inB_ret (ir (RQ.inB_ret ?_)))))))
  obtain rfl := h.some
  exact rt results109 rfl ⟨rfl, hS⟩
def errors_Is_2.f (a2 a3 a4 : Int) : Option (Bool) := ((errors_is_2.f a2 a3 a4 true).bind fun t7 => some t7)
theorem errors_Is_2.ok {a2 a3 a4 : Int} {b1 : Nat} {r : Bool} (h : errors_Is_2.f a2 a3 a4 = some r) (hS : St B w (Cl b1 [iV a2, .iface 38 (iV a3)] 421 :: l) hf) :
    Calls prog 79 #[.iface 419 (pV b1), .iface 38 (iV a4)] w (Ret fun v w => v = .bool r ∧ St B w (Cl b1 [iV a2, .iface 38 (iV a3)] 421 :: l) hf) := by
  have h := Holds.of h
  refine en func79 rfl ntmps79 rfl (sr (pn 1 rfl (ln (RC.seq (sr (pn 1 rfl (RL.s (Vl.bn false rfl rfl) rfl (pn 2 rfl (RL.sg (Vl.bn false rfl rfl) rfl rfl (pn 1 rfl (ln ?_)))))))))))
  refine jfs (sr (pn 1 rfl (RL.s (Vl.eX [.tmp 15] (.iface 144 (.agg #[.pointer (some ⟨9, 38, none⟩)])) Ex1 func52 rfl) rfl (RL.s (Vl.iX [] (.bool true) (.agg #[.pointer (some ⟨9, 38, none⟩)]) Ex7 func306 rfl rfl) rfl (pn 1 rfl (lnsr (pn 3 rfl (cF (fun _ hg => errors_is_2.ok hg hS) call109 h rfl rfl rfl ?_))))))))
  rintro t7 h _ w ⟨rfl, hS⟩
  refine pn 1 rfl (lr ?_)
  obtain rfl := h.some
  exact rt results79 rfl ⟨rfl, hS⟩
def errors_Is_3.f (a1 : Int) : Option (Bool) := some false
theorem errors_Is_3.ok {a1 : Int} {r : Bool} (h : errors_Is_3.f a1 = some r) (hS : St B w (l) hf) :
    Calls prog 79 #[.nilIface, .iface 38 (iV a1)] w (Ret fun v w => v = .bool r ∧ St B w (l) hf) := by
  have h := Holds.of h
  refine en func79 rfl ntmps79 rfl (sr (pn 1 rfl (ln (RC.seq (sr (pn 1 rfl (RL.s (Vl.bn true rfl rfl) rfl (pn 4 rfl (ln (jt (RC.seq ?_)))))))))))
  refine RC.region (pn 2 rfl (RL.s (Vl.bn false rfl rfl) rfl (pn 1 rfl (lr (RQ.ret ?_)))))
  obtain rfl := h.some
  exact rt results79 rfl ⟨rfl, hS⟩
def code_Check.f (a1 : List api_Instr) : Option (Int) := ((code_check.f a1).bind fun t20 => match t20 with | .inl y22 => ((errors_Is.f y22 2).bind fun t23 => (if t23 = true then some 2 else some 130)) | .inr (.inl (y26, y27)) => ((errors_Is_2.f y26 y27 2).bind fun t29 => (if t29 = true then some 2 else some 130)) | .inr (.inr (_)) => ((errors_Is_3.f 2).bind fun t32 => (if t32 = true then some 2 else some 0)))
theorem code_Check.ok {a1 : List api_Instr} {A2 : Option Addr} {c3 : Nat} (hr4 : SlR E_api_Instr.rep hf A2 c3 a1) {r : Int} (h : code_Check.f a1 = some r) (hS : St B w (l) hf) :
    Calls prog 150 #[sV A2 a1 c3] w (Ret fun v w => v = iV r ∧ St B w (l) hf) := by
  have h := Holds.of h
  refine en func150 rfl ntmps150 rfl (sr (pn 1 rfl (ln (RC.seq (sr (pn 1 rfl ?_))))))
  obtain ⟨t20, hg21, h⟩ := h.bind
  have hc := code_check.ok hr4 hg21 hS
  rcases t20 with y22 | ⟨y26, y27⟩ | _
  · refine RL.e (OW.callF (ls := [.tmp 4]) rfl call206 hc) rfl rfl ?_
    rintro _ w ⟨rfl, hS⟩
    refine pn 1 rfl (ln (RC.block (sr (r0 2 rfl (cF (fun _ hg => errors_Is.ok hg hS) call79 h rfl rfl rfl ?_)))))
    rintro t23 h _ w ⟨rfl, hS⟩
    refine pn 1 rfl (ln ?_)
    refine RC.iteB 6 rfl h (fun hc25 h => ?_) fun hc25 h => ?_
    next =>
     refine jtr (pn 1 rfl (lr (ir ?_)))
     obtain rfl := h.some
     exact rt results150 rfl ⟨rfl, hS⟩
    refine jf (sr (pn 1 rfl (RL.s (Vl.bn true rfl rfl) rfl (pn 1 rfl (ln (jtr (pn 1 rfl (lr (RQ.inB_ret ?_)))))))))
    refine RQ.ret ?_
    obtain rfl := h.some
    exact rt results150 rfl ⟨rfl, hS⟩
  · refine RL.e (OW.callF (ls := [.tmp 4]) rfl call206 hc) rfl rfl ?_
    rintro _ w ⟨b28, rfl, hS⟩
    refine pn 1 rfl (ln (RC.block (sr (r0 2 rfl (cF (fun _ hg => errors_Is_2.ok hg hS) call79 h rfl rfl rfl ?_)))))
    rintro t29 h _ w ⟨rfl, hS⟩
    refine pn 1 rfl (ln ?_)
    refine RC.iteB 6 rfl h (fun hc31 h => ?_) fun hc31 h => ?_
    next =>
     refine jtr (pn 1 rfl (lr (ir ?_)))
     obtain rfl := h.some
     exact rt results150 rfl ⟨rfl, hS.d0⟩
    refine jf (sr (pn 1 rfl (RL.s (Vl.bn true rfl rfl) rfl (pn 1 rfl (ln (jtr (pn 1 rfl (lr (RQ.inB_ret ?_)))))))))
    refine RQ.ret ?_
    obtain rfl := h.some
    exact rt results150 rfl ⟨rfl, hS.d0⟩
  refine RL.e (OW.callF (ls := [.tmp 4]) rfl call206 hc) rfl rfl ?_
  rintro _ w ⟨rfl, hS⟩
  refine pn 1 rfl (ln (RC.block (sr (r0 2 rfl (cF (fun _ hg => errors_Is_3.ok hg hS) call79 h rfl rfl rfl ?_)))))
  rintro t32 h _ w ⟨rfl, hS⟩
  refine pn 1 rfl (ln ?_)
  refine RC.iteB 6 rfl h (fun hc34 h => ?_) fun hc34 h => ?_
  next =>
   refine jtr (pn 1 rfl (lr (ir ?_)))
   obtain rfl := h.some
   exact rt results150 rfl ⟨rfl, hS⟩
  refine jf (sr (pn 1 rfl (RL.s (Vl.bn false rfl rfl) rfl (pn 1 rfl (ln (jf (RC.skip (RQ.inB_n (tsr (pn 1 rfl (RL.nil ?_)))))))))))
  refine tr ?_
  obtain rfl := h.some
  exact rt results150 rfl ⟨rfl, hS⟩
end
end Go.Proofs.Gx
