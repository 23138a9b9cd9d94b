/-
  The walks of functions, each with what it computes: printed by wip/gx.py.
-/
import Derived.Test.YtbkjjaikmngciaaGreatDoorW0
import Derived.Test.YtbkjjaikmngciaaGreatDoorW2
set_option linter.unusedVariables false
set_option linter.unusedSimpArgs false
set_option maxRecDepth 100000
set_option maxHeartbeats 4000000
namespace Go.Proofs.Gx
open Go.Sl Tryz
variable {B : Base} {w : World} {l : List HProp} {hf : Hp}
noncomputable section
def script_reader_take.f (a2 : script_reader) (a3 : ByteArray) (a4 : List Int) : Option (Bool × script_reader) := (if a3 = lit_lane then (if (a2.m.Progs.length + 1) * 24 ≤ 140737488355328 then some (true, ({ a2 with m := (⟨(a2.m.Progs ++ [([] : List api_Instr)]), a2.m.Links, a2.m.Starts, a2.m.Seed, a2.m.End, a2.m.Budget⟩ : api_Model) } : script_reader)) else none) else (if a3 = lit_seed then (if 0 < (a4.length : Int) then some ((decide (0 ≤ nth a4 0)), ({ a2 with m := (⟨a2.m.Progs, a2.m.Links, a2.m.Starts, IntKind.u64.wrap (nth a4 0), a2.m.End, a2.m.Budget⟩ : api_Model) } : script_reader)) else none) else (if a3 = lit_end then (if 0 < (a4.length : Int) then some (true, ({ a2 with m := (⟨a2.m.Progs, a2.m.Links, a2.m.Starts, a2.m.Seed, nth a4 0, a2.m.Budget⟩ : api_Model) } : script_reader)) else none) else (if a3 = lit_budget then (if 0 < (a4.length : Int) then some (true, ({ a2 with m := (⟨a2.m.Progs, a2.m.Links, a2.m.Starts, a2.m.Seed, a2.m.End, nth a4 0⟩ : api_Model) } : script_reader)) else none) else (if a3 = lit_caps then (if 0 < (a4.length : Int) then (if 1 < (a4.length : Int) then (if 2 < (a4.length : Int) then some (true, ({ a2 with c := (⟨nth a4 0, nth a4 1, nth a4 2⟩ : api_Caps) } : script_reader)) else none) else none) else none) else (if a3 = lit_op then (if (a2.m.Progs.length : Int) = 0 then some (false, a2) else (if 0 ≤ IntKind.i64.wrap ((a2.m.Progs.length : Int) - 1) ∧ IntKind.i64.wrap ((a2.m.Progs.length : Int) - 1) < (a2.m.Progs.length : Int) then (if 0 < (a4.length : Int) then (if 1 < (a4.length : Int) then (if 2 < (a4.length : Int) then (if 3 < (a4.length : Int) then (if ((nth a2.m.Progs (IntKind.i64.wrap ((a2.m.Progs.length : Int) - 1))).length + 1) * 32 ≤ 140737488355328 then some (true, ({ a2 with m := (⟨(setL a2.m.Progs (IntKind.i64.wrap ((a2.m.Progs.length : Int) - 1)) ((nth a2.m.Progs (IntKind.i64.wrap ((a2.m.Progs.length : Int) - 1))) ++ ([(⟨nth a4 0, nth a4 1, nth a4 2, nth a4 3⟩ : api_Instr)]))), a2.m.Links, a2.m.Starts, a2.m.Seed, a2.m.End, a2.m.Budget⟩ : api_Model) } : script_reader)) else none) else none) else none) else none) else none) else none)) else (if a3 = lit_link then (if 0 < (a4.length : Int) then (if 1 < (a4.length : Int) then (if 2 < (a4.length : Int) then (if 3 < (a4.length : Int) then (if (a2.m.Links.length + 1) * 32 ≤ 140737488355328 then some ((decide (IntKind.i64.wrap (BitVec.ofInt IntKind.i64.bits (nth a4 3) &&& ~~~ BitVec.ofInt IntKind.i64.bits 1).toNat = 0)), ({ a2 with m := (⟨a2.m.Progs, (a2.m.Links ++ ([(⟨nth a4 0, nth a4 1, nth a4 2, (decide (nth a4 3 = 1))⟩ : api_Link)])), a2.m.Starts, a2.m.Seed, a2.m.End, a2.m.Budget⟩ : api_Model) } : script_reader)) else none) else none) else none) else none) else none) else (if a3 = lit_start then (if 0 < (a4.length : Int) then (if 1 < (a4.length : Int) then (if 2 < (a4.length : Int) then (if (a2.m.Starts.length + 1) * 24 ≤ 140737488355328 then some (true, ({ a2 with m := (⟨a2.m.Progs, a2.m.Links, (a2.m.Starts ++ ([(⟨nth a4 0, nth a4 1, nth a4 2⟩ : api_Start)])), a2.m.Seed, a2.m.End, a2.m.Budget⟩ : api_Model) } : script_reader)) else none) else none) else none) else none) else (if a3 = lit_pick then (if 0 < (a4.length : Int) then (if 1 < (a4.length : Int) then (if 2 < (a4.length : Int) then (if (a2.picks.length + 1) * 24 ≤ 140737488355328 then some (true, ({ a2 with picks := (a2.picks ++ ([(⟨nth a4 0, nth a4 1, nth a4 2⟩ : api_Pick)])) } : script_reader)) else none) else none) else none) else none) else some (true, a2))))))))))
theorem script_reader_take.ok {a2 : script_reader} {a3 : ByteArray} {a4 : List Int} {b1 c6 : Nat} {A5 : Option Addr} (hr7 : SlR ((FI .i64).rep) hf A5 c6 a4) {r : Bool × script_reader} (h : script_reader_take.f a2 a3 a4 = some r) (hS : St B w (O_script_reader hf a2 b1 :: l) hf) :
    Calls prog 34 #[pV b1, .string a3, sV A5 a4 c6] w (Ret fun v w => v = .bool r.1 ∧ St B w (O_script_reader hf r.2 b1 :: l) hf) := by
  have h := Holds.of h
  refine en func34 rfl ntmps34 rfl (sr (pn 1 rfl (ln (RC.seq (sr (pn 1 rfl (ln (RC.block (sr (RL.s (Vl.strEq rfl rfl) rfl ?_))))))))))
  refine pn 1 rfl (ln ?_)
  refine RC.iteP 9 rfl h (fun hc174 h => ?_) fun hc174 h => ?_
  next =>
   refine jt (RC.region (r0 5 rfl ?_))
   obtain ⟨A175, c176, hs177, A179, c180, A181, c182, A183, c184, hS⟩ := O_script_reader.o hS
   have hl178 := hS.p2.sepLen
   refine rr [1] hS ?_
   refine it fun w hS => RL.e (OW.buildSlice (E := FSl) (xs := [(none, 0, 0)]) (cs := [.slice none 0 0]) hS underlying29 zeroValue72 sizeOf72 (parts := [(0, .const (.slice none 0 0))]) rfl rfl (by decide) (by decide) (by kernel_rfl) rfl) rfl rfl ?_
   rintro _ w ⟨b185, rfl, hS⟩
   obtain ⟨hq187, h⟩ := h.req
   have hS := hS.nilSl E_api_Instr 74
   have hS := (St.orC (E := E_api_Instr) (x := ([] : List api_Instr)) (A := none) (c := 0) hS.p4.p1).p1.sepSnoc
   have hl186 := hS.sepLen
   refine RL.e (OW.append (E := FSl) (xs := hs177) (ys := [(none, ([] : List api_Instr).length, 0)]) 3 hS rfl underlying29 type72 rfl rfl rfl rfl (by decide) rfl rfl rfl (hS.slW 1 rfl).2.2.flat (by simp only [maxLen, List.length_cons, List.length_nil] at *; omega) (le_app hl178 hq187) rfl) rfl rfl ?_
   rintro v190 w hS
   obtain ⟨A188, c189, rfl, _⟩ := hS.osShape 0 rfl
   have hS : St B w (_ :: _ :: _ :: _ :: _ :: _ :: _ :: l) hf := hS
   refine rr [0, 0, 0, 4] hS ?_
   refine it fun w hS => RL.nil (RQ.inB_n (tsr (pn 1 rfl (lr ?_))))
   have hS := O_script_reader.c (x := ({ a2 with m := (⟨(a2.m.Progs ++ [([] : List api_Instr)]), a2.m.Links, a2.m.Starts, a2.m.Seed, a2.m.End, a2.m.Budget⟩ : api_Model) } : script_reader)) (hs_3 := (hs177 ++ [(none, ([] : List api_Instr).length, 0)])) hS.p6.p6.p6.p4.p4.p6
   cases h.some
   exact rt results34 rfl ⟨rfl, hS.d1⟩
  refine jf (sr (RL.s (Vl.strEq rfl rfl) rfl (pn 1 rfl (ln ?_))))
  refine RC.iteP 22 rfl h (fun hc191 h => ?_) fun hc191 h => ?_
  next =>
   refine jtr (pn 2 rfl ?_)
   obtain ⟨hq192, h⟩ := h.req
   refine RL.s (Vl.indexAddr underlying51 sizeOf2 rfl rfl ((hr7.2.world hS.sub).adr (by decide) hq192) (by decide) hq192 rfl) rfl (RL.s (Vl.load isAgg2 rfl ((hr7.2.world hS.sub).cell (j := 0) (by decide) hq192 rfl)) rfl (r0 4 rfl ?_))
   obtain ⟨A193, c194, hs195, A197, c198, A199, c200, A201, c202, hS⟩ := O_script_reader.o hS
   have hl196 := hS.p2.sepLen
   refine rr [1] hS ?_
   refine it fun w hS => lnsr (pn 1 rfl (RL.s (Vl.indexAddr underlying51 sizeOf2 rfl rfl ((hr7.2.world hS.sub).adr (by decide) hq192) (by decide) hq192 rfl) rfl (RL.s (Vl.load isAgg2 rfl ((hr7.2.world hS.sub).cell (j := 0) (by decide) hq192 rfl)) rfl (pn 2 rfl (lr (ir ?_))))))
   have hS := O_script_reader.c (x := ({ a2 with m := (⟨a2.m.Progs, a2.m.Links, a2.m.Starts, IntKind.u64.wrap (nth a4 0), a2.m.End, a2.m.Budget⟩ : api_Model) } : script_reader)) (hs_3 := hs195) hS
   cases h.some
   exact rt results34 rfl ⟨rfl, hS⟩
  refine jf (sr (RL.s (Vl.strEq rfl rfl) rfl (pn 1 rfl (ln ?_))))
  refine RC.iteP 36 rfl h (fun hc203 h => ?_) fun hc203 h => ?_
  next =>
   refine jt (RC.region (pn 2 rfl ?_))
   obtain ⟨hq204, h⟩ := h.req
   refine RL.s (Vl.indexAddr underlying51 sizeOf2 rfl rfl ((hr7.2.world hS.sub).adr (by decide) hq204) (by decide) hq204 rfl) rfl (RL.s (Vl.load isAgg2 rfl ((hr7.2.world hS.sub).cell (j := 0) (by decide) hq204 rfl)) rfl (r0 3 rfl ?_))
   obtain ⟨A205, c206, hs207, A209, c210, A211, c212, A213, c214, hS⟩ := O_script_reader.o hS
   have hl208 := hS.p2.sepLen
   refine rr [1] hS ?_
   refine it fun w hS => RL.nil (RQ.inB_n (tsr (pn 1 rfl (lr ?_))))
   have hS := O_script_reader.c (x := ({ a2 with m := (⟨a2.m.Progs, a2.m.Links, a2.m.Starts, a2.m.Seed, nth a4 0, a2.m.Budget⟩ : api_Model) } : script_reader)) (hs_3 := hs207) hS
   cases h.some
   exact rt results34 rfl ⟨rfl, hS⟩
  refine jf (sr (RL.s (Vl.strEq rfl rfl) rfl (pn 1 rfl (ln ?_))))
  refine RC.iteP 45 rfl h (fun hc215 h => ?_) fun hc215 h => ?_
  next =>
   refine jt (RC.region (pn 2 rfl ?_))
   obtain ⟨hq216, h⟩ := h.req
   refine RL.s (Vl.indexAddr underlying51 sizeOf2 rfl rfl ((hr7.2.world hS.sub).adr (by decide) hq216) (by decide) hq216 rfl) rfl (RL.s (Vl.load isAgg2 rfl ((hr7.2.world hS.sub).cell (j := 0) (by decide) hq216 rfl)) rfl (r0 3 rfl ?_))
   obtain ⟨A217, c218, hs219, A221, c222, A223, c224, A225, c226, hS⟩ := O_script_reader.o hS
   have hl220 := hS.p2.sepLen
   refine rr [1] hS ?_
   refine it fun w hS => RL.nil (RQ.inB_n (tsr (pn 1 rfl (lr ?_))))
   have hS := O_script_reader.c (x := ({ a2 with m := (⟨a2.m.Progs, a2.m.Links, a2.m.Starts, a2.m.Seed, a2.m.End, nth a4 0⟩ : api_Model) } : script_reader)) (hs_3 := hs219) hS
   cases h.some
   exact rt results34 rfl ⟨rfl, hS⟩
  refine jf (sr (RL.s (Vl.strEq rfl rfl) rfl (pn 1 rfl (ln ?_))))
  refine RC.iteP 54 rfl h (fun hc227 h => ?_) fun hc227 h => ?_
  next =>
   refine jt ?_
   obtain ⟨A231, c232, hs233, A235, c236, A237, c238, A239, c240, hS⟩ := O_script_reader.o hS
   have hl234 := hS.p2.sepLen
   refine dr [0, 3, 7, 10, 12, 16, 19, 23, 26, 29, 32, 35, 38, 41] [10, 11, 12, 13] hS fun w hS => pp 2 rfl ?_
   obtain ⟨hq241, h⟩ := h.req
   refine RP.s 0 2 rfl rfl hS (fun w hS => Vl.indexAddr underlying51 sizeOf2 rfl rfl ((hr7.2.world hS.sub).adr (by decide) hq241) (by decide) hq241 rfl) rfl (RP.s 0 3 rfl rfl hS (fun w hS => Vl.load isAgg2 rfl ((hr7.2.world hS.sub).cell (j := 0) (by decide) hq241 rfl)) rfl (pp 1 rfl ?_))
   obtain ⟨hq242, h⟩ := h.req
   refine RP.s 0 5 rfl rfl hS (fun w hS => Vl.indexAddr underlying51 sizeOf2 rfl rfl ((hr7.2.world hS.sub).adr (by decide) hq242) (by decide) hq242 rfl) rfl (RP.s 0 6 rfl rfl hS (fun w hS => Vl.load isAgg2 rfl ((hr7.2.world hS.sub).cell (j := 0) (by decide) hq242 rfl)) rfl (rq [0] hS ?_))
   refine it ?_
   obtain ⟨hq243, h⟩ := h.req
   refine RP.v1 8 rfl (Vl.indexAddr underlying51 sizeOf2 rfl rfl ((hr7.2.world hS.sub).adr (by decide) hq243) (by decide) hq243 rfl) rfl rfl (RP.v1 9 rfl (Vl.load isAgg2 rfl ((hr7.2.world hS.sub).cell (j := 0) (by decide) hq243 rfl)) rfl rfl (rq [0, 0, 0] hS ?_))
   refine it (RP.e0 13 rfl (OW.store (vs := [iV (nth a4 0), iV (nth a4 1), iV (nth a4 2)]) 0 hS rfl rfl rfl rfl sizeOf36 rfl rfl rfl rfl) rfl ?_)
   rintro _ w ⟨rfl, hS⟩
   have hS : St B w (Cl _ [_, _, _, _, _, _, _, _, _, _] _ :: _ :: _ :: _ :: _ :: _ :: l) hf := hS
   refine ⟨kp ⟨(by intro hx; cases hx), trivial⟩, ?_⟩
   refine RP.nil (RQ.inB_n (tsr (pn 1 rfl (lr ?_))))
   have hS := O_script_reader.c (x := ({ a2 with c := (⟨nth a4 0, nth a4 1, nth a4 2⟩ : api_Caps) } : script_reader)) (hs_3 := hs233) hS
   cases h.some
   exact rt results34 rfl ⟨rfl, hS⟩
  refine jf (sr (RL.s (Vl.strEq rfl rfl) rfl (pn 1 rfl (ln ?_))))
  refine RC.iteP 69 rfl h (fun hc244 h => ?_) fun hc244 h => ?_
  next =>
   refine jt (RC.seq (sr (r0 4 rfl ?_)))
   obtain ⟨A256, c257, hs258, A260, c261, A262, c263, A264, c265, hS⟩ := O_script_reader.o hS
   have hl259 := hS.p2.sepLen
   refine rr [1] hS ?_
   refine it fun w hS => RL.s (Vl.lenO hl259 underlying29 rfl) rfl (pn 1 rfl (ln ?_))
   refine RC.iteP 77 rfl h (fun hc266 h => ?_) fun hc266 h => ?_
   next =>
    refine jtr (pn 1 rfl (lr (RQ.ret (ir ?_))))
    have hS := O_script_reader.c (x := a2) (hs_3 := hs258) hS
    cases h.some
    exact rt results34 rfl ⟨rfl, hS⟩
   refine jfs (RC.seq (dr [0, 3, 6, 9, 13, 17, 20, 23, 26, 29, 32, 35, 38, 41] [12, 13] hS fun w hS => rq [0, 0, 0, 0, 1, 0, 0, 0, 0, 1] hS ?_))
   refine it (RP.v1 10 rfl (Vl.lenO hl259 underlying29 rfl) rfl rfl (rq [0] hS ?_))
   refine it ?_
   obtain ⟨⟨hq267, hq268⟩, h⟩ := h.req
   refine RP.v1 12 rfl (Vl.indexOwn 1 hS rfl underlying29 sizeOf72 rfl rfl hq267 (lt_len hl259 hq268)) rfl rfl (rq [0] hS ?_)
   refine it (RP.nil (RQ.then_n ?_))
   obtain ⟨A269, c270, he271, hS⟩ := (hS.p2.sepTake hq267 hq268).orO
   have hS : St B w (_ :: _ :: _ :: _ :: _ :: _ :: _ :: l) hf := hS
   refine dr [0, 3, 6, 10, 12, 16, 19, 21, 25, 28, 30, 34, 37, 41, 44, 47, 50, 53, 56, 59, 62] [18, 19, 20] hS fun w hS => pp 3 rfl (RP.s 0 3 rfl rfl hS (fun w hS => Vl.load isAgg72 rfl ((hS.slW 3 rfl).2.2.cell (j := 0) (v := .slice A269 (nth a2.m.Progs (IntKind.i64.wrap ((a2.m.Progs.length : Int) - 1))).length c270) hq267 (lt_len hl259 hq268) (by rw [he271]; rfl))) rfl (pp 1 rfl ?_))
   obtain ⟨hq272, h⟩ := h.req
   refine RP.s 0 5 rfl rfl hS (fun w hS => Vl.indexAddr underlying51 sizeOf2 rfl rfl ((hr7.2.world hS.sub).adr (by decide) hq272) (by decide) hq272 rfl) rfl (RP.s 0 6 rfl rfl hS (fun w hS => Vl.load isAgg2 rfl ((hr7.2.world hS.sub).cell (j := 0) (by decide) hq272 rfl)) rfl (pp 1 rfl ?_))
   obtain ⟨hq273, h⟩ := h.req
   refine RP.s 0 8 rfl rfl hS (fun w hS => Vl.indexAddr underlying51 sizeOf2 rfl rfl ((hr7.2.world hS.sub).adr (by decide) hq273) (by decide) hq273 rfl) rfl (RP.s 0 9 rfl rfl hS (fun w hS => Vl.load isAgg2 rfl ((hr7.2.world hS.sub).cell (j := 0) (by decide) hq273 rfl)) rfl (pp 1 rfl ?_))
   obtain ⟨hq274, h⟩ := h.req
   refine RP.s 0 11 rfl rfl hS (fun w hS => Vl.indexAddr underlying51 sizeOf2 rfl rfl ((hr7.2.world hS.sub).adr (by decide) hq274) (by decide) hq274 rfl) rfl (RP.s 0 12 rfl rfl hS (fun w hS => Vl.load isAgg2 rfl ((hr7.2.world hS.sub).cell (j := 0) (by decide) hq274 rfl)) rfl (rq [0] hS ?_))
   refine it ?_
   obtain ⟨hq275, h⟩ := h.req
   refine RP.v1 14 rfl (Vl.indexAddr underlying51 sizeOf2 rfl rfl ((hr7.2.world hS.sub).adr (by decide) hq275) (by decide) hq275 rfl) rfl rfl (RP.v1 15 rfl (Vl.load isAgg2 rfl ((hr7.2.world hS.sub).cell (j := 0) (by decide) hq275 rfl)) rfl rfl (rq [0] hS ?_))
   refine it (RP.e 17 rfl (OW.buildSlice (E := E_api_Instr) (xs := [(⟨nth a4 0, nth a4 1, nth a4 2, nth a4 3⟩ : api_Instr)]) (cs := [iV (nth a4 0), iV (nth a4 1), iV (nth a4 2), iV (nth a4 3)]) hS underlying72 zeroValue74 sizeOf74 (parts := [(0, .tmp 107)]) rfl rfl (by decide) (by decide) (by kernel_rfl) rfl) rfl rfl ?_)
   rintro _ w ⟨b276, rfl, hS⟩
   refine ⟨kp ⟨fun _ => hS.d0, trivial⟩, ?_⟩
   obtain ⟨hq277, h⟩ := h.req
   refine RP.e 18 rfl (OW.append (E := E_api_Instr) (xs := (nth a2.m.Progs (IntKind.i64.wrap ((a2.m.Progs.length : Int) - 1)))) (ys := [(⟨nth a4 0, nth a4 1, nth a4 2, nth a4 3⟩ : api_Instr)]) 1 hS rfl underlying72 type74 rfl rfl rfl rfl (by decide) rfl rfl rfl (hS.slW 0 rfl).2.2.flat (by simp only [maxLen, List.length_cons, List.length_nil] at *; omega) hq277 rfl) rfl rfl ?_
   rintro v280 w hS
   obtain ⟨A278, c279, rfl, _⟩ := hS.osShape 0 rfl
   have hS : St B w (_ :: _ :: _ :: _ :: _ :: _ :: _ :: _ :: l) hf := hS
   refine ⟨kp ⟨(by intro hx; cases hx), trivial⟩, ?_⟩
   refine RP.v1 19 rfl (Vl.nilCheck rfl) rfl rfl (RP.e0 20 rfl (OW.storeOwn (E := FSl) (off := 0) (j := IntKind.i64.wrap ((a2.m.Progs.length : Int) - 1)) (x' := (A278, ((nth a2.m.Progs (IntKind.i64.wrap ((a2.m.Progs.length : Int) - 1))) ++ ([(⟨nth a4 0, nth a4 1, nth a4 2, nth a4 3⟩ : api_Instr)])).length, c279)) (vs := [.slice A278 ((nth a2.m.Progs (IntKind.i64.wrap ((a2.m.Progs.length : Int) - 1))) ++ ([(⟨nth a4 0, nth a4 1, nth a4 2, nth a4 3⟩ : api_Instr)])).length c279]) 4 hS rfl rfl rfl rfl sizeOf72 rfl (Nat.succ_pos _) hq267 (lt_len hl259 hq268) (Nat.le_of_ble_eq_true rfl) rfl rfl) rfl ?_)
   rintro _ w ⟨rfl, hS⟩
   have he281 := (hS.osN 4 rfl).1
   have hS : St B w (_ :: _ :: _ :: _ :: _ :: _ :: _ :: _ :: l) hf := (congrArg (fun k_ : Nat => St B w (OSf E_api_Instr 74 (.slice A278 ((nth a2.m.Progs (IntKind.i64.wrap ((a2.m.Progs.length : Int) - 1))) ++ ([(⟨nth a4 0, nth a4 1, nth a4 2, nth a4 3⟩ : api_Instr)])).length c279) ((nth a2.m.Progs (IntKind.i64.wrap ((a2.m.Progs.length : Int) - 1))) ++ ([(⟨nth a4 0, nth a4 1, nth a4 2, nth a4 3⟩ : api_Instr)])) :: OSf E_api_Instr 74 (.slice (some ⟨b276, 0, none⟩) ([(⟨nth a4 0, nth a4 1, nth a4 2, nth a4 3⟩ : api_Instr)]).length 1) ([(⟨nth a4 0, nth a4 1, nth a4 2, nth a4 3⟩ : api_Instr)]) :: SepH (ORw E_api_Instr 74) a2.m.Progs hs258 (IntKind.i64.wrap ((a2.m.Progs.length : Int) - 1)) :: Cl b1 [.slice A256 k_ c257, sV A260 a2.m.Links c261, sV A262 a2.m.Starts c263, .int .u64 a2.m.Seed, iV a2.m.End, iV a2.m.Budget, iV a2.c.Link, iV a2.c.Wait, iV a2.c.Log, sV A264 a2.picks c265] 95 :: OSf FSl 72 (.slice A256 k_ c257) (setL hs258 (IntKind.i64.wrap ((a2.m.Progs.length : Int) - 1)) (A278, ((nth a2.m.Progs (IntKind.i64.wrap ((a2.m.Progs.length : Int) - 1))) ++ ([(⟨nth a4 0, nth a4 1, nth a4 2, nth a4 3⟩ : api_Instr)])).length, c279)) :: OSf E_api_Link 76 (sV A260 a2.m.Links c261) a2.m.Links :: OSf E_api_Start 78 (sV A262 a2.m.Starts c263) a2.m.Starts :: OSf E_api_Pick 80 (sV A264 a2.picks c265) a2.picks :: l) hf) he281).mp hS
   have hS := (hS.p2.p1).orC
   have hS := hS.sepPutB hq267 hq268
   have hS : St B w (_ :: _ :: _ :: _ :: _ :: _ :: _ :: l) hf := hS
   refine ⟨kp ⟨(by intro hx; cases hx), trivial⟩, ?_⟩
   refine RP.re 75 rfl (congrArg (fun k_ : Nat => (.slice A256 k_ c257 : Value)) he281) (RP.re 82 rfl (congrArg (fun k_ : Nat => (.slice A256 k_ c257 : Value)) he281) (RP.re 87 rfl (congrArg (fun k_ : Nat => (.slice A256 k_ c257 : Value)) he281) (RP.nil (RQ.inB_n (tsr (pn 1 rfl (lr ?_)))))))
   have hS := O_script_reader.c (x := ({ a2 with m := (⟨(setL a2.m.Progs (IntKind.i64.wrap ((a2.m.Progs.length : Int) - 1)) ((nth a2.m.Progs (IntKind.i64.wrap ((a2.m.Progs.length : Int) - 1))) ++ ([(⟨nth a4 0, nth a4 1, nth a4 2, nth a4 3⟩ : api_Instr)]))), a2.m.Links, a2.m.Starts, a2.m.Seed, a2.m.End, a2.m.Budget⟩ : api_Model) } : script_reader)) (hs_3 := (setL hs258 (IntKind.i64.wrap ((a2.m.Progs.length : Int) - 1)) (A278, ((nth a2.m.Progs (IntKind.i64.wrap ((a2.m.Progs.length : Int) - 1))) ++ ([(⟨nth a4 0, nth a4 1, nth a4 2, nth a4 3⟩ : api_Instr)])).length, c279))) hS.p6.p6.p6.p3.p6.p6
   cases h.some
   exact rt results34 rfl ⟨rfl, hS.d1⟩
  refine jf (sr (RL.s (Vl.strEq rfl rfl) rfl (pn 1 rfl (ln ?_))))
  refine RC.iteP 111 rfl h (fun hc282 h => ?_) fun hc282 h => ?_
  next =>
   refine jt (RC.seq ?_)
   obtain ⟨A283, c284, hs285, A287, c288, A289, c290, A291, c292, hS⟩ := O_script_reader.o hS
   have hl286 := hS.p2.sepLen
   refine dr [0, 3, 6, 9, 12, 16, 18, 22, 25, 27, 31, 34, 36, 40, 43, 47, 50, 53, 56, 59, 62, 65, 68, 71, 74, 77] [21, 22, 23, 24, 25] hS fun w hS => rq [0, 0, 0, 0, 0, 1, 0] hS ?_
   refine it ?_
   obtain ⟨hq293, h⟩ := h.req
   refine RP.s 0 7 rfl rfl hS (fun w hS => Vl.indexAddr underlying51 sizeOf2 rfl rfl ((hr7.2.world hS.sub).adr (by decide) hq293) (by decide) hq293 rfl) rfl (RP.s 0 8 rfl rfl hS (fun w hS => Vl.load isAgg2 rfl ((hr7.2.world hS.sub).cell (j := 0) (by decide) hq293 rfl)) rfl (pp 1 rfl ?_))
   obtain ⟨hq294, h⟩ := h.req
   refine RP.s 0 10 rfl rfl hS (fun w hS => Vl.indexAddr underlying51 sizeOf2 rfl rfl ((hr7.2.world hS.sub).adr (by decide) hq294) (by decide) hq294 rfl) rfl (RP.s 0 11 rfl rfl hS (fun w hS => Vl.load isAgg2 rfl ((hr7.2.world hS.sub).cell (j := 0) (by decide) hq294 rfl)) rfl (pp 1 rfl ?_))
   obtain ⟨hq295, h⟩ := h.req
   refine RP.s 0 13 rfl rfl hS (fun w hS => Vl.indexAddr underlying51 sizeOf2 rfl rfl ((hr7.2.world hS.sub).adr (by decide) hq295) (by decide) hq295 rfl) rfl (RP.s 0 14 rfl rfl hS (fun w hS => Vl.load isAgg2 rfl ((hr7.2.world hS.sub).cell (j := 0) (by decide) hq295 rfl)) rfl (rq [0] hS ?_))
   refine it ?_
   obtain ⟨hq296, h⟩ := h.req
   refine RP.v1 16 rfl (Vl.indexAddr underlying51 sizeOf2 rfl rfl ((hr7.2.world hS.sub).adr (by decide) hq296) (by decide) hq296 rfl) rfl rfl (RP.v1 17 rfl (Vl.load isAgg2 rfl ((hr7.2.world hS.sub).cell (j := 0) (by decide) hq296 rfl)) rfl rfl (rq [0, 0] hS ?_))
   refine it (RP.e 20 rfl (OW.buildSlice (E := E_api_Link) (xs := [(⟨nth a4 0, nth a4 1, nth a4 2, (decide (nth a4 3 = 1))⟩ : api_Link)]) (cs := [iV (nth a4 0), iV (nth a4 1), iV (nth a4 2), .bool (decide (nth a4 3 = 1))]) hS underlying30 zeroValue76 sizeOf76 (parts := [(0, .tmp 132)]) rfl rfl (by decide) (by decide) (by kernel_rfl) rfl) rfl rfl ?_)
   rintro _ w ⟨b297, rfl, hS⟩
   refine ⟨kp ⟨fun _ => hS.d0, trivial⟩, ?_⟩
   obtain ⟨hq298, h⟩ := h.req
   refine RP.e 21 rfl (OW.append (E := E_api_Link) (xs := a2.m.Links) (ys := [(⟨nth a4 0, nth a4 1, nth a4 2, (decide (nth a4 3 = 1))⟩ : api_Link)]) 4 hS rfl underlying30 type76 rfl rfl rfl rfl (by decide) rfl rfl rfl (hS.slW 0 rfl).2.2.flat (by simp only [maxLen, List.length_cons, List.length_nil] at *; omega) hq298 rfl) rfl rfl ?_
   rintro v301 w hS
   obtain ⟨A299, c300, rfl, _⟩ := hS.osShape 0 rfl
   have hS : St B w (_ :: _ :: _ :: _ :: _ :: _ :: _ :: l) hf := hS
   refine ⟨kp ⟨(by intro hx; cases hx), trivial⟩, ?_⟩
   refine RP.v1 22 rfl (Vl.nilCheck rfl) rfl rfl (RP.v1 23 rfl (Vl.fa 0 underlying95 rfl sizeOf34 rfl rfl) rfl rfl (RP.v1 24 rfl (Vl.fa 1 underlying34 rfl sizeOf30 rfl rfl) rfl rfl (RP.e0 25 rfl (OW.store (vs := [.slice A299 (a2.m.Links ++ ([(⟨nth a4 0, nth a4 1, nth a4 2, (decide (nth a4 3 = 1))⟩ : api_Link)])).length c300]) 2 hS rfl rfl rfl rfl sizeOf30 rfl rfl rfl rfl) rfl ?_)))
   rintro _ w ⟨rfl, hS⟩
   have hS : St B w (_ :: _ :: Cl _ [_, _, _, _, _, _, _, _, _, _] _ :: _ :: _ :: _ :: _ :: l) hf := hS
   refine ⟨kp ⟨(by intro hx; cases hx), trivial⟩, ?_⟩
   refine RP.nil (tsr (pn 1 rfl (RL.s (Vl.indexAddr underlying51 sizeOf2 rfl rfl ((hr7.2.world hS.sub).adr (by decide) hq296) (by decide) hq296 rfl) rfl (RL.s (Vl.load isAgg2 rfl ((hr7.2.world hS.sub).cell (j := 0) (by decide) hq296 rfl)) rfl (pn 3 rfl (lr (ir ?_)))))))
   have hS := O_script_reader.c (x := ({ a2 with m := (⟨a2.m.Progs, (a2.m.Links ++ ([(⟨nth a4 0, nth a4 1, nth a4 2, (decide (nth a4 3 = 1))⟩ : api_Link)])), a2.m.Starts, a2.m.Seed, a2.m.End, a2.m.Budget⟩ : api_Model) } : script_reader)) (hs_3 := hs285) hS.p6.p6.p2.p6.p6.p6
   cases h.some
   exact rt results34 rfl ⟨rfl, hS.d1⟩
  refine jf (sr (RL.s (Vl.strEq rfl rfl) rfl (pn 1 rfl (ln ?_))))
  refine RC.iteP 143 rfl h (fun hc302 h => ?_) fun hc302 h => ?_
  next =>
   refine jt ?_
   obtain ⟨A303, c304, hs305, A307, c308, A309, c310, A311, c312, hS⟩ := O_script_reader.o hS
   have hl306 := hS.p2.sepLen
   refine dr [0, 3, 6, 9, 12, 16, 18, 22, 25, 27, 31, 34, 38, 41, 44, 47, 50, 53, 56, 59, 62, 65] [17, 18, 19, 20, 21] hS fun w hS => rq [0, 0, 0, 0, 0, 1, 0] hS ?_
   refine it ?_
   obtain ⟨hq313, h⟩ := h.req
   refine RP.s 0 7 rfl rfl hS (fun w hS => Vl.indexAddr underlying51 sizeOf2 rfl rfl ((hr7.2.world hS.sub).adr (by decide) hq313) (by decide) hq313 rfl) rfl (RP.s 0 8 rfl rfl hS (fun w hS => Vl.load isAgg2 rfl ((hr7.2.world hS.sub).cell (j := 0) (by decide) hq313 rfl)) rfl (pp 1 rfl ?_))
   obtain ⟨hq314, h⟩ := h.req
   refine RP.s 0 10 rfl rfl hS (fun w hS => Vl.indexAddr underlying51 sizeOf2 rfl rfl ((hr7.2.world hS.sub).adr (by decide) hq314) (by decide) hq314 rfl) rfl (RP.s 0 11 rfl rfl hS (fun w hS => Vl.load isAgg2 rfl ((hr7.2.world hS.sub).cell (j := 0) (by decide) hq314 rfl)) rfl (rq [0] hS ?_))
   refine it ?_
   obtain ⟨hq315, h⟩ := h.req
   refine RP.v1 13 rfl (Vl.indexAddr underlying51 sizeOf2 rfl rfl ((hr7.2.world hS.sub).adr (by decide) hq315) (by decide) hq315 rfl) rfl rfl (RP.v1 14 rfl (Vl.load isAgg2 rfl ((hr7.2.world hS.sub).cell (j := 0) (by decide) hq315 rfl)) rfl rfl (rq [0] hS ?_))
   refine it (RP.e 16 rfl (OW.buildSlice (E := E_api_Start) (xs := [(⟨nth a4 0, nth a4 1, nth a4 2⟩ : api_Start)]) (cs := [iV (nth a4 0), iV (nth a4 1), iV (nth a4 2)]) hS underlying31 zeroValue78 sizeOf78 (parts := [(0, .tmp 160)]) rfl rfl (by decide) (by decide) (by kernel_rfl) rfl) rfl rfl ?_)
   rintro _ w ⟨b316, rfl, hS⟩
   refine ⟨kp ⟨fun _ => hS.d0, trivial⟩, ?_⟩
   obtain ⟨hq317, h⟩ := h.req
   refine RP.e 17 rfl (OW.append (E := E_api_Start) (xs := a2.m.Starts) (ys := [(⟨nth a4 0, nth a4 1, nth a4 2⟩ : api_Start)]) 5 hS rfl underlying31 type78 rfl rfl rfl rfl (by decide) rfl rfl rfl (hS.slW 0 rfl).2.2.flat (by simp only [maxLen, List.length_cons, List.length_nil] at *; omega) hq317 rfl) rfl rfl ?_
   rintro v320 w hS
   obtain ⟨A318, c319, rfl, _⟩ := hS.osShape 0 rfl
   have hS : St B w (_ :: _ :: _ :: _ :: _ :: _ :: _ :: l) hf := hS
   refine ⟨kp ⟨(by intro hx; cases hx), trivial⟩, ?_⟩
   refine RP.v1 18 rfl (Vl.nilCheck rfl) rfl rfl (RP.v1 19 rfl (Vl.fa 0 underlying95 rfl sizeOf34 rfl rfl) rfl rfl (RP.v1 20 rfl (Vl.fa 2 underlying34 rfl sizeOf31 rfl rfl) rfl rfl (RP.e0 21 rfl (OW.store (vs := [.slice A318 (a2.m.Starts ++ ([(⟨nth a4 0, nth a4 1, nth a4 2⟩ : api_Start)])).length c319]) 2 hS rfl rfl rfl rfl sizeOf31 rfl rfl rfl rfl) rfl ?_)))
   rintro _ w ⟨rfl, hS⟩
   have hS : St B w (_ :: _ :: Cl _ [_, _, _, _, _, _, _, _, _, _] _ :: _ :: _ :: _ :: _ :: l) hf := hS
   refine ⟨kp ⟨(by intro hx; cases hx), trivial⟩, ?_⟩
   refine RP.nil (RQ.inB_n (tsr (pn 1 rfl (lr ?_))))
   have hS := O_script_reader.c (x := ({ a2 with m := (⟨a2.m.Progs, a2.m.Links, (a2.m.Starts ++ ([(⟨nth a4 0, nth a4 1, nth a4 2⟩ : api_Start)])), a2.m.Seed, a2.m.End, a2.m.Budget⟩ : api_Model) } : script_reader)) (hs_3 := hs305) hS.p6.p1.p6.p6.p6.p6
   cases h.some
   exact rt results34 rfl ⟨rfl, hS.d1⟩
  refine jf (sr (RL.s (Vl.strEq rfl rfl) rfl (pn 1 rfl (ln ?_))))
  refine RC.iteP 166 rfl h (fun hc321 h => ?_) fun hc321 h => ?_
  next =>
   refine jt ?_
   obtain ⟨A322, c323, hs324, A326, c327, A328, c329, A330, c331, hS⟩ := O_script_reader.o hS
   have hl325 := hS.p2.sepLen
   refine dr [0, 3, 6, 9, 13, 15, 19, 22, 24, 28, 31, 35, 38, 41, 44, 47, 50, 53, 56, 59] [16, 17, 18, 19] hS fun w hS => rq [0, 0, 0, 0, 1, 0] hS ?_
   refine it ?_
   obtain ⟨hq332, h⟩ := h.req
   refine RP.s 0 6 rfl rfl hS (fun w hS => Vl.indexAddr underlying51 sizeOf2 rfl rfl ((hr7.2.world hS.sub).adr (by decide) hq332) (by decide) hq332 rfl) rfl (RP.s 0 7 rfl rfl hS (fun w hS => Vl.load isAgg2 rfl ((hr7.2.world hS.sub).cell (j := 0) (by decide) hq332 rfl)) rfl (pp 1 rfl ?_))
   obtain ⟨hq333, h⟩ := h.req
   refine RP.s 0 9 rfl rfl hS (fun w hS => Vl.indexAddr underlying51 sizeOf2 rfl rfl ((hr7.2.world hS.sub).adr (by decide) hq333) (by decide) hq333 rfl) rfl (RP.s 0 10 rfl rfl hS (fun w hS => Vl.load isAgg2 rfl ((hr7.2.world hS.sub).cell (j := 0) (by decide) hq333 rfl)) rfl (rq [0] hS ?_))
   refine it ?_
   obtain ⟨hq334, h⟩ := h.req
   refine RP.v1 12 rfl (Vl.indexAddr underlying51 sizeOf2 rfl rfl ((hr7.2.world hS.sub).adr (by decide) hq334) (by decide) hq334 rfl) rfl rfl (RP.v1 13 rfl (Vl.load isAgg2 rfl ((hr7.2.world hS.sub).cell (j := 0) (by decide) hq334 rfl)) rfl rfl (rq [0] hS ?_))
   refine it (RP.e 15 rfl (OW.buildSlice (E := E_api_Pick) (xs := [(⟨nth a4 0, nth a4 1, nth a4 2⟩ : api_Pick)]) (cs := [iV (nth a4 0), iV (nth a4 1), iV (nth a4 2)]) hS underlying37 zeroValue80 sizeOf80 (parts := [(0, .tmp 182)]) rfl rfl (by decide) (by decide) (by kernel_rfl) rfl) rfl rfl ?_)
   rintro _ w ⟨b335, rfl, hS⟩
   refine ⟨kp ⟨fun _ => hS.d0, trivial⟩, ?_⟩
   obtain ⟨hq336, h⟩ := h.req
   refine RP.e 16 rfl (OW.append (E := E_api_Pick) (xs := a2.picks) (ys := [(⟨nth a4 0, nth a4 1, nth a4 2⟩ : api_Pick)]) 6 hS rfl underlying37 type80 rfl rfl rfl rfl (by decide) rfl rfl rfl (hS.slW 0 rfl).2.2.flat (by simp only [maxLen, List.length_cons, List.length_nil] at *; omega) hq336 rfl) rfl rfl ?_
   rintro v339 w hS
   obtain ⟨A337, c338, rfl, _⟩ := hS.osShape 0 rfl
   have hS : St B w (_ :: _ :: _ :: _ :: _ :: _ :: _ :: l) hf := hS
   refine ⟨kp ⟨(by intro hx; cases hx), trivial⟩, ?_⟩
   refine RP.v1 17 rfl (Vl.nilCheck rfl) rfl rfl (RP.v1 18 rfl (Vl.fa 9 underlying95 rfl sizeOf37 rfl rfl) rfl rfl (RP.e0 19 rfl (OW.store (vs := [.slice A337 (a2.picks ++ ([(⟨nth a4 0, nth a4 1, nth a4 2⟩ : api_Pick)])).length c338]) 2 hS rfl rfl rfl rfl sizeOf37 rfl rfl rfl rfl) rfl ?_))
   rintro _ w ⟨rfl, hS⟩
   have hS : St B w (_ :: _ :: Cl _ [_, _, _, _, _, _, _, _, _, _] _ :: _ :: _ :: _ :: _ :: l) hf := hS
   refine ⟨kp ⟨(by intro hx; cases hx), trivial⟩, ?_⟩
   refine RP.nil (RQ.inB_n (tsr (pn 1 rfl (lr ?_))))
   have hS := O_script_reader.c (x := ({ a2 with picks := (a2.picks ++ ([(⟨nth a4 0, nth a4 1, nth a4 2⟩ : api_Pick)])) } : script_reader)) (hs_3 := hs324) hS.p6.p6.p6.p6.p6
   cases h.some
   exact rt results34 rfl ⟨rfl, hS.d1⟩
  refine jf (RC.skip (RQ.inB_n (tsr (pn 1 rfl (lr ?_)))))
  cases h.some
  exact rt results34 rfl ⟨rfl, hS⟩
def script_read.l4b (a1 : ByteArray) : script_reader × Int → Option ((script_reader × Int) ⊕ (script_reader))
  | (y695, x696) => (if x696 < ((splitL a1 10).length : Int) then (if 0 ≤ x696 then (if nth (splitL a1 10) x696 = lit_ then some (.inl (y695, IntKind.i64.wrap (x696 + 1))) else (if hasP (nth (splitL a1 10) x696) lit_23 = true then some (.inl (y695, IntKind.i64.wrap (x696 + 1))) else ((script_Line.f (nth (splitL a1 10) x696)).bind fun (y779, y780, y781) => (if y781 = 0 then ((script_reader_take.f y695 y779 y780).bind fun (y789, y790) => (if y789 = true then some (.inl (y790, IntKind.i64.wrap (x696 + 1))) else (Option.map Sum.inr none))) else (Option.map Sum.inr none))))) else none) else some (.inr y695))
def script_read.l4 (a1 : ByteArray) (s : script_reader × Int) : Option (script_reader) := loopR (script_read.l4b a1) s
def script_read.f (a1 : ByteArray) : Option (script_reader) := (if 65536 < (a1.size : Int) then none else (if a1.size < 4294967281 then script_read.l4 a1 ((⟨(⟨([] : List (List api_Instr)), ([] : List api_Link), ([] : List api_Start), 0, 1000, 1000⟩ : api_Model), (⟨16, 64, 64⟩ : api_Caps), ([] : List api_Pick)⟩ : script_reader), 0) else none))
theorem script_read.ok {a1 : ByteArray} (hT : TabH prog hf) {r : script_reader} (h : script_read.f a1 = some r) (hS : St B w (l) hf) :
    Calls prog 24 #[.string a1] w (Ret fun v w => ∃ hf_ : Hp, Sub hf hf_ ∧ ∃ (b_1 : Nat), v = .tuple #[pV b_1, .nilIface] ∧ St B w (O_script_reader hf_ r b_1 :: l) hf_) := by
  have h := Holds.of h
  refine en func24 rfl ntmps24 rfl (sr (pn 2 rfl (ln (RC.seq (sr (r0 3 rfl (ln ?_)))))))
  refine RC.iteP 12 rfl h (fun hc400 h => ?_) fun hc400 h => ?_
  next =>
   refine jtr (rr [0, 0, 0, 0, 0] hS ?_)
   refine fun b401 => it fun w hS => lr (RQ.ret ?_)
   exact h.none
  refine jfs (sr (rr [0, 0, 0, 0, 0] hS ?_))
  refine fun b402 => it fun w hS => ln (RC.seq (sr (pn 1 rfl ?_)))
  obtain ⟨hq599, h⟩ := h.req
  refine RL.e (OW.callF (ls := [.tmp 20, .const (.string lit_0a)]) rfl call31 (split_ok (fun s x w hs => Any.strings_Split_one lays146 (by kernel_rfl) s x w hs) a1 10 hq599 hS)) rfl rfl ?_
  rintro _ w ⟨b600, rfl, hS⟩
  refine r0 2 rfl (ln (RC.block ?_))
  have hS := hS.nilSl FSl 72
  have hS := hS.sepNil (O := ORw E_api_Instr 74)
  have hl601 := hS.sepLen
  have hS := hS.nilSl E_api_Link 76
  have hS := hS.nilSl E_api_Start 78
  have hS := hS.nilSl E_api_Pick 80
  have hS := O_script_reader.c (x := (⟨(⟨([] : List (List api_Instr)), ([] : List api_Link), ([] : List api_Start), 0, 1000, 1000⟩ : api_Model), (⟨16, 64, 64⟩ : api_Caps), ([] : List api_Pick)⟩ : script_reader)) (hs_3 := ([] : List (Option Addr × Nat × Nat))) hS.p1.p2.p3.p4.p6
  refine fun a ha => lp h (fun (s : script_reader × Int) a w => ∃ y695 x696, s = (y695, x696) ∧ ∃ hf_, Sub hf hf_ ∧ Has 56 [(4, pV b402), (21, .slice (some ⟨b600, 0, none⟩) (splitL a1 10).length ((splitL a1 10).length)), (22, iV ((splitL a1 10).length : Int)), (23, iV x696)] a ∧ St B w (OSf FS 9 (.slice (some ⟨b600, 0, none⟩) (splitL a1 10).length ((splitL a1 10).length)) (splitL a1 10) :: O_script_reader hf_ y695 b402 :: l) hf_) ⟨_, _, rfl, _, (Sub.refl _), ha.tE rfl, hS.p1⟩ ?_
  rintro G746 _ a w ⟨y695, x696, rfl, hf, hs647, ha, hS⟩ h
  refine ro ha (sr (pn 1 rfl (ln (RC.seq ?_))))
  refine RC.iteP 24 rfl h (fun hc748 h => ?_) fun hc748 h => ?_
  next =>
   refine jt (sk (RC.seq (RC.block (sr (pn 1 rfl ?_)))))
   obtain ⟨hq772, h⟩ := h.req
   refine RL.s (Vl.indexOwn 0 hS rfl underlying101 sizeOf9 rfl rfl hq772 hc748) rfl (RL.s (Vl.load isAgg9 rfl ((hS.slW 0 rfl).2.2.cell (j := 0) hq772 hc748 rfl)) rfl (pn 2 rfl (ln (RC.seq (sr (pn 1 rfl (RL.s (Vl.strEq rfl rfl) rfl (pn 1 rfl ?_))))))))
   refine RL.iteP 30 rfl h (fun hc775 h => ?_) fun hc775 h => ?_
   next =>
    refine pn 3 rfl (ln (jt (RC.exit (RQ.exitT (RQ.inB_hit (RQ.then_n (RC.region (pn 2 rfl (RL.nil ?_)))))))))
    exact fun a ha => ⟨_, h.some, _, _, rfl, _, hs647, ha.tE rfl, hS⟩
   refine pn 1 rfl (RL.e (OW.callF (ls := [.tmp 31, .const (.string lit_23)]) rfl call32 (hasP_ok strings_HasPrefix (nth (splitL a1 10) x696) lit_23 hS)) rfl rfl ?_)
   rintro _ w ⟨rfl, hS⟩
   refine pn 1 rfl (ln ?_)
   refine RC.iteB 33 rfl h (fun hc776 h => ?_) fun hc776 h => ?_
   next =>
    refine jt (RC.exit (RQ.exitT (RQ.inB_hit (RQ.then_n (RC.region (pn 2 rfl (RL.nil ?_)))))))
    exact fun a ha => ⟨_, h.some, _, _, rfl, _, hs647, ha.tE rfl, hS⟩
   refine jfs (sr (pn 1 rfl (cF (fun _ hg => script_Line.ok (hT.mono hs647) hg hS) call33 h rfl rfl rfl ?_)))
   rintro ⟨y779, y780, y781⟩ h _ w ⟨A782, c783, rfl, hS⟩
   refine pn 7 rfl (lnsr (pn 3 rfl ?_))
   refine RL.iteN 42 rfl h (fun hc784 h => ?_) fun hc784 h => ?_
   next =>
    refine pn 3 rfl ?_
    obtain ⟨hf, hs785, hS, hr786⟩ := St.promote hS
    have hS := O_script_reader.l hs785 hS.p1
    have hS : St B w (_ :: _ :: l) hf := hS
    refine cF (fun _ hg => script_reader_take.ok hr786 hg hS) call34 h rfl rfl rfl ?_
    rintro ⟨y789, y790⟩ h _ w ⟨rfl, hS⟩
    refine pn 2 rfl (ln ?_)
    refine RC.iteM 48 rfl h (fun hc791 h => ?_) fun hc791 h => ?_
    next =>
     refine jf (RC.skip (RQ.inB_n (RQ.then_n (RC.region (pn 2 rfl (RL.nil ?_))))))
     exact fun a ha => ⟨_, h.some, _, _, rfl, _, (hs647.trans hs785), ha.tE rfl, hS.p1⟩
    refine jtr (rr [0, 0, 0, 0, 0, 0, 0] hS ?_)
    refine fun b792 => it fun w hS => lr (ir ?_)
    have h := h.inr
    refine RQ.ret (ir ?_)
    exact h.none
   refine pn 6 rfl (ln (jtr (rr [0, 0, 0, 0, 0, 0, 0] hS ?_)))
   refine fun b793 => it fun w hS => lr (ir ?_)
   have h := h.inr
   refine RQ.ret (ir ?_)
   exact h.none
  refine jf (RC.exit (RQ.exitT ?_))
  have h := h.inrS
  refine RQ.exitT (RQ.inB_hit (tsr (pn 3 rfl (lr ?_))))
  obtain rfl := h.some
  exact rt results24 rfl ⟨_, hs647, b402, rfl, hS.d0⟩
def errors_As.f  : Option (Bool) := some false
theorem errors_As.ok {b1 : Nat} {r : Bool} (h : errors_As.f = some r) (hS : St B w (Cl b1 [.pointer none] 89 :: l) hf) :
    Calls prog 25 #[.nilIface, .iface 91 (pV b1)] w (Ret fun v w => v = .bool r ∧ St B w (Cl b1 [.pointer none] 89 :: l) hf) := by
  have h := Holds.of h
  refine en func25 rfl ntmps25 rfl (sr (pn 1 rfl (ln (RC.seq (sr (pn 1 rfl (RL.s (Vl.bn true rfl rfl) rfl (ln (jtr ?_)))))))))
  refine pn 1 rfl (lr (RQ.ret ?_))
  obtain rfl := h.some
  exact rt results25 rfl ⟨rfl, hS⟩
def script_Parse.f (a1 : ByteArray) : Option (api_Model × api_Caps × List api_Pick × Int × Int) := ((script_read.f a1).bind fun t30 => ((errors_As.f).bind fun t38 => (if t38 = true then none else some (t30.m, t30.c, t30.picks, 0, 0))))
theorem script_Parse.ok {a1 : ByteArray} (hT : TabH prog hf) {r : api_Model × api_Caps × List api_Pick × Int × Int} (h : script_Parse.f a1 = some r) (hS : St B w (l) hf) :
    Calls prog 11 #[.string a1] w (Ret fun v w => ∃ hf_ : Hp, Sub hf hf_ ∧ ∃ (A_1 : Option Addr) (c_2 : Nat) (A_4 : Option Addr) (c_5 : Nat) (A_6 : Option Addr) (c_7 : Nat) (A_8 : Option Addr) (c_9 : Nat), v = .tuple #[.agg (C_api_Model r.1 A_1 c_2 A_4 c_5 A_6 c_7).toArray, .agg (C_api_Caps r.2.1).toArray, sV A_8 r.2.2.1 c_9, iV r.2.2.2.1, iV r.2.2.2.2] ∧ St B w (OSf E_api_Link 76 (sV A_4 r.1.Links c_5) r.1.Links :: OSf E_api_Start 78 (sV A_6 r.1.Starts c_7) r.1.Starts :: OSf E_api_Pick 80 (sV A_8 r.2.2.1 c_9) r.2.2.1 :: l) hf_ ∧ SlR (Rep.sl E_api_Instr.rep) hf_ A_1 c_2 r.1.Progs) := by
  have h := Holds.of h
  refine en func11 rfl ntmps11 rfl (sr (rr [0, 0, 0, 0, 0] hS ?_))
  refine fun b28 b29 => it fun w hS => lnsr (pn 1 rfl (cF (fun _ hg => script_read.ok hT hg hS) call24 h rfl rfl rfl ?_))
  rintro t30 h _ w ⟨hf, hs33, b32, rfl, hS⟩
  refine pn 5 rfl (lnsr (rr [0] hS ?_))
  refine fun b34 => it fun w hS => ln (RC.seq (sr (r0 2 rfl (cF (fun _ hg => errors_As.ok hg hS) call25 h rfl rfl rfl ?_))))
  rintro t38 h _ w ⟨rfl, hS⟩
  refine ln ?_
  refine RC.iteB 17 rfl h (fun hc40 h => ?_) fun hc40 h => ?_
  next =>
   refine jt (RC.seq (dr [0, 3, 7, 9, 12, 16, 19, 21, 24, 28, 32, 35, 38, 41, 44] [14] hS fun w hS => rq [0, 0, 1] hS ?_))
   refine it ?_
   exact h.none
  refine jfs (RC.seq ?_)
  obtain ⟨A41, c42, hs43, A45, c46, A47, c48, A49, c50, hS⟩ := O_script_reader.o hS.p1
  have hl44 := hS.p2.sepLen
  obtain ⟨hf, hs51, hS, hn53, hr52⟩ := St.promoteRows hS.p2.p2
  rw [hn53] at hS
  have hS : St B w (_ :: _ :: _ :: _ :: _ :: _ :: _ :: l) hf := hS
  refine dk [0, 3, 6, 10, 12, 15, 18, 22, 24, 27, 30, 34, 38, 41, 44, 47, 50] [14, 15, 16] hS (fun w hS => hS.d5.d5) fun w hS => rq [0, 0, 0, 1, 0, 0, 0, 1, 0, 0, 0, 1] hS.d5.d5 ?_
  refine it (RP.e0 12 rfl (OW.store (vs := (C_api_Model t30.m A41 c42 A45 c46 A47 c48)) 6 hS rfl rfl rfl rfl sizeOf34 rfl rfl rfl rfl) rfl ?_)
  rintro _ w ⟨rfl, hS⟩
  have hS : St B w (_ :: _ :: _ :: _ :: _ :: _ :: Cl _ [_, _, _, _, _, _] _ :: l) hf := hS
  refine ⟨kp ⟨fun _ => hS.d5.d5, trivial⟩, ?_⟩
  refine RP.e0 13 rfl (OW.store (vs := (C_api_Caps t30.c)) 5 hS rfl rfl rfl rfl sizeOf36 rfl rfl rfl rfl) rfl ?_
  rintro _ w ⟨rfl, hS⟩
  have hS : St B w (_ :: _ :: _ :: _ :: _ :: Cl _ [_, _, _] _ :: _ :: l) hf := hS
  refine ⟨kp ⟨fun _ => hS.d5.d5, trivial⟩, ?_⟩
  refine rq [0, 0, 0] hS.d5.d5 ?_
  refine it (RP.nil (tr ?_))
  cases h.some
  refine rz [6, 5] results11 hS ?_
  exact it ⟨_, (hs33.trans hs51), A41, c42, A45, c46, A47, c48, A49, c50, rfl, hS.d0.d3.d3.d3, hr52⟩
def model_rules.f  : Option (Unit) := some ()
theorem model_rules.ok {r : Unit} (h : model_rules.f = some r) (hS : St B w (l) hf) :
    Calls prog 78 #[] w (Ret fun v w => v = .agg #[.func (.func 105) #[] #[], .func (.func 106) #[] #[], .func (.func 107) #[] #[], .func (.func 108) #[] #[]] ∧ St B w (l) hf) := by
  have h := Holds.of h
  refine en func78 rfl ntmps78 rfl (sr (rr [0] hS ?_))
  refine fun b2 => it fun w hS => lnsr (r0 4 rfl (RL.s (Vl.build (v := .agg #[.func (.func 105) #[] #[], .func (.func 106) #[] #[], .func (.func 107) #[] #[], .func (.func 108) #[] #[]]) (parts := [(0, .tmp 1), (1, .tmp 2), (2, .tmp 3), (3, .tmp 4)]) rfl (by kernel_rfl)) rfl (rr [1] hS ?_)))
  refine it fun w hS => lr ?_
  have e := h.some
  refine rz [0] results78 hS ?_
  exact it ⟨rfl, hS.d0⟩
def vtime_Valid.f (a1 : Int) : Option (Bool) := (if 0 ≤ a1 then some (decide (a1 ≤ 4611686018427387903)) else some false)
theorem vtime_Valid.ok {a1 : Int} {r : Bool} (h : vtime_Valid.f a1 = some r) (hS : St B w (l) hf) :
    Calls prog 149 #[iV a1] w (Ret fun v w => v = .bool r ∧ St B w (l) hf) := by
  have h := Holds.of h
  refine en func149 rfl ntmps149 rfl (sr (pn 1 rfl (lnsr (pn 3 rfl ?_))))
  refine RL.iteP 5 rfl h (fun hc3 h => ?_) fun hc3 h => ?_
  next =>
   refine pn 4 rfl (lr ?_)
   cases h.some
   exact rt results149 rfl ⟨rfl, hS⟩
  refine pn 4 rfl (lr ?_)
  obtain rfl := h.some
  exact rt results149 rfl ⟨rfl, hS⟩
def model_sizes.f (a1 : api_Model) : Option ((Int) ⊕ (Unit)) := (if (a1.Progs.length : Int) < 1 then some (.inl 1) else (if 16 < (a1.Progs.length : Int) then some (.inl 1) else ((vtime_Valid.f a1.End).bind fun t22 => (if t22 = true then (if a1.Budget < 0 then some (.inl 1) else (if 4096 < a1.Budget then some (.inl 1) else some (.inr (())))) else some (.inl 1)))))
theorem model_sizes.ok {a1 : api_Model} {A2 A5 A8 : Option Addr} {c3 c6 c9 : Nat} (hr4 : SlR (Rep.sl E_api_Instr.rep) hf A2 c3 a1.Progs) (hr7 : SlR E_api_Link.rep hf A5 c6 a1.Links) (hr10 : SlR E_api_Start.rep hf A8 c9 a1.Starts) {r : (Int) ⊕ (Unit)} (h : model_sizes.f a1 = some r) (hS : St B w (l) hf) :
    Calls prog 105 #[.agg (C_api_Model a1 A2 c3 A5 c6 A8 c9).toArray] w (Ret fun v w => match (generalizing := false) r with | .inl r_ => v = .iface 38 (iV r_) ∧ St B w (l) hf | .inr (r_) => v = .nilIface ∧ St B w (l) hf) := by
  have h := Holds.of h
  refine en func105 rfl ntmps105 rfl (sr (rr [0, 0] hS ?_))
  refine fun b19 => it fun w hS => ln (RC.seq (sr (rr [0, 1, 0, 0, 0] hS ?_)))
  refine it fun w hS => RL.iteP 7 rfl h (fun hc20 h => ?_) fun hc20 h => ?_
  next =>
   refine pn 21 rfl (ln (jtr (r0 2 rfl (lr (RQ.ret ?_)))))
   cases h.some
   exact rt results105 rfl ⟨rfl, hS.d0⟩
  refine rr [0, 1, 0, 0, 0, 0] hS ?_
  refine it fun w hS => RL.iteP 13 rfl h (fun hc21 h => ?_) fun hc21 h => ?_
  next =>
   refine pn 15 rfl (ln (jtr (r0 2 rfl (lr (RQ.ret ?_)))))
   cases h.some
   exact rt results105 rfl ⟨rfl, hS.d0⟩
  refine rr [0, 1] hS ?_
  refine it fun w hS => cF (fun _ hg => vtime_Valid.ok hg hS) call149 h rfl rfl rfl ?_
  rintro t22 h _ w ⟨rfl, hS⟩
  refine pn 3 rfl ?_
  refine RL.iteM 19 rfl h (fun hc24 h => ?_) fun hc24 h => ?_
  next =>
   refine rr [0, 1, 0, 0, 0] hS ?_
   refine it fun w hS => RL.iteP 24 rfl h (fun hc25 h => ?_) fun hc25 h => ?_
   next =>
    refine pn 4 rfl (ln (jtr (r0 2 rfl (lr (RQ.ret ?_)))))
    cases h.some
    exact rt results105 rfl ⟨rfl, hS.d0⟩
   refine rr [0, 1, 0, 0] hS ?_
   refine it fun w hS => ln ?_
   refine RC.iteP 28 rfl h (fun hc26 h => ?_) fun hc26 h => ?_
   next =>
    refine jtr (r0 2 rfl (lr (RQ.ret ?_)))
    cases h.some
    exact rt results105 rfl ⟨rfl, hS.d0⟩
   refine jfs (sr (pn 1 rfl (lr ?_)))
   cases h.some
   exact rt results105 rfl ⟨rfl, hS.d0⟩
  refine pn 9 rfl (ln (jtr (r0 2 rfl (lr (RQ.ret ?_)))))
  cases h.some
  exact rt results105 rfl ⟨rfl, hS.d0⟩
def errors_as.f (a1 : Int) (a3 : model_flaw) : Option (Bool) := some false
theorem errors_as.ok {a1 : Int} {a3 : model_flaw} {b2 b4 : Nat} {r : Bool} (h : errors_as.f a1 a3 = some r) (hS : St B w (Cl b2 [iV a3.at_, iV a3.why] 200 :: Cl b4 [pV b2] 201 :: l) hf) :
    Calls prog 38 #[.iface 38 (iV a1), .iface 201 (pV b2), .agg #[.pointer (some ⟨9, 201, none⟩), pV b4, .int .u64 150], .iface 144 (.agg #[.pointer (some ⟨9, 200, none⟩)])] w (Ret fun v w => v = .bool r ∧ St B w (Cl b2 [iV a3.at_, iV a3.why] 200 :: Cl b4 [pV b2] 201 :: l) hf) := by
  have h := Holds.of h
  refine en func38 rfl ntmps38 rfl (sr (rr [0, 0] hS ?_))
  refine fun b6 => it fun w hS => ln (RC.block (RC.unroll (RQ.round (RC.block (RC.seq (sr (pn 1 rfl (RL.s (Vl.eX [.tmp 16] (.iface 144 (.agg #[.pointer (some ⟨9, 38, none⟩)])) Ex1 func52 rfl) rfl (pn 1 rfl ?_)))))))))
  refine RL.s (Vl.iX [.tmp 18] (.bool false) (.agg #[.pointer (some ⟨9, 38, none⟩)]) Ex2 func305 rfl rfl) rfl (ln (jfs (RC.seq (sr (pn 1 rfl (tno underlying149 rfl rfl (pn 5 rfl (lnsr ?_))))))))
  refine pn 6 rfl (ln (jfs (sr (pn 1 rfl (ln (RC.block (sr (tno underlying152 rfl rfl (pn 2 rfl ?_)))))))))
  refine ln (jf (sr (tno underlying154 rfl rfl (pn 2 rfl (ln (jf (sr (pn 1 rfl (ln (RC.seq ?_))))))))))
  refine RC.region (pn 1 rfl (lr (RQ.inB_ret (ir (RQ.inB_ret ?_)))))
  obtain rfl := h.some
  exact rt results38 rfl ⟨rfl, hS.d0⟩
def errors_As_2.f (a1 : Int) (a3 : model_flaw) : Option (Bool) := ((errors_as.f a1 a3).bind fun t10 => some t10)
theorem errors_As_2.ok {a1 : Int} {a3 : model_flaw} {b2 : Nat} (hG0 : GlobAt hf 0 (.iface 144 (.agg #[.pointer (some ⟨9, 53, none⟩)]))) {r : Bool} (h : errors_As_2.f a1 a3 = some r) (hS : St B w (Cl b2 [iV a3.at_, iV a3.why] 200 :: l) hf) :
    Calls prog 25 #[.iface 38 (iV a1), .iface 201 (pV b2)] w (Ret fun v w => v = .bool r ∧ St B w (Cl b2 [iV a3.at_, iV a3.why] 200 :: l) hf) := by
  have h := Holds.of h
  refine en func25 rfl ntmps25 rfl (sr (pn 1 rfl (ln (RC.seq (sr (pn 1 rfl (RL.s (Vl.bn false rfl rfl) rfl (ln (jfs ?_)))))))))
  refine RC.seq (sr (pn 1 rfl (RL.s (Vl.bn false rfl rfl) rfl (ln (jfs (sr (pn 1 rfl (RL.e (OW.externNew (ls := [.tmp 13]) (cs := [pV b2]) (T := 201) (v := fun b => .agg #[.pointer (some ⟨9, 201, none⟩), pV b, .int .u64 150]) hS rfl func35 (by kernel_rfl) (by kernel_rfl) (by kernel_rfl) (e := fun args => Extern.ReflectliteValue.unpack (args.getD 0 (.tuple #[]))) (by kernel_rfl) (fun w => by kernel_rfl)) rfl rfl ?_))))))))
  rintro _ w ⟨b8, rfl, hS⟩
  refine rr [0, 1] hS ?_
  refine fun b9 => it fun w hS => lnsr (rr [1] hS ?_)
  refine it fun w hS => RL.s (Vl.eX [.tmp 15] (.iface 144 (.agg #[.pointer (some ⟨9, 201, none⟩)])) Ex3 func36 rfl) rfl (pn 1 rfl (ln (RC.seq (sr (pn 1 rfl (RL.s (Vl.iX [] (.int .u8 22) (.pointer (some ⟨9, 201, none⟩)) Ex4 func291 rfl rfl) rfl (rr [0, 0, 1] hS ?_)))))))
  refine it fun w hS => ?_
  refine RL.sg (Vl.externAt (ls := [.tmp 21]) (v := .bool false) rfl func37 (by kernel_rfl) (by kernel_rfl) (by kernel_rfl) (e := Extern.ReflectliteValue.method (Extern.ReflectliteValue.valueError "reflectlite.Value.IsNil" 0) Extern.ReflectliteValue.isNil) (by kernel_rfl) (run_isNil (n := 150) (a := ⟨b8, 0, none⟩) (fun w => by kernel_rfl) underlying201 rfl (hS.cell 1 rfl rfl))) rfl rfl (pn 1 rfl (ln (jfs (sr (pn 1 rfl (RL.s (Vl.iX [] (.iface 144 (.agg #[.pointer (some ⟨9, 200, none⟩)])) (.agg #[.pointer (some ⟨9, 201, none⟩)]) Ex5 func307 rfl rfl) rfl (pn 1 rfl (ln (RC.seq (RC.seq ?_))))))))))
  refine RC.region (pn 1 rfl (RL.s (Vl.iX [] (.int .u8 25) (.pointer (some ⟨9, 200, none⟩)) Ex4 func291 rfl rfl) rfl (pn 3 rfl (RL.sg (Vl.load isAgg113 rfl (cellH_world hS.sub hG0)) rfl rfl (RL.sg (Vl.iX [.tmp 32] (.bool true) (.agg #[.pointer (some ⟨9, 200, none⟩)]) Ex6 func308 rfl rfl) rfl rfl (pn 2 rfl (ln (jfs (sr (rr [0, 0, 1, 0] hS ?_))))))))))
  refine it fun w hS => cF (fun _ hg => errors_as.ok hg hS.p1.p2) call38 h rfl rfl rfl ?_
  rintro t10 h _ w ⟨rfl, hS⟩
  refine pn 1 rfl (lr ?_)
  obtain rfl := h.some
  exact rt results25 rfl ⟨rfl, hS.d1.d1⟩
def errors_is.f (a1 a2 : Int) (a3 : Bool) : Option (Bool) := (if a3 = true then (if a1 = a2 then some true else some false) else some false)
theorem errors_is.ok {a1 a2 : Int} {a3 r : Bool} (h : errors_is.f a1 a2 a3 = some r) (hS : St B w (l) hf) :
    Calls prog 109 #[.iface 38 (iV a1), .iface 38 (iV a2), .bool a3] w (Ret fun v w => v = .bool r ∧ St B w (l) hf) := by
  have h := Holds.of h
  refine en func109 rfl ntmps109 rfl (sr (pn 1 rfl (ln (RC.block (RC.unroll (RQ.round (RC.block (RC.seq (sr (pn 2 rfl ?_))))))))))
  refine RL.iteB 15 rfl h (fun hc10 h => ?_) fun hc10 h => ?_
  next =>
   refine pn 2 rfl (RL.sg (Vl.ifaceInt rfl rfl underlying53 underlying38 type38 rfl) rfl rfl (pn 1 rfl (ln ?_)))
   refine RC.iteP 19 rfl h (fun hc11 h => ?_) fun hc11 h => ?_
   next =>
    refine jtr (pn 1 rfl (lr (RQ.ret (ir (RQ.inB_ret ?_)))))
    obtain rfl := h.some
    exact rt results109 rfl ⟨rfl, hS⟩
   refine jfs (RC.seq (sr (pn 1 rfl (tno underlying298 rfl rfl (pn 5 rfl (lnsr (pn 6 rfl (ln ?_))))))))
   refine jfs (sr (pn 1 rfl (ln (RC.block (sr (tno underlying152 rfl rfl (pn 2 rfl (ln (jf ?_)))))))))
   refine sr (tno underlying154 rfl rfl (pn 2 rfl (ln (jf (sr (pn 1 rfl (lnsr (pn 1 rfl (RL.nil ?_)))))))))
   refine tr (RQ.inB_ret (ir (RQ.inB_ret ?_)))
   obtain rfl := h.some
   exact rt results109 rfl ⟨rfl, hS⟩
  refine pn 4 rfl (ln (jfs (RC.seq (sr (pn 1 rfl (tno underlying298 rfl rfl (pn 5 rfl (lnsr ?_))))))))
  refine pn 6 rfl (ln (jfs (sr (pn 1 rfl (ln (RC.block (sr (tno underlying152 rfl rfl (pn 2 rfl ?_)))))))))
  refine ln (jf (sr (tno underlying154 rfl rfl (pn 2 rfl (ln (jf (sr (pn 1 rfl (ln (RC.seq ?_))))))))))
  refine RC.region (pn 1 rfl (lr (RQ.inB_ret (ir (RQ.inB_ret ?_)))))
  obtain rfl := h.some
  exact rt results109 rfl ⟨rfl, hS⟩
def errors_Is.f (a1 a2 : Int) : Option (Bool) := ((errors_is.f a1 a2 true).bind fun t5 => some t5)
theorem errors_Is.ok {a1 a2 : Int} {r : Bool} (h : errors_Is.f a1 a2 = some r) (hS : St B w (l) hf) :
    Calls prog 79 #[.iface 38 (iV a1), .iface 38 (iV a2)] w (Ret fun v w => v = .bool r ∧ St B w (l) hf) := by
  have h := Holds.of h
  refine en func79 rfl ntmps79 rfl (sr (pn 1 rfl (ln (RC.seq (sr (pn 1 rfl (RL.s (Vl.bn false rfl rfl) rfl (pn 2 rfl (RL.sg (Vl.bn false rfl rfl) rfl rfl (pn 1 rfl (ln ?_)))))))))))
  refine jfs (sr (pn 1 rfl (RL.s (Vl.eX [.tmp 15] (.iface 144 (.agg #[.pointer (some ⟨9, 38, none⟩)])) Ex1 func52 rfl) rfl (RL.s (Vl.iX [] (.bool true) (.agg #[.pointer (some ⟨9, 38, none⟩)]) Ex7 func306 rfl rfl) rfl (pn 1 rfl (lnsr (pn 3 rfl (cF (fun _ hg => errors_is.ok hg hS) call109 h rfl rfl rfl ?_))))))))
  rintro t5 h _ w ⟨rfl, hS⟩
  refine pn 1 rfl (lr ?_)
  obtain rfl := h.some
  exact rt results79 rfl ⟨rfl, hS⟩
def code_shapes.f  : Option (Unit) := some ()
theorem code_shapes.ok {r : Unit} (h : code_shapes.f = some r) (hS : St B w (l) hf) :
    Calls prog 244 #[] w (Ret fun v w => v = .agg #[.string lit_2d2d2d, .string lit_726e2d, .string lit_72722d, .string lit_rrr, .string lit_rrr, .string lit_rrr, .string lit_rrr, .string lit_rrr, .string lit_rrr, .string lit_rrr, .string lit_702d2d, .string lit_72702d, .string lit_rrr, .string lit_72722d, .string lit_722d2d, .string lit_722d2d, .string lit_722d2d] ∧ St B w (l) hf) := by
  have h := Holds.of h
  refine en func244 rfl ntmps244 rfl (sr (rr [0] hS ?_))
  refine fun b2 => it fun w hS => lnsr (RL.s (Vl.build (v := .agg #[.string lit_2d2d2d, .string lit_726e2d, .string lit_72722d, .string lit_rrr, .string lit_rrr, .string lit_rrr, .string lit_rrr, .string lit_rrr, .string lit_rrr, .string lit_rrr, .string lit_702d2d, .string lit_72702d, .string lit_rrr, .string lit_72722d, .string lit_722d2d, .string lit_722d2d, .string lit_722d2d]) (parts := [(0, .const (.string lit_2d2d2d)), (1, .const (.string lit_726e2d)), (2, .const (.string lit_72722d)), (3, .const (.string lit_rrr)), (4, .const (.string lit_rrr)), (5, .const (.string lit_rrr)), (6, .const (.string lit_rrr)), (7, .const (.string lit_rrr)), (8, .const (.string lit_rrr)), (9, .const (.string lit_rrr)), (10, .const (.string lit_702d2d)), (11, .const (.string lit_72702d)), (12, .const (.string lit_rrr)), (13, .const (.string lit_72722d)), (14, .const (.string lit_722d2d)), (15, .const (.string lit_722d2d)), (16, .const (.string lit_722d2d))]) rfl (by kernel_rfl)) rfl (rr [1] hS ?_))
  refine it fun w hS => lr ?_
  have e := h.some
  refine rz [0] results244 hS ?_
  exact it ⟨rfl, hS.d0⟩
def code_right.j2 (a1 x22 x23 : Int) : Option (Bool) := (if x22 ≤ a1 then some (decide (a1 ≤ x23)) else some false)
def code_right.f (a1 a2 a3 : Int) : Option (Bool) := (if a2 = 110 then code_right.j2 a1 (-2147483648) 2147483647 else (if a2 = 112 then code_right.j2 a1 0 a3 else (if a2 = 114 then code_right.j2 a1 0 15 else code_right.j2 a1 0 0)))
theorem code_right.ok {a1 a2 a3 : Int} {r : Bool} (h : code_right.f a1 a2 a3 = some r) (hS : St B w (l) hf) :
    Calls prog 245 #[iV a1, .int .u8 a2, iV a3] w (Ret fun v w => v = .bool r ∧ St B w (l) hf) := by
  have h := Holds.of h
  refine en func245 rfl ntmps245 rfl (sr (pn 1 rfl (lnsr (pn 2 rfl (ln ?_)))))
  refine RC.join (fun (s : Int × Int) a w => ∃ x22 x23, s = (x22, x23) ∧ Holds (· = r) (code_right.j2 a1 x22 x23) ∧ Has 25 [(0, iV a1), (7, iV x22), (8, iV x23)] a ∧ St B w (l) hf) ?_ ?_
  · rintro _ a w ⟨x22, x23, rfl, h, ha, hS⟩
    refine ro ha (sr (pn 4 rfl ?_))
    refine RL.iteP 20 rfl h (fun hc24 h => ?_) fun hc24 h => ?_
    next =>
     refine pn 5 rfl (lr ?_)
     cases h.some
     exact rt results245 rfl ⟨rfl, hS⟩
    refine pn 5 rfl (lr ?_)
    obtain rfl := h.some
    exact rt results245 rfl ⟨rfl, hS⟩
  refine sr (pn 1 rfl (ln (RC.block (RC.seq (RC.block (RC.seq (RC.block (RC.seq (RC.block (RC.seq (RC.block (RC.seq (RC.seq ?_)))))))))))))
  refine sr (pn 2 rfl (ln ?_))
  refine RC.iteP 10 rfl h (fun hc26 h => ?_) fun hc26 h => ?_
  next =>
   refine jt (RC.exit (RQ.exitT (RQ.exitT (RQ.inB_hit (tsr (pn 2 rfl (ln (RC.exit (RQ.inB_miss rfl (RQ.exitT (RQ.inB_miss rfl (RQ.exitT ?_))))))))))))
   refine RQ.inB_miss rfl (RQ.exitT (RQ.inB_hit ?_))
   exact fun a ha => ⟨_, _, _, rfl, h, ha.tE rfl, hS⟩
  refine jfs (RC.seq (sr (pn 2 rfl (ln ?_))))
  refine RC.iteP 12 rfl h (fun hc28 h => ?_) fun hc28 h => ?_
  next =>
   refine jt (RC.exit (RQ.exitT (RQ.exitT (RQ.inB_miss rfl (RQ.exitT (RQ.inB_hit (tsr (pn 2 rfl (ln (RC.exit (RQ.inB_miss rfl (RQ.exitT ?_))))))))))))
   refine RQ.inB_miss rfl (RQ.exitT (RQ.inB_hit ?_))
   exact fun a ha => ⟨_, _, _, rfl, h, ha.tE rfl, hS⟩
  refine jfs (sr (pn 2 rfl (ln ?_)))
  refine RC.iteP 14 rfl h (fun hc29 h => ?_) fun hc29 h => ?_
  next =>
   refine jt (RC.exit (RQ.exitT (RQ.inB_miss rfl (RQ.exitT (RQ.inB_miss rfl (RQ.exitT (RQ.inB_hit (RQ.then_n (RC.region (pn 1 rfl (RL.nil (RQ.inB_n (tsr ?_)))))))))))))
   refine pn 1 rfl (ln (RC.exit (RQ.inB_hit ?_)))
   exact fun a ha => ⟨_, _, _, rfl, h, ha.tE rfl, hS⟩
  refine jfs (RC.exit (RQ.inB_miss rfl (RQ.exitT (RQ.inB_miss rfl (RQ.exitT (RQ.inB_miss rfl (RQ.exitT (RQ.inB_hit (tsr (pn 1 rfl (RL.nil ?_)))))))))))
  refine RQ.then_n (RC.exit (RQ.inB_hit ?_))
  exact fun a ha => ⟨_, _, _, rfl, h, ha.tE rfl, hS⟩
def code_may.f (a1 : api_Instr) (a2 : Int) : Option (Bool) := (if a1.Op < 0 then some false else (if 17 ≤ a1.Op then some false else ((code_shapes.f).bind fun _ => (if 0 ≤ a1.Op ∧ a1.Op < 17 then (if 0 < ((nth ([lit_2d2d2d, lit_726e2d, lit_72722d, lit_rrr, lit_rrr, lit_rrr, lit_rrr, lit_rrr, lit_rrr, lit_rrr, lit_702d2d, lit_72702d, lit_rrr, lit_72722d, lit_722d2d, lit_722d2d, lit_722d2d] : List ByteArray) a1.Op).size : Int) then ((code_right.f a1.A (bt (nth ([lit_2d2d2d, lit_726e2d, lit_72722d, lit_rrr, lit_rrr, lit_rrr, lit_rrr, lit_rrr, lit_rrr, lit_rrr, lit_702d2d, lit_72702d, lit_rrr, lit_72722d, lit_722d2d, lit_722d2d, lit_722d2d] : List ByteArray) a1.Op) 0) a2).bind fun t33 => (if t33 = true then (if 1 < ((nth ([lit_2d2d2d, lit_726e2d, lit_72722d, lit_rrr, lit_rrr, lit_rrr, lit_rrr, lit_rrr, lit_rrr, lit_rrr, lit_702d2d, lit_72702d, lit_rrr, lit_72722d, lit_722d2d, lit_722d2d, lit_722d2d] : List ByteArray) a1.Op).size : Int) then ((code_right.f a1.B (bt (nth ([lit_2d2d2d, lit_726e2d, lit_72722d, lit_rrr, lit_rrr, lit_rrr, lit_rrr, lit_rrr, lit_rrr, lit_rrr, lit_702d2d, lit_72702d, lit_rrr, lit_72722d, lit_722d2d, lit_722d2d, lit_722d2d] : List ByteArray) a1.Op) 1) a2).bind fun t37 => (if t37 = true then (if 2 < ((nth ([lit_2d2d2d, lit_726e2d, lit_72722d, lit_rrr, lit_rrr, lit_rrr, lit_rrr, lit_rrr, lit_rrr, lit_rrr, lit_702d2d, lit_72702d, lit_rrr, lit_72722d, lit_722d2d, lit_722d2d, lit_722d2d] : List ByteArray) a1.Op).size : Int) then ((code_right.f a1.C (bt (nth ([lit_2d2d2d, lit_726e2d, lit_72722d, lit_rrr, lit_rrr, lit_rrr, lit_rrr, lit_rrr, lit_rrr, lit_rrr, lit_702d2d, lit_72702d, lit_rrr, lit_72722d, lit_722d2d, lit_722d2d, lit_722d2d] : List ByteArray) a1.Op) 2) a2).bind fun t41 => some t41) else none) else some false)) else none) else some false)) else none) else none))))
theorem code_may.ok {a1 : api_Instr} {a2 : Int} {r : Bool} (h : code_may.f a1 a2 = some r) (hS : St B w (l) hf) :
    Calls prog 233 #[.agg (C_api_Instr a1).toArray, iV a2] w (Ret fun v w => v = .bool r ∧ St B w (l) hf) := by
  have h := Holds.of h
  refine en func233 rfl ntmps233 rfl (sr (rr [0, 0] hS ?_))
  refine fun b23 => it fun w hS => ln (RC.seq (sr (rr [0, 1, 0, 0] hS ?_)))
  refine it fun w hS => RL.iteP 9 rfl h (fun hc26 h => ?_) fun hc26 h => ?_
  next =>
   refine pn 4 rfl (ln (jtr (pn 1 rfl (lr (RQ.ret ?_)))))
   obtain rfl := h.some
   exact rt results233 rfl ⟨rfl, hS.d0⟩
  refine rr [0, 1, 0, 0] hS ?_
  refine it fun w hS => ln ?_
  refine RC.iteP 13 rfl h (fun hc27 h => ?_) fun hc27 h => ?_
  next =>
   refine jtr (pn 1 rfl (lr (RQ.ret ?_)))
   obtain rfl := h.some
   exact rt results233 rfl ⟨rfl, hS.d0⟩
  refine jfs (RC.seq (dr [3, 7, 2, 11, 14] [3, 4] hS fun w hS => rq [0, 1] hS ?_))
  refine it ?_
  obtain ⟨t28, hg29, h⟩ := h.bind
  have hc := code_shapes.ok hg29 hS
  refine RP.e 0 rfl (OW.callF (ls := []) rfl call244 hc) rfl rfl ?_
  rintro _ w ⟨rfl, hS⟩
  refine ⟨kp ⟨fun _ => hS, trivial⟩, ?_⟩
  obtain ⟨⟨hq30, hq31⟩, h⟩ := h.req
  refine RP.v1 3 rfl (Vl.indexMap (f := Value.string) (l := ([lit_2d2d2d, lit_726e2d, lit_72722d, lit_rrr, lit_rrr, lit_rrr, lit_rrr, lit_rrr, lit_rrr, lit_rrr, lit_702d2d, lit_72702d, lit_rrr, lit_72722d, lit_722d2d, lit_722d2d, lit_722d2d] : List ByteArray)) underlying434 sizeOf9 isAgg9 rfl rfl rfl hq30 hq31) rfl rfl (rq [0] hS ?_)
  refine it (RP.nil (RQ.then_n (RC.seq (dr [0, 4, 6, 10, 12, 17, 18, 21, 25, 27, 31, 33, 38, 39, 42, 45, 49, 51, 55, 59, 62, 65, 68] [20, 21, 22] hS fun w hS => rq [0, 1, 0] hS ?_))))
  refine it ?_
  obtain ⟨hq32, h⟩ := h.req
  refine RP.s 0 3 rfl rfl hS (fun w hS => Vl.indexS underlying9 rfl rfl (by decide) hq32) rfl (pp 1 rfl ?_)
  obtain ⟨t33, hg34, h⟩ := h.bind
  have hc := code_right.ok hg34 hS
  refine RP.e 5 rfl (OW.callF (ls := [.tmp 19, .tmp 21, .tmp 22]) rfl call245 hc) rfl rfl ?_
  rintro _ w ⟨rfl, hS⟩
  refine ⟨kp ⟨fun _ => hS, trivial⟩, ?_⟩
  refine pp 1 rfl ?_
  refine RP.iteB 24 rfl h (fun hc35 h => ?_) fun hc35 h => ?_
  next =>
   refine rq [0, 1, 0] hS ?_
   refine it ?_
   obtain ⟨hq36, h⟩ := h.req
   refine RP.sg 0 10 rfl rfl hS (fun w hS => Vl.indexS underlying9 rfl rfl (by decide) hq36) rfl rfl (pp 1 rfl ?_)
   obtain ⟨t37, hg38, h⟩ := h.bind
   have hc := code_right.ok hg38 hS
   refine RP.e 12 rfl (OW.callF (ls := [.tmp 26, .tmp 28, .tmp 29]) rfl call245 hc) rfl rfl ?_
   rintro _ w ⟨rfl, hS⟩
   refine ⟨kp ⟨fun _ => hS, trivial⟩, ?_⟩
   refine pp 2 rfl ?_
   refine RP.iteB 32 rfl h (fun hc39 h => ?_) fun hc39 h => ?_
   next =>
    refine rq [0, 1, 0] hS ?_
    refine it ?_
    obtain ⟨hq40, h⟩ := h.req
    refine RP.sg 0 18 rfl rfl hS (fun w hS => Vl.indexS underlying9 rfl rfl (by decide) hq40) rfl rfl (rq [0] hS ?_)
    refine it ?_
    obtain ⟨t41, hg42, h⟩ := h.bind
    have hc := code_right.ok hg42 hS
    refine RP.e 20 rfl (OW.callF (ls := [.tmp 34, .tmp 36, .tmp 37]) rfl call245 hc) rfl rfl ?_
    rintro _ w ⟨rfl, hS⟩
    refine ⟨kp ⟨(by intro hx; cases hx), trivial⟩, ?_⟩
    refine rq [0, 0] hS ?_
    refine it (RP.nil (tr ?_))
    obtain rfl := h.some
    exact rt results233 rfl ⟨rfl, hS.d0⟩
   refine rq [0, 0, 0, 0, 0, 0, 0, 0] hS ?_
   refine it (RP.nil (tr ?_))
   obtain rfl := h.some
   exact rt results233 rfl ⟨rfl, hS.d0⟩
  refine rq [0, 0, 0, 0, 0, 0, 0, 0, 0, 0, 0, 0, 0, 0, 0, 0] hS ?_
  refine it (RP.nil (tr ?_))
  obtain rfl := h.some
  exact rt results233 rfl ⟨rfl, hS.d0⟩
def code_check.l2b (a1 : List api_Instr) : Int → Option ((Int) ⊕ ((Int) ⊕ (Int × Int) ⊕ (Unit)))
  | (x66) => (if x66 < (a1.length : Int) then (if 0 ≤ x66 then ((code_may.f (nth a1 x66) (a1.length : Int)).bind fun t93 => (if t93 = true then some (.inl (IntKind.i64.wrap (x66 + 1))) else some (.inr (.inr (.inl (x66, 130)))))) else none) else some (.inr (.inr (.inr (())))))
def code_check.l2 (a1 : List api_Instr) (s : Int) : Option ((Int) ⊕ (Int × Int) ⊕ (Unit)) := loopR (code_check.l2b a1) s
def code_check.f (a1 : List api_Instr) : Option ((Int) ⊕ (Int × Int) ⊕ (Unit)) := (if 256 < (a1.length : Int) then some (.inl 2) else code_check.l2 a1 (0))
theorem code_check.ok {a1 : List api_Instr} {A2 : Option Addr} {c3 : Nat} (hr4 : SlR E_api_Instr.rep hf A2 c3 a1) {r : (Int) ⊕ (Int × Int) ⊕ (Unit)} (h : code_check.f a1 = some r) (hS : St B w (l) hf) :
    Calls prog 206 #[sV A2 a1 c3] w (Ret fun v w => match (generalizing := false) r with | .inl r_ => v = .iface 38 (iV r_) ∧ St B w (l) hf | .inr (.inl r_) => ∃ (b_1 : Nat), v = .iface 419 (pV b_1) ∧ St B w (Cl b_1 [iV r_.1, .iface 38 (iV r_.2)] 421 :: l) hf | .inr (.inr (r_)) => v = .nilIface ∧ St B w (l) hf) := by
  have h := Holds.of h
  refine en func206 rfl ntmps206 rfl (sr (pn 1 rfl (ln (RC.seq (sr (r0 3 rfl (ln ?_)))))))
  refine RC.iteP 7 rfl h (fun hc52 h => ?_) fun hc52 h => ?_
  next =>
   refine jtr (r0 2 rfl (lr (RQ.ret ?_)))
   cases h.some
   exact rt results206 rfl ⟨rfl, hS⟩
  refine jfs (RC.seq (sr (r0 3 rfl (ln (RC.block (fun a ha => lp h (fun (s : Int) a w => ∃ x66, s = (x66) ∧ Has 27 [(0, sV A2 a1 c3), (9, sV A2 a1 c3), (10, iV (a1.length : Int)), (11, iV x66)] a ∧ St B w (l) hf) ⟨_, rfl, ha.tE rfl, hS⟩ ?_))))))
  rintro G82 x66 a w ⟨_, rfl, ha, hS⟩ h
  refine ro ha (sr (pn 1 rfl (ln (RC.seq ?_))))
  refine RC.iteP 12 rfl h (fun hc84 h => ?_) fun hc84 h => ?_
  next =>
   refine jt (sk (RC.seq (RC.block (sr (pn 1 rfl ?_)))))
   obtain ⟨hq91, h⟩ := h.req
   refine RL.s (Vl.indexAddr underlying72 sizeOf74 rfl rfl ((hr4.2.world hS.sub).adr hq91 hc84) hq91 hc84 rfl) rfl (RL.s (Vl.loadA isAgg74 sizeOf74 rfl rfl ((hr4.2.world hS.sub).cells hq91 hc84)) rfl (rr [0, 0, 1] hS ?_))
   refine fun b92 => it fun w hS => lnsr (rr [1, 0, 0] hS ?_)
   refine it fun w hS => cF (fun _ hg => code_may.ok hg hS) call233 h rfl rfl rfl ?_
   rintro t93 h _ w ⟨rfl, hS⟩
   refine pn 1 rfl (ln ?_)
   refine RC.iteM 20 rfl h (fun hc95 h => ?_) fun hc95 h => ?_
   next =>
    refine jf (RC.skip (RQ.inB_n (RQ.then_n (RC.region (pn 2 rfl (RL.nil ?_))))))
    exact fun a ha => ⟨_, h.some, _, rfl, ha.tE rfl, hS.d0⟩
   refine jtr (rr [0, 0, 0, 0, 0, 0] hS ?_)
   refine fun b96 => it fun w hS => lr (ir ?_)
   have h := h.inrS
   refine RQ.ret (ir ?_)
   cases h.some
   exact rt results206 rfl ⟨b96, rfl, hS.d1⟩
  refine jf (RC.exit (RQ.exitT ?_))
  have h := h.inrS
  refine RQ.exitT (RQ.inB_hit (tsr (pn 1 rfl (lr ?_))))
  cases h.some
  exact rt results206 rfl ⟨rfl, hS⟩
def code_wrong_Unwrap.f (a2 a3 : Int) : Option (Int) := some a3
theorem code_wrong_Unwrap.ok {a2 a3 r : Int} {b1 : Nat} (h : code_wrong_Unwrap.f a2 a3 = some r) (hS : St B w (Cl b1 [iV a2, .iface 38 (iV a3)] 421 :: l) hf) :
    Calls prog 387 #[pV b1] w (Ret fun v w => v = .iface 38 (iV r) ∧ St B w (Cl b1 [iV a2, .iface 38 (iV a3)] 421 :: l) hf) := by
  have h := Holds.of h
  refine en func387 rfl ntmps387 rfl (sr (pn 1 rfl (lnsr (rr [0, 0, 0, 1, 0] hS ?_))))
  refine it fun w hS => lr ?_
  obtain rfl := h.some
  exact rt results387 rfl ⟨rfl, hS⟩
def errors_is_2.f (a2 a3 a4 : Int) (a5 : Bool) : Option (Bool) := (if a5 = true then ((code_wrong_Unwrap.f a2 a3).bind fun t16 => (if t16 = a4 then some true else some false)) else ((code_wrong_Unwrap.f a2 a3).bind fun t20 => some false))
theorem errors_is_2.ok {a2 a3 a4 : Int} {a5 r : Bool} {b1 : Nat} (h : errors_is_2.f a2 a3 a4 a5 = some r) (hS : St B w (Cl b1 [iV a2, .iface 38 (iV a3)] 421 :: l) hf) :
    Calls prog 109 #[.iface 419 (pV b1), .iface 38 (iV a4), .bool a5] w (Ret fun v w => v = .bool r ∧ St B w (Cl b1 [iV a2, .iface 38 (iV a3)] 421 :: l) hf) := by
  have h := Holds.of h
  refine en func109 rfl ntmps109 rfl (sr (pn 1 rfl (ln (RC.block (RC.unroll (RQ.round (RC.block (RC.seq (sr (pn 2 rfl ?_))))))))))
  refine RL.iteB 15 rfl h (fun hc15 h => ?_) fun hc15 h => ?_
  next =>
   refine pn 2 rfl (RL.sg (Vl.ifaceNeq rfl rfl underlying53 rfl) rfl rfl (pn 1 rfl (ln (jfs (RC.seq (sr (pn 1 rfl (tno underlying298 rfl rfl (pn 5 rfl (ln ?_))))))))))
   refine sr (pn 6 rfl (ln (jfs (sr (pn 1 rfl (ln (RC.block (sr ?_))))))))
   refine tys underlying152 rfl rfl (pn 2 rfl (ln (jtr (pn 1 rfl (lnsr (pn 1 rfl ?_))))))
   obtain ⟨t16, hg17, h⟩ := h.bind
   have hc := code_wrong_Unwrap.ok hg17 hS
   refine RL.e (OW.invoke (F := 387) (u' := pV b1) (ls := []) rfl rfl (fun w => by kernel_rfl) call387 rfl hc) rfl rfl ?_
   rintro _ w ⟨rfl, hS⟩
   refine pn 1 rfl (lnsr (pn 1 rfl (RL.s (Vl.bn false rfl rfl) rfl (ln (jf (RC.skip (RQ.inB_n (RQ.inB_n (RQ.then_n (RQ.round (RC.block ?_)))))))))))
   refine RC.seq (sr (pn 2 rfl (RL.re 15 rfl (congrArg Value.bool (id hc15)) (pn 2 rfl (RL.sg (Vl.ifaceInt rfl rfl underlying53 underlying38 type38 rfl) rfl rfl (pn 1 rfl (ln ?_)))))))
   refine RC.iteP 19 rfl h (fun hc19 h => ?_) fun hc19 h => ?_
   next =>
    refine jtr (pn 1 rfl (lr (RQ.ret (ir (RQ.inB_ret ?_)))))
    obtain rfl := h.some
    exact rt results109 rfl ⟨rfl, hS⟩
   refine jfs (RC.seq (sr (pn 1 rfl (tno underlying298 rfl rfl (pn 5 rfl (lnsr (pn 6 rfl (ln ?_))))))))
   refine jfs (sr (pn 1 rfl (ln (RC.block (sr (tno underlying152 rfl rfl (pn 2 rfl (ln (jf ?_)))))))))
   refine sr (tno underlying154 rfl rfl (pn 2 rfl (ln (jf (sr (pn 1 rfl (lnsr (pn 1 rfl (RL.nil ?_)))))))))
   refine tr (RQ.inB_ret (ir (RQ.inB_ret ?_)))
   obtain rfl := h.some
   exact rt results109 rfl ⟨rfl, hS⟩
  refine pn 4 rfl (ln (jfs (RC.seq (sr (pn 1 rfl (tno underlying298 rfl rfl (pn 5 rfl (lnsr ?_))))))))
  refine pn 6 rfl (ln (jfs (sr (pn 1 rfl (ln (RC.block (sr (tys underlying152 rfl rfl (pn 2 rfl ?_)))))))))
  refine ln (jtr (pn 1 rfl (lnsr (pn 1 rfl ?_))))
  obtain ⟨t20, hg21, h⟩ := h.bind
  have hc := code_wrong_Unwrap.ok hg21 hS
  refine RL.e (OW.invoke (F := 387) (u' := pV b1) (ls := []) rfl rfl (fun w => by kernel_rfl) call387 rfl hc) rfl rfl ?_
  rintro _ w ⟨rfl, hS⟩
  refine pn 1 rfl (lnsr (pn 1 rfl (RL.s (Vl.bn false rfl rfl) rfl (ln (jf (RC.skip (RQ.inB_n (RQ.inB_n (RQ.then_n (RQ.round (RC.block ?_)))))))))))
  refine RC.seq (sr (pn 2 rfl (RL.re 15 rfl (congrArg Value.bool (eq_false_of hc15)) (pn 4 rfl (ln (jfs (RC.seq (sr (pn 1 rfl (tno underlying298 rfl rfl ?_))))))))))
  refine pn 5 rfl (lnsr (pn 6 rfl (ln (jfs (sr (pn 1 rfl (ln ?_)))))))
  refine RC.block (sr (tno underlying152 rfl rfl (pn 2 rfl (ln (jf (sr (tno underlying154 rfl rfl (pn 2 rfl (ln (jf (RC.seq ?_)))))))))))
  refine RC.region (pn 1 rfl (lnsr (pn 1 rfl (lr (RQ.inB_ret (ir (RQ.inB_ret ?_)))))))
  obtain rfl := h.some
  exact rt results109 rfl ⟨rfl, hS⟩
def errors_Is_2.f (a2 a3 a4 : Int) : Option (Bool) := ((errors_is_2.f a2 a3 a4 true).bind fun t7 => some t7)
theorem errors_Is_2.ok {a2 a3 a4 : Int} {b1 : Nat} {r : Bool} (h : errors_Is_2.f a2 a3 a4 = some r) (hS : St B w (Cl b1 [iV a2, .iface 38 (iV a3)] 421 :: l) hf) :
    Calls prog 79 #[.iface 419 (pV b1), .iface 38 (iV a4)] w (Ret fun v w => v = .bool r ∧ St B w (Cl b1 [iV a2, .iface 38 (iV a3)] 421 :: l) hf) := by
  have h := Holds.of h
  refine en func79 rfl ntmps79 rfl (sr (pn 1 rfl (ln (RC.seq (sr (pn 1 rfl (RL.s (Vl.bn false rfl rfl) rfl (pn 2 rfl (RL.sg (Vl.bn false rfl rfl) rfl rfl (pn 1 rfl (ln ?_)))))))))))
  refine jfs (sr (pn 1 rfl (RL.s (Vl.eX [.tmp 15] (.iface 144 (.agg #[.pointer (some ⟨9, 38, none⟩)])) Ex1 func52 rfl) rfl (RL.s (Vl.iX [] (.bool true) (.agg #[.pointer (some ⟨9, 38, none⟩)]) Ex7 func306 rfl rfl) rfl (pn 1 rfl (lnsr (pn 3 rfl (cF (fun _ hg => errors_is_2.ok hg hS) call109 h rfl rfl rfl ?_))))))))
  rintro t7 h _ w ⟨rfl, hS⟩
  refine pn 1 rfl (lr ?_)
  obtain rfl := h.some
  exact rt results79 rfl ⟨rfl, hS⟩
def errors_Is_3.f (a1 : Int) : Option (Bool) := some false
theorem errors_Is_3.ok {a1 : Int} {r : Bool} (h : errors_Is_3.f a1 = some r) (hS : St B w (l) hf) :
    Calls prog 79 #[.nilIface, .iface 38 (iV a1)] w (Ret fun v w => v = .bool r ∧ St B w (l) hf) := by
  have h := Holds.of h
  refine en func79 rfl ntmps79 rfl (sr (pn 1 rfl (ln (RC.seq (sr (pn 1 rfl (RL.s (Vl.bn true rfl rfl) rfl (pn 4 rfl (ln (jt (RC.seq ?_)))))))))))
  refine RC.region (pn 2 rfl (RL.s (Vl.bn false rfl rfl) rfl (pn 1 rfl (lr (RQ.ret ?_)))))
  obtain rfl := h.some
  exact rt results79 rfl ⟨rfl, hS⟩
end
end Go.Proofs.Gx
