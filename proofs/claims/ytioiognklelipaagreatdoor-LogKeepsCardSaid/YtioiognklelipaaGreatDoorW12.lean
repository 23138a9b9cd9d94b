/-
  The walks of functions, each with what it computes: printed by wip/gx.py.
-/
import Derived.Test.YtioiognklelipaaGreatDoorW0
import Derived.Test.YtioiognklelipaaGreatDoorW1
import Derived.Test.YtioiognklelipaaGreatDoorW11
import Derived.Test.YtioiognklelipaaGreatDoorW7
import Derived.Test.YtioiognklelipaaGreatDoorW8
import Derived.Test.YtioiognklelipaaGreatDoorW9
set_option linter.unusedVariables false
set_option maxRecDepth 100000
set_option maxHeartbeats 4000000
namespace Go.Proofs.Gx
open Go.Sl Tryz
variable {B : Base} {w : World} {l : List HProp} {hf : Hp}
/-! ### isochron/isochronlaw10.LogKeeps: function 4 -/
noncomputable def isochronlaw10vLogKeeps.l4b (a12 a13 : Int) (y1219 y1242 : log_Log) (t1252 : List api_Message) : log_Log × log_Log × Int → Option ((log_Log × log_Log × Int) ⊕ (Bool))
  | (y1775, y1780, x1785) => (if x1785 < (t1252.length : Int) then (if 0 ≤ x1785 then ((log_Log_Do.f (⟨y1219.w, y1219.made, y1775.state, y1219.every, y1775.l, y1775.stuck⟩ : log_Log) (⟨(nth t1252 x1785).Key, (nth t1252 x1785).To, (nth t1252 x1785).Value, (nth t1252 x1785).Uid, ((nth t1252 x1785).Anti)⟩ : api_Message) (IntKind.i64.wrap (7 * x1785)) ([])).bind fun (y1922, y1923, y1924) => ((log_Log_Do.f (⟨y1242.w, y1242.made, y1780.state, y1242.every, y1780.l, y1780.stuck⟩ : log_Log) (⟨(nth t1252 x1785).Key, (nth t1252 x1785).To, (nth t1252 x1785).Value, (nth t1252 x1785).Uid, ((nth t1252 x1785).Anti)⟩ : api_Message) (IntKind.i64.wrap (7 * x1785)) ([])).bind fun (y1935, y1936, y1937) => ((isochronlaw10ventry.f y1922 y1935).bind fun t1954 => (if t1954 = true then (if y1923 = y1936 then some (.inl ((⟨y1219.w, y1219.made, y1924.state, y1219.every, y1924.l, y1924.stuck⟩ : log_Log), (⟨y1242.w, y1242.made, y1937.state, y1242.every, y1937.l, y1937.stuck⟩ : log_Log), IntKind.i64.wrap (x1785 + 1))) else some (.inr false)) else some (.inr false))))) else none) else (Option.map Sum.inr (if 0 < (t1252.length : Int) then (if ¬ (t1252.length : Int) = 0 then (if 0 ≤ Int.tmod (IntKind.i64.wrap a12) (t1252.length : Int) ∧ Int.tmod (IntKind.i64.wrap a12) (t1252.length : Int) < (t1252.length : Int) then ((log_Log_Drop.f (⟨y1219.w, y1219.made, y1775.state, y1219.every, y1775.l, y1775.stuck⟩ : log_Log) (((nth t1252 (Int.tmod (IntKind.i64.wrap a12) (t1252.length : Int))).Key).Time)).bind fun (y2200, y2201) => ((log_Log_Drop.f (⟨y1242.w, y1242.made, y1780.state, y1242.every, y1780.l, y1780.stuck⟩ : log_Log) (((nth t1252 (Int.tmod (IntKind.i64.wrap a12) (t1252.length : Int))).Key).Time)).bind fun (y2213, y2214) => ((isochronlaw10ventries.f y2200 y2213).bind fun t2232 => (if t2232 = true then (if 0 ≤ Int.tmod (IntKind.i64.wrap a13) (t1252.length : Int) ∧ Int.tmod (IntKind.i64.wrap a13) (t1252.length : Int) < (t1252.length : Int) then ((log_Log_Back.f (⟨y1219.w, y1219.made, y1775.state, y1219.every, y2201, y1775.stuck⟩ : log_Log) (⟨(nth t1252 (Int.tmod (IntKind.i64.wrap a13) (t1252.length : Int))).Key, (nth t1252 (Int.tmod (IntKind.i64.wrap a13) (t1252.length : Int))).To, (nth t1252 (Int.tmod (IntKind.i64.wrap a13) (t1252.length : Int))).Value, (nth t1252 (Int.tmod (IntKind.i64.wrap a13) (t1252.length : Int))).Uid, ((nth t1252 (Int.tmod (IntKind.i64.wrap a13) (t1252.length : Int))).Anti)⟩ : api_Message)).bind fun (y2239, y2240) => ((log_Log_Back.f (⟨y1242.w, y1242.made, y1780.state, y1242.every, y2214, y1780.stuck⟩ : log_Log) (⟨(nth t1252 (Int.tmod (IntKind.i64.wrap a13) (t1252.length : Int))).Key, (nth t1252 (Int.tmod (IntKind.i64.wrap a13) (t1252.length : Int))).To, (nth t1252 (Int.tmod (IntKind.i64.wrap a13) (t1252.length : Int))).Value, (nth t1252 (Int.tmod (IntKind.i64.wrap a13) (t1252.length : Int))).Uid, ((nth t1252 (Int.tmod (IntKind.i64.wrap a13) (t1252.length : Int))).Anti)⟩ : api_Message)).bind fun (y2252, y2253) => ((isochronlaw10ventries.f y2239 y2252).bind fun t2271 => (if t2271 = true then ((log_Log_All.f (⟨y1219.w, y1219.made, y2240.state, y1219.every, y2240.l, y2240.stuck⟩ : log_Log)).bind fun t2274 => ((log_Log_All.f (⟨y1242.w, y1242.made, y2253.state, y1242.every, y2253.l, y2253.stuck⟩ : log_Log)).bind fun t2281 => ((isochronlaw10ventries.f t2274 t2281).bind fun t2296 => (if t2296 = true then ((log_Log_State.f (⟨y1219.w, y1219.made, y2240.state, y1219.every, y2240.l, y2240.stuck⟩ : log_Log)).bind fun t2299 => ((log_Log_State.f (⟨y1242.w, y1242.made, y2253.state, y1242.every, y2253.l, y2253.stuck⟩ : log_Log)).bind fun t2301 => (if t2299 = t2301 then ((log_Log_Kept.f (⟨y1219.w, y1219.made, y2240.state, y1219.every, y2240.l, y2240.stuck⟩ : log_Log)).bind fun t2304 => ((log_Log_Len.f (⟨y1219.w, y1219.made, y2240.state, y1219.every, y2240.l, y2240.stuck⟩ : log_Log)).bind fun t2306 => (if t2304 ≤ IntKind.i64.wrap (t2306 + 1) then ((log_Log_Kept.f (⟨y1242.w, y1242.made, y2253.state, y1242.every, y2253.l, y2253.stuck⟩ : log_Log)).bind fun t2309 => some (decide (1 ≤ t2309))) else some false))) else some false))) else some false)))) else some false)))) else none) else some false)))) else none) else none) else ((log_Log_All.f (⟨y1219.w, y1219.made, y1775.state, y1219.every, y1775.l, y1775.stuck⟩ : log_Log)).bind fun t2311 => ((log_Log_All.f (⟨y1242.w, y1242.made, y1780.state, y1242.every, y1780.l, y1780.stuck⟩ : log_Log)).bind fun t2318 => ((isochronlaw10ventries.f t2311 t2318).bind fun t2333 => (if t2333 = true then ((log_Log_State.f (⟨y1219.w, y1219.made, y1775.state, y1219.every, y1775.l, y1775.stuck⟩ : log_Log)).bind fun t2336 => ((log_Log_State.f (⟨y1242.w, y1242.made, y1780.state, y1242.every, y1780.l, y1780.stuck⟩ : log_Log)).bind fun t2338 => (if t2336 = t2338 then ((log_Log_Kept.f (⟨y1219.w, y1219.made, y1775.state, y1219.every, y1775.l, y1775.stuck⟩ : log_Log)).bind fun t2341 => ((log_Log_Len.f (⟨y1219.w, y1219.made, y1775.state, y1219.every, y1775.l, y1775.stuck⟩ : log_Log)).bind fun t2343 => (if t2341 ≤ IntKind.i64.wrap (t2343 + 1) then ((log_Log_Kept.f (⟨y1242.w, y1242.made, y1780.state, y1242.every, y1780.l, y1780.stuck⟩ : log_Log)).bind fun t2346 => some (decide (1 ≤ t2346))) else some false))) else some false))) else some false)))))))
noncomputable def isochronlaw10vLogKeeps.l4 (a12 a13 : Int) (y1219 y1242 : log_Log) (t1252 : List api_Message) (s : log_Log × log_Log × Int) : Option (Bool) := loopR (isochronlaw10vLogKeeps.l4b a12 a13 y1219 y1242 t1252) s
noncomputable def isochronlaw10vLogKeeps.f (a1 : api_World) (a8 : List Int) (a12 a13 a14 a15 : Int) : Option (Bool) := ((log_New.f a1 (⟨(⟨0, 0, 0, 0, 0, 0, 0, 0⟩ : Arr8xInti64), 0, 0⟩ : api_State) (IntKind.i64.wrap (1 + (IntKind.i64.wrap (Int.tmod a14 20))))).bind fun t1183 => match t1183 with | .inl y1185 => ((log_New.f a1 (⟨(⟨0, 0, 0, 0, 0, 0, 0, 0⟩ : Arr8xInti64), 0, 0⟩ : api_State) (IntKind.i64.wrap (1 + (IntKind.i64.wrap (Int.tmod a15 20))))).bind fun t1186 => match t1186 with | .inl y1188 => ((vm_Check.f a1).bind fun t1194 => (if t1194 = 0 then some false else ((isochronlaw10vawake.f).bind fun t1197 => some t1197))) | .inr ((y1199, y1200)) => ((vm_Check.f a1).bind fun t1214 => (if t1214 = 0 then some false else ((isochronlaw10vawake.f).bind fun t1217 => some t1217)))) | .inr ((y1219, y1220)) => ((log_New.f a1 (⟨(⟨0, 0, 0, 0, 0, 0, 0, 0⟩ : Arr8xInti64), 0, 0⟩ : api_State) (IntKind.i64.wrap (1 + (IntKind.i64.wrap (Int.tmod a15 20))))).bind fun t1229 => match t1229 with | .inl y1231 => ((vm_Check.f a1).bind fun t1237 => (if t1237 = 0 then some false else ((isochronlaw10vawake.f).bind fun t1240 => some t1240))) | .inr ((y1242, y1243)) => ((isochronlaw10vevents.f a8).bind fun t1252 => isochronlaw10vLogKeeps.l4 a12 a13 y1219 y1242 t1252 ((⟨y1219.w, y1219.made, y1219.state, y1219.every, [], y1219.stuck⟩ : log_Log), (⟨y1242.w, y1242.made, y1242.state, y1242.every, [], y1242.stuck⟩ : log_Log), 0))))
theorem isochronlaw10vLogKeeps.ok {a1 : api_World} {a8 : List Int} {a12 a13 a14 a15 : Int} {A2 : Option Addr} {c3 : Nat} {A5 : Option Addr} {c6 : Nat} {A9 : Option Addr} {c10 : Nat} (hr4 : SlR E_api_Instr.rep hf A2 c3 a1.Prog) (hr7 : SlR E_api_Link.rep hf A5 c6 a1.Links) (hr11 : SlR ((FI .u8).rep) hf A9 c10 a8) (hG0 : GlobAt hf 0 (.iface 119 (.agg #[.pointer (some ⟨1, 76, none⟩)]))) {r : Bool} (h : isochronlaw10vLogKeeps.f a1 a8 a12 a13 a14 a15 = some r) (hS : St B w (l) hf) :
    Calls prog 4 #[.agg #[.slice A2 a1.Prog.length c3, .int .i64 a1.Self, .slice A5 a1.Links.length c6, .int .u64 a1.Seed], .slice A9 a8.length c10, .int .u8 a12, .int .u8 a13, .int .u8 a14, .int .u8 a15] w (Ret fun v w => v = .bool r ∧ St B w (l) hf) := by
  have h := Holds.of h
  refine en func4 rfl ntmps4 rfl (sr (bx hS rfl rfl rfl rfl fun b1182 w hS => pn 1 rfl (lnsr (RL.s (Vl.lw 0 hS isAgg26 sizeOf26 rfl rfl rfl) rfl (RL.s (Vl.build (v := .agg #[.int .i64 0, .int .i64 0, .int .i64 0, .int .i64 0, .int .i64 0, .int .i64 0, .int .i64 0, .int .i64 0, .int .i64 0, .int .i64 0]) (parts := []) rfl (by kernel_rfl)) rfl (pn 1 rfl (RL.s (Vl.rem rfl rfl (by decide)) rfl (RL.s (Vl.conv underlying5 underlying3 rfl) rfl (pn 1 rfl ?_)))))))))
  obtain ⟨t1183, hg1184, h⟩ := h.bind
  have hc := log_New.ok hr4 hr7 hg1184 hS
  rcases t1183 with y1185 | ⟨y1219, y1220⟩
  · refine RL.e (OW.callF (ls := [.tmp 25, .tmp 26, .tmp 30]) rfl call5 hc) rfl rfl ?_
    rintro _ w ⟨rfl, hS⟩
    refine pn 5 rfl (lnsr (RL.s (Vl.lw 0 hS isAgg26 sizeOf26 rfl rfl rfl) rfl (RL.s (Vl.build (v := .agg #[.int .i64 0, .int .i64 0, .int .i64 0, .int .i64 0, .int .i64 0, .int .i64 0, .int .i64 0, .int .i64 0, .int .i64 0, .int .i64 0]) (parts := []) rfl (by kernel_rfl)) rfl (pn 1 rfl (RL.s (Vl.rem rfl rfl (by decide)) rfl (RL.s (Vl.conv underlying5 underlying3 rfl) rfl (pn 1 rfl ?_)))))))
    obtain ⟨t1186, hg1187, h⟩ := h.bind
    have hc := log_New.ok hr4 hr7 hg1187 hS
    rcases t1186 with y1188 | ⟨y1199, y1200⟩
    · refine RL.e (OW.callF (ls := [.tmp 35, .tmp 36, .tmp 40]) rfl call5 hc) rfl rfl ?_
      rintro _ w ⟨rfl, hS⟩
      refine pn 5 rfl (ln (RC.seq (sr (pn 1 rfl (RL.s (Vl.bin (v := .bool true) rfl rfl (by kernel_rfl)) rfl (pn 4 rfl (ln (RC.condT rfl (sr (RL.s (Vl.lw 0 hS isAgg26 sizeOf26 rfl rfl rfl) rfl (cF (fun _ hg => vm_Check.ok hr4 hr7 hg hS) call6 h rfl rfl rfl ?_)))))))))))
      rintro t1194 h _ w ⟨rfl, hS⟩
      refine pn 2 rfl ?_
      refine RL.iteN 53 rfl h (fun hc1196 h => ?_) fun hc1196 h => ?_
      next =>
       refine pn 3 rfl (lr (RQ.ret ?_))
       obtain rfl := h.some
       exact rt results4 rfl ⟨rfl, hS.d0⟩
      next =>
       refine cF (fun _ hg => isochronlaw10vawake.ok hg hS) call7 h rfl rfl rfl ?_
       rintro t1197 h _ w ⟨rfl, hS⟩
       refine pn 2 rfl (lr (RQ.ret ?_))
       obtain rfl := h.some
       exact rt results4 rfl ⟨rfl, hS.d0⟩
    · refine RL.e (OW.callF (ls := [.tmp 35, .tmp 36, .tmp 40]) rfl call5 hc) rfl rfl ?_
      rintro _ w ⟨hf, hs1208, b1201, A1202, c1203, A1205, c1206, rfl, hS, hr1204, hr1207⟩
      refine pn 5 rfl (ln (RC.seq (sr (pn 1 rfl (RL.s (Vl.bin (v := .bool true) rfl rfl (by kernel_rfl)) rfl (pn 4 rfl (ln (RC.condT rfl (sr (RL.s (Vl.lw 1 hS isAgg26 sizeOf26 rfl rfl rfl) rfl (cF (fun _ hg => vm_Check.ok (hr4.mono hs1208) (hr7.mono hs1208) hg hS) call6 h rfl rfl rfl ?_)))))))))))
      rintro t1214 h _ w ⟨rfl, hS⟩
      refine pn 2 rfl ?_
      refine RL.iteN 53 rfl h (fun hc1216 h => ?_) fun hc1216 h => ?_
      next =>
       refine pn 3 rfl (lr (RQ.ret ?_))
       obtain rfl := h.some
       exact rt results4 rfl ⟨rfl, (hS.d0.d0).down hs1208⟩
      next =>
       refine cF (fun _ hg => isochronlaw10vawake.ok hg hS) call7 h rfl rfl rfl ?_
       rintro t1217 h _ w ⟨rfl, hS⟩
       refine pn 2 rfl (lr (RQ.ret ?_))
       obtain rfl := h.some
       exact rt results4 rfl ⟨rfl, (hS.d0.d0).down hs1208⟩
  · refine RL.e (OW.callF (ls := [.tmp 25, .tmp 26, .tmp 30]) rfl call5 hc) rfl rfl ?_
    rintro _ w ⟨hf, hs1228, b1221, A1222, c1223, A1225, c1226, rfl, hS, hr1224, hr1227⟩
    refine pn 5 rfl (lnsr (RL.s (Vl.lw 1 hS isAgg26 sizeOf26 rfl rfl rfl) rfl (RL.s (Vl.build (v := .agg #[.int .i64 0, .int .i64 0, .int .i64 0, .int .i64 0, .int .i64 0, .int .i64 0, .int .i64 0, .int .i64 0, .int .i64 0, .int .i64 0]) (parts := []) rfl (by kernel_rfl)) rfl (pn 1 rfl (RL.s (Vl.rem rfl rfl (by decide)) rfl (RL.s (Vl.conv underlying5 underlying3 rfl) rfl (pn 1 rfl ?_)))))))
    obtain ⟨t1229, hg1230, h⟩ := h.bind
    have hc := log_New.ok (hr4.mono hs1228) (hr7.mono hs1228) hg1230 hS
    rcases t1229 with y1231 | ⟨y1242, y1243⟩
    · refine RL.e (OW.callF (ls := [.tmp 35, .tmp 36, .tmp 40]) rfl call5 hc) rfl rfl ?_
      rintro _ w ⟨rfl, hS⟩
      refine pn 5 rfl (ln (RC.seq (sr (pn 1 rfl (RL.s (Vl.bin (v := .bool false) rfl rfl (by kernel_rfl)) rfl (pn 2 rfl (RL.sg (Vl.bin (v := .bool true) rfl rfl (by kernel_rfl)) rfl rfl (pn 1 rfl (ln (RC.condT rfl (sr ?_)))))))))))
      refine RL.s (Vl.lw 1 hS isAgg26 sizeOf26 rfl rfl rfl) rfl (cF (fun _ hg => vm_Check.ok (hr4.mono hs1228) (hr7.mono hs1228) hg hS) call6 h rfl rfl rfl ?_)
      rintro t1237 h _ w ⟨rfl, hS⟩
      refine pn 2 rfl ?_
      refine RL.iteN 53 rfl h (fun hc1239 h => ?_) fun hc1239 h => ?_
      next =>
       refine pn 3 rfl (lr (RQ.ret ?_))
       obtain rfl := h.some
       exact rt results4 rfl ⟨rfl, (hS.d0.d0).down hs1228⟩
      next =>
       refine cF (fun _ hg => isochronlaw10vawake.ok hg hS) call7 h rfl rfl rfl ?_
       rintro t1240 h _ w ⟨rfl, hS⟩
       refine pn 2 rfl (lr (RQ.ret ?_))
       obtain rfl := h.some
       exact rt results4 rfl ⟨rfl, (hS.d0.d0).down hs1228⟩
    · refine RL.e (OW.callF (ls := [.tmp 35, .tmp 36, .tmp 40]) rfl call5 hc) rfl rfl ?_
      rintro _ w ⟨hf, hs1251, b1244, A1245, c1246, A1248, c1249, rfl, hS, hr1247, hr1250⟩
      refine pn 5 rfl (ln (RC.seq (sr (pn 1 rfl (RL.s (Vl.bin (v := .bool false) rfl rfl (by kernel_rfl)) rfl (pn 2 rfl (RL.sg (Vl.bin (v := .bool false) rfl rfl (by kernel_rfl)) rfl rfl (pn 1 rfl (ln (RC.condF rfl (sk ?_)))))))))))
      refine sr (pn 1 rfl (cF (fun _ hg => isochronlaw10vevents.ok ((hr11.mono hs1228).mono hs1251) hg hS) call8 h rfl rfl rfl ?_))
      rintro t1252 h _ w ⟨A1254, c1255, rfl, hS⟩
      refine pn 1 rfl (ln (RC.seq (sr (pn 1 rfl (ln (RC.block ?_))))))
      have hS := hS.nilSlR 68 10
      have hS := hS.nilSlR 68 10
      refine fun a ha => RC.loop (N := 165) (body := (isochronlaw10vLogKeeps.l4b a12 a13 y1219 y1242 t1252)) (φ := (· = r)) (fun (s : log_Log × log_Log × Int) a w => ∃ (y1775 : log_Log) (y1780 : log_Log) (x1785 : Int), s = (y1775, y1780, x1785) ∧ ∃ hf_ : Hp, Sub hf hf_ ∧ ∃ (A1776 : Option Addr) (c1777 : Nat) (cs1778 : List Value) (A1781 : Option Addr) (c1782 : Nat) (cs1783 : List Value), Has 165 [(2, .int .u8 a12), (3, .int .u8 a13), (13, .pointer (some ⟨b1221, 0, none⟩)), (15, .pointer (some ⟨b1244, 0, none⟩)), (17, .slice A1254 t1252.length c1255), (18, .int .i64 x1785)] a ∧ St B w (OSl 68 10 (.slice A1776 y1775.l.length c1777) y1775.l.length cs1778 :: OSl 68 10 (.slice A1781 y1780.l.length c1782) y1780.l.length cs1783 :: OSf E_api_Message 42 (.slice A1254 t1252.length c1255) t1252 :: Cl b1244 [.slice A1245 y1242.w.Prog.length c1246, .int .i64 y1242.w.Self, .slice A1248 y1242.w.Links.length c1249, .int .u64 y1242.w.Seed, .bool y1242.made, .int .i64 y1780.state.Regs.c0, .int .i64 y1780.state.Regs.c1, .int .i64 y1780.state.Regs.c2, .int .i64 y1780.state.Regs.c3, .int .i64 y1780.state.Regs.c4, .int .i64 y1780.state.Regs.c5, .int .i64 y1780.state.Regs.c6, .int .i64 y1780.state.Regs.c7, .int .i64 y1780.state.Draws, .int .i64 y1780.state.Sent, .int .i64 y1242.every, .slice A1781 y1780.l.length c1782, .bool y1780.stuck] 59 :: Cl b1221 [.slice A1222 y1219.w.Prog.length c1223, .int .i64 y1219.w.Self, .slice A1225 y1219.w.Links.length c1226, .int .u64 y1219.w.Seed, .bool y1219.made, .int .i64 y1775.state.Regs.c0, .int .i64 y1775.state.Regs.c1, .int .i64 y1775.state.Regs.c2, .int .i64 y1775.state.Regs.c3, .int .i64 y1775.state.Regs.c4, .int .i64 y1775.state.Regs.c5, .int .i64 y1775.state.Regs.c6, .int .i64 y1775.state.Regs.c7, .int .i64 y1775.state.Draws, .int .i64 y1775.state.Sent, .int .i64 y1219.every, .slice A1776 y1775.l.length c1777, .bool y1775.stuck] 59 :: l) hf_ ∧ RepL R_log_done hf_ cs1778 y1775.l ∧ RepL R_log_done hf_ cs1783 y1780.l) ?_ (s0 := ((⟨y1219.w, y1219.made, y1219.state, y1219.every, [], y1219.stuck⟩ : log_Log), (⟨y1242.w, y1242.made, y1242.state, y1242.every, [], y1242.stuck⟩ : log_Log), 0)) h ⟨(⟨y1219.w, y1219.made, y1219.state, y1219.every, [], y1219.stuck⟩ : log_Log), (⟨y1242.w, y1242.made, y1242.state, y1242.every, [], y1242.stuck⟩ : log_Log), 0, rfl, _, (Sub.refl _), none, 0, ([]), none, 0, ([]), ha.to ⟨rfl, rfl, rfl, rfl, rfl, rfl, trivial⟩, hS.d5.p1, RepL.nil, RepL.nil⟩
      rintro G1877 _ a w ⟨y1775, y1780, x1785, rfl, hf, hs1685, A1776, c1777, cs1778, A1781, c1782, cs1783, ha, hS, hx1779, hx1784⟩ h
      revert a
      show RC _ _ _ _ _ _
      refine RC.seq (sr (pn 2 rfl (RL.s (Vl.lenSl underlying37 rfl) rfl (pn 1 rfl (ln ?_)))))
      refine RC.iteP 61 rfl h (fun hc1879 h => ?_) fun hc1879 h => ?_
      next =>
       refine RC.condT rfl (sk (RC.seq (RC.block (sr (pn 3 rfl ?_)))))
       obtain ⟨hq1919, h⟩ := h.req
       refine RL.s (Vl.indexOwn 2 hS rfl underlying37 sizeOf42 rfl rfl hq1919 hc1879) rfl (RL.s (Vl.loadA isAgg42 sizeOf42 rfl rfl ((hS.slW 2 rfl).2.2.cells hq1919 hc1879)) rfl (pn 2 rfl (cF (fun _ hg => log_Log_Do.ok (a2 := (⟨y1219.w, y1219.made, y1775.state, y1219.every, y1775.l, y1775.stuck⟩ : log_Log)) ((hr1224.mono hs1251).mono hs1685) ((hr1227.mono hs1251).mono hs1685) hx1779 (SlR.nil (A := none) (c := 0)) (((hG0.mono hs1228).mono hs1251).mono hs1685) hg hS.p4) call9 h rfl rfl rfl ?_)))
       rintro ⟨y1922, y1923, y1924⟩ h _ w ⟨hf, hs1931, A1925, c1926, A1927, c1928, cs1929, rfl, hS, hx1930⟩
       refine pn 3 rfl (al hS zeroValue44 rfl rfl rfl fun b1932 w hS => RL.e0 (OW.store (vs := [.int .i64 y1922.Event.Key.Time, .int .i64 y1922.Event.Key.From, .int .i64 y1922.Event.Key.Seq, .int .i64 y1922.Event.To, .int .i64 y1922.Event.Value, .int .i64 y1922.Event.Uid, .bool y1922.Event.Anti, .int .i64 y1922.Before.Regs.c0, .int .i64 y1922.Before.Regs.c1, .int .i64 y1922.Before.Regs.c2, .int .i64 y1922.Before.Regs.c3, .int .i64 y1922.Before.Regs.c4, .int .i64 y1922.Before.Regs.c5, .int .i64 y1922.Before.Regs.c6, .int .i64 y1922.Before.Regs.c7, .int .i64 y1922.Before.Draws, .int .i64 y1922.Before.Sent, .int .i64 y1922.Fault, .slice A1925 y1922.Sent.length c1926]) 0 hS rfl rfl rfl rfl sizeOf44 rfl rfl rfl rfl) rfl ?_)
       rintro _ w ⟨rfl, hS⟩
       have hS : St B w (Cl _ [_, _, _, _, _, _, _, _, _, _, _, _, _, _, _, _, _, _, _] _ :: _ :: _ :: _ :: _ :: _ :: _ :: l) hf := hS
       refine pn 1 rfl (lnsr (pn 3 rfl (RL.s (Vl.indexOwn 5 hS rfl underlying37 sizeOf42 rfl rfl hq1919 hc1879) rfl (RL.s (Vl.loadA isAgg42 sizeOf42 rfl rfl ((hS.slW 5 rfl).2.2.cells hq1919 hc1879)) rfl (pn 2 rfl (cF (fun _ hg => log_Log_Do.ok (a2 := (⟨y1242.w, y1242.made, y1780.state, y1242.every, y1780.l, y1780.stuck⟩ : log_Log)) ((hr1247.mono hs1685).mono hs1931) ((hr1250.mono hs1685).mono hs1931) (hx1784.mono hs1931) (SlR.nil (A := none) (c := 0)) ((((hG0.mono hs1228).mono hs1251).mono hs1685).mono hs1931) hg hS.p4.p6) call9 h rfl rfl rfl ?_))))))
       rintro ⟨y1935, y1936, y1937⟩ h _ w ⟨hf, hs1944, A1938, c1939, A1940, c1941, cs1942, rfl, hS, hx1943⟩
       refine pn 3 rfl (al hS zeroValue44 rfl rfl rfl fun b1945 w hS => RL.e0 (OW.store (vs := [.int .i64 y1935.Event.Key.Time, .int .i64 y1935.Event.Key.From, .int .i64 y1935.Event.Key.Seq, .int .i64 y1935.Event.To, .int .i64 y1935.Event.Value, .int .i64 y1935.Event.Uid, .bool y1935.Event.Anti, .int .i64 y1935.Before.Regs.c0, .int .i64 y1935.Before.Regs.c1, .int .i64 y1935.Before.Regs.c2, .int .i64 y1935.Before.Regs.c3, .int .i64 y1935.Before.Regs.c4, .int .i64 y1935.Before.Regs.c5, .int .i64 y1935.Before.Regs.c6, .int .i64 y1935.Before.Regs.c7, .int .i64 y1935.Before.Draws, .int .i64 y1935.Before.Sent, .int .i64 y1935.Fault, .slice A1938 y1935.Sent.length c1939]) 0 hS rfl rfl rfl rfl sizeOf44 rfl rfl rfl rfl) rfl ?_)
       rintro _ w ⟨rfl, hS⟩
       have hS : St B w (Cl _ [_, _, _, _, _, _, _, _, _, _, _, _, _, _, _, _, _, _, _] _ :: _ :: _ :: _ :: _ :: _ :: _ :: _ :: _ :: l) hf := hS
       refine pn 1 rfl (lnsr (RL.s (Vl.lw 4 hS isAgg44 sizeOf44 rfl rfl rfl) rfl (RL.s (Vl.lw 0 hS isAgg44 sizeOf44 rfl rfl rfl) rfl ?_)))
       obtain ⟨hf1949, hs1947, hS, hr1946, hb1948⟩ := St.lendSl hS.p1.p5
       obtain ⟨hf1953, hs1951, hS, hr1950, hb1952⟩ := St.lendSl hS
       obtain ⟨t1954, hg1955, h⟩ := h.bind
       have hc := isochronlaw10ventry.ok (hr1946.mono hs1951) hr1950 hg1955 hS
       refine RL.e (OW.callF (ls := [.tmp 86, .tmp 87]) rfl call15 hc) rfl rfl ?_
       rintro _ w ⟨rfl, hS⟩
       have hS := hb1952 _ _ hS
       have hS := hb1948 _ _ hS
       have hS : St B w (_ :: _ :: _ :: _ :: _ :: _ :: _ :: _ :: _ :: l) hf := hS
       refine pn 2 rfl ?_
       refine RL.iteM 90 rfl h (fun hc1956 h => ?_) fun hc1956 h => ?_
       next =>
        refine pn 4 rfl (ln ?_)
        refine RC.iteN 94 rfl h (fun hc1957 h => ?_) fun hc1957 h => ?_
        next =>
         refine RC.condF rfl (RC.skip (RQ.inB_n (RQ.then_n (RC.region (pn 3 rfl (RL.nil ?_))))))
         exact fun a ha => ⟨((⟨y1219.w, y1219.made, y1924.state, y1219.every, y1924.l, y1924.stuck⟩ : log_Log), (⟨y1242.w, y1242.made, y1937.state, y1242.every, y1937.l, y1937.stuck⟩ : log_Log), IntKind.i64.wrap (x1785 + 1)), ⟨(⟨y1219.w, y1219.made, y1924.state, y1219.every, y1924.l, y1924.stuck⟩ : log_Log), (⟨y1242.w, y1242.made, y1937.state, y1242.every, y1937.l, y1937.stuck⟩ : log_Log), (IntKind.i64.wrap (x1785 + 1)), rfl, _, ((hs1685.trans hs1931).trans hs1944), A1927, c1928, cs1929, A1940, c1941, cs1942, ha.to ⟨rfl, rfl, rfl, rfl, rfl, rfl, trivial⟩, hS.d0.d0.d0.d2.p4.p1.p3, (hx1930.mono hs1944), hx1943⟩, h.some⟩
        next =>
         refine RC.condT rfl (sr (pn 1 rfl (lr (RQ.inB_ret (RQ.ret ?_)))))
         have h := h.inrS
         refine RQ.ret (RQ.inB_ret (RQ.ret ?_))
         obtain rfl := h.some
         exact rt results4 rfl ⟨rfl, (hS.d0.d0.d0.d0.d0.d0.d0.d0.d0).down ((((hs1228.trans hs1251).trans hs1685).trans hs1931).trans hs1944)⟩
       next =>
        refine pn 4 rfl (ln (RC.condT rfl (sr (pn 1 rfl (lr (RQ.inB_ret (RQ.ret ?_)))))))
        have h := h.inrS
        refine RQ.ret (RQ.inB_ret (RQ.ret ?_))
        obtain rfl := h.some
        exact rt results4 rfl ⟨rfl, (hS.d0.d0.d0.d0.d0.d0.d0.d0.d0).down ((((hs1228.trans hs1251).trans hs1685).trans hs1931).trans hs1944)⟩
      next =>
       refine RC.condF rfl (RC.exit (RQ.exitT ?_))
       have h := h.inr
       refine RQ.exitT (RQ.inB_hit (RQ.then_n (RC.seq (sr (pn 1 rfl (RL.s (Vl.lenSl underlying37 rfl) rfl (pn 1 rfl (ln ?_))))))))
       refine RC.iteP 97 rfl h (fun hc2116 h => ?_) fun hc2116 h => ?_
       next =>
        refine RC.condT rfl (sr (pn 2 rfl (RL.s (Vl.conv underlying5 underlying3 rfl) rfl (pn 1 rfl (RL.s (Vl.lenSl underlying37 rfl) rfl ?_)))))
        obtain ⟨hq2117, h⟩ := h.req
        refine RL.s (Vl.rem rfl rfl hq2117) rfl ?_
        obtain ⟨⟨hq2118, hq2119⟩, h⟩ := h.req
        refine RL.s (Vl.indexOwn 2 hS rfl underlying37 sizeOf42 rfl rfl hq2118 hq2119) rfl (RL.s (Vl.fieldAddr (a'' := (ad A1254).add ((Int.tmod (IntKind.i64.wrap a12) (t1252.length : Int)).toNat * 7 + 0)) underlying42 rfl sizeOf40 rfl (add_add _ _ _)) rfl (RL.s (Vl.fieldAddr (a'' := (ad A1254).add ((Int.tmod (IntKind.i64.wrap a12) (t1252.length : Int)).toNat * 7 + 0)) underlying40 rfl sizeOf2 rfl (add_add _ _ _)) rfl (RL.s (Vl.load isAgg2 rfl ((hS.slW 2 rfl).2.2.cell (j := 0) hq2118 hq2119 rfl)) rfl (pn 1 rfl (ln (RC.seq (RC.planS (plD [0, 3, 9, 12, 8, 17, 20, 21, 24, 27, 30, 33, 37, 39, 42, 45, 49, 52, 57, 60, 63, 67, 69, 72, 75, 79, 82, 56, 86, 89, 92, 95]) [28, 29, 30, 31] hS (fun w hS => hS.d0.d0.d1.d1) follows rfl (by kernel_rfl) (NoTmp.then (NoTmp.then NoTmp.body)) fun w hS => pp 4 rfl ?_)))))))
        obtain ⟨t2198, hg2199, h⟩ := h.bind
        have hc := log_Log_Drop.ok (a2 := (⟨y1219.w, y1219.made, y1775.state, y1219.every, y1775.l, y1775.stuck⟩ : log_Log)) ((hr1224.mono hs1251).mono hs1685) ((hr1227.mono hs1251).mono hs1685) hx1779 (((hG0.mono hs1228).mono hs1251).mono hs1685) hg2199 hS.p4
        obtain ⟨y2200, y2201⟩ := t2198
        refine RP.e 2 rfl (OW.callF (ls := [.tmp 108, .tmp 109]) rfl call16 hc) rfl rfl ?_
        rintro _ w ⟨hf, hs2210, A2202, c2203, cs2204, A2206, c2207, cs2208, rfl, hS, hx2205, hx2209⟩
        refine ⟨kp ⟨fun _ => (St.down hS.d0.d0.d0.d0.d1 hs2210), trivial⟩, ?_⟩
        obtain ⟨t2211, hg2212, h⟩ := h.bind
        have hc := log_Log_Drop.ok (a2 := (⟨y1242.w, y1242.made, y1780.state, y1242.every, y1780.l, y1780.stuck⟩ : log_Log)) ((hr1247.mono hs1685).mono hs2210) ((hr1250.mono hs1685).mono hs2210) (hx1784.mono hs2210) ((((hG0.mono hs1228).mono hs1251).mono hs1685).mono hs2210) hg2212 hS.p3.p5
        obtain ⟨y2213, y2214⟩ := t2211
        refine RP.e 5 rfl (OW.callF (ls := [.tmp 111, .tmp 112]) rfl call16 hc) rfl rfl ?_
        rintro _ w ⟨hf, hs2223, A2215, c2216, cs2217, A2219, c2220, cs2221, rfl, hS, hx2218, hx2222⟩
        refine ⟨kp ⟨fun _ => (St.down hS.d0.d0.d0.d0.d0.d0 (hs2210.trans hs2223)), trivial⟩, ?_⟩
        obtain ⟨hf2227, hs2225, hS, hr2224, hb2226⟩ := St.lendSlR R_api_Entry_ok hS.p3 rfl (hx2205.mono hs2223)
        obtain ⟨hf2231, hs2229, hS, hr2228, hb2230⟩ := St.lendSlR R_api_Entry_ok hS rfl (hx2218.mono hs2225)
        obtain ⟨t2232, hg2233, h⟩ := h.bind
        have hc := isochronlaw10ventries.ok (hr2224.mono hs2229) hr2228 hg2233 hS
        refine RP.e 6 rfl (OW.callF (ls := [.tmp 110, .tmp 113]) rfl call14 hc) rfl rfl ?_
        rintro _ w ⟨rfl, hS⟩
        have hS := hb2230 _ _ hS
        have hS := hb2226 _ _ hS
        have hS : St B w (_ :: _ :: _ :: _ :: _ :: _ :: _ :: l) hf := hS
        refine ⟨kp ⟨fun _ => (St.down hS.d0.d0.d0.d0.d0.d0 (hs2210.trans hs2223)), trivial⟩, ?_⟩
        refine pp 2 rfl ?_
        refine RP.iteM 116 rfl h (fun hc2234 h => ?_) fun hc2234 h => ?_
        next =>
         refine pp 3 rfl (RP.sg 0 12 rfl rfl (St.down hS.d0.d0.d0.d0.d0.d0 (hs2210.trans hs2223)) (fun w hS => Vl.conv underlying5 underlying3 rfl) rfl rfl (pp 1 rfl (RP.sg0 14 rfl (fun w => Vl.lenSl underlying37 rfl) rfl rfl (RP.sg0 15 rfl (fun w => Vl.rem rfl rfl hq2117) rfl rfl ?_))))
         obtain ⟨⟨hq2235, hq2236⟩, h⟩ := h.req
         refine RP.sg 0 16 rfl rfl (St.down hS.d0.d0.d0.d0.d0.d0 (hs2210.trans hs2223)) (fun w hS => Vl.indexOwn 0 hS rfl underlying37 sizeOf42 rfl rfl hq2235 hq2236) rfl rfl (RP.sg 0 17 rfl rfl (St.down hS.d0.d0.d0.d0.d0.d0 (hs2210.trans hs2223)) (fun w hS => Vl.loadA isAgg42 sizeOf42 rfl rfl ((hS.slW 0 rfl).2.2.cells hq2235 hq2236)) rfl rfl (pp 3 rfl (RP.sg 0 22 rfl rfl (St.down hS.d0.d0.d0.d0.d0.d0 (hs2210.trans hs2223)) (fun w hS => Vl.conv underlying5 underlying3 rfl) rfl rfl (pp 1 rfl (RP.sg0 24 rfl (fun w => Vl.lenSl underlying37 rfl) rfl rfl (RP.sg0 25 rfl (fun w => Vl.rem rfl rfl hq2117) rfl rfl (RP.sg 0 26 rfl rfl (St.down hS.d0.d0.d0.d0.d0.d0 (hs2210.trans hs2223)) (fun w hS => Vl.indexOwn 0 hS rfl underlying37 sizeOf42 rfl rfl hq2235 hq2236) rfl rfl (RP.sg 0 27 rfl rfl (St.down hS.d0.d0.d0.d0.d0.d0 (hs2210.trans hs2223)) (fun w hS => Vl.loadA isAgg42 sizeOf42 rfl rfl ((hS.slW 0 rfl).2.2.cells hq2235 hq2236)) rfl rfl ?_))))))))
         obtain ⟨t2237, hg2238, h⟩ := h.bind
         have hc := log_Log_Back.ok (a2 := (⟨y1219.w, y1219.made, y1775.state, y1219.every, y2201, y1775.stuck⟩ : log_Log)) ((((hr1224.mono hs1251).mono hs1685).mono hs2210).mono hs2223) ((((hr1227.mono hs1251).mono hs1685).mono hs2210).mono hs2223) (hx2209.mono hs2223) (((((hG0.mono hs1228).mono hs1251).mono hs1685).mono hs2210).mono hs2223) hg2238 hS.p4.p5
         obtain ⟨y2239, y2240⟩ := t2237
         refine RP.e 18 rfl (OW.callF (ls := [.tmp 117, .tmp 125]) rfl call12 hc) rfl rfl ?_
         rintro _ w ⟨hf, hs2249, A2241, c2242, cs2243, A2245, c2246, cs2247, rfl, hS, hx2244, hx2248⟩
         refine ⟨kp ⟨fun _ => (St.down hS.d0.d0.d0.d0.d0.d0.d0 ((hs2210.trans hs2223).trans hs2249)), trivial⟩, ?_⟩
         obtain ⟨t2250, hg2251, h⟩ := h.bind
         have hc := log_Log_Back.ok (a2 := (⟨y1242.w, y1242.made, y1780.state, y1242.every, y2214, y1780.stuck⟩ : log_Log)) ((((hr1247.mono hs1685).mono hs2210).mono hs2223).mono hs2249) ((((hr1250.mono hs1685).mono hs2210).mono hs2223).mono hs2249) (hx2222.mono hs2249) ((((((hG0.mono hs1228).mono hs1251).mono hs1685).mono hs2210).mono hs2223).mono hs2249) hg2251 hS.p5.p6
         obtain ⟨y2252, y2253⟩ := t2250
         refine RP.e 28 rfl (OW.callF (ls := [.tmp 127, .tmp 135]) rfl call12 hc) rfl rfl ?_
         rintro _ w ⟨hf, hs2262, A2254, c2255, cs2256, A2258, c2259, cs2260, rfl, hS, hx2257, hx2261⟩
         refine ⟨kp ⟨(by intro hx; cases hx), trivial⟩, ?_⟩
         obtain ⟨hf2266, hs2264, hS, hr2263, hb2265⟩ := St.lendSlR R_api_Entry_ok hS.p3 rfl (hx2244.mono hs2262)
         obtain ⟨hf2270, hs2268, hS, hr2267, hb2269⟩ := St.lendSlR R_api_Entry_ok hS rfl (hx2257.mono hs2264)
         obtain ⟨t2271, hg2272, h⟩ := h.bind
         have hc := isochronlaw10ventries.ok (hr2263.mono hs2268) hr2267 hg2272 hS
         refine RP.e 29 rfl (OW.callF (ls := [.tmp 126, .tmp 136]) rfl call14 hc) rfl rfl ?_
         rintro _ w ⟨rfl, hS⟩
         have hS := hb2269 _ _ hS
         have hS := hb2265 _ _ hS
         have hS : St B w (_ :: _ :: _ :: _ :: _ :: _ :: _ :: _ :: _ :: l) hf := hS
         refine ⟨kp ⟨(by intro hx; cases hx), trivial⟩, ?_⟩
         refine RP.v1 30 rfl (Vl.not rfl) rfl rfl (RP.v1 31 rfl (Vl.pickF rfl rfl) rfl rfl (RP.nil (RQ.then_n ?_)))
         refine RC.iteM 139 rfl h (fun hc2273 h => ?_) fun hc2273 h => ?_
         next =>
          refine RC.condF rfl (sk (sr (pn 1 rfl (cF (fun _ hg => log_Log_All.ok (a2 := (⟨y1219.w, y1219.made, y2240.state, y1219.every, y2240.l, y2240.stuck⟩ : log_Log)) ((((((hr1224.mono hs1251).mono hs1685).mono hs2210).mono hs2223).mono hs2249).mono hs2262) ((((((hr1227.mono hs1251).mono hs1685).mono hs2210).mono hs2223).mono hs2249).mono hs2262) (hx2248.mono hs2262) (((((((hG0.mono hs1228).mono hs1251).mono hs1685).mono hs2210).mono hs2223).mono hs2249).mono hs2262) hg hS.p4.p5) call10 h rfl rfl rfl ?_))))
          rintro t2274 h _ w ⟨hf, hs2280, A2276, c2277, cs2278, rfl, hS, hx2279⟩
          refine pn 1 rfl (cF (fun _ hg => log_Log_All.ok (a2 := (⟨y1242.w, y1242.made, y2253.state, y1242.every, y2253.l, y2253.stuck⟩ : log_Log)) ((((((hr1247.mono hs1685).mono hs2210).mono hs2223).mono hs2249).mono hs2262).mono hs2280) ((((((hr1250.mono hs1685).mono hs2210).mono hs2223).mono hs2249).mono hs2262).mono hs2280) (hx2261.mono hs2280) ((((((((hG0.mono hs1228).mono hs1251).mono hs1685).mono hs2210).mono hs2223).mono hs2249).mono hs2262).mono hs2280) hg hS.p5.p6) call10 h rfl rfl rfl ?_)
          rintro t2281 h _ w ⟨hf, hs2287, A2283, c2284, cs2285, rfl, hS, hx2286⟩
          obtain ⟨hf2291, hs2289, hS, hr2288, hb2290⟩ := St.lendSlR R_api_Entry_ok hS.p3 rfl (hx2279.mono hs2287)
          obtain ⟨hf2295, hs2293, hS, hr2292, hb2294⟩ := St.lendSlR R_api_Entry_ok hS rfl (hx2286.mono hs2289)
          obtain ⟨t2296, hg2297, h⟩ := h.bind
          have hc := isochronlaw10ventries.ok (hr2288.mono hs2293) hr2292 hg2297 hS
          refine RL.e (OW.callF (ls := [.tmp 141, .tmp 143]) rfl call14 hc) rfl rfl ?_
          rintro _ w ⟨rfl, hS⟩
          have hS := hb2294 _ _ hS
          have hS := hb2290 _ _ hS
          have hS : St B w (_ :: _ :: _ :: _ :: _ :: _ :: _ :: _ :: _ :: _ :: _ :: l) hf := hS
          refine pn 1 rfl ?_
          refine RL.iteB 145 rfl h (fun hc2298 h => ?_) fun hc2298 h => ?_
          next =>
           refine pn 1 rfl (cF (fun _ hg => log_Log_State.ok (a2 := (⟨y1219.w, y1219.made, y2240.state, y1219.every, y2240.l, y2240.stuck⟩ : log_Log)) ((((((((hr1224.mono hs1251).mono hs1685).mono hs2210).mono hs2223).mono hs2249).mono hs2262).mono hs2280).mono hs2287) ((((((((hr1227.mono hs1251).mono hs1685).mono hs2210).mono hs2223).mono hs2249).mono hs2262).mono hs2280).mono hs2287) (((hx2248.mono hs2262).mono hs2280).mono hs2287) hg hS.p5.p5) call11 h rfl rfl rfl ?_)
           rintro t2299 h _ w ⟨rfl, hS⟩
           refine pn 1 rfl (cF (fun _ hg => log_Log_State.ok (a2 := (⟨y1242.w, y1242.made, y2253.state, y1242.every, y2253.l, y2253.stuck⟩ : log_Log)) (((((((hr1247.mono hs1685).mono hs2210).mono hs2223).mono hs2249).mono hs2262).mono hs2280).mono hs2287) (((((((hr1250.mono hs1685).mono hs2210).mono hs2223).mono hs2249).mono hs2262).mono hs2280).mono hs2287) ((hx2261.mono hs2280).mono hs2287) hg hS.p5.p5) call11 h rfl rfl rfl ?_)
           rintro t2301 h _ w ⟨rfl, hS⟩
           refine RL.sg (Vl.eqlS (run_eql_api_State _ _ t2299 t2301) rfl rfl) rfl rfl (pn 2 rfl ?_)
           refine RL.iteP 152 rfl h (fun hc2303 h => ?_) fun hc2303 h => ?_
           next =>
            refine pn 1 rfl (cF (fun _ hg => log_Log_Kept.ok (a2 := (⟨y1219.w, y1219.made, y2240.state, y1219.every, y2240.l, y2240.stuck⟩ : log_Log)) ((((((((hr1224.mono hs1251).mono hs1685).mono hs2210).mono hs2223).mono hs2249).mono hs2262).mono hs2280).mono hs2287) ((((((((hr1227.mono hs1251).mono hs1685).mono hs2210).mono hs2223).mono hs2249).mono hs2262).mono hs2280).mono hs2287) (((hx2248.mono hs2262).mono hs2280).mono hs2287) hg hS.p3.p3) call17 h rfl rfl rfl ?_)
            rintro t2304 h _ w ⟨rfl, hS⟩
            refine pn 1 rfl (cF (fun _ hg => log_Log_Len.ok (a2 := (⟨y1219.w, y1219.made, y2240.state, y1219.every, y2240.l, y2240.stuck⟩ : log_Log)) ((((((((hr1224.mono hs1251).mono hs1685).mono hs2210).mono hs2223).mono hs2249).mono hs2262).mono hs2280).mono hs2287) ((((((((hr1227.mono hs1251).mono hs1685).mono hs2210).mono hs2223).mono hs2249).mono hs2262).mono hs2280).mono hs2287) (((hx2248.mono hs2262).mono hs2280).mono hs2287) hg hS) call13 h rfl rfl rfl ?_)
            rintro t2306 h _ w ⟨rfl, hS⟩
            refine pn 4 rfl ?_
            refine RL.iteP 160 rfl h (fun hc2308 h => ?_) fun hc2308 h => ?_
            next =>
             refine pn 1 rfl (cF (fun _ hg => log_Log_Kept.ok (a2 := (⟨y1242.w, y1242.made, y2253.state, y1242.every, y2253.l, y2253.stuck⟩ : log_Log)) (((((((hr1247.mono hs1685).mono hs2210).mono hs2223).mono hs2249).mono hs2262).mono hs2280).mono hs2287) (((((((hr1250.mono hs1685).mono hs2210).mono hs2223).mono hs2249).mono hs2262).mono hs2280).mono hs2287) ((hx2261.mono hs2280).mono hs2287) hg hS.p3.p3) call17 h rfl rfl rfl ?_)
             rintro t2309 h _ w ⟨rfl, hS⟩
             refine pn 3 rfl (lr ?_)
             obtain rfl := h.some
             exact rt results4 rfl ⟨rfl, (hS.d0.d0.d0.d0.d0.d0.d0.d0.d0.d0.d0).down ((((((((hs1228.trans hs1251).trans hs1685).trans hs2210).trans hs2223).trans hs2249).trans hs2262).trans hs2280).trans hs2287)⟩
            next =>
             refine pn 5 rfl (lr ?_)
             obtain rfl := h.some
             exact rt results4 rfl ⟨rfl, (hS.d0.d0.d0.d0.d0.d0.d0.d0.d0.d0.d0).down ((((((((hs1228.trans hs1251).trans hs1685).trans hs2210).trans hs2223).trans hs2249).trans hs2262).trans hs2280).trans hs2287)⟩
           next =>
            refine pn 13 rfl (lr ?_)
            obtain rfl := h.some
            exact rt results4 rfl ⟨rfl, (hS.d0.d0.d0.d0.d0.d0.d0.d0.d0.d0.d0).down ((((((((hs1228.trans hs1251).trans hs1685).trans hs2210).trans hs2223).trans hs2249).trans hs2262).trans hs2280).trans hs2287)⟩
          next =>
           refine pn 20 rfl (lr ?_)
           obtain rfl := h.some
           exact rt results4 rfl ⟨rfl, (hS.d0.d0.d0.d0.d0.d0.d0.d0.d0.d0.d0).down ((((((((hs1228.trans hs1251).trans hs1685).trans hs2210).trans hs2223).trans hs2249).trans hs2262).trans hs2280).trans hs2287)⟩
         next =>
          refine RC.condT rfl (sr (pn 1 rfl (lr (RQ.ret ?_))))
          obtain rfl := h.some
          exact rt results4 rfl ⟨rfl, (hS.d0.d0.d0.d0.d0.d0.d0.d0.d0).down ((((((hs1228.trans hs1251).trans hs1685).trans hs2210).trans hs2223).trans hs2249).trans hs2262)⟩
        next =>
         refine pp 3 rfl (RP.nn 0 12 rfl rfl rfl (pp 3 rfl (RP.nn 0 16 rfl rfl rfl (RP.nn 0 17 rfl rfl rfl (pp 3 rfl (RP.nn 0 22 rfl rfl rfl (pp 3 rfl (RP.nn 0 26 rfl rfl rfl (RP.nn 0 27 rfl rfl rfl (RP.n1 18 rfl rfl rfl (RP.n1 28 rfl rfl rfl (RP.n1 29 rfl rfl rfl (RP.n1 30 rfl rfl rfl (RP.v1 31 rfl (Vl.pickT rfl rfl) rfl rfl (RP.nil ?_)))))))))))))))
         refine RQ.then_n (RC.condT rfl (sr (pn 1 rfl (lr (RQ.ret ?_)))))
         obtain rfl := h.some
         exact rt results4 rfl ⟨rfl, (hS.d0.d0.d0.d0.d0.d0.d0).down ((((hs1228.trans hs1251).trans hs1685).trans hs2210).trans hs2223)⟩
       next =>
        refine RC.condF rfl (sk (sr (pn 1 rfl (cF (fun _ hg => log_Log_All.ok (a2 := (⟨y1219.w, y1219.made, y1775.state, y1219.every, y1775.l, y1775.stuck⟩ : log_Log)) ((hr1224.mono hs1251).mono hs1685) ((hr1227.mono hs1251).mono hs1685) hx1779 (((hG0.mono hs1228).mono hs1251).mono hs1685) hg hS.p4) call10 h rfl rfl rfl ?_))))
        rintro t2311 h _ w ⟨hf, hs2317, A2313, c2314, cs2315, rfl, hS, hx2316⟩
        refine pn 1 rfl (cF (fun _ hg => log_Log_All.ok (a2 := (⟨y1242.w, y1242.made, y1780.state, y1242.every, y1780.l, y1780.stuck⟩ : log_Log)) ((hr1247.mono hs1685).mono hs2317) ((hr1250.mono hs1685).mono hs2317) (hx1784.mono hs2317) ((((hG0.mono hs1228).mono hs1251).mono hs1685).mono hs2317) hg hS.p3.p5) call10 h rfl rfl rfl ?_)
        rintro t2318 h _ w ⟨hf, hs2324, A2320, c2321, cs2322, rfl, hS, hx2323⟩
        obtain ⟨hf2328, hs2326, hS, hr2325, hb2327⟩ := St.lendSlR R_api_Entry_ok hS.p3 rfl (hx2316.mono hs2324)
        obtain ⟨hf2332, hs2330, hS, hr2329, hb2331⟩ := St.lendSlR R_api_Entry_ok hS rfl (hx2323.mono hs2326)
        obtain ⟨t2333, hg2334, h⟩ := h.bind
        have hc := isochronlaw10ventries.ok (hr2325.mono hs2330) hr2329 hg2334 hS
        refine RL.e (OW.callF (ls := [.tmp 141, .tmp 143]) rfl call14 hc) rfl rfl ?_
        rintro _ w ⟨rfl, hS⟩
        have hS := hb2331 _ _ hS
        have hS := hb2327 _ _ hS
        have hS : St B w (_ :: _ :: _ :: _ :: _ :: _ :: _ :: l) hf := hS
        refine pn 1 rfl ?_
        refine RL.iteB 145 rfl h (fun hc2335 h => ?_) fun hc2335 h => ?_
        next =>
         refine pn 1 rfl (cF (fun _ hg => log_Log_State.ok (a2 := (⟨y1219.w, y1219.made, y1775.state, y1219.every, y1775.l, y1775.stuck⟩ : log_Log)) ((((hr1224.mono hs1251).mono hs1685).mono hs2317).mono hs2324) ((((hr1227.mono hs1251).mono hs1685).mono hs2317).mono hs2324) ((hx1779.mono hs2317).mono hs2324) hg hS.p5.p5) call11 h rfl rfl rfl ?_)
         rintro t2336 h _ w ⟨rfl, hS⟩
         refine pn 1 rfl (cF (fun _ hg => log_Log_State.ok (a2 := (⟨y1242.w, y1242.made, y1780.state, y1242.every, y1780.l, y1780.stuck⟩ : log_Log)) (((hr1247.mono hs1685).mono hs2317).mono hs2324) (((hr1250.mono hs1685).mono hs2317).mono hs2324) ((hx1784.mono hs2317).mono hs2324) hg hS.p5.p5) call11 h rfl rfl rfl ?_)
         rintro t2338 h _ w ⟨rfl, hS⟩
         refine RL.sg (Vl.eqlS (run_eql_api_State _ _ t2336 t2338) rfl rfl) rfl rfl (pn 2 rfl ?_)
         refine RL.iteP 152 rfl h (fun hc2340 h => ?_) fun hc2340 h => ?_
         next =>
          refine pn 1 rfl (cF (fun _ hg => log_Log_Kept.ok (a2 := (⟨y1219.w, y1219.made, y1775.state, y1219.every, y1775.l, y1775.stuck⟩ : log_Log)) ((((hr1224.mono hs1251).mono hs1685).mono hs2317).mono hs2324) ((((hr1227.mono hs1251).mono hs1685).mono hs2317).mono hs2324) ((hx1779.mono hs2317).mono hs2324) hg hS.p3.p3) call17 h rfl rfl rfl ?_)
          rintro t2341 h _ w ⟨rfl, hS⟩
          refine pn 1 rfl (cF (fun _ hg => log_Log_Len.ok (a2 := (⟨y1219.w, y1219.made, y1775.state, y1219.every, y1775.l, y1775.stuck⟩ : log_Log)) ((((hr1224.mono hs1251).mono hs1685).mono hs2317).mono hs2324) ((((hr1227.mono hs1251).mono hs1685).mono hs2317).mono hs2324) ((hx1779.mono hs2317).mono hs2324) hg hS) call13 h rfl rfl rfl ?_)
          rintro t2343 h _ w ⟨rfl, hS⟩
          refine pn 4 rfl ?_
          refine RL.iteP 160 rfl h (fun hc2345 h => ?_) fun hc2345 h => ?_
          next =>
           refine pn 1 rfl (cF (fun _ hg => log_Log_Kept.ok (a2 := (⟨y1242.w, y1242.made, y1780.state, y1242.every, y1780.l, y1780.stuck⟩ : log_Log)) (((hr1247.mono hs1685).mono hs2317).mono hs2324) (((hr1250.mono hs1685).mono hs2317).mono hs2324) ((hx1784.mono hs2317).mono hs2324) hg hS.p3.p3) call17 h rfl rfl rfl ?_)
           rintro t2346 h _ w ⟨rfl, hS⟩
           refine pn 3 rfl (lr ?_)
           obtain rfl := h.some
           exact rt results4 rfl ⟨rfl, (hS.d0.d0.d0.d0.d0.d0.d0).down ((((hs1228.trans hs1251).trans hs1685).trans hs2317).trans hs2324)⟩
          next =>
           refine pn 5 rfl (lr ?_)
           obtain rfl := h.some
           exact rt results4 rfl ⟨rfl, (hS.d0.d0.d0.d0.d0.d0.d0).down ((((hs1228.trans hs1251).trans hs1685).trans hs2317).trans hs2324)⟩
         next =>
          refine pn 13 rfl (lr ?_)
          obtain rfl := h.some
          exact rt results4 rfl ⟨rfl, (hS.d0.d0.d0.d0.d0.d0.d0).down ((((hs1228.trans hs1251).trans hs1685).trans hs2317).trans hs2324)⟩
        next =>
         refine pn 20 rfl (lr ?_)
         obtain rfl := h.some
         exact rt results4 rfl ⟨rfl, (hS.d0.d0.d0.d0.d0.d0.d0).down ((((hs1228.trans hs1251).trans hs1685).trans hs2317).trans hs2324)⟩

end Go.Proofs.Gx
