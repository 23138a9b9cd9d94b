/-
  The walks of functions, each with what it computes: printed by wip/gx.py.
-/
import Derived.Test.YtnhbcleiibogmaaGreatDoorW0
import Derived.Test.YtnhbcleiibogmaaGreatDoorW2
import Derived.Test.YtnhbcleiibogmaaGreatDoorW4
import Derived.Test.YtnhbcleiibogmaaGreatDoorW6
set_option linter.unusedVariables false
set_option linter.unusedSimpArgs false
set_option maxRecDepth 100000
set_option maxHeartbeats 4000000
namespace Go.Proofs.Gx
open Go.Sl Tryz
variable {B : Base} {w : World} {l : List HProp} {hf : Hp}
noncomputable section
def isochronlaw18vKernelRefuses.j3 (a1 : api_Model) (y732 : Int) (q738 : Bool) : Option (Bool) := (if y732 = 0 then some false else ((model_Check.f a1).bind fun t753 => (if y732 = t753 then ((isochronlaw18vawake.f).bind fun t756 => some t756) else ((model_Check.f a1).bind fun t758 => (if t758 = 0 then (if q738 = true then (if y732 = 1 then ((isochronlaw18vawake.f).bind fun t763 => some t763) else some false) else some false) else some false)))))
def isochronlaw18vKernelRefuses.j4 (a1 : api_Model) (a12 a13 : Int) (y770 : kernel_Kernel) (y771 : Int) (q779 : Bool) : Option (Bool) := (if y771 = 0 then (if q779 = true then some false else ((kernel_Kernel_Least.f y770).bind fun t786 => (if a12 < 0 then ((kernel_Kernel_Do.f y770 (⟨a12, a13, 0⟩ : api_Pick)).bind fun (y806, y807) => (if y806 = 1 then (if a13 < 0 then ((kernel_Kernel_Do.f y807 (⟨0, a13, 0⟩ : api_Pick)).bind fun (y852, y853) => (if y852 = 1 then ((kernel_Kernel_Do.f y853 (⟨3, a13, 0⟩ : api_Pick)).bind fun (y858, y859) => (if y858 = 1 then ((kernel_Kernel_Do.f y859 (⟨11, a13, 0⟩ : api_Pick)).bind fun (y864, y865) => (if y864 = 1 then ((kernel_Kernel_Do.f y865 (⟨1, a13, 0⟩ : api_Pick)).bind fun (y877, y878) => (if y877 = 1 then ((kernel_Kernel_Least.f y878).bind fun t881 => (if t881 = t786 then ((kernel_Kernel_Global.f y878).bind fun t884 => (if t884 = 0 then ((kernel_Kernel_Stop.f y878).bind fun t887 => (if t887 = 0 then ((kernel_Kernel_History.f y878).bind fun t890 => (if (t890.length : Int) = 0 then ((isochronlaw18vawake.f).bind fun t895 => some t895) else some false)) else some false)) else some false)) else some false)) else some false)) else some false)) else some false)) else some false)) else (if (a1.Progs.length : Int) ≤ a13 then ((kernel_Kernel_Do.f y807 (⟨0, a13, 0⟩ : api_Pick)).bind fun (y900, y901) => (if y900 = 1 then ((kernel_Kernel_Do.f y901 (⟨3, a13, 0⟩ : api_Pick)).bind fun (y906, y907) => (if y906 = 1 then ((kernel_Kernel_Do.f y907 (⟨11, a13, 0⟩ : api_Pick)).bind fun (y912, y913) => (if y912 = 1 then (if (a1.Links.length : Int) ≤ a13 then ((kernel_Kernel_Do.f y913 (⟨1, a13, 0⟩ : api_Pick)).bind fun (y927, y928) => (if y927 = 1 then ((kernel_Kernel_Least.f y928).bind fun t931 => (if t931 = t786 then ((kernel_Kernel_Global.f y928).bind fun t934 => (if t934 = 0 then ((kernel_Kernel_Stop.f y928).bind fun t937 => (if t937 = 0 then ((kernel_Kernel_History.f y928).bind fun t940 => (if (t940.length : Int) = 0 then ((isochronlaw18vawake.f).bind fun t945 => some t945) else some false)) else some false)) else some false)) else some false)) else some false)) else ((kernel_Kernel_Least.f y913).bind fun t947 => (if t947 = t786 then ((kernel_Kernel_Global.f y913).bind fun t950 => (if t950 = 0 then ((kernel_Kernel_Stop.f y913).bind fun t953 => (if t953 = 0 then ((kernel_Kernel_History.f y913).bind fun t956 => (if (t956.length : Int) = 0 then ((isochronlaw18vawake.f).bind fun t961 => some t961) else some false)) else some false)) else some false)) else some false))) else some false)) else some false)) else some false)) else (if (a1.Links.length : Int) ≤ a13 then ((kernel_Kernel_Do.f y807 (⟨1, a13, 0⟩ : api_Pick)).bind fun (y974, y975) => (if y974 = 1 then ((kernel_Kernel_Least.f y975).bind fun t978 => (if t978 = t786 then ((kernel_Kernel_Global.f y975).bind fun t981 => (if t981 = 0 then ((kernel_Kernel_Stop.f y975).bind fun t984 => (if t984 = 0 then ((kernel_Kernel_History.f y975).bind fun t987 => (if (t987.length : Int) = 0 then ((isochronlaw18vawake.f).bind fun t992 => some t992) else some false)) else some false)) else some false)) else some false)) else some false)) else ((kernel_Kernel_Least.f y807).bind fun t994 => (if t994 = t786 then ((kernel_Kernel_Global.f y807).bind fun t997 => (if t997 = 0 then ((kernel_Kernel_Stop.f y807).bind fun t1000 => (if t1000 = 0 then ((kernel_Kernel_History.f y807).bind fun t1003 => (if (t1003.length : Int) = 0 then ((isochronlaw18vawake.f).bind fun t1008 => some t1008) else some false)) else some false)) else some false)) else some false))))) else some false)) else (if 11 < a12 then ((kernel_Kernel_Do.f y770 (⟨a12, a13, 0⟩ : api_Pick)).bind fun (y1013, y1014) => (if y1013 = 1 then (if a13 < 0 then ((kernel_Kernel_Do.f y1014 (⟨0, a13, 0⟩ : api_Pick)).bind fun (y1059, y1060) => (if y1059 = 1 then ((kernel_Kernel_Do.f y1060 (⟨3, a13, 0⟩ : api_Pick)).bind fun (y1065, y1066) => (if y1065 = 1 then ((kernel_Kernel_Do.f y1066 (⟨11, a13, 0⟩ : api_Pick)).bind fun (y1071, y1072) => (if y1071 = 1 then ((kernel_Kernel_Do.f y1072 (⟨1, a13, 0⟩ : api_Pick)).bind fun (y1084, y1085) => (if y1084 = 1 then ((kernel_Kernel_Least.f y1085).bind fun t1088 => (if t1088 = t786 then ((kernel_Kernel_Global.f y1085).bind fun t1091 => (if t1091 = 0 then ((kernel_Kernel_Stop.f y1085).bind fun t1094 => (if t1094 = 0 then ((kernel_Kernel_History.f y1085).bind fun t1097 => (if (t1097.length : Int) = 0 then ((isochronlaw18vawake.f).bind fun t1102 => some t1102) else some false)) else some false)) else some false)) else some false)) else some false)) else some false)) else some false)) else some false)) else (if (a1.Progs.length : Int) ≤ a13 then ((kernel_Kernel_Do.f y1014 (⟨0, a13, 0⟩ : api_Pick)).bind fun (y1107, y1108) => (if y1107 = 1 then ((kernel_Kernel_Do.f y1108 (⟨3, a13, 0⟩ : api_Pick)).bind fun (y1113, y1114) => (if y1113 = 1 then ((kernel_Kernel_Do.f y1114 (⟨11, a13, 0⟩ : api_Pick)).bind fun (y1119, y1120) => (if y1119 = 1 then (if (a1.Links.length : Int) ≤ a13 then ((kernel_Kernel_Do.f y1120 (⟨1, a13, 0⟩ : api_Pick)).bind fun (y1134, y1135) => (if y1134 = 1 then ((kernel_Kernel_Least.f y1135).bind fun t1138 => (if t1138 = t786 then ((kernel_Kernel_Global.f y1135).bind fun t1141 => (if t1141 = 0 then ((kernel_Kernel_Stop.f y1135).bind fun t1144 => (if t1144 = 0 then ((kernel_Kernel_History.f y1135).bind fun t1147 => (if (t1147.length : Int) = 0 then ((isochronlaw18vawake.f).bind fun t1152 => some t1152) else some false)) else some false)) else some false)) else some false)) else some false)) else ((kernel_Kernel_Least.f y1120).bind fun t1154 => (if t1154 = t786 then ((kernel_Kernel_Global.f y1120).bind fun t1157 => (if t1157 = 0 then ((kernel_Kernel_Stop.f y1120).bind fun t1160 => (if t1160 = 0 then ((kernel_Kernel_History.f y1120).bind fun t1163 => (if (t1163.length : Int) = 0 then ((isochronlaw18vawake.f).bind fun t1168 => some t1168) else some false)) else some false)) else some false)) else some false))) else some false)) else some false)) else some false)) else (if (a1.Links.length : Int) ≤ a13 then ((kernel_Kernel_Do.f y1014 (⟨1, a13, 0⟩ : api_Pick)).bind fun (y1181, y1182) => (if y1181 = 1 then ((kernel_Kernel_Least.f y1182).bind fun t1185 => (if t1185 = t786 then ((kernel_Kernel_Global.f y1182).bind fun t1188 => (if t1188 = 0 then ((kernel_Kernel_Stop.f y1182).bind fun t1191 => (if t1191 = 0 then ((kernel_Kernel_History.f y1182).bind fun t1194 => (if (t1194.length : Int) = 0 then ((isochronlaw18vawake.f).bind fun t1199 => some t1199) else some false)) else some false)) else some false)) else some false)) else some false)) else ((kernel_Kernel_Least.f y1014).bind fun t1201 => (if t1201 = t786 then ((kernel_Kernel_Global.f y1014).bind fun t1204 => (if t1204 = 0 then ((kernel_Kernel_Stop.f y1014).bind fun t1207 => (if t1207 = 0 then ((kernel_Kernel_History.f y1014).bind fun t1210 => (if (t1210.length : Int) = 0 then ((isochronlaw18vawake.f).bind fun t1215 => some t1215) else some false)) else some false)) else some false)) else some false))))) else some false)) else (if a13 < 0 then ((kernel_Kernel_Do.f y770 (⟨0, a13, 0⟩ : api_Pick)).bind fun (y1259, y1260) => (if y1259 = 1 then ((kernel_Kernel_Do.f y1260 (⟨3, a13, 0⟩ : api_Pick)).bind fun (y1265, y1266) => (if y1265 = 1 then ((kernel_Kernel_Do.f y1266 (⟨11, a13, 0⟩ : api_Pick)).bind fun (y1271, y1272) => (if y1271 = 1 then ((kernel_Kernel_Do.f y1272 (⟨1, a13, 0⟩ : api_Pick)).bind fun (y1284, y1285) => (if y1284 = 1 then ((kernel_Kernel_Least.f y1285).bind fun t1288 => (if t1288 = t786 then ((kernel_Kernel_Global.f y1285).bind fun t1291 => (if t1291 = 0 then ((kernel_Kernel_Stop.f y1285).bind fun t1294 => (if t1294 = 0 then ((kernel_Kernel_History.f y1285).bind fun t1297 => (if (t1297.length : Int) = 0 then ((isochronlaw18vawake.f).bind fun t1302 => some t1302) else some false)) else some false)) else some false)) else some false)) else some false)) else some false)) else some false)) else some false)) else (if (a1.Progs.length : Int) ≤ a13 then ((kernel_Kernel_Do.f y770 (⟨0, a13, 0⟩ : api_Pick)).bind fun (y1307, y1308) => (if y1307 = 1 then ((kernel_Kernel_Do.f y1308 (⟨3, a13, 0⟩ : api_Pick)).bind fun (y1313, y1314) => (if y1313 = 1 then ((kernel_Kernel_Do.f y1314 (⟨11, a13, 0⟩ : api_Pick)).bind fun (y1319, y1320) => (if y1319 = 1 then (if (a1.Links.length : Int) ≤ a13 then ((kernel_Kernel_Do.f y1320 (⟨1, a13, 0⟩ : api_Pick)).bind fun (y1334, y1335) => (if y1334 = 1 then ((kernel_Kernel_Least.f y1335).bind fun t1338 => (if t1338 = t786 then ((kernel_Kernel_Global.f y1335).bind fun t1341 => (if t1341 = 0 then ((kernel_Kernel_Stop.f y1335).bind fun t1344 => (if t1344 = 0 then ((kernel_Kernel_History.f y1335).bind fun t1347 => (if (t1347.length : Int) = 0 then ((isochronlaw18vawake.f).bind fun t1352 => some t1352) else some false)) else some false)) else some false)) else some false)) else some false)) else ((kernel_Kernel_Least.f y1320).bind fun t1354 => (if t1354 = t786 then ((kernel_Kernel_Global.f y1320).bind fun t1357 => (if t1357 = 0 then ((kernel_Kernel_Stop.f y1320).bind fun t1360 => (if t1360 = 0 then ((kernel_Kernel_History.f y1320).bind fun t1363 => (if (t1363.length : Int) = 0 then ((isochronlaw18vawake.f).bind fun t1368 => some t1368) else some false)) else some false)) else some false)) else some false))) else some false)) else some false)) else some false)) else (if (a1.Links.length : Int) ≤ a13 then ((kernel_Kernel_Do.f y770 (⟨1, a13, 0⟩ : api_Pick)).bind fun (y1381, y1382) => (if y1381 = 1 then ((kernel_Kernel_Least.f y1382).bind fun t1385 => (if t1385 = t786 then ((kernel_Kernel_Global.f y1382).bind fun t1388 => (if t1388 = 0 then ((kernel_Kernel_Stop.f y1382).bind fun t1391 => (if t1391 = 0 then ((kernel_Kernel_History.f y1382).bind fun t1394 => (if (t1394.length : Int) = 0 then ((isochronlaw18vawake.f).bind fun t1399 => some t1399) else some false)) else some false)) else some false)) else some false)) else some false)) else ((kernel_Kernel_Least.f y770).bind fun t1401 => (if t1401 = t786 then ((kernel_Kernel_Global.f y770).bind fun t1404 => (if t1404 = 0 then ((kernel_Kernel_Stop.f y770).bind fun t1407 => (if t1407 = 0 then ((kernel_Kernel_History.f y770).bind fun t1410 => (if (t1410.length : Int) = 0 then ((isochronlaw18vawake.f).bind fun t1415 => some t1415) else some false)) else some false)) else some false)) else some false))))))))) else some false)
def isochronlaw18vKernelRefuses.f (a1 : api_Model) (a11 : api_Caps) (a12 a13 : Int) : Option (Bool) := ((kernel_New.f a1 a11).bind fun t730 => match t730 with | .inl y732 => (if a11.Link < 1 then isochronlaw18vKernelRefuses.j3 a1 y732 true else (if 1024 < a11.Link then isochronlaw18vKernelRefuses.j3 a1 y732 true else (if a11.Wait < 1 then isochronlaw18vKernelRefuses.j3 a1 y732 true else (if 4096 < a11.Wait then isochronlaw18vKernelRefuses.j3 a1 y732 true else (if a11.Log < 1 then isochronlaw18vKernelRefuses.j3 a1 y732 true else isochronlaw18vKernelRefuses.j3 a1 y732 (decide (4096 < a11.Log))))))) | .inr ((y770, y771)) => (if a11.Link < 1 then isochronlaw18vKernelRefuses.j4 a1 a12 a13 y770 y771 true else (if 1024 < a11.Link then isochronlaw18vKernelRefuses.j4 a1 a12 a13 y770 y771 true else (if a11.Wait < 1 then isochronlaw18vKernelRefuses.j4 a1 a12 a13 y770 y771 true else (if 4096 < a11.Wait then isochronlaw18vKernelRefuses.j4 a1 a12 a13 y770 y771 true else (if a11.Log < 1 then isochronlaw18vKernelRefuses.j4 a1 a12 a13 y770 y771 true else isochronlaw18vKernelRefuses.j4 a1 a12 a13 y770 y771 (decide (4096 < a11.Log))))))))
theorem isochronlaw18vKernelRefuses.ok {a1 : api_Model} {a11 : api_Caps} {a12 a13 : Int} {A2 A5 A8 : Option Addr} {c3 c6 c9 : Nat} (hr4 : SlR (Rep.sl E_api_Instr.rep) hf A2 c3 a1.Progs) (hr7 : SlR E_api_Link.rep hf A5 c6 a1.Links) (hr10 : SlR E_api_Start.rep hf A8 c9 a1.Starts) (hG0 : GlobAt hf 0 (.iface 255 (.agg #[.pointer (some ⟨1, 138, none⟩)]))) {r : Bool} (h : isochronlaw18vKernelRefuses.f a1 a11 a12 a13 = some r) (hS : St B w (l) hf) :
    Calls prog 8 #[.agg (C_api_Model a1 A2 c3 A5 c6 A8 c9).toArray, .agg (C_api_Caps a11).toArray, iV a12, iV a13] w (Ret fun v w => v = .bool r ∧ St B w (l) hf) := by
  have h := Holds.of h
  refine en func8 rfl ntmps8 rfl (sr (rr [0, 0, 0] hS ?_))
  refine fun b720 b721 => it fun w hS => lnsr (rr [2, 1] hS ?_)
  refine it fun w hS => ?_
  obtain ⟨t730, hg731, h⟩ := h.bind
  have hc := kernel_New.ok hr4 hr7 hr10 hG0 hg731 hS
  rcases t730 with y732 | ⟨y770, y771⟩
  · refine RL.e (OW.callF (ls := [.tmp 14, .tmp 15]) rfl call29 hc) rfl rfl ?_
    rintro _ w ⟨rfl, hS⟩
    refine pn 5 rfl (ln ?_)
    refine RC.join (fun (s : Bool) a w => ∃ q738, s = (q738) ∧ Holds (· = r) (isochronlaw18vKernelRefuses.j3 a1 y732 q738) ∧ Has 162 [(2, iV a12), (3, iV a13), (4, pV b720), (9, .pointer none), (10, iV y732), (11, .bool q738)] a ∧ St B w (Cl b720 (C_api_Model a1 A2 c3 A5 c6 A8 c9) 30 :: l) hf) ?_ ?_
    · rintro q738 a w ⟨_, rfl, h, ha, hS⟩
      refine ro ha (RC.seq (sr (pn 1 rfl (RL.s (Vl.bn true rfl rfl) rfl (ln (jtr (pn 3 rfl ?_)))))))
      refine RL.iteN 51 rfl h (fun hc752 h => ?_) fun hc752 h => ?_
      next =>
       refine pn 21 rfl (lr (RQ.ret ?_))
       obtain rfl := h.some
       exact rt results8 rfl ⟨rfl, hS.d0⟩
      refine rr [0, 1] hS ?_
      refine it fun w hS => cF (fun _ hg => model_Check.ok hr4 hr7 hr10 hG0 hg hS) call33 h rfl rfl rfl ?_
      rintro t753 h _ w ⟨rfl, hS⟩
      refine pn 2 rfl ?_
      refine RL.iteP 56 rfl h (fun hc755 h => ?_) fun hc755 h => ?_
      next =>
       refine pn 13 rfl (cF (fun _ hg => isochronlaw18vawake.ok hG0 hg hS) call30 h rfl rfl rfl ?_)
       rintro t756 h _ w ⟨rfl, hS⟩
       refine pn 2 rfl (lr (RQ.ret ?_))
       obtain rfl := h.some
       exact rt results8 rfl ⟨rfl, hS.d0⟩
      refine rr [1] hS ?_
      refine it fun w hS => cF (fun _ hg => model_Check.ok hr4 hr7 hr10 hG0 hg hS) call33 h rfl rfl rfl ?_
      rintro t758 h _ w ⟨rfl, hS⟩
      refine pn 2 rfl ?_
      refine RL.iteP 60 rfl h (fun hc760 h => ?_) fun hc760 h => ?_
      next =>
       refine pn 3 rfl ?_
       refine RL.iteB 63 rfl h (fun hc761 h => ?_) fun hc761 h => ?_
       next =>
        refine pn 6 rfl ?_
        refine RL.iteP 69 rfl h (fun hc762 h => ?_) fun hc762 h => ?_
        next =>
         refine cF (fun _ hg => isochronlaw18vawake.ok hG0 hg hS) call30 h rfl rfl rfl ?_
         rintro t763 h _ w ⟨rfl, hS⟩
         refine pn 2 rfl (lr (RQ.ret ?_))
         obtain rfl := h.some
         exact rt results8 rfl ⟨rfl, hS.d0⟩
        refine pn 3 rfl (lr (RQ.ret ?_))
        obtain rfl := h.some
        exact rt results8 rfl ⟨rfl, hS.d0⟩
       refine pn 9 rfl (lr (RQ.ret ?_))
       obtain rfl := h.some
       exact rt results8 rfl ⟨rfl, hS.d0⟩
      refine pn 12 rfl (lr (RQ.ret ?_))
      obtain rfl := h.some
      exact rt results8 rfl ⟨rfl, hS.d0⟩
    refine RC.region (rr [0, 1, 0, 0] hS ?_)
    refine it fun w hS => RL.iteP 22 rfl h (fun hc765 h => ?_) fun hc765 h => ?_
    next =>
     refine pn 25 rfl (RL.nil ?_)
     exact fun a ha => ⟨_, _, rfl, h, ha.tE rfl, hS.d0⟩
    refine rr [0, 1, 0, 0, 0] hS ?_
    refine it fun w hS => RL.iteP 27 rfl h (fun hc766 h => ?_) fun hc766 h => ?_
    next =>
     refine pn 20 rfl (RL.nil ?_)
     exact fun a ha => ⟨_, _, rfl, h, ha.tE rfl, hS.d0⟩
    refine rr [0, 1, 0, 0, 0] hS ?_
    refine it fun w hS => RL.iteP 32 rfl h (fun hc767 h => ?_) fun hc767 h => ?_
    next =>
     refine pn 15 rfl (RL.nil ?_)
     exact fun a ha => ⟨_, _, rfl, h, ha.tE rfl, hS.d0⟩
    refine rr [0, 1, 0, 0, 0] hS ?_
    refine it fun w hS => RL.iteP 37 rfl h (fun hc768 h => ?_) fun hc768 h => ?_
    next =>
     refine pn 10 rfl (RL.nil ?_)
     exact fun a ha => ⟨_, _, rfl, h, ha.tE rfl, hS.d0⟩
    refine rr [0, 1, 0, 0, 0] hS ?_
    refine it fun w hS => RL.iteP 42 rfl h (fun hc769 h => ?_) fun hc769 h => ?_
    next =>
     refine pn 5 rfl (RL.nil ?_)
     exact fun a ha => ⟨_, _, rfl, h, ha.tE rfl, hS.d0⟩
    refine rr [0, 1, 0, 0, 0] hS ?_
    refine it fun w hS => RL.nil ?_
    exact fun a ha => ⟨_, _, rfl, h, ha.tE rfl, hS.d0⟩
  refine RL.e (OW.callF (ls := [.tmp 14, .tmp 15]) rfl call29 hc) rfl rfl ?_
  rintro _ w ⟨hf, hs773, b772, rfl, hS⟩
  refine pn 5 rfl (ln ?_)
  refine RC.join (fun (s : Bool) a w => ∃ q779, s = (q779) ∧ Holds (· = r) (isochronlaw18vKernelRefuses.j4 a1 a12 a13 y770 y771 q779) ∧ Has 162 [(2, iV a12), (3, iV a13), (4, pV b720), (9, pV b772), (10, iV y771), (11, .bool q779)] a ∧ St B w (O_kernel_Kernel hf y770 b772 :: Cl b720 (C_api_Model a1 A2 c3 A5 c6 A8 c9) 30 :: l) hf) ?_ ?_
  · rintro q779 a w ⟨_, rfl, h, ha, hS⟩
    refine ro ha (RC.seq (sr (pn 1 rfl (RL.s (Vl.bn false rfl rfl) rfl (ln (jfs (RC.seq (sr (pn 3 rfl ?_)))))))))
    refine RL.iteN 74 rfl h (fun hc782 h => ?_) fun hc782 h => ?_
    next =>
     refine pn 2 rfl (ln ?_)
     refine RC.iteB 76 rfl h (fun hc783 h => ?_) fun hc783 h => ?_
     next =>
      refine jtr (pn 1 rfl (lr (RQ.ret ?_)))
      obtain rfl := h.some
      exact rt results8 rfl ⟨rfl, (hS.d0.d0).down hs773⟩
     refine jfs (sr (pn 1 rfl (cF (fun _ hg => kernel_Kernel_Least.ok hg hS) call18 h rfl rfl rfl ?_)))
     rintro t786 h _ w ⟨rfl, hS⟩
     refine pn 1 rfl (ln (RC.seq (sr (pn 3 rfl ?_))))
     refine RL.iteP 81 rfl h (fun hc803 h => ?_) fun hc803 h => ?_
     next =>
      refine r0 8 rfl (cF (fun _ hg => kernel_Kernel_Do.ok (hG0.mono hs773) hg hS) call14 h rfl rfl rfl ?_)
      rintro ⟨y806, y807⟩ h _ w ⟨hf, hs808, rfl, hS⟩
      refine pn 2 rfl (ln ?_)
      refine RC.iteN 92 rfl h (fun hc809 h => ?_) fun hc809 h => ?_
      next =>
       refine jfs (RC.seq (sr (pn 3 rfl ?_)))
       refine RL.iteP 95 rfl h (fun hc849 h => ?_) fun hc849 h => ?_
       next =>
        refine r0 10 rfl (cF (fun _ hg => kernel_Kernel_Do.ok ((hG0.mono hs773).mono hs808) hg hS) call14 h rfl rfl rfl ?_)
        rintro ⟨y852, y853⟩ h _ w ⟨hf, hs854, rfl, hS⟩
        refine pn 2 rfl ?_
        refine RL.iteN 108 rfl h (fun hc855 h => ?_) fun hc855 h => ?_
        next =>
         refine r0 3 rfl (cF (fun _ hg => kernel_Kernel_Do.ok (((hG0.mono hs773).mono hs808).mono hs854) hg hS) call14 h rfl rfl rfl ?_)
         rintro ⟨y858, y859⟩ h _ w ⟨hf, hs860, rfl, hS⟩
         refine pn 3 rfl ?_
         refine RL.iteN 115 rfl h (fun hc861 h => ?_) fun hc861 h => ?_
         next =>
          refine r0 3 rfl (cF (fun _ hg => kernel_Kernel_Do.ok ((((hG0.mono hs773).mono hs808).mono hs854).mono hs860) hg hS) call14 h rfl rfl rfl ?_)
          rintro ⟨y864, y865⟩ h _ w ⟨hf, hs866, rfl, hS⟩
          refine pn 3 rfl (ln ?_)
          refine RC.iteN 122 rfl h (fun hc867 h => ?_) fun hc867 h => ?_
          next =>
           refine jfs (RC.seq (sr (pn 3 rfl (RL.re 125 rfl (congrArg Value.bool (decide_eq_true hc849)) (r0 10 rfl (cF (fun _ hg => kernel_Kernel_Do.ok (((((hG0.mono hs773).mono hs808).mono hs854).mono hs860).mono hs866) hg hS) call14 h rfl rfl rfl ?_))))))
           rintro ⟨y877, y878⟩ h _ w ⟨hf, hs879, rfl, hS⟩
           refine pn 2 rfl (ln ?_)
           refine RC.iteN 138 rfl h (fun hc880 h => ?_) fun hc880 h => ?_
           next =>
            refine jfs (sr (pn 1 rfl (cF (fun _ hg => kernel_Kernel_Least.ok hg hS) call18 h rfl rfl rfl ?_)))
            rintro t881 h _ w ⟨rfl, hS⟩
            refine pn 3 rfl ?_
            refine RL.iteP 143 rfl h (fun hc883 h => ?_) fun hc883 h => ?_
            next =>
             refine pn 1 rfl (cF (fun _ hg => kernel_Kernel_Global.ok hg hS) call17 h rfl rfl rfl ?_)
             rintro t884 h _ w ⟨rfl, hS⟩
             refine pn 3 rfl ?_
             refine RL.iteP 148 rfl h (fun hc886 h => ?_) fun hc886 h => ?_
             next =>
              refine pn 1 rfl (cF (fun _ hg => kernel_Kernel_Stop.ok hg hS) call16 h rfl rfl rfl ?_)
              rintro t887 h _ w ⟨rfl, hS⟩
              refine pn 3 rfl ?_
              refine RL.iteP 153 rfl h (fun hc889 h => ?_) fun hc889 h => ?_
              next =>
               refine pn 1 rfl (cF (fun _ hg => kernel_Kernel_History.ok hg hS) call15 h rfl rfl rfl ?_)
               rintro t890 h _ w ⟨A892, c893, rfl, hS⟩
               refine r0 4 rfl ?_
               refine RL.iteP 159 rfl h (fun hc894 h => ?_) fun hc894 h => ?_
               next =>
                refine cF (fun _ hg => isochronlaw18vawake.ok ((((((hG0.mono hs773).mono hs808).mono hs854).mono hs860).mono hs866).mono hs879) hg hS) call30 h rfl rfl rfl ?_
                rintro t895 h _ w ⟨rfl, hS⟩
                refine pn 2 rfl (lr ?_)
                obtain rfl := h.some
                exact rt results8 rfl ⟨rfl, (hS.d0.d0.d0).down (((((hs773.trans hs808).trans hs854).trans hs860).trans hs866).trans hs879)⟩
               refine pn 3 rfl (lr ?_)
               obtain rfl := h.some
               exact rt results8 rfl ⟨rfl, (hS.d0.d0.d0).down (((((hs773.trans hs808).trans hs854).trans hs860).trans hs866).trans hs879)⟩
              refine pn 9 rfl (lr ?_)
              obtain rfl := h.some
              exact rt results8 rfl ⟨rfl, (hS.d0.d0).down (((((hs773.trans hs808).trans hs854).trans hs860).trans hs866).trans hs879)⟩
             refine pn 14 rfl (lr ?_)
             obtain rfl := h.some
             exact rt results8 rfl ⟨rfl, (hS.d0.d0).down (((((hs773.trans hs808).trans hs854).trans hs860).trans hs866).trans hs879)⟩
            refine pn 19 rfl (lr ?_)
            obtain rfl := h.some
            exact rt results8 rfl ⟨rfl, (hS.d0.d0).down (((((hs773.trans hs808).trans hs854).trans hs860).trans hs866).trans hs879)⟩
           refine jtr (pn 1 rfl (lr (RQ.ret ?_)))
           obtain rfl := h.some
           exact rt results8 rfl ⟨rfl, (hS.d0.d0).down (((((hs773.trans hs808).trans hs854).trans hs860).trans hs866).trans hs879)⟩
          refine jtr (pn 1 rfl (lr (RQ.ret ?_)))
          obtain rfl := h.some
          exact rt results8 rfl ⟨rfl, (hS.d0.d0).down ((((hs773.trans hs808).trans hs854).trans hs860).trans hs866)⟩
         refine pn 7 rfl (ln (jtr (pn 1 rfl (lr (RQ.ret ?_)))))
         obtain rfl := h.some
         exact rt results8 rfl ⟨rfl, (hS.d0.d0).down (((hs773.trans hs808).trans hs854).trans hs860)⟩
        refine pn 14 rfl (ln (jtr (pn 1 rfl (lr (RQ.ret ?_)))))
        obtain rfl := h.some
        exact rt results8 rfl ⟨rfl, (hS.d0.d0).down ((hs773.trans hs808).trans hs854)⟩
       refine rr [0, 0, 2, 0, 0, 0, 0] hS ?_
       refine it fun w hS => RL.iteP 102 rfl h (fun hc897 h => ?_) fun hc897 h => ?_
       next =>
        refine r0 3 rfl (cF (fun _ hg => kernel_Kernel_Do.ok ((hG0.mono hs773).mono hs808) hg hS) call14 h rfl rfl rfl ?_)
        rintro ⟨y900, y901⟩ h _ w ⟨hf, hs902, rfl, hS⟩
        refine pn 2 rfl ?_
        refine RL.iteN 108 rfl h (fun hc903 h => ?_) fun hc903 h => ?_
        next =>
         refine r0 3 rfl (cF (fun _ hg => kernel_Kernel_Do.ok (((hG0.mono hs773).mono hs808).mono hs902) hg hS) call14 h rfl rfl rfl ?_)
         rintro ⟨y906, y907⟩ h _ w ⟨hf, hs908, rfl, hS⟩
         refine pn 3 rfl ?_
         refine RL.iteN 115 rfl h (fun hc909 h => ?_) fun hc909 h => ?_
         next =>
          refine r0 3 rfl (cF (fun _ hg => kernel_Kernel_Do.ok ((((hG0.mono hs773).mono hs808).mono hs902).mono hs908) hg hS) call14 h rfl rfl rfl ?_)
          rintro ⟨y912, y913⟩ h _ w ⟨hf, hs914, rfl, hS⟩
          refine pn 3 rfl (ln ?_)
          refine RC.iteN 122 rfl h (fun hc915 h => ?_) fun hc915 h => ?_
          next =>
           refine jfs (RC.seq (sr (pn 3 rfl (RL.re 125 rfl (congrArg Value.bool (decide_eq_false hc849)) (rr [0, 0, 2, 0, 0, 0, 0] hS ?_)))))
           refine it fun w hS => RL.iteP 132 rfl h (fun hc924 h => ?_) fun hc924 h => ?_
           next =>
            refine r0 3 rfl (cF (fun _ hg => kernel_Kernel_Do.ok (((((hG0.mono hs773).mono hs808).mono hs902).mono hs908).mono hs914) hg hS) call14 h rfl rfl rfl ?_)
            rintro ⟨y927, y928⟩ h _ w ⟨hf, hs929, rfl, hS⟩
            refine pn 2 rfl (ln ?_)
            refine RC.iteN 138 rfl h (fun hc930 h => ?_) fun hc930 h => ?_
            next =>
             refine jfs (sr (pn 1 rfl (cF (fun _ hg => kernel_Kernel_Least.ok hg hS) call18 h rfl rfl rfl ?_)))
             rintro t931 h _ w ⟨rfl, hS⟩
             refine pn 3 rfl ?_
             refine RL.iteP 143 rfl h (fun hc933 h => ?_) fun hc933 h => ?_
             next =>
              refine pn 1 rfl (cF (fun _ hg => kernel_Kernel_Global.ok hg hS) call17 h rfl rfl rfl ?_)
              rintro t934 h _ w ⟨rfl, hS⟩
              refine pn 3 rfl ?_
              refine RL.iteP 148 rfl h (fun hc936 h => ?_) fun hc936 h => ?_
              next =>
               refine pn 1 rfl (cF (fun _ hg => kernel_Kernel_Stop.ok hg hS) call16 h rfl rfl rfl ?_)
               rintro t937 h _ w ⟨rfl, hS⟩
               refine pn 3 rfl ?_
               refine RL.iteP 153 rfl h (fun hc939 h => ?_) fun hc939 h => ?_
               next =>
                refine pn 1 rfl (cF (fun _ hg => kernel_Kernel_History.ok hg hS) call15 h rfl rfl rfl ?_)
                rintro t940 h _ w ⟨A942, c943, rfl, hS⟩
                refine r0 4 rfl ?_
                refine RL.iteP 159 rfl h (fun hc944 h => ?_) fun hc944 h => ?_
                next =>
                 refine cF (fun _ hg => isochronlaw18vawake.ok ((((((hG0.mono hs773).mono hs808).mono hs902).mono hs908).mono hs914).mono hs929) hg hS) call30 h rfl rfl rfl ?_
                 rintro t945 h _ w ⟨rfl, hS⟩
                 refine pn 2 rfl (lr ?_)
                 obtain rfl := h.some
                 exact rt results8 rfl ⟨rfl, (hS.d0.d0.d0).down (((((hs773.trans hs808).trans hs902).trans hs908).trans hs914).trans hs929)⟩
                refine pn 3 rfl (lr ?_)
                obtain rfl := h.some
                exact rt results8 rfl ⟨rfl, (hS.d0.d0.d0).down (((((hs773.trans hs808).trans hs902).trans hs908).trans hs914).trans hs929)⟩
               refine pn 9 rfl (lr ?_)
               obtain rfl := h.some
               exact rt results8 rfl ⟨rfl, (hS.d0.d0).down (((((hs773.trans hs808).trans hs902).trans hs908).trans hs914).trans hs929)⟩
              refine pn 14 rfl (lr ?_)
              obtain rfl := h.some
              exact rt results8 rfl ⟨rfl, (hS.d0.d0).down (((((hs773.trans hs808).trans hs902).trans hs908).trans hs914).trans hs929)⟩
             refine pn 19 rfl (lr ?_)
             obtain rfl := h.some
             exact rt results8 rfl ⟨rfl, (hS.d0.d0).down (((((hs773.trans hs808).trans hs902).trans hs908).trans hs914).trans hs929)⟩
            refine jtr (pn 1 rfl (lr (RQ.ret ?_)))
            obtain rfl := h.some
            exact rt results8 rfl ⟨rfl, (hS.d0.d0).down (((((hs773.trans hs808).trans hs902).trans hs908).trans hs914).trans hs929)⟩
           refine pn 6 rfl (ln (jfs (sr (pn 1 rfl (cF (fun _ hg => kernel_Kernel_Least.ok hg hS) call18 h rfl rfl rfl ?_)))))
           rintro t947 h _ w ⟨rfl, hS⟩
           refine pn 3 rfl ?_
           refine RL.iteP 143 rfl h (fun hc949 h => ?_) fun hc949 h => ?_
           next =>
            refine pn 1 rfl (cF (fun _ hg => kernel_Kernel_Global.ok hg hS) call17 h rfl rfl rfl ?_)
            rintro t950 h _ w ⟨rfl, hS⟩
            refine pn 3 rfl ?_
            refine RL.iteP 148 rfl h (fun hc952 h => ?_) fun hc952 h => ?_
            next =>
             refine pn 1 rfl (cF (fun _ hg => kernel_Kernel_Stop.ok hg hS) call16 h rfl rfl rfl ?_)
             rintro t953 h _ w ⟨rfl, hS⟩
             refine pn 3 rfl ?_
             refine RL.iteP 153 rfl h (fun hc955 h => ?_) fun hc955 h => ?_
             next =>
              refine pn 1 rfl (cF (fun _ hg => kernel_Kernel_History.ok hg hS) call15 h rfl rfl rfl ?_)
              rintro t956 h _ w ⟨A958, c959, rfl, hS⟩
              refine r0 4 rfl ?_
              refine RL.iteP 159 rfl h (fun hc960 h => ?_) fun hc960 h => ?_
              next =>
               refine cF (fun _ hg => isochronlaw18vawake.ok (((((hG0.mono hs773).mono hs808).mono hs902).mono hs908).mono hs914) hg hS) call30 h rfl rfl rfl ?_
               rintro t961 h _ w ⟨rfl, hS⟩
               refine pn 2 rfl (lr ?_)
               obtain rfl := h.some
               exact rt results8 rfl ⟨rfl, (hS.d0.d0.d0).down ((((hs773.trans hs808).trans hs902).trans hs908).trans hs914)⟩
              refine pn 3 rfl (lr ?_)
              obtain rfl := h.some
              exact rt results8 rfl ⟨rfl, (hS.d0.d0.d0).down ((((hs773.trans hs808).trans hs902).trans hs908).trans hs914)⟩
             refine pn 9 rfl (lr ?_)
             obtain rfl := h.some
             exact rt results8 rfl ⟨rfl, (hS.d0.d0).down ((((hs773.trans hs808).trans hs902).trans hs908).trans hs914)⟩
            refine pn 14 rfl (lr ?_)
            obtain rfl := h.some
            exact rt results8 rfl ⟨rfl, (hS.d0.d0).down ((((hs773.trans hs808).trans hs902).trans hs908).trans hs914)⟩
           refine pn 19 rfl (lr ?_)
           obtain rfl := h.some
           exact rt results8 rfl ⟨rfl, (hS.d0.d0).down ((((hs773.trans hs808).trans hs902).trans hs908).trans hs914)⟩
          refine jtr (pn 1 rfl (lr (RQ.ret ?_)))
          obtain rfl := h.some
          exact rt results8 rfl ⟨rfl, (hS.d0.d0).down ((((hs773.trans hs808).trans hs902).trans hs908).trans hs914)⟩
         refine pn 7 rfl (ln (jtr (pn 1 rfl (lr (RQ.ret ?_)))))
         obtain rfl := h.some
         exact rt results8 rfl ⟨rfl, (hS.d0.d0).down (((hs773.trans hs808).trans hs902).trans hs908)⟩
        refine pn 14 rfl (ln (jtr (pn 1 rfl (lr (RQ.ret ?_)))))
        obtain rfl := h.some
        exact rt results8 rfl ⟨rfl, (hS.d0.d0).down ((hs773.trans hs808).trans hs902)⟩
       refine pn 20 rfl (ln (jfs (RC.seq (sr (pn 3 rfl (RL.re 125 rfl (congrArg Value.bool (decide_eq_false hc849)) (rr [0, 0, 2, 0, 0, 0, 0] hS ?_)))))))
       refine it fun w hS => RL.iteP 132 rfl h (fun hc971 h => ?_) fun hc971 h => ?_
       next =>
        refine r0 3 rfl (cF (fun _ hg => kernel_Kernel_Do.ok ((hG0.mono hs773).mono hs808) hg hS) call14 h rfl rfl rfl ?_)
        rintro ⟨y974, y975⟩ h _ w ⟨hf, hs976, rfl, hS⟩
        refine pn 2 rfl (ln ?_)
        refine RC.iteN 138 rfl h (fun hc977 h => ?_) fun hc977 h => ?_
        next =>
         refine jfs (sr (pn 1 rfl (cF (fun _ hg => kernel_Kernel_Least.ok hg hS) call18 h rfl rfl rfl ?_)))
         rintro t978 h _ w ⟨rfl, hS⟩
         refine pn 3 rfl ?_
         refine RL.iteP 143 rfl h (fun hc980 h => ?_) fun hc980 h => ?_
         next =>
          refine pn 1 rfl (cF (fun _ hg => kernel_Kernel_Global.ok hg hS) call17 h rfl rfl rfl ?_)
          rintro t981 h _ w ⟨rfl, hS⟩
          refine pn 3 rfl ?_
          refine RL.iteP 148 rfl h (fun hc983 h => ?_) fun hc983 h => ?_
          next =>
           refine pn 1 rfl (cF (fun _ hg => kernel_Kernel_Stop.ok hg hS) call16 h rfl rfl rfl ?_)
           rintro t984 h _ w ⟨rfl, hS⟩
           refine pn 3 rfl ?_
           refine RL.iteP 153 rfl h (fun hc986 h => ?_) fun hc986 h => ?_
           next =>
            refine pn 1 rfl (cF (fun _ hg => kernel_Kernel_History.ok hg hS) call15 h rfl rfl rfl ?_)
            rintro t987 h _ w ⟨A989, c990, rfl, hS⟩
            refine r0 4 rfl ?_
            refine RL.iteP 159 rfl h (fun hc991 h => ?_) fun hc991 h => ?_
            next =>
             refine cF (fun _ hg => isochronlaw18vawake.ok (((hG0.mono hs773).mono hs808).mono hs976) hg hS) call30 h rfl rfl rfl ?_
             rintro t992 h _ w ⟨rfl, hS⟩
             refine pn 2 rfl (lr ?_)
             obtain rfl := h.some
             exact rt results8 rfl ⟨rfl, (hS.d0.d0.d0).down ((hs773.trans hs808).trans hs976)⟩
            refine pn 3 rfl (lr ?_)
            obtain rfl := h.some
            exact rt results8 rfl ⟨rfl, (hS.d0.d0.d0).down ((hs773.trans hs808).trans hs976)⟩
           refine pn 9 rfl (lr ?_)
           obtain rfl := h.some
           exact rt results8 rfl ⟨rfl, (hS.d0.d0).down ((hs773.trans hs808).trans hs976)⟩
          refine pn 14 rfl (lr ?_)
          obtain rfl := h.some
          exact rt results8 rfl ⟨rfl, (hS.d0.d0).down ((hs773.trans hs808).trans hs976)⟩
         refine pn 19 rfl (lr ?_)
         obtain rfl := h.some
         exact rt results8 rfl ⟨rfl, (hS.d0.d0).down ((hs773.trans hs808).trans hs976)⟩
        refine jtr (pn 1 rfl (lr (RQ.ret ?_)))
        obtain rfl := h.some
        exact rt results8 rfl ⟨rfl, (hS.d0.d0).down ((hs773.trans hs808).trans hs976)⟩
       refine pn 6 rfl (ln (jfs (sr (pn 1 rfl (cF (fun _ hg => kernel_Kernel_Least.ok hg hS) call18 h rfl rfl rfl ?_)))))
       rintro t994 h _ w ⟨rfl, hS⟩
       refine pn 3 rfl ?_
       refine RL.iteP 143 rfl h (fun hc996 h => ?_) fun hc996 h => ?_
       next =>
        refine pn 1 rfl (cF (fun _ hg => kernel_Kernel_Global.ok hg hS) call17 h rfl rfl rfl ?_)
        rintro t997 h _ w ⟨rfl, hS⟩
        refine pn 3 rfl ?_
        refine RL.iteP 148 rfl h (fun hc999 h => ?_) fun hc999 h => ?_
        next =>
         refine pn 1 rfl (cF (fun _ hg => kernel_Kernel_Stop.ok hg hS) call16 h rfl rfl rfl ?_)
         rintro t1000 h _ w ⟨rfl, hS⟩
         refine pn 3 rfl ?_
         refine RL.iteP 153 rfl h (fun hc1002 h => ?_) fun hc1002 h => ?_
         next =>
          refine pn 1 rfl (cF (fun _ hg => kernel_Kernel_History.ok hg hS) call15 h rfl rfl rfl ?_)
          rintro t1003 h _ w ⟨A1005, c1006, rfl, hS⟩
          refine r0 4 rfl ?_
          refine RL.iteP 159 rfl h (fun hc1007 h => ?_) fun hc1007 h => ?_
          next =>
           refine cF (fun _ hg => isochronlaw18vawake.ok ((hG0.mono hs773).mono hs808) hg hS) call30 h rfl rfl rfl ?_
           rintro t1008 h _ w ⟨rfl, hS⟩
           refine pn 2 rfl (lr ?_)
           obtain rfl := h.some
           exact rt results8 rfl ⟨rfl, (hS.d0.d0.d0).down (hs773.trans hs808)⟩
          refine pn 3 rfl (lr ?_)
          obtain rfl := h.some
          exact rt results8 rfl ⟨rfl, (hS.d0.d0.d0).down (hs773.trans hs808)⟩
         refine pn 9 rfl (lr ?_)
         obtain rfl := h.some
         exact rt results8 rfl ⟨rfl, (hS.d0.d0).down (hs773.trans hs808)⟩
        refine pn 14 rfl (lr ?_)
        obtain rfl := h.some
        exact rt results8 rfl ⟨rfl, (hS.d0.d0).down (hs773.trans hs808)⟩
       refine pn 19 rfl (lr ?_)
       obtain rfl := h.some
       exact rt results8 rfl ⟨rfl, (hS.d0.d0).down (hs773.trans hs808)⟩
      refine jtr (pn 1 rfl (lr (RQ.ret ?_)))
      obtain rfl := h.some
      exact rt results8 rfl ⟨rfl, (hS.d0.d0).down (hs773.trans hs808)⟩
     refine pn 4 rfl ?_
     refine RL.iteP 85 rfl h (fun hc1010 h => ?_) fun hc1010 h => ?_
     next =>
      refine r0 4 rfl (cF (fun _ hg => kernel_Kernel_Do.ok (hG0.mono hs773) hg hS) call14 h rfl rfl rfl ?_)
      rintro ⟨y1013, y1014⟩ h _ w ⟨hf, hs1015, rfl, hS⟩
      refine pn 2 rfl (ln ?_)
      refine RC.iteN 92 rfl h (fun hc1016 h => ?_) fun hc1016 h => ?_
      next =>
       refine jfs (RC.seq (sr (pn 3 rfl ?_)))
       refine RL.iteP 95 rfl h (fun hc1056 h => ?_) fun hc1056 h => ?_
       next =>
        refine r0 10 rfl (cF (fun _ hg => kernel_Kernel_Do.ok ((hG0.mono hs773).mono hs1015) hg hS) call14 h rfl rfl rfl ?_)
        rintro ⟨y1059, y1060⟩ h _ w ⟨hf, hs1061, rfl, hS⟩
        refine pn 2 rfl ?_
        refine RL.iteN 108 rfl h (fun hc1062 h => ?_) fun hc1062 h => ?_
        next =>
         refine r0 3 rfl (cF (fun _ hg => kernel_Kernel_Do.ok (((hG0.mono hs773).mono hs1015).mono hs1061) hg hS) call14 h rfl rfl rfl ?_)
         rintro ⟨y1065, y1066⟩ h _ w ⟨hf, hs1067, rfl, hS⟩
         refine pn 3 rfl ?_
         refine RL.iteN 115 rfl h (fun hc1068 h => ?_) fun hc1068 h => ?_
         next =>
          refine r0 3 rfl (cF (fun _ hg => kernel_Kernel_Do.ok ((((hG0.mono hs773).mono hs1015).mono hs1061).mono hs1067) hg hS) call14 h rfl rfl rfl ?_)
          rintro ⟨y1071, y1072⟩ h _ w ⟨hf, hs1073, rfl, hS⟩
          refine pn 3 rfl (ln ?_)
          refine RC.iteN 122 rfl h (fun hc1074 h => ?_) fun hc1074 h => ?_
          next =>
           refine jfs (RC.seq (sr (pn 3 rfl (RL.re 125 rfl (congrArg Value.bool (decide_eq_true hc1056)) (r0 10 rfl (cF (fun _ hg => kernel_Kernel_Do.ok (((((hG0.mono hs773).mono hs1015).mono hs1061).mono hs1067).mono hs1073) hg hS) call14 h rfl rfl rfl ?_))))))
           rintro ⟨y1084, y1085⟩ h _ w ⟨hf, hs1086, rfl, hS⟩
           refine pn 2 rfl (ln ?_)
           refine RC.iteN 138 rfl h (fun hc1087 h => ?_) fun hc1087 h => ?_
           next =>
            refine jfs (sr (pn 1 rfl (cF (fun _ hg => kernel_Kernel_Least.ok hg hS) call18 h rfl rfl rfl ?_)))
            rintro t1088 h _ w ⟨rfl, hS⟩
            refine pn 3 rfl ?_
            refine RL.iteP 143 rfl h (fun hc1090 h => ?_) fun hc1090 h => ?_
            next =>
             refine pn 1 rfl (cF (fun _ hg => kernel_Kernel_Global.ok hg hS) call17 h rfl rfl rfl ?_)
             rintro t1091 h _ w ⟨rfl, hS⟩
             refine pn 3 rfl ?_
             refine RL.iteP 148 rfl h (fun hc1093 h => ?_) fun hc1093 h => ?_
             next =>
              refine pn 1 rfl (cF (fun _ hg => kernel_Kernel_Stop.ok hg hS) call16 h rfl rfl rfl ?_)
              rintro t1094 h _ w ⟨rfl, hS⟩
              refine pn 3 rfl ?_
              refine RL.iteP 153 rfl h (fun hc1096 h => ?_) fun hc1096 h => ?_
              next =>
               refine pn 1 rfl (cF (fun _ hg => kernel_Kernel_History.ok hg hS) call15 h rfl rfl rfl ?_)
               rintro t1097 h _ w ⟨A1099, c1100, rfl, hS⟩
               refine r0 4 rfl ?_
               refine RL.iteP 159 rfl h (fun hc1101 h => ?_) fun hc1101 h => ?_
               next =>
                refine cF (fun _ hg => isochronlaw18vawake.ok ((((((hG0.mono hs773).mono hs1015).mono hs1061).mono hs1067).mono hs1073).mono hs1086) hg hS) call30 h rfl rfl rfl ?_
                rintro t1102 h _ w ⟨rfl, hS⟩
                refine pn 2 rfl (lr ?_)
                obtain rfl := h.some
                exact rt results8 rfl ⟨rfl, (hS.d0.d0.d0).down (((((hs773.trans hs1015).trans hs1061).trans hs1067).trans hs1073).trans hs1086)⟩
               refine pn 3 rfl (lr ?_)
               obtain rfl := h.some
               exact rt results8 rfl ⟨rfl, (hS.d0.d0.d0).down (((((hs773.trans hs1015).trans hs1061).trans hs1067).trans hs1073).trans hs1086)⟩
              refine pn 9 rfl (lr ?_)
              obtain rfl := h.some
              exact rt results8 rfl ⟨rfl, (hS.d0.d0).down (((((hs773.trans hs1015).trans hs1061).trans hs1067).trans hs1073).trans hs1086)⟩
             refine pn 14 rfl (lr ?_)
             obtain rfl := h.some
             exact rt results8 rfl ⟨rfl, (hS.d0.d0).down (((((hs773.trans hs1015).trans hs1061).trans hs1067).trans hs1073).trans hs1086)⟩
            refine pn 19 rfl (lr ?_)
            obtain rfl := h.some
            exact rt results8 rfl ⟨rfl, (hS.d0.d0).down (((((hs773.trans hs1015).trans hs1061).trans hs1067).trans hs1073).trans hs1086)⟩
           refine jtr (pn 1 rfl (lr (RQ.ret ?_)))
           obtain rfl := h.some
           exact rt results8 rfl ⟨rfl, (hS.d0.d0).down (((((hs773.trans hs1015).trans hs1061).trans hs1067).trans hs1073).trans hs1086)⟩
          refine jtr (pn 1 rfl (lr (RQ.ret ?_)))
          obtain rfl := h.some
          exact rt results8 rfl ⟨rfl, (hS.d0.d0).down ((((hs773.trans hs1015).trans hs1061).trans hs1067).trans hs1073)⟩
         refine pn 7 rfl (ln (jtr (pn 1 rfl (lr (RQ.ret ?_)))))
         obtain rfl := h.some
         exact rt results8 rfl ⟨rfl, (hS.d0.d0).down (((hs773.trans hs1015).trans hs1061).trans hs1067)⟩
        refine pn 14 rfl (ln (jtr (pn 1 rfl (lr (RQ.ret ?_)))))
        obtain rfl := h.some
        exact rt results8 rfl ⟨rfl, (hS.d0.d0).down ((hs773.trans hs1015).trans hs1061)⟩
       refine rr [0, 0, 2, 0, 0, 0, 0] hS ?_
       refine it fun w hS => RL.iteP 102 rfl h (fun hc1104 h => ?_) fun hc1104 h => ?_
       next =>
        refine r0 3 rfl (cF (fun _ hg => kernel_Kernel_Do.ok ((hG0.mono hs773).mono hs1015) hg hS) call14 h rfl rfl rfl ?_)
        rintro ⟨y1107, y1108⟩ h _ w ⟨hf, hs1109, rfl, hS⟩
        refine pn 2 rfl ?_
        refine RL.iteN 108 rfl h (fun hc1110 h => ?_) fun hc1110 h => ?_
        next =>
         refine r0 3 rfl (cF (fun _ hg => kernel_Kernel_Do.ok (((hG0.mono hs773).mono hs1015).mono hs1109) hg hS) call14 h rfl rfl rfl ?_)
         rintro ⟨y1113, y1114⟩ h _ w ⟨hf, hs1115, rfl, hS⟩
         refine pn 3 rfl ?_
         refine RL.iteN 115 rfl h (fun hc1116 h => ?_) fun hc1116 h => ?_
         next =>
          refine r0 3 rfl (cF (fun _ hg => kernel_Kernel_Do.ok ((((hG0.mono hs773).mono hs1015).mono hs1109).mono hs1115) hg hS) call14 h rfl rfl rfl ?_)
          rintro ⟨y1119, y1120⟩ h _ w ⟨hf, hs1121, rfl, hS⟩
          refine pn 3 rfl (ln ?_)
          refine RC.iteN 122 rfl h (fun hc1122 h => ?_) fun hc1122 h => ?_
          next =>
           refine jfs (RC.seq (sr (pn 3 rfl (RL.re 125 rfl (congrArg Value.bool (decide_eq_false hc1056)) (rr [0, 0, 2, 0, 0, 0, 0] hS ?_)))))
           refine it fun w hS => RL.iteP 132 rfl h (fun hc1131 h => ?_) fun hc1131 h => ?_
           next =>
            refine r0 3 rfl (cF (fun _ hg => kernel_Kernel_Do.ok (((((hG0.mono hs773).mono hs1015).mono hs1109).mono hs1115).mono hs1121) hg hS) call14 h rfl rfl rfl ?_)
            rintro ⟨y1134, y1135⟩ h _ w ⟨hf, hs1136, rfl, hS⟩
            refine pn 2 rfl (ln ?_)
            refine RC.iteN 138 rfl h (fun hc1137 h => ?_) fun hc1137 h => ?_
            next =>
             refine jfs (sr (pn 1 rfl (cF (fun _ hg => kernel_Kernel_Least.ok hg hS) call18 h rfl rfl rfl ?_)))
             rintro t1138 h _ w ⟨rfl, hS⟩
             refine pn 3 rfl ?_
             refine RL.iteP 143 rfl h (fun hc1140 h => ?_) fun hc1140 h => ?_
             next =>
              refine pn 1 rfl (cF (fun _ hg => kernel_Kernel_Global.ok hg hS) call17 h rfl rfl rfl ?_)
              rintro t1141 h _ w ⟨rfl, hS⟩
              refine pn 3 rfl ?_
              refine RL.iteP 148 rfl h (fun hc1143 h => ?_) fun hc1143 h => ?_
              next =>
               refine pn 1 rfl (cF (fun _ hg => kernel_Kernel_Stop.ok hg hS) call16 h rfl rfl rfl ?_)
               rintro t1144 h _ w ⟨rfl, hS⟩
               refine pn 3 rfl ?_
               refine RL.iteP 153 rfl h (fun hc1146 h => ?_) fun hc1146 h => ?_
               next =>
                refine pn 1 rfl (cF (fun _ hg => kernel_Kernel_History.ok hg hS) call15 h rfl rfl rfl ?_)
                rintro t1147 h _ w ⟨A1149, c1150, rfl, hS⟩
                refine r0 4 rfl ?_
                refine RL.iteP 159 rfl h (fun hc1151 h => ?_) fun hc1151 h => ?_
                next =>
                 refine cF (fun _ hg => isochronlaw18vawake.ok ((((((hG0.mono hs773).mono hs1015).mono hs1109).mono hs1115).mono hs1121).mono hs1136) hg hS) call30 h rfl rfl rfl ?_
                 rintro t1152 h _ w ⟨rfl, hS⟩
                 refine pn 2 rfl (lr ?_)
                 obtain rfl := h.some
                 exact rt results8 rfl ⟨rfl, (hS.d0.d0.d0).down (((((hs773.trans hs1015).trans hs1109).trans hs1115).trans hs1121).trans hs1136)⟩
                refine pn 3 rfl (lr ?_)
                obtain rfl := h.some
                exact rt results8 rfl ⟨rfl, (hS.d0.d0.d0).down (((((hs773.trans hs1015).trans hs1109).trans hs1115).trans hs1121).trans hs1136)⟩
               refine pn 9 rfl (lr ?_)
               obtain rfl := h.some
               exact rt results8 rfl ⟨rfl, (hS.d0.d0).down (((((hs773.trans hs1015).trans hs1109).trans hs1115).trans hs1121).trans hs1136)⟩
              refine pn 14 rfl (lr ?_)
              obtain rfl := h.some
              exact rt results8 rfl ⟨rfl, (hS.d0.d0).down (((((hs773.trans hs1015).trans hs1109).trans hs1115).trans hs1121).trans hs1136)⟩
             refine pn 19 rfl (lr ?_)
             obtain rfl := h.some
             exact rt results8 rfl ⟨rfl, (hS.d0.d0).down (((((hs773.trans hs1015).trans hs1109).trans hs1115).trans hs1121).trans hs1136)⟩
            refine jtr (pn 1 rfl (lr (RQ.ret ?_)))
            obtain rfl := h.some
            exact rt results8 rfl ⟨rfl, (hS.d0.d0).down (((((hs773.trans hs1015).trans hs1109).trans hs1115).trans hs1121).trans hs1136)⟩
           refine pn 6 rfl (ln (jfs (sr (pn 1 rfl (cF (fun _ hg => kernel_Kernel_Least.ok hg hS) call18 h rfl rfl rfl ?_)))))
           rintro t1154 h _ w ⟨rfl, hS⟩
           refine pn 3 rfl ?_
           refine RL.iteP 143 rfl h (fun hc1156 h => ?_) fun hc1156 h => ?_
           next =>
            refine pn 1 rfl (cF (fun _ hg => kernel_Kernel_Global.ok hg hS) call17 h rfl rfl rfl ?_)
            rintro t1157 h _ w ⟨rfl, hS⟩
            refine pn 3 rfl ?_
            refine RL.iteP 148 rfl h (fun hc1159 h => ?_) fun hc1159 h => ?_
            next =>
             refine pn 1 rfl (cF (fun _ hg => kernel_Kernel_Stop.ok hg hS) call16 h rfl rfl rfl ?_)
             rintro t1160 h _ w ⟨rfl, hS⟩
             refine pn 3 rfl ?_
             refine RL.iteP 153 rfl h (fun hc1162 h => ?_) fun hc1162 h => ?_
             next =>
              refine pn 1 rfl (cF (fun _ hg => kernel_Kernel_History.ok hg hS) call15 h rfl rfl rfl ?_)
              rintro t1163 h _ w ⟨A1165, c1166, rfl, hS⟩
              refine r0 4 rfl ?_
              refine RL.iteP 159 rfl h (fun hc1167 h => ?_) fun hc1167 h => ?_
              next =>
               refine cF (fun _ hg => isochronlaw18vawake.ok (((((hG0.mono hs773).mono hs1015).mono hs1109).mono hs1115).mono hs1121) hg hS) call30 h rfl rfl rfl ?_
               rintro t1168 h _ w ⟨rfl, hS⟩
               refine pn 2 rfl (lr ?_)
               obtain rfl := h.some
               exact rt results8 rfl ⟨rfl, (hS.d0.d0.d0).down ((((hs773.trans hs1015).trans hs1109).trans hs1115).trans hs1121)⟩
              refine pn 3 rfl (lr ?_)
              obtain rfl := h.some
              exact rt results8 rfl ⟨rfl, (hS.d0.d0.d0).down ((((hs773.trans hs1015).trans hs1109).trans hs1115).trans hs1121)⟩
             refine pn 9 rfl (lr ?_)
             obtain rfl := h.some
             exact rt results8 rfl ⟨rfl, (hS.d0.d0).down ((((hs773.trans hs1015).trans hs1109).trans hs1115).trans hs1121)⟩
            refine pn 14 rfl (lr ?_)
            obtain rfl := h.some
            exact rt results8 rfl ⟨rfl, (hS.d0.d0).down ((((hs773.trans hs1015).trans hs1109).trans hs1115).trans hs1121)⟩
           refine pn 19 rfl (lr ?_)
           obtain rfl := h.some
           exact rt results8 rfl ⟨rfl, (hS.d0.d0).down ((((hs773.trans hs1015).trans hs1109).trans hs1115).trans hs1121)⟩
          refine jtr (pn 1 rfl (lr (RQ.ret ?_)))
          obtain rfl := h.some
          exact rt results8 rfl ⟨rfl, (hS.d0.d0).down ((((hs773.trans hs1015).trans hs1109).trans hs1115).trans hs1121)⟩
         refine pn 7 rfl (ln (jtr (pn 1 rfl (lr (RQ.ret ?_)))))
         obtain rfl := h.some
         exact rt results8 rfl ⟨rfl, (hS.d0.d0).down (((hs773.trans hs1015).trans hs1109).trans hs1115)⟩
        refine pn 14 rfl (ln (jtr (pn 1 rfl (lr (RQ.ret ?_)))))
        obtain rfl := h.some
        exact rt results8 rfl ⟨rfl, (hS.d0.d0).down ((hs773.trans hs1015).trans hs1109)⟩
       refine pn 20 rfl (ln (jfs (RC.seq (sr (pn 3 rfl (RL.re 125 rfl (congrArg Value.bool (decide_eq_false hc1056)) (rr [0, 0, 2, 0, 0, 0, 0] hS ?_)))))))
       refine it fun w hS => RL.iteP 132 rfl h (fun hc1178 h => ?_) fun hc1178 h => ?_
       next =>
        refine r0 3 rfl (cF (fun _ hg => kernel_Kernel_Do.ok ((hG0.mono hs773).mono hs1015) hg hS) call14 h rfl rfl rfl ?_)
        rintro ⟨y1181, y1182⟩ h _ w ⟨hf, hs1183, rfl, hS⟩
        refine pn 2 rfl (ln ?_)
        refine RC.iteN 138 rfl h (fun hc1184 h => ?_) fun hc1184 h => ?_
        next =>
         refine jfs (sr (pn 1 rfl (cF (fun _ hg => kernel_Kernel_Least.ok hg hS) call18 h rfl rfl rfl ?_)))
         rintro t1185 h _ w ⟨rfl, hS⟩
         refine pn 3 rfl ?_
         refine RL.iteP 143 rfl h (fun hc1187 h => ?_) fun hc1187 h => ?_
         next =>
          refine pn 1 rfl (cF (fun _ hg => kernel_Kernel_Global.ok hg hS) call17 h rfl rfl rfl ?_)
          rintro t1188 h _ w ⟨rfl, hS⟩
          refine pn 3 rfl ?_
          refine RL.iteP 148 rfl h (fun hc1190 h => ?_) fun hc1190 h => ?_
          next =>
           refine pn 1 rfl (cF (fun _ hg => kernel_Kernel_Stop.ok hg hS) call16 h rfl rfl rfl ?_)
           rintro t1191 h _ w ⟨rfl, hS⟩
           refine pn 3 rfl ?_
           refine RL.iteP 153 rfl h (fun hc1193 h => ?_) fun hc1193 h => ?_
           next =>
            refine pn 1 rfl (cF (fun _ hg => kernel_Kernel_History.ok hg hS) call15 h rfl rfl rfl ?_)
            rintro t1194 h _ w ⟨A1196, c1197, rfl, hS⟩
            refine r0 4 rfl ?_
            refine RL.iteP 159 rfl h (fun hc1198 h => ?_) fun hc1198 h => ?_
            next =>
             refine cF (fun _ hg => isochronlaw18vawake.ok (((hG0.mono hs773).mono hs1015).mono hs1183) hg hS) call30 h rfl rfl rfl ?_
             rintro t1199 h _ w ⟨rfl, hS⟩
             refine pn 2 rfl (lr ?_)
             obtain rfl := h.some
             exact rt results8 rfl ⟨rfl, (hS.d0.d0.d0).down ((hs773.trans hs1015).trans hs1183)⟩
            refine pn 3 rfl (lr ?_)
            obtain rfl := h.some
            exact rt results8 rfl ⟨rfl, (hS.d0.d0.d0).down ((hs773.trans hs1015).trans hs1183)⟩
           refine pn 9 rfl (lr ?_)
           obtain rfl := h.some
           exact rt results8 rfl ⟨rfl, (hS.d0.d0).down ((hs773.trans hs1015).trans hs1183)⟩
          refine pn 14 rfl (lr ?_)
          obtain rfl := h.some
          exact rt results8 rfl ⟨rfl, (hS.d0.d0).down ((hs773.trans hs1015).trans hs1183)⟩
         refine pn 19 rfl (lr ?_)
         obtain rfl := h.some
         exact rt results8 rfl ⟨rfl, (hS.d0.d0).down ((hs773.trans hs1015).trans hs1183)⟩
        refine jtr (pn 1 rfl (lr (RQ.ret ?_)))
        obtain rfl := h.some
        exact rt results8 rfl ⟨rfl, (hS.d0.d0).down ((hs773.trans hs1015).trans hs1183)⟩
       refine pn 6 rfl (ln (jfs (sr (pn 1 rfl (cF (fun _ hg => kernel_Kernel_Least.ok hg hS) call18 h rfl rfl rfl ?_)))))
       rintro t1201 h _ w ⟨rfl, hS⟩
       refine pn 3 rfl ?_
       refine RL.iteP 143 rfl h (fun hc1203 h => ?_) fun hc1203 h => ?_
       next =>
        refine pn 1 rfl (cF (fun _ hg => kernel_Kernel_Global.ok hg hS) call17 h rfl rfl rfl ?_)
        rintro t1204 h _ w ⟨rfl, hS⟩
        refine pn 3 rfl ?_
        refine RL.iteP 148 rfl h (fun hc1206 h => ?_) fun hc1206 h => ?_
        next =>
         refine pn 1 rfl (cF (fun _ hg => kernel_Kernel_Stop.ok hg hS) call16 h rfl rfl rfl ?_)
         rintro t1207 h _ w ⟨rfl, hS⟩
         refine pn 3 rfl ?_
         refine RL.iteP 153 rfl h (fun hc1209 h => ?_) fun hc1209 h => ?_
         next =>
          refine pn 1 rfl (cF (fun _ hg => kernel_Kernel_History.ok hg hS) call15 h rfl rfl rfl ?_)
          rintro t1210 h _ w ⟨A1212, c1213, rfl, hS⟩
          refine r0 4 rfl ?_
          refine RL.iteP 159 rfl h (fun hc1214 h => ?_) fun hc1214 h => ?_
          next =>
           refine cF (fun _ hg => isochronlaw18vawake.ok ((hG0.mono hs773).mono hs1015) hg hS) call30 h rfl rfl rfl ?_
           rintro t1215 h _ w ⟨rfl, hS⟩
           refine pn 2 rfl (lr ?_)
           obtain rfl := h.some
           exact rt results8 rfl ⟨rfl, (hS.d0.d0.d0).down (hs773.trans hs1015)⟩
          refine pn 3 rfl (lr ?_)
          obtain rfl := h.some
          exact rt results8 rfl ⟨rfl, (hS.d0.d0.d0).down (hs773.trans hs1015)⟩
         refine pn 9 rfl (lr ?_)
         obtain rfl := h.some
         exact rt results8 rfl ⟨rfl, (hS.d0.d0).down (hs773.trans hs1015)⟩
        refine pn 14 rfl (lr ?_)
        obtain rfl := h.some
        exact rt results8 rfl ⟨rfl, (hS.d0.d0).down (hs773.trans hs1015)⟩
       refine pn 19 rfl (lr ?_)
       obtain rfl := h.some
       exact rt results8 rfl ⟨rfl, (hS.d0.d0).down (hs773.trans hs1015)⟩
      refine jtr (pn 1 rfl (lr (RQ.ret ?_)))
      obtain rfl := h.some
      exact rt results8 rfl ⟨rfl, (hS.d0.d0).down (hs773.trans hs1015)⟩
     refine pn 7 rfl (ln (jfs (RC.seq (sr (pn 3 rfl ?_)))))
     refine RL.iteP 95 rfl h (fun hc1256 h => ?_) fun hc1256 h => ?_
     next =>
      refine r0 10 rfl (cF (fun _ hg => kernel_Kernel_Do.ok (hG0.mono hs773) hg hS) call14 h rfl rfl rfl ?_)
      rintro ⟨y1259, y1260⟩ h _ w ⟨hf, hs1261, rfl, hS⟩
      refine pn 2 rfl ?_
      refine RL.iteN 108 rfl h (fun hc1262 h => ?_) fun hc1262 h => ?_
      next =>
       refine r0 3 rfl (cF (fun _ hg => kernel_Kernel_Do.ok ((hG0.mono hs773).mono hs1261) hg hS) call14 h rfl rfl rfl ?_)
       rintro ⟨y1265, y1266⟩ h _ w ⟨hf, hs1267, rfl, hS⟩
       refine pn 3 rfl ?_
       refine RL.iteN 115 rfl h (fun hc1268 h => ?_) fun hc1268 h => ?_
       next =>
        refine r0 3 rfl (cF (fun _ hg => kernel_Kernel_Do.ok (((hG0.mono hs773).mono hs1261).mono hs1267) hg hS) call14 h rfl rfl rfl ?_)
        rintro ⟨y1271, y1272⟩ h _ w ⟨hf, hs1273, rfl, hS⟩
        refine pn 3 rfl (ln ?_)
        refine RC.iteN 122 rfl h (fun hc1274 h => ?_) fun hc1274 h => ?_
        next =>
         refine jfs (RC.seq (sr (pn 3 rfl (RL.re 125 rfl (congrArg Value.bool (decide_eq_true hc1256)) (r0 10 rfl (cF (fun _ hg => kernel_Kernel_Do.ok ((((hG0.mono hs773).mono hs1261).mono hs1267).mono hs1273) hg hS) call14 h rfl rfl rfl ?_))))))
         rintro ⟨y1284, y1285⟩ h _ w ⟨hf, hs1286, rfl, hS⟩
         refine pn 2 rfl (ln ?_)
         refine RC.iteN 138 rfl h (fun hc1287 h => ?_) fun hc1287 h => ?_
         next =>
          refine jfs (sr (pn 1 rfl (cF (fun _ hg => kernel_Kernel_Least.ok hg hS) call18 h rfl rfl rfl ?_)))
          rintro t1288 h _ w ⟨rfl, hS⟩
          refine pn 3 rfl ?_
          refine RL.iteP 143 rfl h (fun hc1290 h => ?_) fun hc1290 h => ?_
          next =>
           refine pn 1 rfl (cF (fun _ hg => kernel_Kernel_Global.ok hg hS) call17 h rfl rfl rfl ?_)
           rintro t1291 h _ w ⟨rfl, hS⟩
           refine pn 3 rfl ?_
           refine RL.iteP 148 rfl h (fun hc1293 h => ?_) fun hc1293 h => ?_
           next =>
            refine pn 1 rfl (cF (fun _ hg => kernel_Kernel_Stop.ok hg hS) call16 h rfl rfl rfl ?_)
            rintro t1294 h _ w ⟨rfl, hS⟩
            refine pn 3 rfl ?_
            refine RL.iteP 153 rfl h (fun hc1296 h => ?_) fun hc1296 h => ?_
            next =>
             refine pn 1 rfl (cF (fun _ hg => kernel_Kernel_History.ok hg hS) call15 h rfl rfl rfl ?_)
             rintro t1297 h _ w ⟨A1299, c1300, rfl, hS⟩
             refine r0 4 rfl ?_
             refine RL.iteP 159 rfl h (fun hc1301 h => ?_) fun hc1301 h => ?_
             next =>
              refine cF (fun _ hg => isochronlaw18vawake.ok (((((hG0.mono hs773).mono hs1261).mono hs1267).mono hs1273).mono hs1286) hg hS) call30 h rfl rfl rfl ?_
              rintro t1302 h _ w ⟨rfl, hS⟩
              refine pn 2 rfl (lr ?_)
              obtain rfl := h.some
              exact rt results8 rfl ⟨rfl, (hS.d0.d0.d0).down ((((hs773.trans hs1261).trans hs1267).trans hs1273).trans hs1286)⟩
             refine pn 3 rfl (lr ?_)
             obtain rfl := h.some
             exact rt results8 rfl ⟨rfl, (hS.d0.d0.d0).down ((((hs773.trans hs1261).trans hs1267).trans hs1273).trans hs1286)⟩
            refine pn 9 rfl (lr ?_)
            obtain rfl := h.some
            exact rt results8 rfl ⟨rfl, (hS.d0.d0).down ((((hs773.trans hs1261).trans hs1267).trans hs1273).trans hs1286)⟩
           refine pn 14 rfl (lr ?_)
           obtain rfl := h.some
           exact rt results8 rfl ⟨rfl, (hS.d0.d0).down ((((hs773.trans hs1261).trans hs1267).trans hs1273).trans hs1286)⟩
          refine pn 19 rfl (lr ?_)
          obtain rfl := h.some
          exact rt results8 rfl ⟨rfl, (hS.d0.d0).down ((((hs773.trans hs1261).trans hs1267).trans hs1273).trans hs1286)⟩
         refine jtr (pn 1 rfl (lr (RQ.ret ?_)))
         obtain rfl := h.some
         exact rt results8 rfl ⟨rfl, (hS.d0.d0).down ((((hs773.trans hs1261).trans hs1267).trans hs1273).trans hs1286)⟩
        refine jtr (pn 1 rfl (lr (RQ.ret ?_)))
        obtain rfl := h.some
        exact rt results8 rfl ⟨rfl, (hS.d0.d0).down (((hs773.trans hs1261).trans hs1267).trans hs1273)⟩
       refine pn 7 rfl (ln (jtr (pn 1 rfl (lr (RQ.ret ?_)))))
       obtain rfl := h.some
       exact rt results8 rfl ⟨rfl, (hS.d0.d0).down ((hs773.trans hs1261).trans hs1267)⟩
      refine pn 14 rfl (ln (jtr (pn 1 rfl (lr (RQ.ret ?_)))))
      obtain rfl := h.some
      exact rt results8 rfl ⟨rfl, (hS.d0.d0).down (hs773.trans hs1261)⟩
     refine rr [0, 0, 2, 0, 0, 0, 0] hS ?_
     refine it fun w hS => RL.iteP 102 rfl h (fun hc1304 h => ?_) fun hc1304 h => ?_
     next =>
      refine r0 3 rfl (cF (fun _ hg => kernel_Kernel_Do.ok (hG0.mono hs773) hg hS) call14 h rfl rfl rfl ?_)
      rintro ⟨y1307, y1308⟩ h _ w ⟨hf, hs1309, rfl, hS⟩
      refine pn 2 rfl ?_
      refine RL.iteN 108 rfl h (fun hc1310 h => ?_) fun hc1310 h => ?_
      next =>
       refine r0 3 rfl (cF (fun _ hg => kernel_Kernel_Do.ok ((hG0.mono hs773).mono hs1309) hg hS) call14 h rfl rfl rfl ?_)
       rintro ⟨y1313, y1314⟩ h _ w ⟨hf, hs1315, rfl, hS⟩
       refine pn 3 rfl ?_
       refine RL.iteN 115 rfl h (fun hc1316 h => ?_) fun hc1316 h => ?_
       next =>
        refine r0 3 rfl (cF (fun _ hg => kernel_Kernel_Do.ok (((hG0.mono hs773).mono hs1309).mono hs1315) hg hS) call14 h rfl rfl rfl ?_)
        rintro ⟨y1319, y1320⟩ h _ w ⟨hf, hs1321, rfl, hS⟩
        refine pn 3 rfl (ln ?_)
        refine RC.iteN 122 rfl h (fun hc1322 h => ?_) fun hc1322 h => ?_
        next =>
         refine jfs (RC.seq (sr (pn 3 rfl (RL.re 125 rfl (congrArg Value.bool (decide_eq_false hc1256)) (rr [0, 0, 2, 0, 0, 0, 0] hS ?_)))))
         refine it fun w hS => RL.iteP 132 rfl h (fun hc1331 h => ?_) fun hc1331 h => ?_
         next =>
          refine r0 3 rfl (cF (fun _ hg => kernel_Kernel_Do.ok ((((hG0.mono hs773).mono hs1309).mono hs1315).mono hs1321) hg hS) call14 h rfl rfl rfl ?_)
          rintro ⟨y1334, y1335⟩ h _ w ⟨hf, hs1336, rfl, hS⟩
          refine pn 2 rfl (ln ?_)
          refine RC.iteN 138 rfl h (fun hc1337 h => ?_) fun hc1337 h => ?_
          next =>
           refine jfs (sr (pn 1 rfl (cF (fun _ hg => kernel_Kernel_Least.ok hg hS) call18 h rfl rfl rfl ?_)))
           rintro t1338 h _ w ⟨rfl, hS⟩
           refine pn 3 rfl ?_
           refine RL.iteP 143 rfl h (fun hc1340 h => ?_) fun hc1340 h => ?_
           next =>
            refine pn 1 rfl (cF (fun _ hg => kernel_Kernel_Global.ok hg hS) call17 h rfl rfl rfl ?_)
            rintro t1341 h _ w ⟨rfl, hS⟩
            refine pn 3 rfl ?_
            refine RL.iteP 148 rfl h (fun hc1343 h => ?_) fun hc1343 h => ?_
            next =>
             refine pn 1 rfl (cF (fun _ hg => kernel_Kernel_Stop.ok hg hS) call16 h rfl rfl rfl ?_)
             rintro t1344 h _ w ⟨rfl, hS⟩
             refine pn 3 rfl ?_
             refine RL.iteP 153 rfl h (fun hc1346 h => ?_) fun hc1346 h => ?_
             next =>
              refine pn 1 rfl (cF (fun _ hg => kernel_Kernel_History.ok hg hS) call15 h rfl rfl rfl ?_)
              rintro t1347 h _ w ⟨A1349, c1350, rfl, hS⟩
              refine r0 4 rfl ?_
              refine RL.iteP 159 rfl h (fun hc1351 h => ?_) fun hc1351 h => ?_
              next =>
               refine cF (fun _ hg => isochronlaw18vawake.ok (((((hG0.mono hs773).mono hs1309).mono hs1315).mono hs1321).mono hs1336) hg hS) call30 h rfl rfl rfl ?_
               rintro t1352 h _ w ⟨rfl, hS⟩
               refine pn 2 rfl (lr ?_)
               obtain rfl := h.some
               exact rt results8 rfl ⟨rfl, (hS.d0.d0.d0).down ((((hs773.trans hs1309).trans hs1315).trans hs1321).trans hs1336)⟩
              refine pn 3 rfl (lr ?_)
              obtain rfl := h.some
              exact rt results8 rfl ⟨rfl, (hS.d0.d0.d0).down ((((hs773.trans hs1309).trans hs1315).trans hs1321).trans hs1336)⟩
             refine pn 9 rfl (lr ?_)
             obtain rfl := h.some
             exact rt results8 rfl ⟨rfl, (hS.d0.d0).down ((((hs773.trans hs1309).trans hs1315).trans hs1321).trans hs1336)⟩
            refine pn 14 rfl (lr ?_)
            obtain rfl := h.some
            exact rt results8 rfl ⟨rfl, (hS.d0.d0).down ((((hs773.trans hs1309).trans hs1315).trans hs1321).trans hs1336)⟩
           refine pn 19 rfl (lr ?_)
           obtain rfl := h.some
           exact rt results8 rfl ⟨rfl, (hS.d0.d0).down ((((hs773.trans hs1309).trans hs1315).trans hs1321).trans hs1336)⟩
          refine jtr (pn 1 rfl (lr (RQ.ret ?_)))
          obtain rfl := h.some
          exact rt results8 rfl ⟨rfl, (hS.d0.d0).down ((((hs773.trans hs1309).trans hs1315).trans hs1321).trans hs1336)⟩
         refine pn 6 rfl (ln (jfs (sr (pn 1 rfl (cF (fun _ hg => kernel_Kernel_Least.ok hg hS) call18 h rfl rfl rfl ?_)))))
         rintro t1354 h _ w ⟨rfl, hS⟩
         refine pn 3 rfl ?_
         refine RL.iteP 143 rfl h (fun hc1356 h => ?_) fun hc1356 h => ?_
         next =>
          refine pn 1 rfl (cF (fun _ hg => kernel_Kernel_Global.ok hg hS) call17 h rfl rfl rfl ?_)
          rintro t1357 h _ w ⟨rfl, hS⟩
          refine pn 3 rfl ?_
          refine RL.iteP 148 rfl h (fun hc1359 h => ?_) fun hc1359 h => ?_
          next =>
           refine pn 1 rfl (cF (fun _ hg => kernel_Kernel_Stop.ok hg hS) call16 h rfl rfl rfl ?_)
           rintro t1360 h _ w ⟨rfl, hS⟩
           refine pn 3 rfl ?_
           refine RL.iteP 153 rfl h (fun hc1362 h => ?_) fun hc1362 h => ?_
           next =>
            refine pn 1 rfl (cF (fun _ hg => kernel_Kernel_History.ok hg hS) call15 h rfl rfl rfl ?_)
            rintro t1363 h _ w ⟨A1365, c1366, rfl, hS⟩
            refine r0 4 rfl ?_
            refine RL.iteP 159 rfl h (fun hc1367 h => ?_) fun hc1367 h => ?_
            next =>
             refine cF (fun _ hg => isochronlaw18vawake.ok ((((hG0.mono hs773).mono hs1309).mono hs1315).mono hs1321) hg hS) call30 h rfl rfl rfl ?_
             rintro t1368 h _ w ⟨rfl, hS⟩
             refine pn 2 rfl (lr ?_)
             obtain rfl := h.some
             exact rt results8 rfl ⟨rfl, (hS.d0.d0.d0).down (((hs773.trans hs1309).trans hs1315).trans hs1321)⟩
            refine pn 3 rfl (lr ?_)
            obtain rfl := h.some
            exact rt results8 rfl ⟨rfl, (hS.d0.d0.d0).down (((hs773.trans hs1309).trans hs1315).trans hs1321)⟩
           refine pn 9 rfl (lr ?_)
           obtain rfl := h.some
           exact rt results8 rfl ⟨rfl, (hS.d0.d0).down (((hs773.trans hs1309).trans hs1315).trans hs1321)⟩
          refine pn 14 rfl (lr ?_)
          obtain rfl := h.some
          exact rt results8 rfl ⟨rfl, (hS.d0.d0).down (((hs773.trans hs1309).trans hs1315).trans hs1321)⟩
         refine pn 19 rfl (lr ?_)
         obtain rfl := h.some
         exact rt results8 rfl ⟨rfl, (hS.d0.d0).down (((hs773.trans hs1309).trans hs1315).trans hs1321)⟩
        refine jtr (pn 1 rfl (lr (RQ.ret ?_)))
        obtain rfl := h.some
        exact rt results8 rfl ⟨rfl, (hS.d0.d0).down (((hs773.trans hs1309).trans hs1315).trans hs1321)⟩
       refine pn 7 rfl (ln (jtr (pn 1 rfl (lr (RQ.ret ?_)))))
       obtain rfl := h.some
       exact rt results8 rfl ⟨rfl, (hS.d0.d0).down ((hs773.trans hs1309).trans hs1315)⟩
      refine pn 14 rfl (ln (jtr (pn 1 rfl (lr (RQ.ret ?_)))))
      obtain rfl := h.some
      exact rt results8 rfl ⟨rfl, (hS.d0.d0).down (hs773.trans hs1309)⟩
     refine pn 20 rfl (ln (jfs (RC.seq (sr (pn 3 rfl (RL.re 125 rfl (congrArg Value.bool (decide_eq_false hc1256)) (rr [0, 0, 2, 0, 0, 0, 0] hS ?_)))))))
     refine it fun w hS => RL.iteP 132 rfl h (fun hc1378 h => ?_) fun hc1378 h => ?_
     next =>
      refine r0 3 rfl (cF (fun _ hg => kernel_Kernel_Do.ok (hG0.mono hs773) hg hS) call14 h rfl rfl rfl ?_)
      rintro ⟨y1381, y1382⟩ h _ w ⟨hf, hs1383, rfl, hS⟩
      refine pn 2 rfl (ln ?_)
      refine RC.iteN 138 rfl h (fun hc1384 h => ?_) fun hc1384 h => ?_
      next =>
       refine jfs (sr (pn 1 rfl (cF (fun _ hg => kernel_Kernel_Least.ok hg hS) call18 h rfl rfl rfl ?_)))
       rintro t1385 h _ w ⟨rfl, hS⟩
       refine pn 3 rfl ?_
       refine RL.iteP 143 rfl h (fun hc1387 h => ?_) fun hc1387 h => ?_
       next =>
        refine pn 1 rfl (cF (fun _ hg => kernel_Kernel_Global.ok hg hS) call17 h rfl rfl rfl ?_)
        rintro t1388 h _ w ⟨rfl, hS⟩
        refine pn 3 rfl ?_
        refine RL.iteP 148 rfl h (fun hc1390 h => ?_) fun hc1390 h => ?_
        next =>
         refine pn 1 rfl (cF (fun _ hg => kernel_Kernel_Stop.ok hg hS) call16 h rfl rfl rfl ?_)
         rintro t1391 h _ w ⟨rfl, hS⟩
         refine pn 3 rfl ?_
         refine RL.iteP 153 rfl h (fun hc1393 h => ?_) fun hc1393 h => ?_
         next =>
          refine pn 1 rfl (cF (fun _ hg => kernel_Kernel_History.ok hg hS) call15 h rfl rfl rfl ?_)
          rintro t1394 h _ w ⟨A1396, c1397, rfl, hS⟩
          refine r0 4 rfl ?_
          refine RL.iteP 159 rfl h (fun hc1398 h => ?_) fun hc1398 h => ?_
          next =>
           refine cF (fun _ hg => isochronlaw18vawake.ok ((hG0.mono hs773).mono hs1383) hg hS) call30 h rfl rfl rfl ?_
           rintro t1399 h _ w ⟨rfl, hS⟩
           refine pn 2 rfl (lr ?_)
           obtain rfl := h.some
           exact rt results8 rfl ⟨rfl, (hS.d0.d0.d0).down (hs773.trans hs1383)⟩
          refine pn 3 rfl (lr ?_)
          obtain rfl := h.some
          exact rt results8 rfl ⟨rfl, (hS.d0.d0.d0).down (hs773.trans hs1383)⟩
         refine pn 9 rfl (lr ?_)
         obtain rfl := h.some
         exact rt results8 rfl ⟨rfl, (hS.d0.d0).down (hs773.trans hs1383)⟩
        refine pn 14 rfl (lr ?_)
        obtain rfl := h.some
        exact rt results8 rfl ⟨rfl, (hS.d0.d0).down (hs773.trans hs1383)⟩
       refine pn 19 rfl (lr ?_)
       obtain rfl := h.some
       exact rt results8 rfl ⟨rfl, (hS.d0.d0).down (hs773.trans hs1383)⟩
      refine jtr (pn 1 rfl (lr (RQ.ret ?_)))
      obtain rfl := h.some
      exact rt results8 rfl ⟨rfl, (hS.d0.d0).down (hs773.trans hs1383)⟩
     refine pn 6 rfl (ln (jfs (sr (pn 1 rfl (cF (fun _ hg => kernel_Kernel_Least.ok hg hS) call18 h rfl rfl rfl ?_)))))
     rintro t1401 h _ w ⟨rfl, hS⟩
     refine pn 3 rfl ?_
     refine RL.iteP 143 rfl h (fun hc1403 h => ?_) fun hc1403 h => ?_
     next =>
      refine pn 1 rfl (cF (fun _ hg => kernel_Kernel_Global.ok hg hS) call17 h rfl rfl rfl ?_)
      rintro t1404 h _ w ⟨rfl, hS⟩
      refine pn 3 rfl ?_
      refine RL.iteP 148 rfl h (fun hc1406 h => ?_) fun hc1406 h => ?_
      next =>
       refine pn 1 rfl (cF (fun _ hg => kernel_Kernel_Stop.ok hg hS) call16 h rfl rfl rfl ?_)
       rintro t1407 h _ w ⟨rfl, hS⟩
       refine pn 3 rfl ?_
       refine RL.iteP 153 rfl h (fun hc1409 h => ?_) fun hc1409 h => ?_
       next =>
        refine pn 1 rfl (cF (fun _ hg => kernel_Kernel_History.ok hg hS) call15 h rfl rfl rfl ?_)
        rintro t1410 h _ w ⟨A1412, c1413, rfl, hS⟩
        refine r0 4 rfl ?_
        refine RL.iteP 159 rfl h (fun hc1414 h => ?_) fun hc1414 h => ?_
        next =>
         refine cF (fun _ hg => isochronlaw18vawake.ok (hG0.mono hs773) hg hS) call30 h rfl rfl rfl ?_
         rintro t1415 h _ w ⟨rfl, hS⟩
         refine pn 2 rfl (lr ?_)
         obtain rfl := h.some
         exact rt results8 rfl ⟨rfl, (hS.d0.d0.d0).down hs773⟩
        refine pn 3 rfl (lr ?_)
        obtain rfl := h.some
        exact rt results8 rfl ⟨rfl, (hS.d0.d0.d0).down hs773⟩
       refine pn 9 rfl (lr ?_)
       obtain rfl := h.some
       exact rt results8 rfl ⟨rfl, (hS.d0.d0).down hs773⟩
      refine pn 14 rfl (lr ?_)
      obtain rfl := h.some
      exact rt results8 rfl ⟨rfl, (hS.d0.d0).down hs773⟩
     refine pn 19 rfl (lr ?_)
     obtain rfl := h.some
     exact rt results8 rfl ⟨rfl, (hS.d0.d0).down hs773⟩
    refine pn 2 rfl (ln (jtr (pn 1 rfl (lr (RQ.ret ?_)))))
    obtain rfl := h.some
    exact rt results8 rfl ⟨rfl, (hS.d0.d0).down hs773⟩
  refine RC.region (rr [0, 2, 0, 0] hS ?_)
  refine it fun w hS => RL.iteP 22 rfl h (fun hc1417 h => ?_) fun hc1417 h => ?_
  next =>
   refine pn 25 rfl (RL.nil ?_)
   exact fun a ha => ⟨_, _, rfl, h, ha.tE rfl, hS.d1⟩
  refine rr [0, 2, 0, 0, 0] hS ?_
  refine it fun w hS => RL.iteP 27 rfl h (fun hc1418 h => ?_) fun hc1418 h => ?_
  next =>
   refine pn 20 rfl (RL.nil ?_)
   exact fun a ha => ⟨_, _, rfl, h, ha.tE rfl, hS.d1⟩
  refine rr [0, 2, 0, 0, 0] hS ?_
  refine it fun w hS => RL.iteP 32 rfl h (fun hc1419 h => ?_) fun hc1419 h => ?_
  next =>
   refine pn 15 rfl (RL.nil ?_)
   exact fun a ha => ⟨_, _, rfl, h, ha.tE rfl, hS.d1⟩
  refine rr [0, 2, 0, 0, 0] hS ?_
  refine it fun w hS => RL.iteP 37 rfl h (fun hc1420 h => ?_) fun hc1420 h => ?_
  next =>
   refine pn 10 rfl (RL.nil ?_)
   exact fun a ha => ⟨_, _, rfl, h, ha.tE rfl, hS.d1⟩
  refine rr [0, 2, 0, 0, 0] hS ?_
  refine it fun w hS => RL.iteP 42 rfl h (fun hc1421 h => ?_) fun hc1421 h => ?_
  next =>
   refine pn 5 rfl (RL.nil ?_)
   exact fun a ha => ⟨_, _, rfl, h, ha.tE rfl, hS.d1⟩
  refine rr [0, 2, 0, 0, 0] hS ?_
  refine it fun w hS => RL.nil ?_
  exact fun a ha => ⟨_, _, rfl, h, ha.tE rfl, hS.d1⟩
end
end Go.Proofs.Gx
