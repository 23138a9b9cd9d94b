/-
  The walks of functions, each with what it computes: printed by wip/gx.py.
-/
import Derived.Test.YtofgeidjbfmmdaaGreatDoorW0
import Derived.Test.YtofgeidjbfmmdaaGreatDoorW14
import Derived.Test.YtofgeidjbfmmdaaGreatDoorW18
import Derived.Test.YtofgeidjbfmmdaaGreatDoorW20
import Derived.Test.YtofgeidjbfmmdaaGreatDoorW3
set_option linter.unusedVariables false
set_option maxRecDepth 100000
set_option maxHeartbeats 4000000
namespace Go.Proofs.Gx
open Go.Sl Tryz
variable {B : Base} {w : World} {l : List HProp} {hf : Hp}
/-! ### isochron/isochronlaw14.SeqWaits: function 7 -/
noncomputable def isochronlaw14vSeqWaits.l4b (y281 : List api_Message) (y287 y298 : List api_Done) : Int → Option ((Int) ⊕ (Bool))
  | (x438) => (if x438 < (y281.length : Int) then (if 0 < x438 then (if 0 ≤ IntKind.i64.wrap (x438 - 1) ∧ IntKind.i64.wrap (x438 - 1) < (y281.length : Int) then (if 0 ≤ x438 then ((event_Compare.f ((nth y281 (IntKind.i64.wrap (x438 - 1))).Key) ((nth y281 x438).Key)).bind fun t509 => (if t509 = (-1) then (if 0 < (y287.length : Int) then (if 0 ≤ IntKind.i64.wrap ((y287.length : Int) - 1) ∧ IntKind.i64.wrap ((y287.length : Int) - 1) < (y287.length : Int) then ((event_Compare.f ((nth y287 (IntKind.i64.wrap ((y287.length : Int) - 1))).Key) ((nth y281 x438).Key)).bind fun t515 => (if t515 = (-1) then some (.inl (IntKind.i64.wrap (x438 + 1))) else some (.inr false))) else none) else some (.inl (IntKind.i64.wrap (x438 + 1)))) else some (.inr false))) else none) else none) else (if 0 < (y287.length : Int) then (if 0 ≤ IntKind.i64.wrap ((y287.length : Int) - 1) ∧ IntKind.i64.wrap ((y287.length : Int) - 1) < (y287.length : Int) then (if 0 ≤ x438 then ((event_Compare.f ((nth y287 (IntKind.i64.wrap ((y287.length : Int) - 1))).Key) ((nth y281 x438).Key)).bind fun t522 => (if t522 = (-1) then some (.inl (IntKind.i64.wrap (x438 + 1))) else some (.inr false))) else none) else none) else some (.inl (IntKind.i64.wrap (x438 + 1))))) else (Option.map Sum.inr (if (y298.length : Int) ≤ (y287.length : Int) then (if (y298.length : Int) = (y287.length : Int) then ((isochronlaw14vawake.f).bind fun t531 => some t531) else some false) else (if 0 < (y281.length : Int) then (if 0 ≤ (y287.length : Int) ∧ (y287.length : Int) < (y298.length : Int) then some (decide ((nth y298 (y287.length : Int)).Key = (nth y281 0).Key)) else none) else some false))))
noncomputable def isochronlaw14vSeqWaits.l4 (y281 : List api_Message) (y287 y298 : List api_Done) (s : Int) : Option (Bool) := loopR (isochronlaw14vSeqWaits.l4b y281 y287 y298) s
noncomputable def isochronlaw14vSeqWaits.f (a1 : api_Model) (a11 : Int) : Option (Bool) := ((seq_Left.f a1 (IntKind.i64.wrap a11)).bind fun (y281, y282) => ((seq_Part.f a1 (IntKind.i64.wrap a11)).bind fun (y287, y288, y289, y290) => ((seq_Part.f a1 (IntKind.i64.wrap ((IntKind.i64.wrap a11) + 1))).bind fun (y298, y299, y300, y301) => (if y282 = 0 then (if y290 = 0 then isochronlaw14vSeqWaits.l4 y281 y287 y298 (0) else (if y282 = y290 then (if (y281.length : Int) = 0 then ((isochronlaw14vawake.f).bind fun t538 => some t538) else some false) else some false)) else (if y282 = y290 then (if (y281.length : Int) = 0 then ((isochronlaw14vawake.f).bind fun t542 => some t542) else some false) else some false)))))
theorem isochronlaw14vSeqWaits.ok {a1 : api_Model} {a11 : Int} {A2 : Option Addr} {c3 : Nat} {A5 : Option Addr} {c6 : Nat} {A8 : Option Addr} {c9 : Nat} (hr4 : SlR (Rep.sl E_api_Instr.rep) hf A2 c3 a1.Progs) (hr7 : SlR E_api_Link.rep hf A5 c6 a1.Links) (hr10 : SlR E_api_Start.rep hf A8 c9 a1.Starts) (hG0 : GlobAt hf 0 (.iface 148 (.agg #[.pointer (some ⟨1, 83, none⟩)]))) {r : Bool} (h : isochronlaw14vSeqWaits.f a1 a11 = some r) (hS : St B w (l) hf) :
    Calls prog 7 #[.agg #[.slice A2 a1.Progs.length c3, .slice A5 a1.Links.length c6, .slice A8 a1.Starts.length c9, .int .u64 a1.Seed, .int .i64 a1.End, .int .i64 a1.Budget], .int .u8 a11] w (Ret fun v w => v = .bool r ∧ St B w (l) hf) := by
  have h := Holds.of h
  refine en func7 rfl ntmps7 rfl (sr (bx hS rfl rfl rfl rfl fun b278 w hS => pn 1 rfl (lnsr (RL.s (Vl.lw 0 hS isAgg27 sizeOf27 rfl rfl rfl) rfl (pn 1 rfl (RL.s (Vl.conv underlying5 underlying3 rfl) rfl (cF (fun _ hg => seq_Left.ok hr4 hr7 hr10 hG0 hg hS) call17 h rfl rfl rfl ?_)))))))
  rintro ⟨y281, y282⟩ h _ w ⟨A283, c284, rfl, hS⟩
  refine pn 5 rfl (lnsr (RL.s (Vl.lw 1 hS isAgg27 sizeOf27 rfl rfl rfl) rfl (pn 1 rfl (RL.s (Vl.conv underlying5 underlying3 rfl) rfl (cF (fun _ hg => seq_Part.ok hr4 hr7 hr10 hG0 hg hS) call16 h rfl rfl rfl ?_)))))
  rintro ⟨y287, y288, y289, y290⟩ h _ w ⟨A291, c292, A293, c294, rfl, hS⟩
  refine pn 3 rfl (al hS zeroValue31 rfl rfl rfl fun b295 w hS => RL.e0 (OW.store (vs := [.slice A291 y287.length c292, .slice A293 y288.length c294, .int .i64 y289]) 0 hS rfl rfl rfl rfl sizeOf31 rfl rfl rfl rfl) rfl ?_)
  rintro _ w ⟨rfl, hS⟩
  have hS : St B w (Cl _ [_, _, _] _ :: _ :: _ :: _ :: _ :: l) hf := hS
  refine pn 1 rfl (lnsr (RL.s (Vl.lw 4 hS isAgg27 sizeOf27 rfl rfl rfl) rfl (pn 1 rfl (RL.s (Vl.conv underlying5 underlying3 rfl) rfl (pn 1 rfl (cF (fun _ hg => seq_Part.ok hr4 hr7 hr10 hG0 hg hS) call16 h rfl rfl rfl ?_))))))
  rintro ⟨y298, y299, y300, y301⟩ h _ w ⟨A302, c303, A304, c305, rfl, hS⟩
  refine pn 3 rfl (al hS zeroValue31 rfl rfl rfl fun b306 w hS => RL.e0 (OW.store (vs := [.slice A302 y298.length c303, .slice A304 y299.length c305, .int .i64 y300]) 0 hS rfl rfl rfl rfl sizeOf31 rfl rfl rfl rfl) rfl ?_)
  rintro _ w ⟨rfl, hS⟩
  have hS : St B w (Cl _ [_, _, _] _ :: _ :: _ :: _ :: _ :: _ :: _ :: _ :: l) hf := hS
  refine pn 1 rfl (ln (RC.seq (sr (pn 3 rfl ?_))))
  refine RL.iteN 36 rfl h (fun hc317 h => ?_) fun hc317 h => ?_
  next =>
   refine pn 3 rfl (ln ?_)
   refine RC.iteN 39 rfl h (fun hc318 h => ?_) fun hc318 h => ?_
   next =>
    refine RC.condF rfl (sk (RC.seq (sr (pn 1 rfl (ln (RC.block ?_))))))
    refine fun a ha => RC.loop (N := 133) (body := (isochronlaw14vSeqWaits.l4b y281 y287 y298)) (φ := (· = r)) (fun (s : Int) a w => ∃ (x438 : Int), s = (x438) ∧ Has 133 [(5, .slice A283 y281.length c284), (7, .pointer (some ⟨b295, 0, none⟩)), (9, .pointer (some ⟨b306, 0, none⟩)), (11, .int .i64 x438)] a ∧ St B w (OSf E_api_Message 53 (.slice A283 y281.length c284) y281 :: OSf E_api_Done 44 (.slice A291 y287.length c292) y287 :: OSf E_api_State 105 (.slice A293 y288.length c294) y288 :: OSf E_api_Done 44 (.slice A302 y298.length c303) y298 :: OSf E_api_State 105 (.slice A304 y299.length c305) y299 :: Cl b306 [.slice A302 y298.length c303, .slice A304 y299.length c305, .int .i64 y300] 31 :: Cl b295 [.slice A291 y287.length c292, .slice A293 y288.length c294, .int .i64 y289] 31 :: l) hf) ?_ (s0 := (0)) h ⟨0, rfl, ha.to ⟨rfl, rfl, rfl, rfl, trivial⟩, hS.d7.p2.p2.p5.p5.p6⟩
    rintro G482 x438 a w ⟨_, rfl, ha, hS⟩ h
    revert a
    show RC _ _ _ _ _ _
    refine RC.seq (sr (pn 2 rfl (RL.s (Vl.lenSl underlying49 rfl) rfl (pn 1 rfl (ln ?_)))))
    refine RC.iteP 54 rfl h (fun hc484 h => ?_) fun hc484 h => ?_
    next =>
     refine RC.condT rfl (sk (RC.seq (RC.block (RC.seq (RC.planS (plD [0, 3, 6, 9, 12, 15, 19, 21, 25, 27, 30, 34, 36, 40, 44, 45, 48, 51, 54, 58, 60, 63, 66, 69, 73, 75, 79, 81, 84, 88, 90, 94, 96, 101, 104, 107, 110, 113, 116, 119, 122]) [] hS (fun w hS => hS) follows rfl (by kernel_rfl) (NoTmp.then (NoTmp.block (NoTmp.then (NoTmp.then (NoTmp.block (NoTmp.then NoTmp.body)))))) fun w hS => pp 3 rfl ?_)))))
     refine RP.iteP 59 rfl h (fun hc505 h => ?_) fun hc505 h => ?_
     next =>
      refine pp 3 rfl ?_
      obtain ⟨⟨hq506, hq507⟩, h⟩ := h.req
      refine RP.sg 6 rfl rfl hS (fun w hS => Vl.indexOwn 0 hS rfl underlying49 sizeOf53 rfl rfl hq506 hq507) rfl rfl (RP.sg0 7 rfl (fun w => Vl.fieldAddr (a'' := (ad A283).add ((IntKind.i64.wrap (x438 - 1)).toNat * 7 + 0)) underlying53 rfl sizeOf42 rfl (add_add _ _ _)) rfl rfl (RP.sg 8 rfl rfl hS (fun w hS => Vl.loadA (vs := [.int .i64 (((nth y281 (IntKind.i64.wrap (x438 - 1))).Key).Time), .int .i64 (((nth y281 (IntKind.i64.wrap (x438 - 1))).Key).From), .int .i64 (((nth y281 (IntKind.i64.wrap (x438 - 1))).Key).Seq)]) isAgg42 sizeOf42 rfl rfl ((hS.slW 0 rfl).2.2.part (off := 0) hq506 hq507 rfl)) rfl rfl (pp 2 rfl ?_)))
      obtain ⟨hq508, h⟩ := h.req
      refine RP.sg 11 rfl rfl hS (fun w hS => Vl.indexOwn 0 hS rfl underlying49 sizeOf53 rfl rfl hq508 hc484) rfl rfl (RP.sg0 12 rfl (fun w => Vl.fieldAddr (a'' := (ad A283).add (x438.toNat * 7 + 0)) underlying53 rfl sizeOf42 rfl (add_add _ _ _)) rfl rfl (RP.sg 13 rfl rfl hS (fun w hS => Vl.loadA (vs := [.int .i64 (((nth y281 x438).Key).Time), .int .i64 (((nth y281 x438).Key).From), .int .i64 (((nth y281 x438).Key).Seq)]) isAgg42 sizeOf42 rfl rfl ((hS.slW 0 rfl).2.2.part (off := 0) hq508 hc484 rfl)) rfl rfl ?_))
      obtain ⟨t509, hg510, h⟩ := h.bind
      have hc := event_Compare.ok hg510 hS
      refine RP.e 14 rfl (OW.callF (ls := [.tmp 65, .tmp 70]) rfl call14 hc) rfl rfl ?_
      rintro _ w ⟨rfl, hS⟩
      refine ⟨fun _ => hS, ?_⟩
      refine pp 3 rfl ?_
      refine RP.iteN 74 rfl h (fun hc511 h => ?_) fun hc511 h => ?_
      next =>
       refine RP.sg0 18 rfl (fun w => Vl.fa 0 underlying31 rfl sizeOf28 rfl rfl) rfl rfl (RP.sg 19 rfl rfl hS (fun w hS => Vl.ld 6 hS isAgg28 rfl rfl rfl) rfl rfl (RP.sg0 20 rfl (fun w => Vl.lenSl underlying28 rfl) rfl rfl (pp 2 rfl ?_)))
       refine RP.iteP 79 rfl h (fun hc512 h => ?_) fun hc512 h => ?_
       next =>
        refine RP.sg0 23 rfl (fun w => Vl.fa 0 underlying31 rfl sizeOf28 rfl rfl) rfl rfl (RP.sg 24 rfl rfl hS (fun w hS => Vl.ld 6 hS isAgg28 rfl rfl rfl) rfl rfl (RP.sg0 25 rfl (fun w => Vl.fa 0 underlying31 rfl sizeOf28 rfl rfl) rfl rfl (RP.sg 26 rfl rfl hS (fun w hS => Vl.ld 6 hS isAgg28 rfl rfl rfl) rfl rfl (RP.sg0 27 rfl (fun w => Vl.lenSl underlying28 rfl) rfl rfl (pp 1 rfl ?_)))))
        obtain ⟨⟨hq513, hq514⟩, h⟩ := h.req
        refine RP.sg 29 rfl rfl hS (fun w hS => Vl.indexOwn 1 hS rfl underlying28 sizeOf44 rfl rfl hq513 hq514) rfl rfl (RP.sg0 30 rfl (fun w => Vl.fieldAddr (a'' := (ad A291).add ((IntKind.i64.wrap ((y287.length : Int) - 1)).toNat * 5 + 0)) underlying44 rfl sizeOf42 rfl (add_add _ _ _)) rfl rfl (RP.sg 31 rfl rfl hS (fun w hS => Vl.loadA (vs := [.int .i64 (((nth y287 (IntKind.i64.wrap ((y287.length : Int) - 1))).Key).Time), .int .i64 (((nth y287 (IntKind.i64.wrap ((y287.length : Int) - 1))).Key).From), .int .i64 (((nth y287 (IntKind.i64.wrap ((y287.length : Int) - 1))).Key).Seq)]) isAgg42 sizeOf42 rfl rfl ((hS.slW 1 rfl).2.2.part (off := 0) hq513 hq514 rfl)) rfl rfl (pp 1 rfl (RP.v1 33 rfl (Vl.move rfl) rfl rfl (RP.v1 34 rfl (Vl.indexOwn 0 hS rfl underlying49 sizeOf53 rfl rfl hq508 hc484) rfl rfl (RP.v1 35 rfl (Vl.fieldAddr (a'' := (ad A283).add (x438.toNat * 7 + 0)) underlying53 rfl sizeOf42 rfl (add_add _ _ _)) rfl rfl (RP.v1 36 rfl (Vl.loadA (vs := [.int .i64 (((nth y281 x438).Key).Time), .int .i64 (((nth y281 x438).Key).From), .int .i64 (((nth y281 x438).Key).Seq)]) isAgg42 sizeOf42 rfl rfl ((hS.slW 0 rfl).2.2.part (off := 0) hq508 hc484 rfl)) rfl rfl ?_)))))))
        obtain ⟨t515, hg516, h⟩ := h.bind
        have hc := event_Compare.ok hg516 hS
        refine RP.e 37 rfl (OW.callF (ls := [.tmp 88, .tmp 93]) rfl call14 hc) rfl rfl ?_
        rintro _ w ⟨rfl, hS⟩
        refine ⟨fun _ => hS, ?_⟩
        refine RP.v1 38 rfl (Vl.int rfl rfl rfl) rfl rfl (RP.v1 39 rfl (Vl.pickT rfl rfl) rfl rfl (RP.v1 40 rfl (Vl.pickF rfl rfl) rfl rfl (RP.nil (RQ.then_n ?_))))
        refine RC.iteN 97 rfl h (fun hc517 h => ?_) fun hc517 h => ?_
        next =>
         refine RC.condF rfl (RC.skip (RQ.inB_n (RQ.then_n (RC.region (pn 3 rfl (RL.nil ?_))))))
         exact fun a ha => ⟨(IntKind.i64.wrap (x438 + 1)), ⟨(IntKind.i64.wrap (x438 + 1)), rfl, ha.to ⟨rfl, rfl, rfl, rfl, trivial⟩, hS⟩, h.some⟩
        next =>
         refine RC.condT rfl (sr (pn 1 rfl (lr (RQ.inB_ret (RQ.ret ?_)))))
         have h := h.inrS
         refine RQ.ret (RQ.inB_ret (RQ.ret ?_))
         obtain rfl := h.some
         exact rt results7 rfl ⟨rfl, hS.d0.d0.d0.d0.d0.d0.d0⟩
       next =>
        refine pp 1 rfl (RP.nn 24 rfl rfl rfl (pp 1 rfl (RP.nn 26 rfl rfl rfl (pp 2 rfl (RP.nn 29 rfl rfl rfl (pp 1 rfl (RP.nn 31 rfl rfl rfl (pp 1 rfl (RP.n1 33 rfl rfl rfl (RP.n1 34 rfl rfl rfl (RP.n1 35 rfl rfl rfl (RP.n1 36 rfl rfl rfl (RP.n1 37 rfl rfl rfl (RP.n1 38 rfl rfl rfl (RP.v1 39 rfl (Vl.pickF rfl rfl) rfl rfl ?_)))))))))))))))
        refine RP.v1 40 rfl (Vl.pickF rfl rfl) rfl rfl (RP.nil (RQ.then_n (RC.condF rfl (RC.skip (RQ.inB_n (RQ.then_n (RC.region (pn 3 rfl (RL.nil ?_)))))))))
        exact fun a ha => ⟨(IntKind.i64.wrap (x438 + 1)), ⟨(IntKind.i64.wrap (x438 + 1)), rfl, ha.to ⟨rfl, rfl, rfl, rfl, trivial⟩, hS⟩, h.some⟩
      next =>
       refine pp 1 rfl (RP.nn 19 rfl rfl rfl (pp 4 rfl (RP.nn 24 rfl rfl rfl (pp 1 rfl (RP.nn 26 rfl rfl rfl (pp 2 rfl (RP.nn 29 rfl rfl rfl (pp 1 rfl (RP.nn 31 rfl rfl rfl (pp 1 rfl (RP.n1 33 rfl rfl rfl (RP.n1 34 rfl rfl rfl (RP.n1 35 rfl rfl rfl (RP.n1 36 rfl rfl rfl (RP.n1 37 rfl rfl rfl ?_)))))))))))))))
       refine RP.n1 38 rfl rfl rfl (RP.n1 39 rfl rfl rfl (RP.v1 40 rfl (Vl.pickT rfl rfl) rfl rfl (RP.nil (RQ.then_n (RC.condT rfl (sr (pn 1 rfl (lr (RQ.inB_ret (RQ.ret ?_))))))))))
       have h := h.inrS
       refine RQ.ret (RQ.inB_ret (RQ.ret ?_))
       obtain rfl := h.some
       exact rt results7 rfl ⟨rfl, hS.d0.d0.d0.d0.d0.d0.d0⟩
     next =>
      refine pp 3 rfl (RP.nn 6 rfl rfl rfl (pp 1 rfl (RP.nn 8 rfl rfl rfl (pp 2 rfl (RP.nn 11 rfl rfl rfl (pp 1 rfl (RP.nn 13 rfl rfl rfl (RP.n1 14 rfl rfl rfl (pp 3 rfl (RP.sg0 18 rfl (fun w => Vl.fa 0 underlying31 rfl sizeOf28 rfl rfl) rfl rfl (RP.sg 19 rfl rfl hS (fun w hS => Vl.ld 6 hS isAgg28 rfl rfl rfl) rfl rfl (RP.sg0 20 rfl (fun w => Vl.lenSl underlying28 rfl) rfl rfl (pp 2 rfl ?_)))))))))))))
      refine RP.iteP 79 rfl h (fun hc518 h => ?_) fun hc518 h => ?_
      next =>
       refine RP.sg0 23 rfl (fun w => Vl.fa 0 underlying31 rfl sizeOf28 rfl rfl) rfl rfl (RP.sg 24 rfl rfl hS (fun w hS => Vl.ld 6 hS isAgg28 rfl rfl rfl) rfl rfl (RP.sg0 25 rfl (fun w => Vl.fa 0 underlying31 rfl sizeOf28 rfl rfl) rfl rfl (RP.sg 26 rfl rfl hS (fun w hS => Vl.ld 6 hS isAgg28 rfl rfl rfl) rfl rfl (RP.sg0 27 rfl (fun w => Vl.lenSl underlying28 rfl) rfl rfl (pp 1 rfl ?_)))))
       obtain ⟨⟨hq519, hq520⟩, h⟩ := h.req
       refine RP.sg 29 rfl rfl hS (fun w hS => Vl.indexOwn 1 hS rfl underlying28 sizeOf44 rfl rfl hq519 hq520) rfl rfl (RP.sg0 30 rfl (fun w => Vl.fieldAddr (a'' := (ad A291).add ((IntKind.i64.wrap ((y287.length : Int) - 1)).toNat * 5 + 0)) underlying44 rfl sizeOf42 rfl (add_add _ _ _)) rfl rfl (RP.sg 31 rfl rfl hS (fun w hS => Vl.loadA (vs := [.int .i64 (((nth y287 (IntKind.i64.wrap ((y287.length : Int) - 1))).Key).Time), .int .i64 (((nth y287 (IntKind.i64.wrap ((y287.length : Int) - 1))).Key).From), .int .i64 (((nth y287 (IntKind.i64.wrap ((y287.length : Int) - 1))).Key).Seq)]) isAgg42 sizeOf42 rfl rfl ((hS.slW 1 rfl).2.2.part (off := 0) hq519 hq520 rfl)) rfl rfl (pp 1 rfl (RP.v1 33 rfl (Vl.move rfl) rfl rfl ?_))))
       obtain ⟨hq521, h⟩ := h.req
       refine RP.v1 34 rfl (Vl.indexOwn 0 hS rfl underlying49 sizeOf53 rfl rfl hq521 hc484) rfl rfl (RP.v1 35 rfl (Vl.fieldAddr (a'' := (ad A283).add (x438.toNat * 7 + 0)) underlying53 rfl sizeOf42 rfl (add_add _ _ _)) rfl rfl (RP.v1 36 rfl (Vl.loadA (vs := [.int .i64 (((nth y281 x438).Key).Time), .int .i64 (((nth y281 x438).Key).From), .int .i64 (((nth y281 x438).Key).Seq)]) isAgg42 sizeOf42 rfl rfl ((hS.slW 0 rfl).2.2.part (off := 0) hq521 hc484 rfl)) rfl rfl ?_))
       obtain ⟨t522, hg523, h⟩ := h.bind
       have hc := event_Compare.ok hg523 hS
       refine RP.e 37 rfl (OW.callF (ls := [.tmp 88, .tmp 93]) rfl call14 hc) rfl rfl ?_
       rintro _ w ⟨rfl, hS⟩
       refine ⟨fun _ => hS, ?_⟩
       refine RP.v1 38 rfl (Vl.int rfl rfl rfl) rfl rfl (RP.v1 39 rfl (Vl.pickT rfl rfl) rfl rfl (RP.v1 40 rfl (Vl.pickF rfl rfl) rfl rfl (RP.nil (RQ.then_n ?_))))
       refine RC.iteN 97 rfl h (fun hc524 h => ?_) fun hc524 h => ?_
       next =>
        refine RC.condF rfl (RC.skip (RQ.inB_n (RQ.then_n (RC.region (pn 3 rfl (RL.nil ?_))))))
        exact fun a ha => ⟨(IntKind.i64.wrap (x438 + 1)), ⟨(IntKind.i64.wrap (x438 + 1)), rfl, ha.to ⟨rfl, rfl, rfl, rfl, trivial⟩, hS⟩, h.some⟩
       next =>
        refine RC.condT rfl (sr (pn 1 rfl (lr (RQ.inB_ret (RQ.ret ?_)))))
        have h := h.inrS
        refine RQ.ret (RQ.inB_ret (RQ.ret ?_))
        obtain rfl := h.some
        exact rt results7 rfl ⟨rfl, hS.d0.d0.d0.d0.d0.d0.d0⟩
      next =>
       refine pp 1 rfl (RP.nn 24 rfl rfl rfl (pp 1 rfl (RP.nn 26 rfl rfl rfl (pp 2 rfl (RP.nn 29 rfl rfl rfl (pp 1 rfl (RP.nn 31 rfl rfl rfl (pp 1 rfl (RP.n1 33 rfl rfl rfl (RP.n1 34 rfl rfl rfl (RP.n1 35 rfl rfl rfl (RP.n1 36 rfl rfl rfl (RP.n1 37 rfl rfl rfl (RP.n1 38 rfl rfl rfl (RP.v1 39 rfl (Vl.pickF rfl rfl) rfl rfl ?_)))))))))))))))
       refine RP.v1 40 rfl (Vl.pickF rfl rfl) rfl rfl (RP.nil (RQ.then_n (RC.condF rfl (RC.skip (RQ.inB_n (RQ.then_n (RC.region (pn 3 rfl (RL.nil ?_)))))))))
       exact fun a ha => ⟨(IntKind.i64.wrap (x438 + 1)), ⟨(IntKind.i64.wrap (x438 + 1)), rfl, ha.to ⟨rfl, rfl, rfl, rfl, trivial⟩, hS⟩, h.some⟩
    next =>
     refine RC.condF rfl (RC.exit (RQ.exitT ?_))
     have h := h.inr
     refine RQ.exitT (RQ.inB_hit (RQ.then_n (RC.seq (sr (RL.s (Vl.fa 0 underlying31 rfl sizeOf28 rfl rfl) rfl (RL.s (Vl.ld 5 hS isAgg28 rfl rfl rfl) rfl (RL.s (Vl.lenSl underlying28 rfl) rfl (RL.s (Vl.fa 0 underlying31 rfl sizeOf28 rfl rfl) rfl (RL.s (Vl.ld 6 hS isAgg28 rfl rfl rfl) rfl (RL.s (Vl.lenSl underlying28 rfl) rfl (pn 1 rfl (ln ?_))))))))))))
     refine RC.iteP 104 rfl h (fun hc529 h => ?_) fun hc529 h => ?_
     next =>
      refine RC.condT rfl (sr (RL.s (Vl.fa 0 underlying31 rfl sizeOf28 rfl rfl) rfl (RL.s (Vl.ld 5 hS isAgg28 rfl rfl rfl) rfl (RL.s (Vl.lenSl underlying28 rfl) rfl (RL.s (Vl.fa 0 underlying31 rfl sizeOf28 rfl rfl) rfl (RL.s (Vl.ld 6 hS isAgg28 rfl rfl rfl) rfl (RL.s (Vl.lenSl underlying28 rfl) rfl (pn 2 rfl ?_))))))))
      refine RL.iteP 112 rfl h (fun hc530 h => ?_) fun hc530 h => ?_
      next =>
       refine cF (fun _ hg => isochronlaw14vawake.ok hG0 hg hS) call12 h rfl rfl rfl ?_
       rintro t531 h _ w ⟨rfl, hS⟩
       refine pn 2 rfl (lr (RQ.ret ?_))
       obtain rfl := h.some
       exact rt results7 rfl ⟨rfl, hS.d0.d0.d0.d0.d0.d0.d0⟩
      next =>
       refine pn 3 rfl (lr (RQ.ret ?_))
       obtain rfl := h.some
       exact rt results7 rfl ⟨rfl, hS.d0.d0.d0.d0.d0.d0.d0⟩
     next =>
      refine RC.condF rfl (sk (RC.seq (RC.planS (plD [0, 3, 6, 9, 12, 16, 18, 22, 24, 28, 30, 34, 38, 41, 44, 47, 50, 53, 56]) [16, 17, 18] hS (fun w hS => hS) follows rfl (by kernel_rfl) (NoTmp.then NoTmp.body) fun w hS => pp 1 rfl (RP.s0 1 rfl (fun w => Vl.lenSl underlying49 rfl) rfl (pp 2 rfl ?_)))))
      refine RP.iteP 118 rfl h (fun hc533 h => ?_) fun hc533 h => ?_
      next =>
       refine RP.sg0 4 rfl (fun w => Vl.fa 0 underlying31 rfl sizeOf28 rfl rfl) rfl rfl (RP.sg 5 rfl rfl hS (fun w hS => Vl.ld 5 hS isAgg28 rfl rfl rfl) rfl rfl (RP.sg0 6 rfl (fun w => Vl.fa 0 underlying31 rfl sizeOf28 rfl rfl) rfl rfl (RP.sg 7 rfl rfl hS (fun w hS => Vl.ld 6 hS isAgg28 rfl rfl rfl) rfl rfl (RP.sg0 8 rfl (fun w => Vl.lenSl underlying28 rfl) rfl rfl ?_))))
       obtain ⟨⟨hq534, hq535⟩, h⟩ := h.req
       refine RP.sg 9 rfl rfl hS (fun w hS => Vl.indexOwn 3 hS rfl underlying28 sizeOf44 rfl rfl hq534 hq535) rfl rfl (RP.sg0 10 rfl (fun w => Vl.fieldAddr (a'' := (ad A302).add ((y287.length : Int).toNat * 5 + 0)) underlying44 rfl sizeOf42 rfl (add_add _ _ _)) rfl rfl (RP.sg 11 rfl rfl hS (fun w hS => Vl.loadA (vs := [.int .i64 (((nth y298 (y287.length : Int)).Key).Time), .int .i64 (((nth y298 (y287.length : Int)).Key).From), .int .i64 (((nth y298 (y287.length : Int)).Key).Seq)]) isAgg42 sizeOf42 rfl rfl ((hS.slW 3 rfl).2.2.part (off := 0) hq534 hq535 rfl)) rfl rfl (RP.v1 12 rfl (Vl.move rfl) rfl rfl (RP.v1 13 rfl (Vl.indexOwn 0 hS rfl underlying49 sizeOf53 rfl rfl (by decide) hc533) rfl rfl (RP.v1 14 rfl (Vl.fieldAddr (a'' := (ad A283).add ((0 : Int).toNat * 7 + 0)) underlying53 rfl sizeOf42 rfl (add_add _ _ _)) rfl rfl (RP.v1 15 rfl (Vl.loadA (vs := [.int .i64 (((nth y281 0).Key).Time), .int .i64 (((nth y281 0).Key).From), .int .i64 (((nth y281 0).Key).Seq)]) isAgg42 sizeOf42 rfl rfl ((hS.slW 0 rfl).2.2.part (off := 0) (by decide) hc533 rfl)) rfl rfl (RP.v1 16 rfl (Vl.eqlS (run_eql_api_Key _ _ ((nth y298 (y287.length : Int)).Key) ((nth y281 0).Key)) rfl rfl) rfl rfl (RP.v1 17 rfl (Vl.pickT rfl rfl) rfl rfl (RP.v1 18 rfl (Vl.assign rfl) rfl rfl (RP.nil (tr ?_)))))))))))
       obtain rfl := h.some
       exact rt results7 rfl ⟨rfl, hS.d0.d0.d0.d0.d0.d0.d0⟩
      next =>
       refine pp 1 rfl (RP.nn 5 rfl rfl rfl (pp 1 rfl (RP.nn 7 rfl rfl rfl (pp 1 rfl (RP.nn 9 rfl rfl rfl (pp 1 rfl (RP.nn 11 rfl rfl rfl (RP.n1 12 rfl rfl rfl (RP.n1 13 rfl rfl rfl (RP.n1 14 rfl rfl rfl (RP.n1 15 rfl rfl rfl (RP.n1 16 rfl rfl rfl (RP.v1 17 rfl (Vl.pickF rfl rfl) rfl rfl (RP.v1 18 rfl (Vl.assign rfl) rfl rfl (RP.nil ?_)))))))))))))))
       refine tr ?_
       obtain rfl := h.some
       exact rt results7 rfl ⟨rfl, hS.d0.d0.d0.d0.d0.d0.d0⟩
   next =>
    refine RC.condT rfl (sr (pn 4 rfl ?_))
    refine RL.iteP 43 rfl h (fun hc536 h => ?_) fun hc536 h => ?_
    next =>
     refine pn 1 rfl (RL.sg (Vl.lenSl underlying49 rfl) rfl rfl (pn 3 rfl ?_))
     refine RL.iteP 48 rfl h (fun hc537 h => ?_) fun hc537 h => ?_
     next =>
      refine cF (fun _ hg => isochronlaw14vawake.ok hG0 hg hS) call12 h rfl rfl rfl ?_
      rintro t538 h _ w ⟨rfl, hS⟩
      refine pn 2 rfl (lr (RQ.ret ?_))
      obtain rfl := h.some
      exact rt results7 rfl ⟨rfl, hS.d0.d0.d0.d0.d0.d0.d0.d0⟩
     next =>
      refine pn 3 rfl (lr (RQ.ret ?_))
      obtain rfl := h.some
      exact rt results7 rfl ⟨rfl, hS.d0.d0.d0.d0.d0.d0.d0.d0⟩
    next =>
     refine pn 8 rfl (lr (RQ.ret ?_))
     obtain rfl := h.some
     exact rt results7 rfl ⟨rfl, hS.d0.d0.d0.d0.d0.d0.d0.d0⟩
  next =>
   refine pn 3 rfl (ln (RC.condT rfl (sr (pn 4 rfl ?_))))
   refine RL.iteP 43 rfl h (fun hc540 h => ?_) fun hc540 h => ?_
   next =>
    refine pn 1 rfl (RL.sg (Vl.lenSl underlying49 rfl) rfl rfl (pn 3 rfl ?_))
    refine RL.iteP 48 rfl h (fun hc541 h => ?_) fun hc541 h => ?_
    next =>
     refine cF (fun _ hg => isochronlaw14vawake.ok hG0 hg hS) call12 h rfl rfl rfl ?_
     rintro t542 h _ w ⟨rfl, hS⟩
     refine pn 2 rfl (lr (RQ.ret ?_))
     obtain rfl := h.some
     exact rt results7 rfl ⟨rfl, hS.d0.d0.d0.d0.d0.d0.d0.d0⟩
    next =>
     refine pn 3 rfl (lr (RQ.ret ?_))
     obtain rfl := h.some
     exact rt results7 rfl ⟨rfl, hS.d0.d0.d0.d0.d0.d0.d0.d0⟩
   next =>
    refine pn 8 rfl (lr (RQ.ret ?_))
    obtain rfl := h.some
    exact rt results7 rfl ⟨rfl, hS.d0.d0.d0.d0.d0.d0.d0.d0⟩

end Go.Proofs.Gx
