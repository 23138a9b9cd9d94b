/-
  The walks of functions, each with what it computes: printed by wip/gx.py.
-/
import Derived.Test.YtofgeidjbfmmdaaGreatDoorW0
import Derived.Test.YtofgeidjbfmmdaaGreatDoorW10
import Derived.Test.YtofgeidjbfmmdaaGreatDoorW11
import Derived.Test.YtofgeidjbfmmdaaGreatDoorW13
import Derived.Test.YtofgeidjbfmmdaaGreatDoorW9
set_option linter.unusedVariables false
set_option maxRecDepth 100000
set_option maxHeartbeats 4000000
namespace Go.Proofs.Gx
open Go.Sl Tryz
variable {B : Base} {w : World} {l : List HProp} {hf : Hp}
/-! ### (*isochron/isochronref14.one).step: function 40 -/
noncomputable def isochronref14vone_step.l6b (a24 : List api_State) (a27 : List api_Message) (a30 : List api_Done) (x356 x357 x358 x359 x360 x361 x362 x363 x364 x365 : Int) : List api_Message × List api_Message × Int → Option ((List api_Message × List api_Message × Int) ⊕ (Int × List api_State × List api_Message × List api_Done))
  | (l514, l517, x520) => (if x520 < (l517.length : Int) then (if 0 ≤ x520 then (if x520 < ((setL l517 x520 (⟨(nth l517 x520).Key, (nth l517 x520).To, (nth l517 x520).Value, 0, ((nth l517 x520).Anti)⟩ : api_Message)).length : Int) then ((isochronref02vInsert.f l514 (⟨(nth (setL l517 x520 (⟨(nth l517 x520).Key, (nth l517 x520).To, (nth l517 x520).Value, 0, ((nth l517 x520).Anti)⟩ : api_Message)) x520).Key, (nth (setL l517 x520 (⟨(nth l517 x520).Key, (nth l517 x520).To, (nth l517 x520).Value, 0, ((nth l517 x520).Anti)⟩ : api_Message)) x520).To, (nth (setL l517 x520 (⟨(nth l517 x520).Key, (nth l517 x520).To, (nth l517 x520).Value, 0, ((nth l517 x520).Anti)⟩ : api_Message)) x520).Value, (nth (setL l517 x520 (⟨(nth l517 x520).Key, (nth l517 x520).To, (nth l517 x520).Value, 0, ((nth l517 x520).Anti)⟩ : api_Message)) x520).Uid, ((nth (setL l517 x520 (⟨(nth l517 x520).Key, (nth l517 x520).To, (nth l517 x520).Value, 0, ((nth l517 x520).Anti)⟩ : api_Message)) x520).Anti)⟩ : api_Message)).bind fun t573 => some (.inl (t573, (setL l517 x520 (⟨(nth l517 x520).Key, (nth l517 x520).To, (nth l517 x520).Value, 0, ((nth l517 x520).Anti)⟩ : api_Message)), IntKind.i64.wrap (x520 + 1)))) else none) else none) else (Option.map Sum.inr (if (a30.length + 1) * 40 ≤ 140737488355328 then some (0, (setL a24 ((nth a27 0).To) (⟨(⟨x356, x357, x358, x359, x360, x361, x362, x363⟩ : Arr8xInti64), x364, x365⟩ : api_State)), l514, (a30 ++ ([(⟨(nth a27 0).Key, (nth a27 0).To, (nth a27 0).Value⟩ : api_Done)]))) else none)))
noncomputable def isochronref14vone_step.l6 (a24 : List api_State) (a27 : List api_Message) (a30 : List api_Done) (x356 x357 x358 x359 x360 x361 x362 x363 x364 x365 : Int) (s : List api_Message × List api_Message × Int) : Option (Int × List api_State × List api_Message × List api_Done) := loopR (isochronref14vone_step.l6b a24 a27 a30 x356 x357 x358 x359 x360 x361 x362 x363 x364 x365) s
noncomputable def isochronref14vone_step.j4 (a19 : List api_World) (a24 : List api_State) (a27 : List api_Message) (a30 : List api_Done) (x356 x357 x358 x359 x360 x361 x362 x363 x364 x365 : Int) (l366 : List api_Out) (x369 : Int) : Option (Int × List api_State × List api_Message × List api_Done) := (if x369 = 10 then some (2, a24, a27, a30) else (if x369 = 0 then (if 0 ≤ (nth a27 0).To ∧ (nth a27 0).To < (a19.length : Int) then (if (nth a27 0).To < (a24.length : Int) then ((isochronref05vSends.f (nth a19 ((nth a27 0).To)) (nth a24 ((nth a27 0).To)) (⟨(nth a27 0).Key, (nth a27 0).To, (nth a27 0).Value, (nth a27 0).Uid, ((nth a27 0).Anti)⟩ : api_Message) l366 0).bind fun t388 => (if 1 ≤ (a27.length : Int) then isochronref14vone_step.l6 a24 a27 a30 x356 x357 x358 x359 x360 x361 x362 x363 x364 x365 ((subL a27 1 (a27.length : Int)), t388, 0) else none)) else none) else none) else some (3, a24, a27, a30)))
noncomputable def isochronref14vone_step.f (a2 : List (List api_Instr)) (a6 : List api_Link) (a10 : List api_Start) (a14 a15 a16 : Int) (a19 : List api_World) (a24 : List api_State) (a27 : List api_Message) (a30 : List api_Done) : Option (Int × List api_State × List api_Message × List api_Done) := (if (a27.length : Int) = 0 then some (1, a24, a27, a30) else (if 0 < (a27.length : Int) then (if a15 < ((nth a27 0).Key).Time then some (1, a24, a27, a30) else (if a16 ≤ (a30.length : Int) then some (4, a24, a27, a30) else (if 0 ≤ (nth a27 0).To ∧ (nth a27 0).To < (a19.length : Int) then (if (nth a27 0).To < (a24.length : Int) then ((isochronref05vRun.f (nth a19 ((nth a27 0).To)) (nth a24 ((nth a27 0).To)) (⟨(nth a27 0).Key, (nth a27 0).To, (nth a27 0).Value, (nth a27 0).Uid, ((nth a27 0).Anti)⟩ : api_Message)).bind fun (y595, y596, y597) => isochronref14vone_step.j4 a19 a24 a27 a30 y595.Regs.c0 y595.Regs.c1 y595.Regs.c2 y595.Regs.c3 y595.Regs.c4 y595.Regs.c5 y595.Regs.c6 y595.Regs.c7 y595.Draws y595.Sent y596 y597) else none) else none))) else none))
theorem isochronref14vone_step.ok {a2 : List (List api_Instr)} {a6 : List api_Link} {a10 : List api_Start} {a14 a15 a16 : Int} {a19 : List api_World} {a24 : List api_State} {a27 : List api_Message} {a30 : List api_Done} {b1 : Nat} {A3 : Option Addr} {c4 : Nat} {A7 : Option Addr} {c8 : Nat} {A11 : Option Addr} {c12 : Nat} {A17 : Option Addr} {c18 : Nat} {cs20 : List Value} {A22 : Option Addr} {c23 : Nat} {A25 : Option Addr} {c26 : Nat} {A28 : Option Addr} {c29 : Nat} (hr5 : SlR (Rep.sl E_api_Instr.rep) hf A3 c4 a2) (hr9 : SlR E_api_Link.rep hf A7 c8 a6) (hr13 : SlR E_api_Start.rep hf A11 c12 a10) (hx21 : RepL R_api_World hf cs20 a19) {r : Int × List api_State × List api_Message × List api_Done} (h : isochronref14vone_step.f a2 a6 a10 a14 a15 a16 a19 a24 a27 a30 = some r) (hS : St B w (Cl b1 [.slice A3 a2.length c4, .slice A7 a6.length c8, .slice A11 a10.length c12, .int .u64 a14, .int .i64 a15, .int .i64 a16, .slice A17 a19.length c18, .slice A22 a24.length c23, .slice A25 a27.length c26, .slice A28 a30.length c29] 71 :: OSl 124 4 (.slice A17 a19.length c18) a19.length cs20 :: OSf E_api_State 105 (.slice A22 a24.length c23) a24 :: OSf E_api_Message 53 (.slice A25 a27.length c26) a27 :: OSf E_api_Done 44 (.slice A28 a30.length c29) a30 :: l) hf) :
    Calls prog 40 #[.pointer (some ⟨b1, 0, none⟩)] w (Ret fun v w => ∃ (A_1 : Option Addr) (c_2 : Nat) (A_3 : Option Addr) (c_4 : Nat) (A_5 : Option Addr) (c_6 : Nat), v = .int .i64 r.1 ∧ St B w (OSf E_api_State 105 (.slice A_1 r.2.1.length c_2) r.2.1 :: OSf E_api_Message 53 (.slice A_3 r.2.2.1.length c_4) r.2.2.1 :: OSf E_api_Done 44 (.slice A_5 r.2.2.2.length c_6) r.2.2.2 :: Cl b1 [.slice A3 a2.length c4, .slice A7 a6.length c8, .slice A11 a10.length c12, .int .u64 a14, .int .i64 a15, .int .i64 a16, .slice A17 a19.length c18, .slice A_1 r.2.1.length c_2, .slice A_3 r.2.2.1.length c_4, .slice A_5 r.2.2.2.length c_6] 71 :: OSl 124 4 (.slice A17 a19.length c18) a19.length cs20 :: l) hf) := by
  have h := Holds.of h
  refine en func40 rfl ntmps40 rfl (sr (pn 1 rfl (ln (RC.seq (RC.seq (RC.planS (plD [0, 3, 6, 10, 12, 15, 18, 21, 24, 27, 31, 34, 36, 39, 43, 47, 50, 53, 56, 59, 62, 65]) [20, 21] hS (fun w hS => hS) follows rfl (by kernel_rfl) (NoTmp.then (NoTmp.then NoTmp.body)) fun w hS => pp 2 rfl (RP.s0 2 rfl (fun w => Vl.fa 8 underlying71 rfl sizeOf49 rfl rfl) rfl (RP.s 3 rfl rfl hS (fun w hS => Vl.ld 0 hS isAgg49 rfl rfl rfl) rfl (RP.s0 4 rfl (fun w => Vl.lenSl underlying49 rfl) rfl (pp 2 rfl ?_))))))))))
  refine RP.iteP 15 rfl h (fun hc323 h => ?_) fun hc323 h => ?_
  next =>
   refine pp 3 rfl (RP.nn 10 rfl rfl rfl (RP.nn 11 rfl rfl rfl (pp 2 rfl (RP.nn 14 rfl rfl rfl (RP.n1 15 rfl rfl rfl (RP.n1 16 rfl rfl rfl (RP.n1 17 rfl rfl rfl (RP.n1 18 rfl rfl rfl (RP.n1 19 rfl rfl rfl (RP.n1 20 rfl rfl rfl (RP.v1 21 rfl (Vl.pickT rfl rfl) rfl rfl (RP.nil (RQ.then_n (RC.condT rfl (RC.seq ?_)))))))))))))))
   refine RC.region (pn 1 rfl (lr (RQ.ret ?_)))
   obtain rfl := h.some
   exact rt results40 rfl ⟨A22, c23, A25, c26, A28, c29, rfl, hS.p4.p4.p4⟩
  next =>
   refine pp 2 rfl (RP.sg0 9 rfl (fun w => Vl.fa 8 underlying71 rfl sizeOf49 rfl rfl) rfl rfl (RP.sg 10 rfl rfl hS (fun w hS => Vl.ld 0 hS isAgg49 rfl rfl rfl) rfl rfl ?_))
   obtain ⟨hq324, h⟩ := h.req
   refine RP.sg 11 rfl rfl hS (fun w hS => Vl.indexOwn 3 hS rfl underlying49 sizeOf53 rfl rfl (by decide) hq324) rfl rfl (RP.sg0 12 rfl (fun w => Vl.fieldAddr (a'' := (ad A25).add ((0 : Int).toNat * 7 + 0)) underlying53 rfl sizeOf42 rfl (add_add _ _ _)) rfl rfl (RP.sg0 13 rfl (fun w => Vl.fieldAddr (a'' := (ad A25).add ((0 : Int).toNat * 7 + 0)) underlying42 rfl sizeOf2 rfl (add_add _ _ _)) rfl rfl (RP.sg 14 rfl rfl hS (fun w hS => Vl.load isAgg2 rfl ((hS.slW 3 rfl).2.2.cell (j := 0) (by decide) hq324 rfl)) rfl rfl (RP.v1 15 rfl (Vl.move rfl) rfl rfl (RP.v1 16 rfl (Vl.nilCheck rfl) rfl rfl (RP.v1 17 rfl (Vl.fa 0 underlying71 rfl sizeOf27 rfl rfl) rfl rfl (RP.v1 18 rfl (Vl.fa 4 underlying27 rfl sizeOf2 rfl rfl) rfl rfl (RP.v1 19 rfl (Vl.ld 0 hS isAgg2 rfl rfl rfl) rfl rfl (RP.v1 20 rfl (Vl.int rfl rfl rfl) rfl rfl (RP.v1 21 rfl (Vl.pickF rfl rfl) rfl rfl (RP.nil (RQ.then_n ?_))))))))))))
   refine RC.iteP 30 rfl h (fun hc325 h => ?_) fun hc325 h => ?_
   next =>
    refine RC.condT rfl (sr (pn 1 rfl (lr (RQ.ret ?_))))
    obtain rfl := h.some
    exact rt results40 rfl ⟨A22, c23, A25, c26, A28, c29, rfl, hS.p4.p4.p4⟩
   next =>
    refine RC.condF rfl (sk (RC.seq (RC.seq (RC.planS (plD [0, 3, 6, 10, 12, 17, 20, 23, 26, 29, 32]) [10] hS (fun w hS => hS) follows rfl (by kernel_rfl) (NoTmp.then (NoTmp.then NoTmp.body)) fun w hS => pp 2 rfl (RP.s0 2 rfl (fun w => Vl.fa 9 underlying71 rfl sizeOf28 rfl rfl) rfl (RP.s 3 rfl rfl hS (fun w hS => Vl.ld 0 hS isAgg28 rfl rfl rfl) rfl (RP.s0 4 rfl (fun w => Vl.lenSl underlying28 rfl) rfl (RP.v1 5 rfl (Vl.move rfl) rfl rfl (RP.v1 6 rfl (Vl.nilCheck rfl) rfl rfl (RP.v1 7 rfl (Vl.fa 0 underlying71 rfl sizeOf27 rfl rfl) rfl rfl (RP.v1 8 rfl (Vl.fa 5 underlying27 rfl sizeOf3 rfl rfl) rfl rfl (RP.v1 9 rfl (Vl.ld 0 hS isAgg3 rfl rfl rfl) rfl rfl (RP.v1 10 rfl (Vl.int rfl rfl rfl) rfl rfl ?_)))))))))))))
    refine RP.nil (RQ.then_n ?_)
    refine RC.iteP 41 rfl h (fun hc327 h => ?_) fun hc327 h => ?_
    next =>
     refine RC.condT rfl (sr (pn 1 rfl (lr (RQ.ret ?_))))
     obtain rfl := h.some
     exact rt results40 rfl ⟨A22, c23, A25, c26, A28, c29, rfl, hS.p4.p4.p4⟩
    next =>
     refine RC.condF rfl (sk (sr (pn 2 rfl (RL.s (Vl.fa 8 underlying71 rfl sizeOf49 rfl rfl) rfl (RL.s (Vl.ld 0 hS isAgg49 rfl rfl rfl) rfl (RL.s (Vl.indexOwn 3 hS rfl underlying49 sizeOf53 rfl rfl (by decide) hq324) rfl (RL.s (Vl.loadA isAgg53 sizeOf53 rfl rfl ((hS.slW 3 rfl).2.2.cells (by decide) hq324)) rfl (al hS zeroValue53 rfl rfl rfl fun b328 w hS => RL.e0 (OW.store (vs := [.int .i64 (((nth a27 0).Key).Time), .int .i64 (((nth a27 0).Key).From), .int .i64 (((nth a27 0).Key).Seq), .int .i64 ((nth a27 0).To), .int .i64 ((nth a27 0).Value), .int .i64 ((nth a27 0).Uid), .bool ((nth a27 0).Anti)]) 0 hS rfl rfl rfl rfl sizeOf53 rfl rfl rfl rfl) rfl ?_))))))))
     rintro _ w ⟨rfl, hS⟩
     have hS : St B w (Cl _ [_, _, _, _, _, _, _] _ :: _ :: _ :: _ :: _ :: _ :: l) hf := hS
     refine ln ?_
     refine RC.join (fun (s : Int × Int × Int × Int × Int × Int × Int × Int × Int × Int × List api_Out × Int) a w => ∃ (x356 : Int) (x357 : Int) (x358 : Int) (x359 : Int) (x360 : Int) (x361 : Int) (x362 : Int) (x363 : Int) (x364 : Int) (x365 : Int) (l366 : List api_Out) (x369 : Int), s = (x356, x357, x358, x359, x360, x361, x362, x363, x364, x365, l366, x369) ∧ ∃ (b355 : Nat) (A367 : Option Addr) (c368 : Nat), Has 147 [(0, .pointer (some ⟨b1, 0, none⟩)), (3, .pointer (some ⟨b328, 0, none⟩)), (4, .pointer (some ⟨b355, 0, none⟩)), (5, .slice A367 l366.length c368), (6, .int .i64 x369)] a ∧ St B w (OSl 124 4 (.slice A17 a19.length c18) a19.length cs20 :: OSf E_api_State 105 (.slice A22 a24.length c23) a24 :: OSf E_api_Message 53 (.slice A25 a27.length c26) a27 :: OSf E_api_Done 44 (.slice A28 a30.length c29) a30 :: OSf E_api_Out 176 (.slice A367 l366.length c368) l366 :: Cl b328 [.int .i64 (((nth a27 0).Key).Time), .int .i64 (((nth a27 0).Key).From), .int .i64 (((nth a27 0).Key).Seq), .int .i64 ((nth a27 0).To), .int .i64 ((nth a27 0).Value), .int .i64 ((nth a27 0).Uid), .bool ((nth a27 0).Anti)] 53 :: Cl b1 [.slice A3 a2.length c4, .slice A7 a6.length c8, .slice A11 a10.length c12, .int .u64 a14, .int .i64 a15, .int .i64 a16, .slice A17 a19.length c18, .slice A22 a24.length c23, .slice A25 a27.length c26, .slice A28 a30.length c29] 71 :: Cl b355 [.int .i64 x356, .int .i64 x357, .int .i64 x358, .int .i64 x359, .int .i64 x360, .int .i64 x361, .int .i64 x362, .int .i64 x363, .int .i64 x364, .int .i64 x365] 105 :: l) hf ∧ Holds (· = r) (isochronref14vone_step.j4 a19 a24 a27 a30 x356 x357 x358 x359 x360 x361 x362 x363 x364 x365 l366 x369)) ?_ ?_
     · rintro _ a w ⟨x356, x357, x358, x359, x360, x361, x362, x363, x364, x365, l366, x369, rfl, b355, A367, c368, ha, hS, h⟩
       revert a
       show RC _ _ _ _ _ _
       refine RC.seq (sr (pn 2 rfl (ln ?_)))
       refine RC.iteP 71 rfl h (fun hc371 h => ?_) fun hc371 h => ?_
       next =>
        refine RC.condT rfl (sr (pn 1 rfl (lr (RQ.ret ?_))))
        obtain rfl := h.some
        exact rt results40 rfl ⟨A22, c23, A25, c26, A28, c29, rfl, hS.d4.d4.d5.p4.p4.p4.p4⟩
       next =>
        refine RC.condF rfl (sk (RC.seq (sr (pn 2 rfl (ln ?_)))))
        refine RC.iteN 73 rfl h (fun hc373 h => ?_) fun hc373 h => ?_
        next =>
         refine RC.condF rfl (sk (RC.seq (RC.planS (plD [0, 3, 6, 10, 12, 16, 19, 22, 24, 27, 30, 34, 36, 40, 43, 46, 49, 53, 56, 59]) [18, 19] hS (fun w hS => hS) follows rfl (by kernel_rfl) (NoTmp.then NoTmp.body) fun w hS => pp 2 rfl (RP.s0 2 rfl (fun w => Vl.fa 6 underlying71 rfl sizeOf60 rfl rfl) rfl (RP.s 3 rfl rfl hS (fun w hS => Vl.ld 6 hS isAgg60 rfl rfl rfl) rfl (RP.s0 4 rfl (fun w => Vl.fa 3 underlying53 rfl sizeOf3 rfl rfl) rfl (RP.s 5 rfl rfl hS (fun w hS => Vl.ld 5 hS isAgg3 rfl rfl rfl) rfl ?_)))))))
         obtain ⟨⟨hq374, hq375⟩, h⟩ := h.req
         refine RP.s 6 rfl rfl hS (fun w hS => Vl.indexOwn 0 hS rfl underlying60 sizeOf124 rfl rfl hq374 hq375) rfl ?_
         obtain ⟨_, ⟨A377, c378, A380, c381, rfl, hr379, hr382⟩, hl376⟩ := RepL.elem R_api_World_ok hx21 hq374 hq375
         refine RP.s 7 rfl rfl hS (fun w hS => Vl.loadA (vs := [.slice A377 ((nth a19 ((nth a27 0).To)).Prog).length c378, .int .i64 ((nth a19 ((nth a27 0).To)).Self), .slice A380 ((nth a19 ((nth a27 0).To)).Links).length c381, .int .u64 ((nth a19 ((nth a27 0).To)).Seed)]) isAgg124 sizeOf124 rfl rfl (hS.elemCells 0 rfl hl376 (off := 0) rfl)) rfl (pp 2 rfl (RP.s0 10 rfl (fun w => Vl.fa 7 underlying71 rfl sizeOf29 rfl rfl) rfl (RP.s 11 rfl rfl hS (fun w hS => Vl.ld 6 hS isAgg29 rfl rfl rfl) rfl (RP.s0 12 rfl (fun w => Vl.fa 3 underlying53 rfl sizeOf3 rfl rfl) rfl (RP.s 13 rfl rfl hS (fun w hS => Vl.ld 5 hS isAgg3 rfl rfl rfl) rfl ?_)))))
         obtain ⟨hq383, h⟩ := h.req
         refine RP.s 14 rfl rfl hS (fun w hS => Vl.indexOwn 1 hS rfl underlying29 sizeOf105 rfl rfl hq374 hq383) rfl (RP.s 15 rfl rfl hS (fun w hS => Vl.loadA isAgg105 sizeOf105 rfl rfl ((hS.slW 1 rfl).2.2.cells hq374 hq383)) rfl (RP.s 16 rfl rfl hS (fun w hS => Vl.lw 5 hS isAgg53 sizeOf53 rfl rfl rfl) rfl (RP.v1 17 rfl (Vl.move rfl) rfl rfl ?_)))
         obtain ⟨hf387, hs385, hS, hr384, hb386⟩ := St.lendSl hS.p4
         obtain ⟨t388, hg389, h⟩ := h.bind
         have hc := isochronref05vSends.ok (hr379.mono hs385) (hr382.mono hs385) hr384 hg389 hS
         refine RP.e 18 rfl (OW.callF (ls := [.tmp 81, .tmp 89, .tmp 90, .tmp 91, .const (.int .i64 0)]) rfl call65 hc) rfl rfl ?_
         rintro _ w ⟨A390, c391, rfl, hS⟩
         have hS := hb386 _ _ hS
         have hS : St B w (_ :: _ :: _ :: _ :: _ :: _ :: _ :: _ :: _ :: l) hf := hS
         refine ⟨(by intro hx; cases hx), ?_⟩
         refine RP.v1 19 rfl (Vl.assign rfl) rfl rfl (RP.nil (tsr (pn 3 rfl (RL.s (Vl.fa 8 underlying71 rfl sizeOf49 rfl rfl) rfl (RL.s (Vl.ld 7 hS isAgg49 rfl rfl rfl) rfl ?_)))))
         obtain ⟨hq392, h⟩ := h.req
         refine RL.s (Vl.sliceLO (xs := a27) 4 hS rfl underlying49 sizeOf53 rfl rfl  (by decide) hq392) rfl (pn 1 rfl (RL.s (Vl.fa 8 underlying71 rfl sizeOf49 rfl rfl) rfl ?_))
         have hS : St B w (_ :: _ :: _ :: _ :: _ :: _ :: _ :: _ :: _ :: l) hf := hS.part1 4 rfl (by decide) hq392 rfl
         refine RL.e0 (OW.store (vs := [.slice (subA A25 c26 (1 : Int).toNat 7) (subL a27 1 (a27.length : Int)).length (c26 - (1 : Int).toNat)]) 7 hS rfl rfl rfl rfl sizeOf49 rfl rfl rfl rfl) rfl ?_
         rintro _ w ⟨rfl, hS⟩
         have hS : St B w (_ :: _ :: _ :: _ :: _ :: _ :: _ :: Cl _ [_, _, _, _, _, _, _, _, _, _] _ :: _ :: l) hf := hS
         refine ln (RC.seq (sr (pn 1 rfl (ln (RC.block ?_)))))
         refine fun a ha => RC.loop (N := 147) (body := (isochronref14vone_step.l6b a24 a27 a30 x356 x357 x358 x359 x360 x361 x362 x363 x364 x365)) (φ := (· = r)) (fun (s : List api_Message × List api_Message × Int) a w => ∃ (l514 : List api_Message) (l517 : List api_Message) (x520 : Int), s = (l514, l517, x520) ∧ ∃ (A515 : Option Addr) (c516 : Nat) (A518 : Option Addr) (c519 : Nat), Has 147 [(0, .pointer (some ⟨b1, 0, none⟩)), (3, .pointer (some ⟨b328, 0, none⟩)), (4, .pointer (some ⟨b355, 0, none⟩)), (7, .slice A518 l517.length c519), (8, .int .i64 x520)] a ∧ St B w (OSl 124 4 (.slice A17 a19.length c18) a19.length cs20 :: OSf E_api_State 105 (.slice A22 a24.length c23) a24 :: OSf E_api_Message 53 (.slice A515 l514.length c516) l514 :: OSf E_api_Done 44 (.slice A28 a30.length c29) a30 :: OSf E_api_Message 53 (.slice A518 l517.length c519) l517 :: Cl b328 [.int .i64 (((nth a27 0).Key).Time), .int .i64 (((nth a27 0).Key).From), .int .i64 (((nth a27 0).Key).Seq), .int .i64 ((nth a27 0).To), .int .i64 ((nth a27 0).Value), .int .i64 ((nth a27 0).Uid), .bool ((nth a27 0).Anti)] 53 :: Cl b1 [.slice A3 a2.length c4, .slice A7 a6.length c8, .slice A11 a10.length c12, .int .u64 a14, .int .i64 a15, .int .i64 a16, .slice A17 a19.length c18, .slice A22 a24.length c23, .slice A515 l514.length c516, .slice A28 a30.length c29] 71 :: Cl b355 [.int .i64 x356, .int .i64 x357, .int .i64 x358, .int .i64 x359, .int .i64 x360, .int .i64 x361, .int .i64 x362, .int .i64 x363, .int .i64 x364, .int .i64 x365] 105 :: l) hf) ?_ (s0 := ((subL a27 1 (a27.length : Int)), t388, 0)) h ⟨(subL a27 1 (a27.length : Int)), t388, 0, rfl, (subA A25 c26 (1 : Int).toNat 7), (c26 - (1 : Int).toNat), A390, c391, ha.to ⟨rfl, rfl, rfl, rfl, rfl, trivial⟩, hS.d0.p4.p4.p4.p4⟩
         rintro G552 _ a w ⟨l514, l517, x520, rfl, A515, c516, A518, c519, ha, hS⟩ h
         revert a
         show RC _ _ _ _ _ _
         refine RC.seq (sr (pn 2 rfl (RL.s (Vl.lenSl underlying49 rfl) rfl (pn 1 rfl (ln ?_)))))
         refine RC.iteP 104 rfl h (fun hc554 h => ?_) fun hc554 h => ?_
         next =>
          refine RC.condT rfl (sk (RC.seq (RC.block (sr (pn 2 rfl ?_)))))
          obtain ⟨hq566, h⟩ := h.req
          refine RL.s (Vl.indexOwn 4 hS rfl underlying49 sizeOf53 rfl rfl hq566 hc554) rfl (RL.s (Vl.fieldAddr (a'' := (ad A518).add (x520.toNat * 7 + 5)) underlying53 rfl sizeOf3 rfl (add_add _ _ _)) rfl (RL.e0 (OW.storeOwn (E := E_api_Message) (off := 5) (j := x520) (x' := (⟨(nth l517 x520).Key, (nth l517 x520).To, (nth l517 x520).Value, 0, ((nth l517 x520).Anti)⟩ : api_Message)) (vs := [.int .i64 0]) 4 hS rfl rfl rfl rfl sizeOf3 rfl (Nat.succ_pos _) hq566 hc554 (Nat.le_of_ble_eq_true rfl) rfl rfl) rfl ?_))
          rintro _ w ⟨rfl, hS⟩
          have he567 := (hS.osN 4 rfl).1
          have hS : St B w (_ :: _ :: _ :: _ :: _ :: _ :: _ :: _ :: l) hf := (congrArg (fun k_ : Nat => St B w (OSl 124 4 (.slice A17 a19.length c18) a19.length cs20 :: OSf E_api_State 105 (.slice A22 a24.length c23) a24 :: OSf E_api_Message 53 (.slice A515 l514.length c516) l514 :: OSf E_api_Done 44 (.slice A28 a30.length c29) a30 :: OSf E_api_Message 53 (.slice A518 k_ c519) (setL l517 x520 (⟨(nth l517 x520).Key, (nth l517 x520).To, (nth l517 x520).Value, 0, ((nth l517 x520).Anti)⟩ : api_Message)) :: Cl b328 [.int .i64 (((nth a27 0).Key).Time), .int .i64 (((nth a27 0).Key).From), .int .i64 (((nth a27 0).Key).Seq), .int .i64 ((nth a27 0).To), .int .i64 ((nth a27 0).Value), .int .i64 ((nth a27 0).Uid), .bool ((nth a27 0).Anti)] 53 :: Cl b1 [.slice A3 a2.length c4, .slice A7 a6.length c8, .slice A11 a10.length c12, .int .u64 a14, .int .i64 a15, .int .i64 a16, .slice A17 a19.length c18, .slice A22 a24.length c23, .slice A515 l514.length c516, .slice A28 a30.length c29] 71 :: Cl b355 [.int .i64 x356, .int .i64 x357, .int .i64 x358, .int .i64 x359, .int .i64 x360, .int .i64 x361, .int .i64 x362, .int .i64 x363, .int .i64 x364, .int .i64 x365] 105 :: l) hf) he567).mp hS
          refine RL.re 7 rfl (congrArg (fun k_ : Nat => (.slice A518 k_ c519 : Value)) he567) (RL.re 102 rfl (congrArg (fun k_ : Nat => (.slice A518 k_ c519 : Value)) he567) (RL.re 107 rfl (congrArg (fun k_ : Nat => (.slice A518 k_ c519 : Value)) he567) (ln (RC.planS (plD [0, 3, 6, 9, 13, 15, 20, 23, 26, 29, 32, 35, 38]) [9, 10, 11, 12] hS (fun w hS => hS) follows rfl (by kernel_rfl) (NoTmp.block (NoTmp.then (NoTmp.then (NoTmp.block (NoTmp.then NoTmp.body))))) fun w hS => pp 3 rfl (RP.s0 3 rfl (fun w => Vl.fa 8 underlying71 rfl sizeOf49 rfl rfl) rfl (RP.s 4 rfl rfl hS (fun w hS => Vl.ld 6 hS isAgg49 rfl rfl rfl) rfl (pp 1 rfl (RP.v1 6 rfl (Vl.move rfl) rfl rfl ?_))))))))
          obtain ⟨hq568, h⟩ := h.req
          refine RP.v1 7 rfl (Vl.indexOwn 4 hS rfl underlying49 sizeOf53 rfl rfl hq566 hq568) rfl rfl (RP.v1 8 rfl (Vl.loadA isAgg53 sizeOf53 rfl rfl ((hS.slW 4 rfl).2.2.cells hq566 hq568)) rfl rfl ?_)
          obtain ⟨hf572, hs570, hS, hr569, hb571⟩ := St.lendSl hS.p2
          obtain ⟨t573, hg574, h⟩ := h.bind
          have hc := isochronref02vInsert.ok hr569 hg574 hS
          refine RP.e 9 rfl (OW.callF (ls := [.tmp 115, .tmp 119]) rfl call66 hc) rfl rfl ?_
          rintro _ w ⟨A575, c576, rfl, hS⟩
          have hS := hb571 _ _ hS
          have hS : St B w (_ :: _ :: _ :: _ :: _ :: _ :: _ :: _ :: _ :: l) hf := hS
          refine ⟨(by intro hx; cases hx), ?_⟩
          refine RP.v1 10 rfl (Vl.nilCheck rfl) rfl rfl (RP.v1 11 rfl (Vl.fa 8 underlying71 rfl sizeOf49 rfl rfl) rfl rfl (RP.e0 12 rfl (OW.store (vs := [.slice A575 t573.length c576]) 7 hS rfl rfl rfl rfl sizeOf49 rfl rfl rfl rfl) rfl ?_))
          rintro _ w ⟨rfl, hS⟩
          have hS : St B w (_ :: _ :: _ :: _ :: _ :: _ :: _ :: Cl _ [_, _, _, _, _, _, _, _, _, _] _ :: _ :: l) hf := hS
          refine ⟨(by intro hx; cases hx), ?_⟩
          refine RP.nil (RQ.inB_n (RQ.then_n (RC.region (pn 3 rfl (RL.nil ?_)))))
          exact fun a ha => ⟨(t573, (setL l517 x520 (⟨(nth l517 x520).Key, (nth l517 x520).To, (nth l517 x520).Value, 0, ((nth l517 x520).Anti)⟩ : api_Message)), IntKind.i64.wrap (x520 + 1)), ⟨t573, (setL l517 x520 (⟨(nth l517 x520).Key, (nth l517 x520).To, (nth l517 x520).Value, 0, ((nth l517 x520).Anti)⟩ : api_Message)), (IntKind.i64.wrap (x520 + 1)), rfl, A575, c576, A518, c519, ha.to ⟨rfl, rfl, rfl, rfl, rfl, trivial⟩, hS.d0.p2.p2⟩, h.some⟩
         next =>
          refine RC.condF rfl (RC.exit (RQ.exitT ?_))
          have h := h.inr
          refine RQ.exitT (RQ.inB_hit (RQ.then_n (RC.seq (RC.planS (plD [0, 3, 6, 10, 12, 16, 20, 23, 26]) [7, 8] hS (fun w hS => hS) follows rfl (by kernel_rfl) (NoTmp.then NoTmp.body) fun w hS => pp 2 rfl (RP.s0 2 rfl (fun w => Vl.fa 7 underlying71 rfl sizeOf29 rfl rfl) rfl (RP.s 3 rfl rfl hS (fun w hS => Vl.ld 6 hS isAgg29 rfl rfl rfl) rfl (RP.s0 4 rfl (fun w => Vl.fa 3 underlying53 rfl sizeOf3 rfl rfl) rfl (RP.s 5 rfl rfl hS (fun w hS => Vl.ld 5 hS isAgg3 rfl rfl rfl) rfl (RP.v1 6 rfl (Vl.lw 7 hS isAgg105 sizeOf105 rfl rfl rfl) rfl rfl (RP.v1 7 rfl (Vl.indexOwn 1 hS rfl underlying29 sizeOf105 rfl rfl hq374 hq383) rfl rfl (RP.e0 8 rfl (OW.storeOwn (E := E_api_State) (off := 0) (j := (nth a27 0).To) (x' := (⟨(⟨x356, x357, x358, x359, x360, x361, x362, x363⟩ : Arr8xInti64), x364, x365⟩ : api_State)) (vs := [.int .i64 x356, .int .i64 x357, .int .i64 x358, .int .i64 x359, .int .i64 x360, .int .i64 x361, .int .i64 x362, .int .i64 x363, .int .i64 x364, .int .i64 x365]) 1 hS rfl rfl rfl rfl sizeOf105 rfl (Nat.succ_pos _) hq374 hq383 (Nat.le_of_ble_eq_true rfl) rfl rfl) rfl ?_)))))))))))
          rintro _ w ⟨rfl, hS⟩
          have he577 := (hS.osN 1 rfl).1
          have hS : St B w (_ :: _ :: _ :: _ :: _ :: _ :: _ :: _ :: l) hf := (congrArg (fun k_ : Nat => St B w (OSl 124 4 (.slice A17 a19.length c18) a19.length cs20 :: OSf E_api_State 105 (.slice A22 k_ c23) (setL a24 ((nth a27 0).To) (⟨(⟨x356, x357, x358, x359, x360, x361, x362, x363⟩ : Arr8xInti64), x364, x365⟩ : api_State)) :: OSf E_api_Message 53 (.slice A515 l514.length c516) l514 :: OSf E_api_Done 44 (.slice A28 a30.length c29) a30 :: OSf E_api_Message 53 (.slice A518 l517.length c519) l517 :: Cl b328 [.int .i64 (((nth a27 0).Key).Time), .int .i64 (((nth a27 0).Key).From), .int .i64 (((nth a27 0).Key).Seq), .int .i64 ((nth a27 0).To), .int .i64 ((nth a27 0).Value), .int .i64 ((nth a27 0).Uid), .bool ((nth a27 0).Anti)] 53 :: Cl b1 [.slice A3 a2.length c4, .slice A7 a6.length c8, .slice A11 a10.length c12, .int .u64 a14, .int .i64 a15, .int .i64 a16, .slice A17 a19.length c18, .slice A22 k_ c23, .slice A515 l514.length c516, .slice A28 a30.length c29] 71 :: Cl b355 [.int .i64 x356, .int .i64 x357, .int .i64 x358, .int .i64 x359, .int .i64 x360, .int .i64 x361, .int .i64 x362, .int .i64 x363, .int .i64 x364, .int .i64 x365] 105 :: l) hf) he577).mp hS
          refine ⟨(by intro hx; cases hx), ?_⟩
          refine RP.re 126 rfl (congrArg (fun k_ : Nat => (.slice A22 k_ c23 : Value)) he577) (RP.nil (RQ.then_n (RC.seq (RC.planS (plD [0, 3, 6, 9, 13, 15, 19, 21, 25, 29, 32, 35, 38, 41, 44, 47, 50]) [13, 14, 15, 16] hS (fun w hS => hS) follows rfl (by kernel_rfl) (NoTmp.then NoTmp.body) fun w hS => pp 3 rfl (RP.s0 3 rfl (fun w => Vl.fa 9 underlying71 rfl sizeOf28 rfl rfl) rfl (RP.s 4 rfl rfl hS (fun w hS => Vl.ld 6 hS isAgg28 rfl rfl rfl) rfl (RP.s0 5 rfl (fun w => Vl.fa 0 underlying53 rfl sizeOf42 rfl rfl) rfl (RP.s 6 rfl rfl hS (fun w hS => Vl.loadA (vs := [.int .i64 (((nth a27 0).Key).Time), .int .i64 (((nth a27 0).Key).From), .int .i64 (((nth a27 0).Key).Seq)]) isAgg42 sizeOf42 rfl rfl (hS.cellsAt 5 rfl rfl)) rfl (RP.s0 7 rfl (fun w => Vl.fa 3 underlying53 rfl sizeOf3 rfl rfl) rfl (RP.s 8 rfl rfl hS (fun w hS => Vl.ld 5 hS isAgg3 rfl rfl rfl) rfl (RP.v1 9 rfl (Vl.fa 4 underlying53 rfl sizeOf2 rfl rfl) rfl rfl (RP.v1 10 rfl (Vl.ld 5 hS isAgg2 rfl rfl rfl) rfl rfl (RP.v1 11 rfl (Vl.build (v := .agg #[.int .i64 (((nth a27 0).Key).Time), .int .i64 (((nth a27 0).Key).From), .int .i64 (((nth a27 0).Key).Seq), .int .i64 ((nth a27 0).To), .int .i64 ((nth a27 0).Value)]) (parts := [(0, .tmp 137), (1, .tmp 139), (2, .tmp 141)]) rfl (by kernel_rfl)) rfl rfl (RP.e 12 rfl (OW.buildSlice (E := E_api_Done) (xs := [(⟨(nth a27 0).Key, (nth a27 0).To, (nth a27 0).Value⟩ : api_Done)]) (cs := [.int .i64 (((nth a27 0).Key).Time), .int .i64 (((nth a27 0).Key).From), .int .i64 (((nth a27 0).Key).Seq), .int .i64 ((nth a27 0).To), .int .i64 ((nth a27 0).Value)]) hS underlying28 zeroValue44 sizeOf44 (parts := [(0, .tmp 142)]) rfl rfl (by decide) (by decide) (by kernel_rfl) rfl) rfl rfl ?_))))))))))))))
          rintro _ w ⟨b578, rfl, hS⟩
          refine ⟨fun _ => hS.d0, ?_⟩
          obtain ⟨hq579, h⟩ := h.req
          refine RP.e 13 rfl (OW.append (E := E_api_Done) (xs := a30) (ys := [(⟨(nth a27 0).Key, (nth a27 0).To, (nth a27 0).Value⟩ : api_Done)]) 4 hS rfl underlying28 type44 rfl rfl rfl rfl (by decide) rfl rfl rfl (hS.slW 0 rfl).2.2.flat (by simp only [maxLen, List.length_cons, List.length_nil] at *; omega) hq579 rfl) rfl rfl ?_
          rintro v582 w hS
          obtain ⟨A580, c581, rfl, _⟩ := hS.osShape 0 rfl
          have hS : St B w (_ :: _ :: _ :: _ :: _ :: _ :: _ :: _ :: _ :: l) hf := hS
          refine ⟨(by intro hx; cases hx), ?_⟩
          refine RP.v1 14 rfl (Vl.nilCheck rfl) rfl rfl (RP.v1 15 rfl (Vl.fa 9 underlying71 rfl sizeOf28 rfl rfl) rfl rfl (RP.e0 16 rfl (OW.store (vs := [.slice A580 (a30 ++ ([(⟨(nth a27 0).Key, (nth a27 0).To, (nth a27 0).Value⟩ : api_Done)])).length c581]) 7 hS rfl rfl rfl rfl sizeOf28 rfl rfl rfl rfl) rfl ?_))
          rintro _ w ⟨rfl, hS⟩
          have hS : St B w (_ :: _ :: _ :: _ :: _ :: _ :: _ :: Cl _ [_, _, _, _, _, _, _, _, _, _] _ :: _ :: l) hf := hS
          refine ⟨(by intro hx; cases hx), ?_⟩
          refine RP.nil (tsr (pn 1 rfl (lr ?_)))
          obtain rfl := h.some
          exact rt results40 rfl ⟨A22, c23, A515, c516, A580, c581, rfl, hS.d1.d4.d4.d5.p4.p1.p4.p4⟩
        next =>
         refine RC.condT rfl (sr (pn 1 rfl (lr (RQ.ret ?_))))
         obtain rfl := h.some
         exact rt results40 rfl ⟨A22, c23, A25, c26, A28, c29, rfl, hS.d4.d4.d5.p4.p4.p4.p4⟩
     · refine RC.planS (.pure 0 (.pure 1 (.pure 2 (.cons 3 true (.pure 4 (.cons 5 true (.cons 6 true (.cons 7 true (.pure 8 (.pure 9 (.pure 10 (.cons 11 true (.pure 12 (.cons 13 true (.cons 14 true (.cons 15 true (.cons 16 true (.fork 17 22 (.pure 18 (.pure 19 (.pure 20 (.pure 21 (.cons 22 false (.cons 23 false (.cons 24 false (.cons 25 false .nil)))))))) (.cons 17 false (.pure 18 (.pure 19 (.pure 20 (.pure 21 (.cons 23 false (.cons 24 false (.cons 25 false .nil)))))))))))))))))))))))))) [23, 24, 25] hS (fun w hS => hS) follows rfl (by kernel_rfl) (NoTmp.then NoTmp.body) fun w hS => ?_
       refine pp 2 rfl (RP.s0 2 rfl (fun w => Vl.fa 6 underlying71 rfl sizeOf60 rfl rfl) rfl (RP.s 3 rfl rfl hS (fun w hS => Vl.ld 1 hS isAgg60 rfl rfl rfl) rfl (RP.s0 4 rfl (fun w => Vl.fa 3 underlying53 rfl sizeOf3 rfl rfl) rfl (RP.s 5 rfl rfl hS (fun w hS => Vl.ld 0 hS isAgg3 rfl rfl rfl) rfl ?_))))
       obtain ⟨⟨hq583, hq584⟩, h⟩ := h.req
       refine RP.s 6 rfl rfl hS (fun w hS => Vl.indexOwn 2 hS rfl underlying60 sizeOf124 rfl rfl hq583 hq584) rfl ?_
       obtain ⟨_, ⟨A586, c587, A589, c590, rfl, hr588, hr591⟩, hl585⟩ := RepL.elem R_api_World_ok hx21 hq583 hq584
       refine RP.s 7 rfl rfl hS (fun w hS => Vl.loadA (vs := [.slice A586 ((nth a19 ((nth a27 0).To)).Prog).length c587, .int .i64 ((nth a19 ((nth a27 0).To)).Self), .slice A589 ((nth a19 ((nth a27 0).To)).Links).length c590, .int .u64 ((nth a19 ((nth a27 0).To)).Seed)]) isAgg124 sizeOf124 rfl rfl (hS.elemCells 2 rfl hl585 (off := 0) rfl)) rfl (pp 2 rfl (RP.s0 10 rfl (fun w => Vl.fa 7 underlying71 rfl sizeOf29 rfl rfl) rfl (RP.s 11 rfl rfl hS (fun w hS => Vl.ld 1 hS isAgg29 rfl rfl rfl) rfl (RP.s0 12 rfl (fun w => Vl.fa 3 underlying53 rfl sizeOf3 rfl rfl) rfl (RP.s 13 rfl rfl hS (fun w hS => Vl.ld 0 hS isAgg3 rfl rfl rfl) rfl ?_)))))
       obtain ⟨hq592, h⟩ := h.req
       refine RP.s 14 rfl rfl hS (fun w hS => Vl.indexOwn 3 hS rfl underlying29 sizeOf105 rfl rfl hq583 hq592) rfl (RP.s 15 rfl rfl hS (fun w hS => Vl.loadA isAgg105 sizeOf105 rfl rfl ((hS.slW 3 rfl).2.2.cells hq583 hq592)) rfl (RP.s 16 rfl rfl hS (fun w hS => Vl.lw 0 hS isAgg53 sizeOf53 rfl rfl rfl) rfl ?_))
       refine RP.fork ?_ ?_
       · obtain ⟨t593, hg594, h⟩ := h.bind
         have hc := isochronref05vRun.ok hr588 hr591 hg594 hS
         obtain ⟨y595, y596, y597⟩ := t593
         refine RPW.e 17 rfl (OW.callF (ls := [.tmp 56, .tmp 64, .tmp 65]) rfl call64 hc) rfl rfl ?_
         rintro _ w ⟨A598, c599, rfl, hS⟩
         refine ⟨fun _ => hS.d0, ?_⟩
         refine pp 4 rfl (RP.e 22 rfl (OW.alloc (cs := [.int .i64 0, .int .i64 0, .int .i64 0, .int .i64 0, .int .i64 0, .int .i64 0, .int .i64 0, .int .i64 0, .int .i64 0, .int .i64 0]) hS zeroValue105 rfl) rfl rfl ?_)
         rintro _ w ⟨b600, rfl, hS⟩
         refine ⟨fun _ => hS.d0.d0, ?_⟩
         refine RP.e0 23 rfl (OW.store (vs := [.int .i64 y595.Regs.c0, .int .i64 y595.Regs.c1, .int .i64 y595.Regs.c2, .int .i64 y595.Regs.c3, .int .i64 y595.Regs.c4, .int .i64 y595.Regs.c5, .int .i64 y595.Regs.c6, .int .i64 y595.Regs.c7, .int .i64 y595.Draws, .int .i64 y595.Sent]) 0 hS rfl rfl rfl rfl sizeOf105 rfl rfl rfl rfl) rfl ?_
         rintro _ w ⟨rfl, hS⟩
         have hS : St B w (Cl _ [_, _, _, _, _, _, _, _, _, _] _ :: _ :: _ :: _ :: _ :: _ :: _ :: _ :: l) hf := hS
         refine ⟨(by intro hx; cases hx), ?_⟩
         refine RP.v1 24 rfl (Vl.assign rfl) rfl rfl (RP.v1 25 rfl (Vl.assign rfl) rfl rfl (RP.nil ?_))
         exact fun a ha => ⟨(y595.Regs.c0, y595.Regs.c1, y595.Regs.c2, y595.Regs.c3, y595.Regs.c4, y595.Regs.c5, y595.Regs.c6, y595.Regs.c7, y595.Draws, y595.Sent, y596, y597), y595.Regs.c0, y595.Regs.c1, y595.Regs.c2, y595.Regs.c3, y595.Regs.c4, y595.Regs.c5, y595.Regs.c6, y595.Regs.c7, y595.Draws, y595.Sent, y596, y597, rfl, b600, A598, c599, ha.to ⟨rfl, rfl, rfl, rfl, rfl, trivial⟩, hS.p3.p3.p3.p7.p7.p7.p7, h⟩
       · refine RPW.e 22 rfl (OW.alloc (cs := [.int .i64 0, .int .i64 0, .int .i64 0, .int .i64 0, .int .i64 0, .int .i64 0, .int .i64 0, .int .i64 0, .int .i64 0, .int .i64 0]) hS zeroValue105 rfl) rfl rfl ?_
         rintro _ w ⟨b601, rfl, hS⟩
         refine ⟨fun _ => hS.d0, ?_⟩
         obtain ⟨t602, hg603, h⟩ := h.bind
         have hc := isochronref05vRun.ok hr588 hr591 hg603 hS
         obtain ⟨y604, y605, y606⟩ := t602
         refine RP.e 17 rfl (OW.callF (ls := [.tmp 56, .tmp 64, .tmp 65]) rfl call64 hc) rfl rfl ?_
         rintro _ w ⟨A607, c608, rfl, hS⟩
         refine ⟨fun _ => hS.d0.d0, ?_⟩
         refine pp 4 rfl (RP.e0 23 rfl (OW.store (vs := [.int .i64 y604.Regs.c0, .int .i64 y604.Regs.c1, .int .i64 y604.Regs.c2, .int .i64 y604.Regs.c3, .int .i64 y604.Regs.c4, .int .i64 y604.Regs.c5, .int .i64 y604.Regs.c6, .int .i64 y604.Regs.c7, .int .i64 y604.Draws, .int .i64 y604.Sent]) 1 hS rfl rfl rfl rfl sizeOf105 rfl rfl rfl rfl) rfl ?_)
         rintro _ w ⟨rfl, hS⟩
         have hS : St B w (_ :: Cl _ [_, _, _, _, _, _, _, _, _, _] _ :: _ :: _ :: _ :: _ :: _ :: _ :: l) hf := hS
         refine ⟨(by intro hx; cases hx), ?_⟩
         refine RP.v1 24 rfl (Vl.assign rfl) rfl rfl (RP.v1 25 rfl (Vl.assign rfl) rfl rfl (RP.nil ?_))
         exact fun a ha => ⟨(y604.Regs.c0, y604.Regs.c1, y604.Regs.c2, y604.Regs.c3, y604.Regs.c4, y604.Regs.c5, y604.Regs.c6, y604.Regs.c7, y604.Draws, y604.Sent, y605, y606), y604.Regs.c0, y604.Regs.c1, y604.Regs.c2, y604.Regs.c3, y604.Regs.c4, y604.Regs.c5, y604.Regs.c6, y604.Regs.c7, y604.Draws, y604.Sent, y605, y606, rfl, b601, A607, c608, ha.to ⟨rfl, rfl, rfl, rfl, rfl, trivial⟩, hS.p3.p3.p2.p7.p7.p7.p7, h⟩

/-! ### isochron/isochronref14.play: function 22 -/
noncomputable def isochronref14vplay.l4b (a11 : Int) (y282 : List (List api_Instr)) (y283 : List api_Link) (y284 : List api_Start) (y285 y286 y287 : Int) (y288 : List api_World) : List api_State × List api_Message × List api_Done → Option ((List api_State × List api_Message × List api_Done) ⊕ (List (List api_Instr) × List api_Link × List api_Start × Int × Int × Int × List api_World × List api_State × List api_Message × List api_Done × Int))
  | (l467, l470, l473) => (if a11 < 0 then ((isochronref14vone_step.f y282 y283 y284 y285 y286 y287 y288 l467 l470 l473).bind fun (y521, y522, y523, y524) => (if y521 = 0 then some (.inl (y522, y523, y524)) else some (.inr (y282, y283, y284, y285, y286, y287, y288, y522, y523, y524, y521)))) else (if (l473.length : Int) < a11 then ((isochronref14vone_step.f y282 y283 y284 y285 y286 y287 y288 l467 l470 l473).bind fun (y535, y536, y537, y538) => (if y535 = 0 then some (.inl (y536, y537, y538)) else some (.inr (y282, y283, y284, y285, y286, y287, y288, y536, y537, y538, y535)))) else some (.inr (y282, y283, y284, y285, y286, y287, y288, l467, l470, l473, 0))))
noncomputable def isochronref14vplay.l4 (a11 : Int) (y282 : List (List api_Instr)) (y283 : List api_Link) (y284 : List api_Start) (y285 y286 y287 : Int) (y288 : List api_World) (s : List api_State × List api_Message × List api_Done) : Option (List (List api_Instr) × List api_Link × List api_Start × Int × Int × Int × List api_World × List api_State × List api_Message × List api_Done × Int) := loopR (isochronref14vplay.l4b a11 y282 y283 y284 y285 y286 y287 y288) s
noncomputable def isochronref14vplay.f (a1 : api_Model) (a11 : Int) : Option (List (List api_Instr) × List api_Link × List api_Start × Int × Int × Int × List api_World × List api_State × List api_Message × List api_Done × Int) := ((isochronref14vbegin.f a1).bind fun (y282, y283, y284, y285, y286, y287, y288, y289, y290) => isochronref14vplay.l4 a11 y282 y283 y284 y285 y286 y287 y288 (y289, y290, []))
theorem isochronref14vplay.ok {a1 : api_Model} {a11 : Int} {A2 : Option Addr} {c3 : Nat} {A5 : Option Addr} {c6 : Nat} {A8 : Option Addr} {c9 : Nat} (hr4 : SlR (Rep.sl E_api_Instr.rep) hf A2 c3 a1.Progs) (hr7 : SlR E_api_Link.rep hf A5 c6 a1.Links) (hr10 : SlR E_api_Start.rep hf A8 c9 a1.Starts) {r : List (List api_Instr) × List api_Link × List api_Start × Int × Int × Int × List api_World × List api_State × List api_Message × List api_Done × Int} (h : isochronref14vplay.f a1 a11 = some r) (hS : St B w (l) hf) :
    Calls prog 22 #[.agg #[.slice A2 a1.Progs.length c3, .slice A5 a1.Links.length c6, .slice A8 a1.Starts.length c9, .int .u64 a1.Seed, .int .i64 a1.End, .int .i64 a1.Budget], .int .i64 a11] w (Ret fun v w => ∃ hf_ : Hp, Sub hf hf_ ∧ ∃ (b_1 : Nat) (A_2 : Option Addr) (c_3 : Nat) (A_5 : Option Addr) (c_6 : Nat) (A_8 : Option Addr) (c_9 : Nat) (A_11 : Option Addr) (c_12 : Nat) (cs_13 : List Value) (A_15 : Option Addr) (c_16 : Nat) (A_17 : Option Addr) (c_18 : Nat) (A_19 : Option Addr) (c_20 : Nat), v = .tuple #[.pointer (some ⟨b_1, 0, none⟩), .int .i64 r.2.2.2.2.2.2.2.2.2.2] ∧ St B w (Cl b_1 [.slice A_2 r.1.length c_3, .slice A_5 r.2.1.length c_6, .slice A_8 r.2.2.1.length c_9, .int .u64 r.2.2.2.1, .int .i64 r.2.2.2.2.1, .int .i64 r.2.2.2.2.2.1, .slice A_11 r.2.2.2.2.2.2.1.length c_12, .slice A_15 r.2.2.2.2.2.2.2.1.length c_16, .slice A_17 r.2.2.2.2.2.2.2.2.1.length c_18, .slice A_19 r.2.2.2.2.2.2.2.2.2.1.length c_20] 71 :: OSl 124 4 (.slice A_11 r.2.2.2.2.2.2.1.length c_12) r.2.2.2.2.2.2.1.length cs_13 :: OSf E_api_State 105 (.slice A_15 r.2.2.2.2.2.2.2.1.length c_16) r.2.2.2.2.2.2.2.1 :: OSf E_api_Message 53 (.slice A_17 r.2.2.2.2.2.2.2.2.1.length c_18) r.2.2.2.2.2.2.2.2.1 :: OSf E_api_Done 44 (.slice A_19 r.2.2.2.2.2.2.2.2.2.1.length c_20) r.2.2.2.2.2.2.2.2.2.1 :: l) hf_ ∧ SlR (Rep.sl E_api_Instr.rep) hf_ A_2 c_3 r.1 ∧ SlR E_api_Link.rep hf_ A_5 c_6 r.2.1 ∧ SlR E_api_Start.rep hf_ A_8 c_9 r.2.2.1 ∧ RepL R_api_World hf_ cs_13 r.2.2.2.2.2.2.1) := by
  have h := Holds.of h
  refine en func22 rfl ntmps22 rfl (sr (bx hS rfl rfl rfl rfl fun b279 w hS => pn 2 rfl (lnsr (RL.s (Vl.lw 0 hS isAgg27 sizeOf27 rfl rfl rfl) rfl (cF (fun _ hg => isochronref14vbegin.ok hr4 hr7 hr10 hg hS) call39 h rfl rfl rfl ?_)))))
  rintro ⟨y282, y283, y284, y285, y286, y287, y288, y289, y290⟩ h _ w ⟨hf, hs309, b291, A292, c293, A295, c296, A298, c299, A301, c302, cs303, A305, c306, A307, c308, rfl, hS, hr294, hr297, hr300, hx304⟩
  refine pn 1 rfl (ln (RC.seq (RC.block ?_)))
  have hS := hS.nilSl E_api_Done 44
  refine fun a ha => RC.loop (N := 28) (body := (isochronref14vplay.l4b a11 y282 y283 y284 y285 y286 y287 y288)) (φ := (· = r)) (fun (s : List api_State × List api_Message × List api_Done) a w => ∃ (l467 : List api_State) (l470 : List api_Message) (l473 : List api_Done), s = (l467, l470, l473) ∧ ∃ (A468 : Option Addr) (c469 : Nat) (A471 : Option Addr) (c472 : Nat) (A474 : Option Addr) (c475 : Nat), Has 28 [(1, .int .i64 a11), (6, .pointer (some ⟨b291, 0, none⟩))] a ∧ St B w (OSl 124 4 (.slice A301 y288.length c302) y288.length cs303 :: OSf E_api_State 105 (.slice A468 l467.length c469) l467 :: OSf E_api_Message 53 (.slice A471 l470.length c472) l470 :: OSf E_api_Done 44 (.slice A474 l473.length c475) l473 :: Cl b291 [.slice A292 y282.length c293, .slice A295 y283.length c296, .slice A298 y284.length c299, .int .u64 y285, .int .i64 y286, .int .i64 y287, .slice A301 y288.length c302, .slice A468 l467.length c469, .slice A471 l470.length c472, .slice A474 l473.length c475] 71 :: l) hf) ?_ (s0 := (y289, y290, [])) h ⟨y289, y290, ([]), rfl, A305, c306, A307, c308, none, 0, ha.to ⟨rfl, rfl, trivial⟩, hS.d5.p4.p4.p4⟩
  rintro G515 _ a w ⟨l467, l470, l473, rfl, A468, c469, A471, c472, A474, c475, ha, hS⟩ h
  revert a
  show RC _ _ _ _ _ _
  refine RC.seq (sr (pn 3 rfl ?_))
  refine RL.iteP 12 rfl h (fun hc518 h => ?_) fun hc518 h => ?_
  next =>
   refine pn 8 rfl (ln (RC.condT rfl (sk (RC.block (sr (pn 1 rfl (cF (fun _ hg => isochronref14vone_step.ok hr294 hr297 hr300 hx304 hg hS.p4) call40 h rfl rfl rfl ?_)))))))
   rintro ⟨y521, y522, y523, y524⟩ h _ w ⟨A525, c526, A527, c528, A529, c530, rfl, hS⟩
   refine pn 1 rfl (lnsr (pn 2 rfl (ln ?_)))
   refine RC.iteN 24 rfl h (fun hc531 h => ?_) fun hc531 h => ?_
   next =>
    refine RC.condF rfl (RC.skip (RQ.inB_n ?_))
    exact fun a ha => ⟨(y522, y523, y524), ⟨y522, y523, y524, rfl, A525, c526, A527, c528, A529, c530, ha.to ⟨rfl, rfl, trivial⟩, hS.p4⟩, h.some⟩
   next =>
    refine RC.condT rfl (sr (pn 4 rfl (lr (RQ.inB_ret ?_))))
    have h := h.inrS
    refine RQ.ret (RQ.inB_ret (RQ.ret ?_))
    obtain rfl := h.some
    exact rt results22 rfl ⟨_, hs309, b291, A292, c293, A295, c296, A298, c299, A301, c302, cs303, A525, c526, A527, c528, A529, c530, rfl, hS.p4.p4, hr294, hr297, hr300, hx304⟩
  next =>
   refine pn 2 rfl (RL.sg (Vl.fa 9 underlying71 rfl sizeOf28 rfl rfl) rfl rfl (RL.sg (Vl.ld 4 hS isAgg28 rfl rfl rfl) rfl rfl (RL.sg (Vl.lenSl underlying28 rfl) rfl rfl (pn 3 rfl (ln ?_)))))
   refine RC.iteP 20 rfl h (fun hc532 h => ?_) fun hc532 h => ?_
   next =>
    refine RC.condT rfl (sk (RC.block (sr (pn 1 rfl (cF (fun _ hg => isochronref14vone_step.ok hr294 hr297 hr300 hx304 hg hS.p4) call40 h rfl rfl rfl ?_)))))
    rintro ⟨y535, y536, y537, y538⟩ h _ w ⟨A539, c540, A541, c542, A543, c544, rfl, hS⟩
    refine pn 1 rfl (lnsr (pn 2 rfl (ln ?_)))
    refine RC.iteN 24 rfl h (fun hc545 h => ?_) fun hc545 h => ?_
    next =>
     refine RC.condF rfl (RC.skip (RQ.inB_n ?_))
     exact fun a ha => ⟨(y536, y537, y538), ⟨y536, y537, y538, rfl, A539, c540, A541, c542, A543, c544, ha.to ⟨rfl, rfl, trivial⟩, hS.p4⟩, h.some⟩
    next =>
     refine RC.condT rfl (sr (pn 4 rfl (lr (RQ.inB_ret ?_))))
     have h := h.inrS
     refine RQ.ret (RQ.inB_ret (RQ.ret ?_))
     obtain rfl := h.some
     exact rt results22 rfl ⟨_, hs309, b291, A292, c293, A295, c296, A298, c299, A301, c302, cs303, A539, c540, A541, c542, A543, c544, rfl, hS.p4.p4, hr294, hr297, hr300, hx304⟩
   next =>
    refine RC.condF rfl (RC.exit (RQ.exitT ?_))
    have h := h.inrS
    refine RQ.exitT (RQ.inB_hit (tsr (pn 3 rfl (lr ?_))))
    obtain rfl := h.some
    exact rt results22 rfl ⟨_, hs309, b291, A292, c293, A295, c296, A298, c299, A301, c302, cs303, A468, c469, A471, c472, A474, c475, rfl, hS.p4, hr294, hr297, hr300, hx304⟩

/-! ### isochron/isochronref14.Run: function 10 -/
noncomputable def isochronref14vRun.f (a1 : api_Model) : Option (List api_Done × List api_State × Int × Int) := ((isochronref13vCheck.f a1).bind fun t53 => (if t53 = 0 then ((isochronref14vplay.f a1 (-1)).bind fun (y59, y60, y61, y62, y63, y64, y65, y66, y67, y68, y69) => some (y68, y66, y69, 0)) else some (([] : List api_Done), ([] : List api_State), 0, t53)))
theorem isochronref14vRun.ok {a1 : api_Model} {A2 : Option Addr} {c3 : Nat} {A5 : Option Addr} {c6 : Nat} {A8 : Option Addr} {c9 : Nat} (hr4 : SlR (Rep.sl E_api_Instr.rep) hf A2 c3 a1.Progs) (hr7 : SlR E_api_Link.rep hf A5 c6 a1.Links) (hr10 : SlR E_api_Start.rep hf A8 c9 a1.Starts) {r : List api_Done × List api_State × Int × Int} (h : isochronref14vRun.f a1 = some r) (hS : St B w (l) hf) :
    Calls prog 10 #[.agg #[.slice A2 a1.Progs.length c3, .slice A5 a1.Links.length c6, .slice A8 a1.Starts.length c9, .int .u64 a1.Seed, .int .i64 a1.End, .int .i64 a1.Budget]] w (Ret fun v w => ∃ (A_1 : Option Addr) (c_2 : Nat) (A_3 : Option Addr) (c_4 : Nat), v = .tuple #[.agg #[.slice A_1 r.1.length c_2, .slice A_3 r.2.1.length c_4, .int .i64 r.2.2.1], .int .i64 r.2.2.2] ∧ St B w (OSf E_api_Done 44 (.slice A_1 r.1.length c_2) r.1 :: OSf E_api_State 105 (.slice A_3 r.2.1.length c_4) r.2.1 :: l) hf) := by
  have h := Holds.of h
  refine en func10 rfl ntmps10 rfl (sr (bx hS rfl rfl rfl rfl fun b51 w hS => al hS zeroValue31 rfl rfl rfl fun b52 w hS => pn 1 rfl (lnsr (RL.s (Vl.lw 1 hS isAgg27 sizeOf27 rfl rfl rfl) rfl (cF (fun _ hg => isochronref13vCheck.ok hr4 hr7 hr10 hg hS) call21 h rfl rfl rfl ?_)))))
  rintro t53 h _ w ⟨rfl, hS⟩
  refine pn 1 rfl (ln (RC.seq (sr (pn 2 rfl (ln ?_)))))
  refine RC.iteN 10 rfl h (fun hc56 h => ?_) fun hc56 h => ?_
  next =>
   refine RC.condF rfl (sk (sr (RL.s (Vl.lw 1 hS isAgg27 sizeOf27 rfl rfl rfl) rfl (cF (fun _ hg => isochronref14vplay.ok hr4 hr7 hr10 hg hS) call22 h rfl rfl rfl ?_))))
   rintro ⟨y59, y60, y61, y62, y63, y64, y65, y66, y67, y68, y69⟩ h _ w ⟨hf, hs90, b70, A71, c72, A74, c75, A77, c78, A80, c81, cs82, A84, c85, A86, c87, A88, c89, rfl, hS, hr73, hr76, hr79, hx83⟩
   refine pn 5 rfl (ln (RC.seq (RC.planS (plD [0, 3, 6, 10, 12, 15, 18, 22, 26, 29, 32, 35]) [9, 10, 11] hS (fun w hS => hS) follows rfl (by kernel_rfl) (NoTmp.then NoTmp.body) fun w hS => pp 2 rfl (RP.s0 2 rfl (fun w => Vl.fa 9 underlying71 rfl sizeOf28 rfl rfl) rfl (RP.s 3 rfl rfl hS (fun w hS => Vl.ld 0 hS isAgg28 rfl rfl rfl) rfl (pp 2 rfl (RP.s0 6 rfl (fun w => Vl.fa 7 underlying71 rfl sizeOf29 rfl rfl) rfl (RP.s 7 rfl rfl hS (fun w hS => Vl.ld 0 hS isAgg29 rfl rfl rfl) rfl (RP.v1 8 rfl (Vl.move rfl) rfl rfl (RP.v1 9 rfl (Vl.build (v := .agg #[.slice A88 y68.length c89, .slice A84 y66.length c85, .int .i64 y69]) (parts := [(0, .tmp 21), (1, .tmp 25), (2, .tmp 26)]) rfl (by kernel_rfl)) rfl rfl (RP.e0 10 rfl (OW.store (vs := [.slice A88 y68.length c89, .slice A84 y66.length c85, .int .i64 y69]) 5 hS rfl rfl rfl rfl sizeOf31 rfl rfl rfl rfl) rfl ?_)))))))))))
   rintro _ w ⟨rfl, hS⟩
   have hS : St B w (_ :: _ :: _ :: _ :: _ :: Cl _ [_, _, _] _ :: _ :: l) hf := hS
   refine ⟨(by intro hx; cases hx), ?_⟩
   refine RP.v1 11 rfl (Vl.assign rfl) rfl rfl (RP.nil (tr ?_))
   obtain rfl := h.some
   refine RQ.ret0 (vs := [.agg #[.slice A88 y68.length c89, .slice A84 y66.length c85, .int .i64 y69], .int .i64 0]) results10 ⟨⟨_, rfl, run_loadVarA (vs := [.slice A88 y68.length c89, .slice A84 y66.length c85, .int .i64 y69]) isAgg31 sizeOf31 rfl (hS.cellsAt 5 rfl rfl)⟩, rfl, trivial⟩ ?_
   exact ⟨A88, c89, A84, c85, rfl, (hS.d0.d0.d1.d2.d2.p1).down hs90⟩
  next =>
   refine RC.condT rfl (sr (RL.s (Vl.build (v := .agg #[.slice none 0 0, .slice none 0 0, .int .i64 0]) (parts := []) rfl (by kernel_rfl)) rfl (pn 1 rfl (RL.e0 (OW.store (vs := [.slice none 0 0, .slice none 0 0, .int .i64 0]) 0 hS rfl rfl rfl rfl sizeOf31 rfl rfl rfl rfl) rfl ?_))))
   rintro _ w ⟨rfl, hS⟩
   have hS : St B w (Cl _ [_, _, _] _ :: _ :: l) hf := hS
   refine pn 1 rfl (lr (RQ.ret ?_))
   have hS := hS.nilSl E_api_Done 44
   have hS := hS.nilSl E_api_State 105
   obtain rfl := h.some
   refine RQ.ret0 (vs := [.agg #[.slice none 0 0, .slice none 0 0, .int .i64 0], .int .i64 t53]) results10 ⟨⟨_, rfl, run_loadVarA (vs := [.slice none 0 0, .slice none 0 0, .int .i64 0]) isAgg31 sizeOf31 rfl (hS.cellsAt 2 rfl rfl)⟩, rfl, trivial⟩ ?_
   exact ⟨none, 0, none, 0, rfl, hS.d2.d2.p1⟩

/-! ### isochron/isochronlaw14.history: function 15 -/
noncomputable def isochronlaw14vhistory.l2b (a1 a5 : List api_Done) : Int → Option ((Int) ⊕ (Bool))
  | (x46) => (if x46 < (a1.length : Int) then (if 0 ≤ x46 then (if x46 < (a5.length : Int) then (if nth a1 x46 = nth a5 x46 then some (.inl (IntKind.i64.wrap (x46 + 1))) else some (.inr false)) else none) else none) else some (.inr true))
noncomputable def isochronlaw14vhistory.l2 (a1 a5 : List api_Done) (s : Int) : Option (Bool) := loopR (isochronlaw14vhistory.l2b a1 a5) s
noncomputable def isochronlaw14vhistory.f (a1 a5 : List api_Done) : Option (Bool) := (if (a1.length : Int) = (a5.length : Int) then isochronlaw14vhistory.l2 a1 a5 (0) else some false)
theorem isochronlaw14vhistory.ok {a1 a5 : List api_Done} {A2 : Option Addr} {c3 : Nat} {A6 : Option Addr} {c7 : Nat} (hr4 : SlR E_api_Done.rep hf A2 c3 a1) (hr8 : SlR E_api_Done.rep hf A6 c7 a5) {r : Bool} (h : isochronlaw14vhistory.f a1 a5 = some r) (hS : St B w (l) hf) :
    Calls prog 15 #[.slice A2 a1.length c3, .slice A6 a5.length c7] w (Ret fun v w => v = .bool r ∧ St B w (l) hf) := by
  have h := Holds.of h
  refine en func15 rfl ntmps15 rfl (sr (pn 1 rfl (ln (RC.seq (sr (pn 1 rfl (RL.s (Vl.lenSl underlying28 rfl) rfl (pn 1 rfl (RL.s (Vl.lenSl underlying28 rfl) rfl (pn 1 rfl (ln ?_)))))))))))
  refine RC.iteN 10 rfl h (fun hc38 h => ?_) fun hc38 h => ?_
  next =>
   refine RC.condF rfl (sk (RC.seq (sr (pn 1 rfl (ln (RC.block ?_))))))
   refine fun a ha => RC.loop (N := 26) (body := (isochronlaw14vhistory.l2b a1 a5)) (φ := (· = r)) (fun (s : Int) a w => ∃ (x46 : Int), s = (x46) ∧ Has 26 [(0, .slice A2 a1.length c3), (1, .slice A6 a5.length c7), (5, .int .i64 x46)] a ∧ St B w (l) hf) ?_ (s0 := (0)) h ⟨0, rfl, ha.to ⟨rfl, rfl, rfl, trivial⟩, hS⟩
   rintro G56 x46 a w ⟨_, rfl, ha, hS⟩ h
   revert a
   show RC _ _ _ _ _ _
   refine RC.seq (sr (pn 2 rfl (RL.s (Vl.lenSl underlying28 rfl) rfl (pn 1 rfl (ln ?_)))))
   refine RC.iteP 14 rfl h (fun hc58 h => ?_) fun hc58 h => ?_
   next =>
    refine RC.condT rfl (sk (RC.seq (RC.block (RC.seq (RC.planS (plD [0, 3, 7, 10, 12, 17, 20, 23, 26]) [8] hS (fun w hS => hS) follows rfl (by kernel_rfl) (NoTmp.then (NoTmp.block (NoTmp.then (NoTmp.then (NoTmp.block (NoTmp.then NoTmp.body)))))) fun w hS => pp 2 rfl ?_)))))
    obtain ⟨hq62, h⟩ := h.req
    refine RP.s 2 rfl rfl hS (fun w hS => Vl.indexAddr underlying28 sizeOf44 rfl rfl ((hr4.2.world hS.sub).adr hq62 hc58) hq62 hc58 rfl) rfl (RP.s 3 rfl rfl hS (fun w hS => Vl.loadA isAgg44 sizeOf44 rfl rfl ((hr4.2.world hS.sub).cells hq62 hc58)) rfl (pp 1 rfl (RP.v1 5 rfl (Vl.move rfl) rfl rfl ?_)))
    obtain ⟨hq63, h⟩ := h.req
    refine RP.v1 6 rfl (Vl.indexAddr underlying28 sizeOf44 rfl rfl ((hr8.2.world hS.sub).adr hq62 hq63) hq62 hq63 rfl) rfl rfl (RP.v1 7 rfl (Vl.loadA isAgg44 sizeOf44 rfl rfl ((hr8.2.world hS.sub).cells hq62 hq63)) rfl rfl (RP.v1 8 rfl (Vl.neqS (run_neq_api_Done _ _ (nth a1 x46) (nth a5 x46)) rfl rfl) rfl rfl (RP.nil (RQ.then_n ?_))))
    refine RC.iteN 25 rfl h (fun hc64 h => ?_) fun hc64 h => ?_
    next =>
     refine RC.condF rfl (RC.skip (RQ.inB_n (RQ.then_n (RC.region (pn 3 rfl (RL.nil ?_))))))
     exact fun a ha => ⟨(IntKind.i64.wrap (x46 + 1)), ⟨(IntKind.i64.wrap (x46 + 1)), rfl, ha.to ⟨rfl, rfl, rfl, trivial⟩, hS⟩, h.some⟩
    next =>
     refine RC.condT rfl (sr (pn 1 rfl (lr (RQ.inB_ret (RQ.ret ?_)))))
     have h := h.inrS
     refine RQ.ret (RQ.inB_ret (RQ.ret ?_))
     obtain rfl := h.some
     exact rt results15 rfl ⟨rfl, hS⟩
   next =>
    refine RC.condF rfl (RC.exit (RQ.exitT ?_))
    have h := h.inrS
    refine RQ.exitT (RQ.inB_hit (tsr (pn 1 rfl (lr ?_))))
    obtain rfl := h.some
    exact rt results15 rfl ⟨rfl, hS⟩
  next =>
   refine RC.condT rfl (sr (pn 1 rfl (lr (RQ.ret ?_))))
   obtain rfl := h.some
   exact rt results15 rfl ⟨rfl, hS⟩

/-! ### isochron/isochronlaw14.states: function 23 -/
noncomputable def isochronlaw14vstates.l2b (a1 a5 : List api_State) : Int → Option ((Int) ⊕ (Bool))
  | (x46) => (if x46 < (a1.length : Int) then (if 0 ≤ x46 then (if x46 < (a5.length : Int) then (if nth a1 x46 = nth a5 x46 then some (.inl (IntKind.i64.wrap (x46 + 1))) else some (.inr false)) else none) else none) else some (.inr true))
noncomputable def isochronlaw14vstates.l2 (a1 a5 : List api_State) (s : Int) : Option (Bool) := loopR (isochronlaw14vstates.l2b a1 a5) s
noncomputable def isochronlaw14vstates.f (a1 a5 : List api_State) : Option (Bool) := (if (a1.length : Int) = (a5.length : Int) then isochronlaw14vstates.l2 a1 a5 (0) else some false)
theorem isochronlaw14vstates.ok {a1 a5 : List api_State} {A2 : Option Addr} {c3 : Nat} {A6 : Option Addr} {c7 : Nat} (hr4 : SlR E_api_State.rep hf A2 c3 a1) (hr8 : SlR E_api_State.rep hf A6 c7 a5) {r : Bool} (h : isochronlaw14vstates.f a1 a5 = some r) (hS : St B w (l) hf) :
    Calls prog 23 #[.slice A2 a1.length c3, .slice A6 a5.length c7] w (Ret fun v w => v = .bool r ∧ St B w (l) hf) := by
  have h := Holds.of h
  refine en func23 rfl ntmps23 rfl (sr (pn 1 rfl (ln (RC.seq (sr (pn 1 rfl (RL.s (Vl.lenSl underlying29 rfl) rfl (pn 1 rfl (RL.s (Vl.lenSl underlying29 rfl) rfl (pn 1 rfl (ln ?_)))))))))))
  refine RC.iteN 10 rfl h (fun hc38 h => ?_) fun hc38 h => ?_
  next =>
   refine RC.condF rfl (sk (RC.seq (sr (pn 1 rfl (ln (RC.block ?_))))))
   refine fun a ha => RC.loop (N := 26) (body := (isochronlaw14vstates.l2b a1 a5)) (φ := (· = r)) (fun (s : Int) a w => ∃ (x46 : Int), s = (x46) ∧ Has 26 [(0, .slice A2 a1.length c3), (1, .slice A6 a5.length c7), (5, .int .i64 x46)] a ∧ St B w (l) hf) ?_ (s0 := (0)) h ⟨0, rfl, ha.to ⟨rfl, rfl, rfl, trivial⟩, hS⟩
   rintro G56 x46 a w ⟨_, rfl, ha, hS⟩ h
   revert a
   show RC _ _ _ _ _ _
   refine RC.seq (sr (pn 2 rfl (RL.s (Vl.lenSl underlying29 rfl) rfl (pn 1 rfl (ln ?_)))))
   refine RC.iteP 14 rfl h (fun hc58 h => ?_) fun hc58 h => ?_
   next =>
    refine RC.condT rfl (sk (RC.seq (RC.block (RC.seq (RC.planS (plD [0, 3, 7, 10, 12, 17, 20, 23, 26]) [8] hS (fun w hS => hS) follows rfl (by kernel_rfl) (NoTmp.then (NoTmp.block (NoTmp.then (NoTmp.then (NoTmp.block (NoTmp.then NoTmp.body)))))) fun w hS => pp 2 rfl ?_)))))
    obtain ⟨hq62, h⟩ := h.req
    refine RP.s 2 rfl rfl hS (fun w hS => Vl.indexAddr underlying29 sizeOf105 rfl rfl ((hr4.2.world hS.sub).adr hq62 hc58) hq62 hc58 rfl) rfl (RP.s 3 rfl rfl hS (fun w hS => Vl.loadA isAgg105 sizeOf105 rfl rfl ((hr4.2.world hS.sub).cells hq62 hc58)) rfl (pp 1 rfl (RP.v1 5 rfl (Vl.move rfl) rfl rfl ?_)))
    obtain ⟨hq63, h⟩ := h.req
    refine RP.v1 6 rfl (Vl.indexAddr underlying29 sizeOf105 rfl rfl ((hr8.2.world hS.sub).adr hq62 hq63) hq62 hq63 rfl) rfl rfl (RP.v1 7 rfl (Vl.loadA isAgg105 sizeOf105 rfl rfl ((hr8.2.world hS.sub).cells hq62 hq63)) rfl rfl (RP.v1 8 rfl (Vl.neqS (run_neq_api_State _ _ (nth a1 x46) (nth a5 x46)) rfl rfl) rfl rfl (RP.nil (RQ.then_n ?_))))
    refine RC.iteN 25 rfl h (fun hc64 h => ?_) fun hc64 h => ?_
    next =>
     refine RC.condF rfl (RC.skip (RQ.inB_n (RQ.then_n (RC.region (pn 3 rfl (RL.nil ?_))))))
     exact fun a ha => ⟨(IntKind.i64.wrap (x46 + 1)), ⟨(IntKind.i64.wrap (x46 + 1)), rfl, ha.to ⟨rfl, rfl, rfl, trivial⟩, hS⟩, h.some⟩
    next =>
     refine RC.condT rfl (sr (pn 1 rfl (lr (RQ.inB_ret (RQ.ret ?_)))))
     have h := h.inrS
     refine RQ.ret (RQ.inB_ret (RQ.ret ?_))
     obtain rfl := h.some
     exact rt results23 rfl ⟨rfl, hS⟩
   next =>
    refine RC.condF rfl (RC.exit (RQ.exitT ?_))
    have h := h.inrS
    refine RQ.exitT (RQ.inB_hit (tsr (pn 1 rfl (lr ?_))))
    obtain rfl := h.some
    exact rt results23 rfl ⟨rfl, hS⟩
  next =>
   refine RC.condT rfl (sr (pn 1 rfl (lr (RQ.ret ?_))))
   obtain rfl := h.some
   exact rt results23 rfl ⟨rfl, hS⟩

/-! ### isochron/isochronlaw14.result: function 11 -/
noncomputable def isochronlaw14vresult.f (a1 a8 : api_Result) : Option (Bool) := (if a1.Stop = a8.Stop then ((isochronlaw14vhistory.f a1.History a8.History).bind fun t26 => (if t26 = true then ((isochronlaw14vstates.f a1.States a8.States).bind fun t29 => some t29) else some false)) else some false)
theorem isochronlaw14vresult.ok {a1 a8 : api_Result} {A2 : Option Addr} {c3 : Nat} {A5 : Option Addr} {c6 : Nat} {A9 : Option Addr} {c10 : Nat} {A12 : Option Addr} {c13 : Nat} (hr4 : SlR E_api_Done.rep hf A2 c3 a1.History) (hr7 : SlR E_api_State.rep hf A5 c6 a1.States) (hr11 : SlR E_api_Done.rep hf A9 c10 a8.History) (hr14 : SlR E_api_State.rep hf A12 c13 a8.States) {r : Bool} (h : isochronlaw14vresult.f a1 a8 = some r) (hS : St B w (l) hf) :
    Calls prog 11 #[.agg #[.slice A2 a1.History.length c3, .slice A5 a1.States.length c6, .int .i64 a1.Stop], .agg #[.slice A9 a8.History.length c10, .slice A12 a8.States.length c13, .int .i64 a8.Stop]] w (Ret fun v w => v = .bool r ∧ St B w (l) hf) := by
  have h := Holds.of h
  refine en func11 rfl ntmps11 rfl (sr (bx hS rfl rfl rfl rfl fun b23 w hS => bx hS rfl rfl rfl rfl fun b24 w hS => pn 1 rfl (lnsr (RL.s (Vl.fa 2 underlying31 rfl sizeOf3 rfl rfl) rfl (RL.s (Vl.ld 1 hS isAgg3 rfl rfl rfl) rfl (RL.s (Vl.fa 2 underlying31 rfl sizeOf3 rfl rfl) rfl (RL.s (Vl.ld 0 hS isAgg3 rfl rfl rfl) rfl (pn 2 rfl ?_))))))))
  refine RL.iteP 10 rfl h (fun hc25 h => ?_) fun hc25 h => ?_
  next =>
   refine RL.sg (Vl.fa 0 underlying31 rfl sizeOf28 rfl rfl) rfl rfl (RL.sg (Vl.ld 1 hS isAgg28 rfl rfl rfl) rfl rfl (RL.sg (Vl.fa 0 underlying31 rfl sizeOf28 rfl rfl) rfl rfl (RL.sg (Vl.ld 0 hS isAgg28 rfl rfl rfl) rfl rfl (cF (fun _ hg => isochronlaw14vhistory.ok hr4 hr11 hg hS) call15 h rfl rfl rfl ?_))))
   rintro t26 h _ w ⟨rfl, hS⟩
   refine pn 2 rfl ?_
   refine RL.iteB 17 rfl h (fun hc28 h => ?_) fun hc28 h => ?_
   next =>
    refine RL.sg (Vl.fa 1 underlying31 rfl sizeOf29 rfl rfl) rfl rfl (RL.sg (Vl.ld 1 hS isAgg29 rfl rfl rfl) rfl rfl (RL.sg (Vl.fa 1 underlying31 rfl sizeOf29 rfl rfl) rfl rfl (RL.sg (Vl.ld 0 hS isAgg29 rfl rfl rfl) rfl rfl (cF (fun _ hg => isochronlaw14vstates.ok hr7 hr14 hg hS) call23 h rfl rfl rfl ?_))))
    rintro t29 h _ w ⟨rfl, hS⟩
    refine pn 2 rfl (lr ?_)
    obtain rfl := h.some
    exact rt results11 rfl ⟨rfl, hS.d0.d0⟩
   next =>
    refine pn 7 rfl (lr ?_)
    obtain rfl := h.some
    exact rt results11 rfl ⟨rfl, hS.d0.d0⟩
  next =>
   refine pn 14 rfl (lr ?_)
   obtain rfl := h.some
   exact rt results11 rfl ⟨rfl, hS.d0.d0⟩

/-! ### isochron/isochronlaw14.awake: function 12 -/
noncomputable def isochronlaw14vawake.f  : Option (Bool) := ((seq_Run.f (⟨[([] : List api_Instr)], [], [(⟨0, 0, 3⟩ : api_Start)], 0, 0, 5⟩ : api_Model)).bind fun (y38, y39, y40, y41) => (if y41 = 0 then (if y40 = 1 then some (decide ((y38.length : Int) = 1)) else some false) else some false))
theorem isochronlaw14vawake.ok (hG0 : GlobAt hf 0 (.iface 148 (.agg #[.pointer (some ⟨1, 83, none⟩)]))) {r : Bool} (h : isochronlaw14vawake.f = some r) (hS : St B w (l) hf) :
    Calls prog 12 #[] w (Ret fun v w => v = .bool r ∧ St B w (l) hf) := by
  have h := Holds.of h
  refine en func12 rfl ntmps12 rfl (sr (pn 1 rfl (lnsr ?_)))
  have hx26 : RepL (Rep.sl E_api_Instr.rep) hf [.slice none 0 0] [([] : List api_Instr)] := (RepL.cons (c := [.slice none 0 0]) (r := []) ⟨none, 0, rfl, SlR.nil⟩ RepL.nil)
  refine RL.e (OW.buildSliceR (sz := 1) (cs := [.slice none 0 0]) hS underlying22 zeroValue100 sizeOf100 (parts := [(0, .const (.slice none 0 0))]) rfl rfl (by decide) (by decide) (by kernel_rfl)) rfl rfl ?_
  rintro _ w ⟨b25, rfl, hS⟩
  refine RL.s (Vl.build (v := .agg #[.int .i64 0, .int .i64 0, .int .i64 3]) (parts := [(2, .const (.int .i64 3))]) rfl (by kernel_rfl)) rfl (RL.e (OW.buildSlice (E := E_api_Start) (xs := [(⟨0, 0, 3⟩ : api_Start)]) (cs := [.int .i64 0, .int .i64 0, .int .i64 3]) hS underlying24 zeroValue74 sizeOf74 (parts := [(0, .tmp 5)]) rfl rfl (by decide) (by decide) (by kernel_rfl) rfl) rfl rfl ?_)
  rintro _ w ⟨b27, rfl, hS⟩
  refine RL.s (Vl.build (v := .agg #[.slice (some ⟨b25, 0, none⟩) ([([] : List api_Instr)]).length 1, .slice none 0 0, .slice (some ⟨b27, 0, none⟩) ([(⟨0, 0, 3⟩ : api_Start)]).length 1, .int .u64 0, .int .i64 0, .int .i64 5]) (parts := [(0, .tmp 4), (2, .tmp 6), (5, .const (.int .i64 5))]) rfl (by kernel_rfl)) rfl ?_
  obtain ⟨hf31, hs29, hS, hr28, hb30⟩ := St.lendSlR (Rep.sl_ok E_api_Instr.rep) hS.p1 rfl hx26
  obtain ⟨hf35, hs33, hS, hr32, hb34⟩ := St.lendSl hS
  obtain ⟨t36, hg37, h⟩ := h.bind
  have hc := seq_Run.ok (a1 := (⟨[([] : List api_Instr)], [], [(⟨0, 0, 3⟩ : api_Start)], 0, 0, 5⟩ : api_Model)) (hr28.mono hs33) (SlR.nil (A := none) (c := 0)) hr32 ((hG0.mono hs29).mono hs33) hg37 hS
  obtain ⟨y38, y39, y40, y41⟩ := t36
  refine RL.e (OW.callF (ls := [.tmp 7]) rfl call9 hc) rfl rfl ?_
  rintro _ w ⟨A42, c43, A44, c45, rfl, hS⟩
  have hS := hb34 _ _ hS
  have hS := hb30 _ _ hS
  have hS : St B w (_ :: _ :: _ :: _ :: l) hf := hS
  refine pn 3 rfl (al hS zeroValue31 rfl rfl rfl fun b46 w hS => RL.e0 (OW.store (vs := [.slice A42 y38.length c43, .slice A44 y39.length c45, .int .i64 y40]) 0 hS rfl rfl rfl rfl sizeOf31 rfl rfl rfl rfl) rfl ?_)
  rintro _ w ⟨rfl, hS⟩
  have hS : St B w (Cl _ [_, _, _] _ :: _ :: _ :: _ :: _ :: l) hf := hS
  refine pn 1 rfl (lnsr (pn 3 rfl ?_))
  refine RL.iteP 13 rfl h (fun hc47 h => ?_) fun hc47 h => ?_
  next =>
   refine RL.sg (Vl.fa 2 underlying31 rfl sizeOf3 rfl rfl) rfl rfl (RL.sg (Vl.ld 0 hS isAgg3 rfl rfl rfl) rfl rfl (pn 3 rfl ?_))
   refine RL.iteP 18 rfl h (fun hc48 h => ?_) fun hc48 h => ?_
   next =>
    refine RL.sg (Vl.fa 0 underlying31 rfl sizeOf28 rfl rfl) rfl rfl (RL.sg (Vl.ld 0 hS isAgg28 rfl rfl rfl) rfl rfl (RL.sg (Vl.lenSl underlying28 rfl) rfl rfl (pn 3 rfl (lr ?_))))
    obtain rfl := h.some
    exact rt results12 rfl ⟨rfl, hS.d0.d0.d0.d0.d0⟩
   next =>
    refine pn 6 rfl (lr ?_)
    obtain rfl := h.some
    exact rt results12 rfl ⟨rfl, hS.d0.d0.d0.d0.d0⟩
  next =>
   refine pn 11 rfl (lr ?_)
   obtain rfl := h.some
   exact rt results12 rfl ⟨rfl, hS.d0.d0.d0.d0.d0⟩

end Go.Proofs.Gx
