/-
  The walks of functions, each with what it computes: printed by wip/gx.py.
-/
import Derived.Test.YtpheghebfodiiaaGreatDoorW0
import Derived.Test.YtpheghebfodiiaaGreatDoorW1
set_option linter.unusedVariables false
set_option linter.unusedSimpArgs false
set_option maxRecDepth 100000
set_option maxHeartbeats 4000000
namespace Go.Proofs.Gx
open Go.Sl Tryz
variable {B : Base} {w : World} {l : List HProp} {hf : Hp}
noncomputable section
def model_links.l2b (a1 : api_Model) : (Nat → Bool) × Int → Option (((Nat → Bool) × Int) ⊕ ((Int) ⊕ (model_flaw) ⊕ (Unit)))
  | (fn256, x257) => (if x257 < (a1.Links.length : Int) then (if 0 ≤ x257 then ((model_lane.f a1 ((nth a1.Links x257).From)).bind fun t364 => (if t364 = true then ((model_lane.f a1 ((nth a1.Links x257).To)).bind fun t367 => (if t367 = true then (if (nth a1.Links x257).Look < 1 then some (.inr (.inr (.inl (⟨x257, 131⟩ : model_flaw)))) else (if 4611686018427387903 < (nth a1.Links x257).Look then some (.inr (.inr (.inl (⟨x257, 131⟩ : model_flaw)))) else (if 0 ≤ (nth a1.Links x257).From ∧ (nth a1.Links x257).From < 16 then (if 0 ≤ (nth a1.Links x257).To ∧ (nth a1.Links x257).To < 16 then (if fn256 (((nth a1.Links x257).From).toNat * 16 + ((nth a1.Links x257).To).toNat * 1) = true then some (.inr (.inr (.inl (⟨x257, 131⟩ : model_flaw)))) else some (.inl (upd fn256 (((nth a1.Links x257).From).toNat * 16 + ((nth a1.Links x257).To).toNat * 1) true, IntKind.i64.wrap (x257 + 1)))) else none) else none))) else some (.inr (.inr (.inl (⟨x257, 131⟩ : model_flaw)))))) else some (.inr (.inr (.inl (⟨x257, 131⟩ : model_flaw)))))) else none) else some (.inr (.inr (.inr (())))))
def model_links.l2 (a1 : api_Model) (s : (Nat → Bool) × Int) : Option ((Int) ⊕ (model_flaw) ⊕ (Unit)) := loopR (model_links.l2b a1) s
def model_links.f (a1 : api_Model) : Option ((Int) ⊕ (model_flaw) ⊕ (Unit)) := (if 1024 < (a1.Links.length : Int) then some (.inl 131) else model_links.l2 a1 (fun _ => false, 0))
theorem model_links.ok {a1 : api_Model} {A2 A5 A8 : Option Addr} {c3 c6 c9 : Nat} (hr4 : SlR (Rep.sl E_api_Instr.rep) hf A2 c3 a1.Progs) (hr7 : SlR E_api_Link.rep hf A5 c6 a1.Links) (hr10 : SlR E_api_Start.rep hf A8 c9 a1.Starts) {r : (Int) ⊕ (model_flaw) ⊕ (Unit)} (h : model_links.f a1 = some r) (hS : St B w (l) hf) :
    Calls prog 46 #[.agg (C_api_Model a1 A2 c3 A5 c6 A8 c9).toArray] w (Ret fun v w => match (generalizing := false) r with | .inl r_ => v = .iface 31 (iV r_) ∧ St B w (l) hf | .inr (.inl r_) => v = .iface 83 (.agg #[iV r_.at_, iV r_.why]) ∧ St B w (l) hf | .inr (.inr (r_)) => v = .nilIface ∧ St B w (l) hf) := by
  have h := Holds.of h
  refine en func46 rfl ntmps46 rfl (sr (rr [0, 0] hS ?_))
  refine fun b194 => it fun w hS => ln (RC.seq (sr (rr [0, 1, 0, 0] hS ?_)))
  refine it fun w hS => ln ?_
  refine RC.iteP 9 rfl h (fun hc196 h => ?_) fun hc196 h => ?_
  next =>
   refine jtr (r0 2 rfl (lr (RQ.ret ?_)))
   cases h.some
   exact rt results46 rfl ⟨rfl, hS.d0⟩
  refine jfs (sr (RL.s (Vl.build (v := .agg (fc Value.bool 256 (fun _ => false)).toArray) (parts := []) rfl (by kernel_rfl)) rfl (RL.e (OW.alloc (cs := fc Value.bool 256 (fun _ => false)) hS zeroValue190 (by kernel_rfl)) rfl rfl ?_)))
  rintro _ w ⟨b197, rfl, hS⟩
  refine RL.e0 (OW.storeAll (f := fun _ => false) (g' := fun _ => false) 0 hS rfl rfl rfl sizeOf190 (fun _ => rfl) rfl) rfl ?_
  rintro _ w ⟨rfl, hS⟩
  have hS : St B w (_ :: _ :: l) hf := hS
  refine ln (RC.seq (sr (rr [0, 2, 0, 0] hS ?_)))
  refine it fun w hS => ln (RC.block (fun a ha => lp h (fun (s : (Nat → Bool) × Int) a w => ∃ fn256 x257, s = (fn256, x257) ∧ Has 61 [(1, pV b194), (3, pV b197), (13, sV A5 a1.Links c6), (14, iV (a1.Links.length : Int)), (15, iV x257)] a ∧ St B w (Cl b197 (fc Value.bool 256 fn256) 190 :: Cl b194 (C_api_Model a1 A2 c3 A5 c6 A8 c9) 27 :: l) hf) ⟨_, _, rfl, ha.tE rfl, hS⟩ ?_))
  rintro G318 _ a w ⟨fn256, x257, rfl, ha, hS⟩ h
  refine ro ha (sr (pn 1 rfl (ln (RC.seq ?_))))
  refine RC.iteP 16 rfl h (fun hc320 h => ?_) fun hc320 h => ?_
  next =>
   refine jt (sk (RC.seq (RC.block (sr (pn 1 rfl ?_)))))
   obtain ⟨hq349, h⟩ := h.req
   refine RL.s (Vl.indexAddr underlying23 sizeOf65 rfl rfl ((hr7.2.world hS.sub).adr hq349 hc320) hq349 hc320 rfl) rfl (RL.s (Vl.loadA isAgg65 sizeOf65 rfl rfl ((hr7.2.world hS.sub).cells hq349 hc320)) rfl (rr [0, 0, 1] hS ?_))
   refine fun b350 => it fun w hS => ln (RC.seq (RC.seq (dr [1, 3, 7, 11, 12, 15, 19, 21, 25, 29, 30, 33, 36, 39, 43, 45, 48, 51, 54, 58, 60, 63, 66, 69, 73, 75, 79, 83, 86, 89, 92] [28, 29, 30] hS fun w hS => rq [3, 0, 1] hS ?_)))
   refine it ?_
   obtain ⟨t364, hg365, h⟩ := h.bind
   have hc := model_lane.ok hr4 hr7 hr10 hg365 hS
   refine RP.e 3 rfl (OW.callF (ls := [.tmp 20, .tmp 22]) rfl call54 hc) rfl rfl ?_
   rintro _ w ⟨rfl, hS⟩
   refine ⟨kp ⟨fun _ => hS, trivial⟩, ?_⟩
   refine pp 2 rfl ?_
   refine RP.iteM 25 rfl h (fun hc366 h => ?_) fun hc366 h => ?_
   next =>
    refine rq [3, 0, 1] hS ?_
    refine it ?_
    obtain ⟨t367, hg368, h⟩ := h.bind
    have hc := model_lane.ok hr4 hr7 hr10 hg368 hS
    refine RP.e 9 rfl (OW.callF (ls := [.tmp 26, .tmp 28]) rfl call54 hc) rfl rfl ?_
    rintro _ w ⟨rfl, hS⟩
    refine ⟨kp ⟨fun _ => hS, trivial⟩, ?_⟩
    refine pp 3 rfl ?_
    refine RP.iteM 32 rfl h (fun hc369 h => ?_) fun hc369 h => ?_
    next =>
     refine rq [0, 1, 0, 0, 0] hS ?_
     refine it ?_
     refine RP.iteP 37 rfl h (fun hc370 h => ?_) fun hc370 h => ?_
     next =>
      refine rq [0, 0, 0, 0, 0, 0, 0, 0, 0, 0, 0, 0, 0] hS ?_
      refine it (RP.nil (RQ.then_n (jtr (r0 4 rfl (lr (RQ.ret (ir ?_)))))))
      have h := h.inrS
      refine RQ.ret (ir ?_)
      cases h.some
      exact rt results46 rfl ⟨rfl, hS.d0.d0.d0⟩
     refine rq [0, 1, 0, 0, 0] hS ?_
     refine it ?_
     refine RP.iteP 42 rfl h (fun hc371 h => ?_) fun hc371 h => ?_
     next =>
      refine rq [0, 0, 0, 0, 0, 0, 0, 0] hS ?_
      refine it (RP.nil (RQ.then_n (jtr (r0 4 rfl (lr (RQ.ret (ir ?_)))))))
      have h := h.inrS
      refine RQ.ret (ir ?_)
      cases h.some
      exact rt results46 rfl ⟨rfl, hS.d0.d0.d0⟩
     refine rq [0, 1, 0, 1] hS ?_
     refine it ?_
     obtain ⟨⟨hq372, hq373⟩, h⟩ := h.req
     refine RP.v1 27 rfl (Vl.indexAddrA (a'' := ⟨b197, ((nth a1.Links x257).From).toNat * 16, none⟩) underlying190 sizeOf189 rfl rfl hq372 hq373 (add_zero_mk _ _)) rfl rfl ?_
     obtain ⟨⟨hq374, hq375⟩, h⟩ := h.req
     refine RP.v1 28 rfl (Vl.indexAddrA (a'' := ⟨b197, ((nth a1.Links x257).From).toNat * 16 + ((nth a1.Links x257).To).toNat * 1, none⟩) underlying189 sizeOf4 rfl rfl hq374 hq375 (add_mk _ _ _)) rfl rfl (RP.v1 29 rfl (Vl.load isAgg4 rfl (hS.cell 1 rfl (fc_get (by omega)))) rfl rfl (rq [0] hS ?_))
     refine it (RP.nil (RQ.then_n ?_))
     refine RC.iteB 50 rfl h (fun hc376 h => ?_) fun hc376 h => ?_
     next =>
      refine jtr (r0 4 rfl (lr (RQ.ret (ir ?_))))
      have h := h.inrS
      refine RQ.ret (ir ?_)
      cases h.some
      exact rt results46 rfl ⟨rfl, hS.d0.d0.d0⟩
     refine jfs (dr [0, 4, 6, 10, 14, 17, 20] [5, 6] hS fun w hS => rq [0, 1, 0, 1] hS ?_)
     refine it (RP.v1 4 rfl (Vl.indexAddrA (a'' := ⟨b197, ((nth a1.Links x257).From).toNat * 16, none⟩) underlying190 sizeOf189 rfl rfl hq372 hq373 (add_zero_mk _ _)) rfl rfl (RP.v1 5 rfl (Vl.indexAddrA (a'' := ⟨b197, ((nth a1.Links x257).From).toNat * 16 + ((nth a1.Links x257).To).toNat * 1, none⟩) underlying189 sizeOf4 rfl rfl hq374 hq375 (add_mk _ _ _)) rfl rfl (RP.e0 6 rfl (OW.storeF (mk := Value.bool) 1 hS rfl rfl rfl sizeOf4 (by omega) (fun _ => rfl) (fun _ => rfl) rfl) rfl ?_)))
     rintro _ w ⟨rfl, hS⟩
     have hS : St B w (_ :: _ :: _ :: l) hf := hS
     refine ⟨kp ⟨(by intro hx; cases hx), trivial⟩, ?_⟩
     refine RP.nil (RQ.inB_n (RQ.then_n (RC.region (pn 2 rfl (RL.nil ?_)))))
     exact fun a ha => ⟨_, h.some, _, _, rfl, ha.tE rfl, hS.d0⟩
    refine rq [0, 0, 0, 0, 0, 0, 0, 0, 0, 0, 0, 0, 0, 0, 0, 0, 0, 0] hS ?_
    refine it (RP.nil (RQ.then_n (jtr (r0 4 rfl (lr (RQ.ret (ir ?_)))))))
    have h := h.inrS
    refine RQ.ret (ir ?_)
    cases h.some
    exact rt results46 rfl ⟨rfl, hS.d0.d0.d0⟩
   refine rq [0, 0, 0, 0, 0, 0, 0, 0, 0, 0, 0, 0, 0, 0, 0, 0, 0, 0, 0, 0, 0, 0, 0, 0, 0] hS ?_
   refine it (RP.nil (RQ.then_n (jtr (r0 4 rfl (lr (RQ.ret (ir ?_)))))))
   have h := h.inrS
   refine RQ.ret (ir ?_)
   cases h.some
   exact rt results46 rfl ⟨rfl, hS.d0.d0.d0⟩
  refine jf (RC.exit (RQ.exitT ?_))
  have h := h.inrS
  refine RQ.exitT (RQ.inB_hit (tsr (pn 1 rfl (lr ?_))))
  cases h.some
  exact rt results46 rfl ⟨rfl, hS.d0.d0⟩
def errors_As_3.f (a1 a3 : model_flaw) : Option (Bool × model_flaw) := ((errors_as_3.f a1 a3).bind fun (y14, y15) => some (y14, y15))
theorem errors_As_3.ok {a1 a3 : model_flaw} {b2 : Nat} (hG0 : GlobAt hf 0 (.iface 192 (.agg #[.pointer (some ⟨1, 85, none⟩)]))) {r : Bool × model_flaw} (h : errors_As_3.f a1 a3 = some r) (hS : St B w (Cl b2 [iV a3.at_, iV a3.why] 83 :: l) hf) :
    Calls prog 24 #[.iface 83 (.agg #[iV a1.at_, iV a1.why]), .iface 87 (pV b2)] w (Ret fun v w => v = .bool r.1 ∧ St B w (Cl b2 [iV r.2.at_, iV r.2.why] 83 :: l) hf) := by
  have h := Holds.of h
  refine en func24 rfl ntmps24 rfl (sr (pn 1 rfl (ln (RC.seq (sr (pn 1 rfl (RL.s (Vl.bn false rfl rfl) rfl (ln (jfs ?_)))))))))
  refine RC.seq (sr (pn 1 rfl (RL.s (Vl.bn false rfl rfl) rfl (ln (jfs (sr (pn 1 rfl (RL.e (OW.externNew (ls := [.tmp 13]) (cs := [pV b2]) (T := 87) (v := fun b => .agg #[.pointer (some ⟨1, 87, none⟩), pV b, .int .u64 150]) hS rfl func48 (by kernel_rfl) (by kernel_rfl) (by kernel_rfl) (e := fun args => Extern.ReflectliteValue.unpack (args.getD 0 (.tuple #[]))) (by kernel_rfl) (fun w => by kernel_rfl)) rfl rfl ?_))))))))
  rintro _ w ⟨b10, rfl, hS⟩
  refine rr [0, 1] hS ?_
  refine fun b11 => it fun w hS => lnsr (rr [1] hS ?_)
  refine it fun w hS => RL.s (Vl.eX [.tmp 15] (.iface 192 (.agg #[.pointer (some ⟨1, 87, none⟩)])) Ex3 func49 rfl) rfl (pn 1 rfl (ln (RC.seq (sr (pn 1 rfl (RL.s (Vl.iX [] (.int .u8 22) (.pointer (some ⟨1, 87, none⟩)) Ex4 func218 rfl rfl) rfl (rr [0, 0, 1] hS ?_)))))))
  refine it fun w hS => ?_
  refine RL.sg (Vl.externAt (ls := [.tmp 21]) (v := .bool false) rfl func50 (by kernel_rfl) (by kernel_rfl) (by kernel_rfl) (e := Extern.ReflectliteValue.method (Extern.ReflectliteValue.valueError "reflectlite.Value.IsNil" 0) Extern.ReflectliteValue.isNil) (by kernel_rfl) (run_isNil (n := 150) (a := ⟨b10, 0, none⟩) (fun w => by kernel_rfl) underlying87 rfl (hS.cell 1 rfl rfl))) rfl rfl (pn 1 rfl (ln (jfs (sr (pn 1 rfl (RL.s (Vl.iX [] (.iface 192 (.agg #[.pointer (some ⟨1, 83, none⟩)])) (.agg #[.pointer (some ⟨1, 87, none⟩)]) Ex5 func240 rfl rfl) rfl (pn 1 rfl (ln (RC.seq (RC.seq ?_))))))))))
  refine RC.region (pn 1 rfl (RL.s (Vl.iX [] (.int .u8 25) (.pointer (some ⟨1, 83, none⟩)) Ex4 func218 rfl rfl) rfl (pn 3 rfl (RL.sg (Vl.load isAgg137 rfl (cellH_world hS.sub hG0)) rfl rfl (RL.sg (Vl.iX [.tmp 32] (.bool true) (.agg #[.pointer (some ⟨1, 83, none⟩)]) Ex6 func241 rfl rfl) rfl rfl (pn 2 rfl (ln (jfs (sr (rr [0, 0, 1, 0] hS ?_))))))))))
  refine it fun w hS => cF (fun _ hg => errors_as_3.ok hg hS.p1.p2) call51 h rfl rfl rfl ?_
  rintro ⟨y14, y15⟩ h _ w ⟨rfl, hS⟩
  refine pn 1 rfl (lr ?_)
  cases h.some
  exact rt results24 rfl ⟨rfl, hS.d1.d1⟩
def errors_Is_5.f (a1 : model_flaw) (a2 : Int) : Option (Bool) := ((errors_is_4.f a1 a2 true).bind fun t5 => some t5)
theorem errors_Is_5.ok {a1 : model_flaw} {a2 : Int} {r : Bool} (h : errors_Is_5.f a1 a2 = some r) (hS : St B w (l) hf) :
    Calls prog 25 #[.iface 83 (.agg #[iV a1.at_, iV a1.why]), .iface 31 (iV a2)] w (Ret fun v w => v = .bool r ∧ St B w (l) hf) := by
  have h := Holds.of h
  refine en func25 rfl ntmps25 rfl (sr (pn 1 rfl (ln (RC.seq (sr (pn 1 rfl (RL.s (Vl.bn false rfl rfl) rfl (pn 2 rfl (RL.sg (Vl.bn false rfl rfl) rfl rfl (pn 1 rfl (ln ?_)))))))))))
  refine jfs (sr (pn 1 rfl (RL.s (Vl.eX [.tmp 15] (.iface 192 (.agg #[.pointer (some ⟨1, 31, none⟩)])) Ex1 func52 rfl) rfl (RL.s (Vl.iX [] (.bool true) (.agg #[.pointer (some ⟨1, 31, none⟩)]) Ex7 func239 rfl rfl) rfl (pn 1 rfl (lnsr (pn 3 rfl (cF (fun _ hg => errors_is_4.ok hg hS) call53 h rfl rfl rfl ?_))))))))
  rintro t5 h _ w ⟨rfl, hS⟩
  refine pn 1 rfl (lr ?_)
  obtain rfl := h.some
  exact rt results25 rfl ⟨rfl, hS⟩
def model_starts.l2b (a1 : api_Model) : Int → Option ((Int) ⊕ ((Int) ⊕ (model_flaw) ⊕ (Unit)))
  | (x90) => (if x90 < (a1.Starts.length : Int) then (if 0 ≤ x90 then ((model_lane.f a1 ((nth a1.Starts x90).To)).bind fun t123 => (if t123 = true then ((vtime_Valid.f ((nth a1.Starts x90).Time)).bind fun t126 => (if t126 = true then some (.inl (IntKind.i64.wrap (x90 + 1))) else some (.inr (.inr (.inl (⟨x90, 132⟩ : model_flaw)))))) else some (.inr (.inr (.inl (⟨x90, 132⟩ : model_flaw)))))) else none) else some (.inr (.inr (.inr (())))))
def model_starts.l2 (a1 : api_Model) (s : Int) : Option ((Int) ⊕ (model_flaw) ⊕ (Unit)) := loopR (model_starts.l2b a1) s
def model_starts.f (a1 : api_Model) : Option ((Int) ⊕ (model_flaw) ⊕ (Unit)) := (if 4096 < (a1.Starts.length : Int) then some (.inl 132) else model_starts.l2 a1 (0))
theorem model_starts.ok {a1 : api_Model} {A2 A5 A8 : Option Addr} {c3 c6 c9 : Nat} (hr4 : SlR (Rep.sl E_api_Instr.rep) hf A2 c3 a1.Progs) (hr7 : SlR E_api_Link.rep hf A5 c6 a1.Links) (hr10 : SlR E_api_Start.rep hf A8 c9 a1.Starts) {r : (Int) ⊕ (model_flaw) ⊕ (Unit)} (h : model_starts.f a1 = some r) (hS : St B w (l) hf) :
    Calls prog 47 #[.agg (C_api_Model a1 A2 c3 A5 c6 A8 c9).toArray] w (Ret fun v w => match (generalizing := false) r with | .inl r_ => v = .iface 31 (iV r_) ∧ St B w (l) hf | .inr (.inl r_) => v = .iface 83 (.agg #[iV r_.at_, iV r_.why]) ∧ St B w (l) hf | .inr (.inr (r_)) => v = .nilIface ∧ St B w (l) hf) := by
  have h := Holds.of h
  refine en func47 rfl ntmps47 rfl (sr (rr [0, 0] hS ?_))
  refine fun b70 => it fun w hS => ln (RC.seq (sr (rr [0, 1, 0, 0] hS ?_)))
  refine it fun w hS => ln ?_
  refine RC.iteP 8 rfl h (fun hc72 h => ?_) fun hc72 h => ?_
  next =>
   refine jtr (r0 2 rfl (lr (RQ.ret ?_)))
   cases h.some
   exact rt results47 rfl ⟨rfl, hS.d0⟩
  refine jfs (RC.seq (sr (rr [0, 1, 0, 0] hS ?_)))
  refine it fun w hS => ln (RC.block (fun a ha => lp h (fun (s : Int) a w => ∃ x90, s = (x90) ∧ Has 33 [(1, pV b70), (11, sV A8 a1.Starts c9), (12, iV (a1.Starts.length : Int)), (13, iV x90)] a ∧ St B w (Cl b70 (C_api_Model a1 A2 c3 A5 c6 A8 c9) 27 :: l) hf) ⟨_, rfl, ha.tE rfl, hS⟩ ?_))
  rintro G110 x90 a w ⟨_, rfl, ha, hS⟩ h
  refine ro ha (sr (pn 1 rfl (ln (RC.seq ?_))))
  refine RC.iteP 14 rfl h (fun hc112 h => ?_) fun hc112 h => ?_
  next =>
   refine jt (sk (RC.seq (RC.block (sr (pn 1 rfl ?_)))))
   obtain ⟨hq121, h⟩ := h.req
   refine RL.s (Vl.indexAddr underlying24 sizeOf156 rfl rfl ((hr10.2.world hS.sub).adr hq121 hc112) hq121 hc112 rfl) rfl (RL.s (Vl.loadA isAgg156 sizeOf156 rfl rfl ((hr10.2.world hS.sub).cells hq121 hc112)) rfl (rr [0, 0, 1] hS ?_))
   refine fun b122 => it fun w hS => lnsr (rr [2, 0, 1] hS ?_)
   refine it fun w hS => cF (fun _ hg => model_lane.ok hr4 hr7 hr10 hg hS) call54 h rfl rfl rfl ?_
   rintro t123 h _ w ⟨rfl, hS⟩
   refine pn 2 rfl ?_
   refine RL.iteM 23 rfl h (fun hc125 h => ?_) fun hc125 h => ?_
   next =>
    refine rr [0, 1] hS ?_
    refine it fun w hS => cF (fun _ hg => vtime_Valid.ok hg hS) call81 h rfl rfl rfl ?_
    rintro t126 h _ w ⟨rfl, hS⟩
    refine pn 2 rfl (ln ?_)
    refine RC.iteM 28 rfl h (fun hc128 h => ?_) fun hc128 h => ?_
    next =>
     refine jf (RC.skip (RQ.inB_n (RQ.then_n (RC.region (pn 2 rfl (RL.nil ?_))))))
     exact fun a ha => ⟨_, h.some, _, rfl, ha.tE rfl, hS.d0⟩
    refine jtr (r0 4 rfl (lr (ir ?_)))
    have h := h.inrS
    refine RQ.ret (ir ?_)
    cases h.some
    exact rt results47 rfl ⟨rfl, hS.d0.d0⟩
   refine pn 5 rfl (ln (jtr (r0 4 rfl (lr (ir ?_)))))
   have h := h.inrS
   refine RQ.ret (ir ?_)
   cases h.some
   exact rt results47 rfl ⟨rfl, hS.d0.d0⟩
  refine jf (RC.exit (RQ.exitT ?_))
  have h := h.inrS
  refine RQ.exitT (RQ.inB_hit (tsr (pn 1 rfl (lr ?_))))
  cases h.some
  exact rt results47 rfl ⟨rfl, hS.d0⟩
def model_Check.f (a1 : api_Model) : Option (Int) := ((model_rules.f).bind fun _ => ((model_sizes.f a1).bind fun t205 => match t205 with | .inl y207 => ((errors_As.f y207 (⟨0, 0⟩ : model_flaw)).bind fun t208 => (if t208 = true then some 0 else ((errors_Is.f y207 131).bind fun t211 => (if t211 = true then some 131 else ((errors_Is.f y207 132).bind fun t214 => (if t214 = true then some 132 else some 1)))))) | .inr (_) => ((model_programs.f a1).bind fun t239 => match t239 with | .inl (y241, y242) => ((errors_As_2.f y241 y242 (⟨0, 0⟩ : model_flaw)).bind fun (y248, y249) => (if y248 = true then some y249.why else ((errors_Is_4.f y241 y242 131).bind fun t251 => (if t251 = true then some 131 else ((errors_Is_4.f y241 y242 132).bind fun t254 => (if t254 = true then some 132 else some 1)))))) | .inr (_) => ((model_links.f a1).bind fun t285 => match t285 with | .inl y287 => ((errors_As.f y287 (⟨0, 0⟩ : model_flaw)).bind fun t288 => (if t288 = true then some 0 else ((errors_Is.f y287 131).bind fun t291 => (if t291 = true then some 131 else ((errors_Is.f y287 132).bind fun t294 => (if t294 = true then some 132 else some 1)))))) | .inr (.inl y297) => ((errors_As_3.f y297 (⟨0, 0⟩ : model_flaw)).bind fun (y300, y301) => (if y300 = true then some y301.why else ((errors_Is_5.f y297 131).bind fun t303 => (if t303 = true then some 131 else ((errors_Is_5.f y297 132).bind fun t306 => (if t306 = true then some 132 else some 1)))))) | .inr (.inr (_)) => ((model_starts.f a1).bind fun t337 => match t337 with | .inl y339 => ((errors_As.f y339 (⟨0, 0⟩ : model_flaw)).bind fun t340 => (if t340 = true then some 0 else ((errors_Is.f y339 131).bind fun t343 => (if t343 = true then some 131 else ((errors_Is.f y339 132).bind fun t346 => (if t346 = true then some 132 else some 1)))))) | .inr (.inl y349) => ((errors_As_3.f y349 (⟨0, 0⟩ : model_flaw)).bind fun (y352, y353) => (if y352 = true then some y353.why else ((errors_Is_5.f y349 131).bind fun t355 => (if t355 = true then some 131 else ((errors_Is_5.f y349 132).bind fun t358 => (if t358 = true then some 132 else some 1)))))) | .inr (.inr (_)) => some 0)))))
theorem model_Check.ok {a1 : api_Model} {A2 A5 A8 : Option Addr} {c3 c6 c9 : Nat} (hr4 : SlR (Rep.sl E_api_Instr.rep) hf A2 c3 a1.Progs) (hr7 : SlR E_api_Link.rep hf A5 c6 a1.Links) (hr10 : SlR E_api_Start.rep hf A8 c9 a1.Starts) (hG0 : GlobAt hf 0 (.iface 192 (.agg #[.pointer (some ⟨1, 85, none⟩)]))) {r : Int} (h : model_Check.f a1 = some r) (hS : St B w (l) hf) :
    Calls prog 10 #[.agg (C_api_Model a1 A2 c3 A5 c6 A8 c9).toArray] w (Ret fun v w => v = iV r ∧ St B w (l) hf) := by
  have h := Holds.of h
  refine en func10 rfl ntmps10 rfl (sr (rr [0, 0] hS ?_))
  refine fun b186 => it fun w hS => ln (RC.seq (sr (cF (fun _ hg => model_rules.ok hg hS) call23 h rfl rfl rfl ?_)))
  rintro _ h _ w ⟨rfl, hS⟩
  refine pn 1 rfl (ln (RC.block (RC.unroll (RQ.round (sr (pn 1 rfl (ln (RC.seq (jt (sk (RC.seq ?_)))))))))))
  refine RC.block (sr (RL.s (Vl.indexA (v := .agg #[.func (.func 44) #[] #[]]) underlying80 sizeOf79 rfl rfl (by decide) (by decide) (run_partA isAgg79 sizeOf79)) rfl (rr [0, 1] hS ?_)))
  refine fun b203 => it fun w hS => lnsr (rr [0] hS ?_)
  refine fun b204 => it fun w hS => ln (RC.seq (sr (rr [0, 2, 3] hS ?_)))
  refine it fun w hS => ?_
  obtain ⟨t205, hg206, h⟩ := h.bind
  have hc := model_sizes.ok hr4 hr7 hr10 hg206 hS
  rcases t205 with y207 | _
  · refine RL.e (OW.call (ls := [.tmp 13]) rfl rfl call44 rfl hc) rfl rfl ?_
    rintro _ w ⟨rfl, hS⟩
    refine pn 1 rfl (ln (RC.block (sr (pn 1 rfl (RL.s (Vl.bn false rfl rfl) rfl (pn 1 rfl (ln (jf (sr (r0 2 rfl (cF (fun _ hg => errors_As.ok hG0 hg hS) call24 h rfl rfl rfl ?_)))))))))))
    rintro t208 h _ w ⟨rfl, hS⟩
    refine pn 1 rfl (ln ?_)
    refine RC.iteB 18 rfl h (fun hc210 h => ?_) fun hc210 h => ?_
    next =>
     refine jtr (rr [0, 1, 0] hS ?_)
     refine it fun w hS => lr (ir (ir (RQ.ret (ir ?_))))
     obtain rfl := h.some
     exact rt results10 rfl ⟨rfl, hS.d0.d0.d0⟩
    refine jf (sr (r0 2 rfl (cF (fun _ hg => errors_Is.ok hg hS) call25 h rfl rfl rfl ?_)))
    rintro t211 h _ w ⟨rfl, hS⟩
    refine pn 1 rfl (ln ?_)
    refine RC.iteB 24 rfl h (fun hc213 h => ?_) fun hc213 h => ?_
    next =>
     refine jtr (pn 1 rfl (lr (ir (ir (RQ.ret (ir ?_))))))
     obtain rfl := h.some
     exact rt results10 rfl ⟨rfl, hS.d0.d0.d0⟩
    refine jf (sr (r0 2 rfl (cF (fun _ hg => errors_Is.ok hg hS) call25 h rfl rfl rfl ?_)))
    rintro t214 h _ w ⟨rfl, hS⟩
    refine pn 1 rfl (ln ?_)
    refine RC.iteB 28 rfl h (fun hc216 h => ?_) fun hc216 h => ?_
    next =>
     refine jtr (pn 1 rfl (lr (ir (ir (RQ.ret (ir ?_))))))
     obtain rfl := h.some
     exact rt results10 rfl ⟨rfl, hS.d0.d0.d0⟩
    refine jf (RC.skip (RQ.inB_n (tsr (pn 1 rfl (lr (ir (RQ.ret (ir ?_))))))))
    obtain rfl := h.some
    exact rt results10 rfl ⟨rfl, hS.d0.d0.d0⟩
  refine RL.e (OW.call (ls := [.tmp 13]) rfl rfl call44 rfl hc) rfl rfl ?_
  rintro _ w ⟨rfl, hS⟩
  refine pn 1 rfl (ln (RC.block (sr (pn 1 rfl (RL.s (Vl.bn true rfl rfl) rfl (pn 1 rfl (ln (jt (RC.exit (RQ.inB_miss rfl (RQ.exitT (RQ.inB_hit ?_))))))))))))
  refine RQ.then_n (RC.region (pn 2 rfl (ln (RQ.round (sr (pn 1 rfl (ln (RC.seq (jt (sk (RC.seq ?_)))))))))))
  refine RC.block (sr (RL.s (Vl.indexA (v := .agg #[.func (.func 45) #[] #[]]) underlying80 sizeOf79 rfl rfl (by decide) (by decide) (run_partA isAgg79 sizeOf79)) rfl (rr [0, 1] hS ?_)))
  refine fun b237 => it fun w hS => lnsr (rr [0] hS ?_)
  refine fun b238 => it fun w hS => ln (RC.seq (sr (rr [0, 2, 5] hS ?_)))
  refine it fun w hS => ?_
  obtain ⟨t239, hg240, h⟩ := h.bind
  have hc := model_programs.ok hr4 hr7 hr10 hg240 hS
  rcases t239 with ⟨y241, y242⟩ | _
  · refine RL.e (OW.call (ls := [.tmp 13]) rfl rfl call45 rfl hc) rfl rfl ?_
    rintro _ w ⟨b243, A244, c245, rfl, hS⟩
    refine pn 1 rfl (ln (RC.block (sr (pn 1 rfl (RL.s (Vl.bn false rfl rfl) rfl (pn 1 rfl (ln (jf (sr (r0 2 rfl (cF (fun _ hg => errors_As_2.ok hG0 hg hS.p1) call24 h rfl rfl rfl ?_)))))))))))
    rintro ⟨y248, y249⟩ h _ w ⟨rfl, hS⟩
    refine pn 1 rfl (ln ?_)
    refine RC.iteB 18 rfl h (fun hc250 h => ?_) fun hc250 h => ?_
    next =>
     refine jtr (rr [0, 3, 0] hS ?_)
     refine it fun w hS => lr (ir (ir (RQ.ret (ir ?_))))
     cases h.some
     exact rt results10 rfl ⟨rfl, hS.d0.d0.d0.d0.d0.d0.d0⟩
    refine jf (sr (r0 2 rfl (cF (fun _ hg => errors_Is_4.ok hg hS) call25 h rfl rfl rfl ?_)))
    rintro t251 h _ w ⟨rfl, hS⟩
    refine pn 1 rfl (ln ?_)
    refine RC.iteB 24 rfl h (fun hc253 h => ?_) fun hc253 h => ?_
    next =>
     refine jtr (pn 1 rfl (lr (ir (ir (RQ.ret (ir ?_))))))
     obtain rfl := h.some
     exact rt results10 rfl ⟨rfl, hS.d0.d0.d0.d0.d0.d0.d0⟩
    refine jf (sr (r0 2 rfl (cF (fun _ hg => errors_Is_4.ok hg hS) call25 h rfl rfl rfl ?_)))
    rintro t254 h _ w ⟨rfl, hS⟩
    refine pn 1 rfl (ln ?_)
    refine RC.iteB 28 rfl h (fun hc256 h => ?_) fun hc256 h => ?_
    next =>
     refine jtr (pn 1 rfl (lr (ir (ir (RQ.ret (ir ?_))))))
     obtain rfl := h.some
     exact rt results10 rfl ⟨rfl, hS.d0.d0.d0.d0.d0.d0.d0⟩
    refine jf (RC.skip (RQ.inB_n (tsr (pn 1 rfl (lr (ir (RQ.ret (ir ?_))))))))
    obtain rfl := h.some
    exact rt results10 rfl ⟨rfl, hS.d0.d0.d0.d0.d0.d0.d0⟩
  refine RL.e (OW.call (ls := [.tmp 13]) rfl rfl call45 rfl hc) rfl rfl ?_
  rintro _ w ⟨rfl, hS⟩
  refine pn 1 rfl (ln (RC.block (sr (pn 1 rfl (RL.s (Vl.bn true rfl rfl) rfl (pn 1 rfl (ln (jt (RC.exit (RQ.inB_miss rfl (RQ.exitT (RQ.inB_hit ?_))))))))))))
  refine RQ.then_n (RC.region (pn 2 rfl (ln (RQ.round (sr (pn 1 rfl (ln (RC.seq (jt (sk (RC.seq ?_)))))))))))
  refine RC.block (sr (RL.s (Vl.indexA (v := .agg #[.func (.func 46) #[] #[]]) underlying80 sizeOf79 rfl rfl (by decide) (by decide) (run_partA isAgg79 sizeOf79)) rfl (rr [0, 1] hS ?_)))
  refine fun b283 => it fun w hS => lnsr (rr [0] hS ?_)
  refine fun b284 => it fun w hS => ln (RC.seq (sr (rr [0, 2, 7] hS ?_)))
  refine it fun w hS => ?_
  obtain ⟨t285, hg286, h⟩ := h.bind
  have hc := model_links.ok hr4 hr7 hr10 hg286 hS
  rcases t285 with y287 | y297 | _
  · refine RL.e (OW.call (ls := [.tmp 13]) rfl rfl call46 rfl hc) rfl rfl ?_
    rintro _ w ⟨rfl, hS⟩
    refine pn 1 rfl (ln (RC.block (sr (pn 1 rfl (RL.s (Vl.bn false rfl rfl) rfl (pn 1 rfl (ln (jf (sr (r0 2 rfl (cF (fun _ hg => errors_As.ok hG0 hg hS) call24 h rfl rfl rfl ?_)))))))))))
    rintro t288 h _ w ⟨rfl, hS⟩
    refine pn 1 rfl (ln ?_)
    refine RC.iteB 18 rfl h (fun hc290 h => ?_) fun hc290 h => ?_
    next =>
     refine jtr (rr [0, 1, 0] hS ?_)
     refine it fun w hS => lr (ir (ir (RQ.ret (ir ?_))))
     obtain rfl := h.some
     exact rt results10 rfl ⟨rfl, hS.d0.d0.d0.d0.d0.d0.d0⟩
    refine jf (sr (r0 2 rfl (cF (fun _ hg => errors_Is.ok hg hS) call25 h rfl rfl rfl ?_)))
    rintro t291 h _ w ⟨rfl, hS⟩
    refine pn 1 rfl (ln ?_)
    refine RC.iteB 24 rfl h (fun hc293 h => ?_) fun hc293 h => ?_
    next =>
     refine jtr (pn 1 rfl (lr (ir (ir (RQ.ret (ir ?_))))))
     obtain rfl := h.some
     exact rt results10 rfl ⟨rfl, hS.d0.d0.d0.d0.d0.d0.d0⟩
    refine jf (sr (r0 2 rfl (cF (fun _ hg => errors_Is.ok hg hS) call25 h rfl rfl rfl ?_)))
    rintro t294 h _ w ⟨rfl, hS⟩
    refine pn 1 rfl (ln ?_)
    refine RC.iteB 28 rfl h (fun hc296 h => ?_) fun hc296 h => ?_
    next =>
     refine jtr (pn 1 rfl (lr (ir (ir (RQ.ret (ir ?_))))))
     obtain rfl := h.some
     exact rt results10 rfl ⟨rfl, hS.d0.d0.d0.d0.d0.d0.d0⟩
    refine jf (RC.skip (RQ.inB_n (tsr (pn 1 rfl (lr (ir (RQ.ret (ir ?_))))))))
    obtain rfl := h.some
    exact rt results10 rfl ⟨rfl, hS.d0.d0.d0.d0.d0.d0.d0⟩
  · refine RL.e (OW.call (ls := [.tmp 13]) rfl rfl call46 rfl hc) rfl rfl ?_
    rintro _ w ⟨rfl, hS⟩
    refine pn 1 rfl (ln (RC.block (sr (pn 1 rfl (RL.s (Vl.bn false rfl rfl) rfl (pn 1 rfl (ln (jf (sr (r0 2 rfl (cF (fun _ hg => errors_As_3.ok hG0 hg hS) call24 h rfl rfl rfl ?_)))))))))))
    rintro ⟨y300, y301⟩ h _ w ⟨rfl, hS⟩
    refine pn 1 rfl (ln ?_)
    refine RC.iteB 18 rfl h (fun hc302 h => ?_) fun hc302 h => ?_
    next =>
     refine jtr (rr [0, 1, 0] hS ?_)
     refine it fun w hS => lr (ir (ir (RQ.ret (ir ?_))))
     cases h.some
     exact rt results10 rfl ⟨rfl, hS.d0.d0.d0.d0.d0.d0.d0⟩
    refine jf (sr (r0 2 rfl (cF (fun _ hg => errors_Is_5.ok hg hS) call25 h rfl rfl rfl ?_)))
    rintro t303 h _ w ⟨rfl, hS⟩
    refine pn 1 rfl (ln ?_)
    refine RC.iteB 24 rfl h (fun hc305 h => ?_) fun hc305 h => ?_
    next =>
     refine jtr (pn 1 rfl (lr (ir (ir (RQ.ret (ir ?_))))))
     obtain rfl := h.some
     exact rt results10 rfl ⟨rfl, hS.d0.d0.d0.d0.d0.d0.d0⟩
    refine jf (sr (r0 2 rfl (cF (fun _ hg => errors_Is_5.ok hg hS) call25 h rfl rfl rfl ?_)))
    rintro t306 h _ w ⟨rfl, hS⟩
    refine pn 1 rfl (ln ?_)
    refine RC.iteB 28 rfl h (fun hc308 h => ?_) fun hc308 h => ?_
    next =>
     refine jtr (pn 1 rfl (lr (ir (ir (RQ.ret (ir ?_))))))
     obtain rfl := h.some
     exact rt results10 rfl ⟨rfl, hS.d0.d0.d0.d0.d0.d0.d0⟩
    refine jf (RC.skip (RQ.inB_n (tsr (pn 1 rfl (lr (ir (RQ.ret (ir ?_))))))))
    obtain rfl := h.some
    exact rt results10 rfl ⟨rfl, hS.d0.d0.d0.d0.d0.d0.d0⟩
  refine RL.e (OW.call (ls := [.tmp 13]) rfl rfl call46 rfl hc) rfl rfl ?_
  rintro _ w ⟨rfl, hS⟩
  refine pn 1 rfl (ln (RC.block (sr (pn 1 rfl (RL.s (Vl.bn true rfl rfl) rfl (pn 1 rfl (ln (jt (RC.exit (RQ.inB_miss rfl (RQ.exitT (RQ.inB_hit ?_))))))))))))
  refine RQ.then_n (RC.region (pn 2 rfl (ln (RQ.round (sr (pn 1 rfl (ln (RC.seq (jt (sk (RC.seq ?_)))))))))))
  refine RC.block (sr (RL.s (Vl.indexA (v := .agg #[.func (.func 47) #[] #[]]) underlying80 sizeOf79 rfl rfl (by decide) (by decide) (run_partA isAgg79 sizeOf79)) rfl (rr [0, 1] hS ?_)))
  refine fun b335 => it fun w hS => lnsr (rr [0] hS ?_)
  refine fun b336 => it fun w hS => ln (RC.seq (sr (rr [0, 2, 9] hS ?_)))
  refine it fun w hS => ?_
  obtain ⟨t337, hg338, h⟩ := h.bind
  have hc := model_starts.ok hr4 hr7 hr10 hg338 hS
  rcases t337 with y339 | y349 | _
  · refine RL.e (OW.call (ls := [.tmp 13]) rfl rfl call47 rfl hc) rfl rfl ?_
    rintro _ w ⟨rfl, hS⟩
    refine pn 1 rfl (ln (RC.block (sr (pn 1 rfl (RL.s (Vl.bn false rfl rfl) rfl (pn 1 rfl (ln (jf (sr (r0 2 rfl (cF (fun _ hg => errors_As.ok hG0 hg hS) call24 h rfl rfl rfl ?_)))))))))))
    rintro t340 h _ w ⟨rfl, hS⟩
    refine pn 1 rfl (ln ?_)
    refine RC.iteB 18 rfl h (fun hc342 h => ?_) fun hc342 h => ?_
    next =>
     refine jtr (rr [0, 1, 0] hS ?_)
     refine it fun w hS => lr (ir (ir (RQ.ret (ir ?_))))
     obtain rfl := h.some
     exact rt results10 rfl ⟨rfl, hS.d0.d0.d0.d0.d0.d0.d0.d0.d0⟩
    refine jf (sr (r0 2 rfl (cF (fun _ hg => errors_Is.ok hg hS) call25 h rfl rfl rfl ?_)))
    rintro t343 h _ w ⟨rfl, hS⟩
    refine pn 1 rfl (ln ?_)
    refine RC.iteB 24 rfl h (fun hc345 h => ?_) fun hc345 h => ?_
    next =>
     refine jtr (pn 1 rfl (lr (ir (ir (RQ.ret (ir ?_))))))
     obtain rfl := h.some
     exact rt results10 rfl ⟨rfl, hS.d0.d0.d0.d0.d0.d0.d0.d0.d0⟩
    refine jf (sr (r0 2 rfl (cF (fun _ hg => errors_Is.ok hg hS) call25 h rfl rfl rfl ?_)))
    rintro t346 h _ w ⟨rfl, hS⟩
    refine pn 1 rfl (ln ?_)
    refine RC.iteB 28 rfl h (fun hc348 h => ?_) fun hc348 h => ?_
    next =>
     refine jtr (pn 1 rfl (lr (ir (ir (RQ.ret (ir ?_))))))
     obtain rfl := h.some
     exact rt results10 rfl ⟨rfl, hS.d0.d0.d0.d0.d0.d0.d0.d0.d0⟩
    refine jf (RC.skip (RQ.inB_n (tsr (pn 1 rfl (lr (ir (RQ.ret (ir ?_))))))))
    obtain rfl := h.some
    exact rt results10 rfl ⟨rfl, hS.d0.d0.d0.d0.d0.d0.d0.d0.d0⟩
  · refine RL.e (OW.call (ls := [.tmp 13]) rfl rfl call47 rfl hc) rfl rfl ?_
    rintro _ w ⟨rfl, hS⟩
    refine pn 1 rfl (ln (RC.block (sr (pn 1 rfl (RL.s (Vl.bn false rfl rfl) rfl (pn 1 rfl (ln (jf (sr (r0 2 rfl (cF (fun _ hg => errors_As_3.ok hG0 hg hS) call24 h rfl rfl rfl ?_)))))))))))
    rintro ⟨y352, y353⟩ h _ w ⟨rfl, hS⟩
    refine pn 1 rfl (ln ?_)
    refine RC.iteB 18 rfl h (fun hc354 h => ?_) fun hc354 h => ?_
    next =>
     refine jtr (rr [0, 1, 0] hS ?_)
     refine it fun w hS => lr (ir (ir (RQ.ret (ir ?_))))
     cases h.some
     exact rt results10 rfl ⟨rfl, hS.d0.d0.d0.d0.d0.d0.d0.d0.d0⟩
    refine jf (sr (r0 2 rfl (cF (fun _ hg => errors_Is_5.ok hg hS) call25 h rfl rfl rfl ?_)))
    rintro t355 h _ w ⟨rfl, hS⟩
    refine pn 1 rfl (ln ?_)
    refine RC.iteB 24 rfl h (fun hc357 h => ?_) fun hc357 h => ?_
    next =>
     refine jtr (pn 1 rfl (lr (ir (ir (RQ.ret (ir ?_))))))
     obtain rfl := h.some
     exact rt results10 rfl ⟨rfl, hS.d0.d0.d0.d0.d0.d0.d0.d0.d0⟩
    refine jf (sr (r0 2 rfl (cF (fun _ hg => errors_Is_5.ok hg hS) call25 h rfl rfl rfl ?_)))
    rintro t358 h _ w ⟨rfl, hS⟩
    refine pn 1 rfl (ln ?_)
    refine RC.iteB 28 rfl h (fun hc360 h => ?_) fun hc360 h => ?_
    next =>
     refine jtr (pn 1 rfl (lr (ir (ir (RQ.ret (ir ?_))))))
     obtain rfl := h.some
     exact rt results10 rfl ⟨rfl, hS.d0.d0.d0.d0.d0.d0.d0.d0.d0⟩
    refine jf (RC.skip (RQ.inB_n (tsr (pn 1 rfl (lr (ir (RQ.ret (ir ?_))))))))
    obtain rfl := h.some
    exact rt results10 rfl ⟨rfl, hS.d0.d0.d0.d0.d0.d0.d0.d0.d0⟩
  refine RL.e (OW.call (ls := [.tmp 13]) rfl rfl call47 rfl hc) rfl rfl ?_
  rintro _ w ⟨rfl, hS⟩
  refine pn 1 rfl (ln (RC.block (sr (pn 1 rfl (RL.s (Vl.bn true rfl rfl) rfl (pn 1 rfl (ln (jt (RC.exit (RQ.inB_miss rfl (RQ.exitT (RQ.inB_hit ?_))))))))))))
  refine RQ.then_n (RC.region (pn 2 rfl (ln (RQ.round (sr (pn 1 rfl (ln (RC.seq (jf (RC.exit (RQ.exitT (RQ.exitT ?_))))))))))))
  refine RQ.inB_hit (tsr (pn 1 rfl (lr ?_)))
  obtain rfl := h.some
  exact rt results10 rfl ⟨rfl, hS.d0.d0.d0.d0.d0.d0.d0.d0.d0⟩
def model_Ways_1.f (a1 : api_Link) (a3 : Int) : Option (Bool) := some (decide (a1.From = a3))
theorem model_Ways_1.ok {a1 : api_Link} {a3 : Int} {b2 : Nat} {r : Bool} (h : model_Ways_1.f a1 a3 = some r) (hS : St B w (Cl b2 [iV a3] 3 :: l) hf) :
    Calls prog 33 #[.agg (C_api_Link a1).toArray, pV b2] w (Ret fun v w => v = .bool r ∧ St B w (Cl b2 [iV a3] 3 :: l) hf) := by
  have h := Holds.of h
  refine en func33 rfl ntmps33 rfl (sr (rr [0, 0] hS ?_))
  refine fun b5 => it fun w hS => lnsr (rr [0, 1, 2, 0, 0] hS ?_)
  refine it fun w hS => lr ?_
  cases h.some
  exact rt results33 rfl ⟨rfl, hS.d0⟩
def model_places.j8 (x131 : Int) (l174 : List Int) : Option ((List Int × Int) ⊕ (List Int)) := some (.inl (l174, IntKind.i64.wrap (x131 + 1)))
def model_places.l7b (a1 : api_Model) (a12 : Int) : List Int × Int → Option ((List Int × Int) ⊕ (List Int))
  | (l128, x131) => (if x131 < (a1.Links.length : Int) then (if 0 ≤ x131 then ((model_Ways_1.f (nth a1.Links x131) a12).bind fun t179 => (if t179 = true then (if (l128.length + 1) * 8 ≤ 140737488355328 then model_places.j8 x131 (l128 ++ ([x131] : List Int)) else none) else model_places.j8 x131 l128)) else none) else some (.inr l128))
def model_places.l7 (a1 : api_Model) (a12 : Int) (s : List Int × Int) : Option (List Int) := loopR (model_places.l7b a1 a12) s
def model_places.f (a1 : api_Model) (a12 : Int) : Option (List Int) := model_places.l7 a1 a12 ([], 0)
theorem model_places.ok {a1 : api_Model} {a12 : Int} {A2 A5 A8 : Option Addr} {c3 c6 c9 b11 : Nat} (hr4 : SlR (Rep.sl E_api_Instr.rep) hf A2 c3 a1.Progs) (hr7 : SlR E_api_Link.rep hf A5 c6 a1.Links) (hr10 : SlR E_api_Start.rep hf A8 c9 a1.Starts) {r : List Int} (h : model_places.f a1 a12 = some r) (hS : St B w (Cl b11 [iV a12] 3 :: l) hf) :
    Calls prog 32 #[.agg (C_api_Model a1 A2 c3 A5 c6 A8 c9).toArray, .func (.func 33) #[] #[pV b11]] w (Ret fun v w => ∃ (A_1 : Option Addr) (c_2 : Nat), v = sV A_1 r c_2 ∧ St B w (OSf (FI .i64) 3 (sV A_1 r c_2) r :: Cl b11 [iV a12] 3 :: l) hf) := by
  have h := Holds.of h
  refine en func32 rfl ntmps32 rfl (sr (rr [0, 0] hS ?_))
  refine fun b100 => it fun w hS => lnsr (pn 1 rfl (ln (RC.seq (sr (rr [0, 1, 0, 0] hS ?_)))))
  refine it fun w hS => RL.nil ?_
  refine RQ.then_n (RC.block ?_)
  have hS := hS.nilSl (FI .i64) 3
  refine fun a ha => lp h (fun (s : List Int × Int) a w => ∃ l128 x131, s = (l128, x131) ∧ ∃ A129 c130, Has 25 [(1, .func (.func 33) #[] #[pV b11]), (5, sV A129 l128 c130), (9, sV A5 a1.Links c6), (10, iV (a1.Links.length : Int)), (11, iV x131)] a ∧ St B w (OSf (FI .i64) 3 (sV A129 l128 c130) l128 :: Cl b11 [iV a12] 3 :: l) hf) ⟨_, _, rfl, _, _, ha.tE rfl, hS.d1⟩ ?_
  rintro G161 _ a w ⟨l128, x131, rfl, A129, c130, ha, hS⟩ h
  refine ro ha (sr (pn 1 rfl (ln (RC.seq ?_))))
  refine RC.iteP 12 rfl h (fun hc163 h => ?_) fun hc163 h => ?_
  next =>
   refine jt (sk ?_)
   refine RC.join (fun (s : List Int) a w => ∃ l174, s = (l174) ∧ Holds (Sum.elim G161 (· = r)) (model_places.j8 x131 l174) ∧ ∃ A175 c176, Has 25 [(1, .func (.func 33) #[] #[pV b11]), (5, sV A175 l174 c176), (9, sV A5 a1.Links c6), (10, iV (a1.Links.length : Int)), (11, iV x131)] a ∧ St B w (OSf (FI .i64) 3 (sV A175 l174 c176) l174 :: Cl b11 [iV a12] 3 :: l) hf) ?_ ?_
   · rintro l174 a w ⟨_, rfl, h, A175, c176, ha, hS⟩
     refine ro ha (RC.region (pn 2 rfl (RL.nil ?_)))
     exact fun a ha => ⟨_, h.some, _, _, rfl, _, _, ha.tE rfl, hS⟩
   refine RC.block (sr (pn 1 rfl ?_))
   obtain ⟨hq177, h⟩ := h.req
   refine RL.s (Vl.indexAddr underlying23 sizeOf65 rfl rfl ((hr7.2.world hS.sub).adr hq177 hc163) hq177 hc163 rfl) rfl (RL.s (Vl.loadA isAgg65 sizeOf65 rfl rfl ((hr7.2.world hS.sub).cells hq177 hc163)) rfl (rr [0, 0, 1] hS ?_))
   refine fun b178 => it fun w hS => lnsr (rr [0, 1] hS ?_)
   refine it fun w hS => ?_
   obtain ⟨t179, hg180, h⟩ := h.bind
   have hc := model_Ways_1.ok hg180 hS.p2
   refine RL.e (OW.call (ls := [.tmp 17]) rfl rfl call33 rfl hc) rfl rfl ?_
   rintro _ w ⟨rfl, hS⟩
   refine ln ?_
   refine RC.iteB 18 rfl h (fun hc181 h => ?_) fun hc181 h => ?_
   next =>
    refine jt (RC.region (pn 2 rfl (RL.e (OW.buildSlice (E := (FI .i64)) (xs := ([x131] : List Int)) (cs := [iV x131]) hS underlying56 zeroValue3 sizeOf3 (parts := [(0, .tmp 20)]) rfl rfl (by decide) (by decide) (by kernel_rfl) rfl) rfl rfl ?_)))
    rintro _ w ⟨b182, rfl, hS⟩
    obtain ⟨hq183, h⟩ := h.req
    refine RL.e (OW.append (E := (FI .i64)) (xs := l128) (ys := ([x131] : List Int)) 3 hS rfl underlying56 type3 rfl rfl rfl rfl (by decide) rfl rfl rfl (hS.slW 0 rfl).2.2.flat (by simp only [maxLen, List.length_cons, List.length_nil] at *; omega) hq183 rfl) rfl rfl ?_
    rintro v186 w hS
    obtain ⟨A184, c185, rfl, _⟩ := hS.osShape 0 rfl
    have hS : St B w (_ :: _ :: _ :: _ :: l) hf := hS
    refine pn 1 rfl (RL.nil (RQ.inB_n ?_))
    exact fun a ha => ⟨_, _, rfl, h, _, _, ha.tE rfl, hS.d1.d2⟩
   refine jf (RC.skip (RQ.inB_n ?_))
   exact fun a ha => ⟨_, _, rfl, h, _, _, ha.tE rfl, hS.d1.p1⟩
  refine jf (RC.exit (RQ.exitT ?_))
  have h := h.inrS
  refine RQ.exitT (RQ.inB_hit (tsr (pn 2 rfl (lr ?_))))
  obtain rfl := h.some
  exact rt results32 rfl ⟨A129, c130, rfl, hS⟩
def model_Ways.f (a1 : api_Model) (a11 : Int) : Option (List Int) := ((model_places.f a1 a11).bind fun t20 => some t20)
theorem model_Ways.ok {a1 : api_Model} {a11 : Int} {A2 A5 A8 : Option Addr} {c3 c6 c9 : Nat} (hr4 : SlR (Rep.sl E_api_Instr.rep) hf A2 c3 a1.Progs) (hr7 : SlR E_api_Link.rep hf A5 c6 a1.Links) (hr10 : SlR E_api_Start.rep hf A8 c9 a1.Starts) {r : List Int} (h : model_Ways.f a1 a11 = some r) (hS : St B w (l) hf) :
    Calls prog 13 #[.agg (C_api_Model a1 A2 c3 A5 c6 A8 c9).toArray, iV a11] w (Ret fun v w => ∃ (A_1 : Option Addr) (c_2 : Nat), v = sV A_1 r c_2 ∧ St B w (OSf (FI .i64) 3 (sV A_1 r c_2) r :: l) hf) := by
  have h := Holds.of h
  refine en func13 rfl ntmps13 rfl (sr (rr [0, 0, 0] hS ?_))
  refine fun b18 b19 => it fun w hS => lnsr (rr [2] hS ?_)
  refine it fun w hS => RL.s (Vl.makeFunc (fi := []) (ca := [.tmp 3]) rfl rfl) rfl (cF (fun _ hg => model_places.ok hr4 hr7 hr10 hg hS) call32 h rfl rfl rfl ?_)
  rintro t20 h _ w ⟨A22, c23, rfl, hS⟩
  refine pn 1 rfl (lr ?_)
  obtain rfl := h.some
  exact rt results13 rfl ⟨A22, c23, rfl, hS.d1.d1⟩
def model_World.l6b (a1 : api_Model) (a11 : Int) (l231 : List api_Instr) (t303 : List Int) : List api_Link × Int → Option ((List api_Link × Int) ⊕ (api_World × Int))
  | (l327, x330) => (if x330 < (t303.length : Int) then (if 0 ≤ x330 then (if 0 ≤ nth t303 x330 ∧ nth t303 x330 < (a1.Links.length : Int) then (if (l327.length + 1) * 32 ≤ 140737488355328 then some (.inl ((l327 ++ ([nth a1.Links (nth t303 x330)])), IntKind.i64.wrap (x330 + 1))) else none) else none) else none) else some (.inr ((⟨l231, a11, l327, a1.Seed⟩ : api_World), 0)))
def model_World.l6 (a1 : api_Model) (a11 : Int) (l231 : List api_Instr) (t303 : List Int) (s : List api_Link × Int) : Option (api_World × Int) := loopR (model_World.l6b a1 a11 l231 t303) s
def model_World.j4 (a1 : api_Model) (a11 : Int) (l231 : List api_Instr) : Option (api_World × Int) := ((model_Ways.f a1 a11).bind fun t303 => model_World.l6 a1 a11 l231 t303 ([], 0))
def model_World.f (a1 : api_Model) (a11 : Int) : Option (api_World × Int) := ((model_Check.f a1).bind fun t205 => (if t205 = 0 then ((model_lane.f a1 a11).bind fun t211 => (if t211 = true then (if 0 ≤ a11 ∧ a11 < (a1.Progs.length : Int) then (if (([] : List api_Instr).length + (nth a1.Progs a11).length) * 32 ≤ 140737488355328 then model_World.j4 a1 a11 (([] : List api_Instr) ++ (nth a1.Progs a11)) else none) else none) else some ((⟨([] : List api_Instr), 0, ([] : List api_Link), 0⟩ : api_World), 1))) else some ((⟨([] : List api_Instr), 0, ([] : List api_Link), 0⟩ : api_World), t205)))
theorem model_World.ok {a1 : api_Model} {a11 : Int} {A2 A5 A8 : Option Addr} {c3 c6 c9 : Nat} (hr4 : SlR (Rep.sl E_api_Instr.rep) hf A2 c3 a1.Progs) (hr7 : SlR E_api_Link.rep hf A5 c6 a1.Links) (hr10 : SlR E_api_Start.rep hf A8 c9 a1.Starts) (hG0 : GlobAt hf 0 (.iface 192 (.agg #[.pointer (some ⟨1, 85, none⟩)]))) {r : api_World × Int} (h : model_World.f a1 a11 = some r) (hS : St B w (l) hf) :
    Calls prog 26 #[.agg (C_api_Model a1 A2 c3 A5 c6 A8 c9).toArray, iV a11] w (Ret fun v w => ∃ (A_1 : Option Addr) (c_2 : Nat) (A_3 : Option Addr) (c_4 : Nat), v = .tuple #[.agg (C_api_World r.1 A_1 c_2 A_3 c_4).toArray, iV r.2] ∧ St B w (OSf E_api_Instr 312 (sV A_1 r.1.Prog c_2) r.1.Prog :: OSf E_api_Link 65 (sV A_3 r.1.Links c_4) r.1.Links :: l) hf) := by
  have h := Holds.of h
  refine en func26 rfl ntmps26 rfl (sr (rr [0, 0, 0] hS ?_))
  refine fun b200 b201 => it fun w hS => ln (RC.seq (sr (rr [2] hS ?_)))
  refine it fun w hS => cF (fun _ hg => model_Check.ok hr4 hr7 hr10 hG0 hg hS) call10 h rfl rfl rfl ?_
  rintro t205 h _ w ⟨rfl, hS⟩
  refine pn 1 rfl (lnsr (pn 2 rfl (ln ?_)))
  refine RC.iteN 13 rfl h (fun hc207 h => ?_) fun hc207 h => ?_
  next =>
   refine jfs (RC.seq (sr (rr [2, 0] hS ?_)))
   refine it fun w hS => cF (fun _ hg => model_lane.ok hr4 hr7 hr10 hg hS) call54 h rfl rfl rfl ?_
   rintro t211 h _ w ⟨rfl, hS⟩
   refine pn 1 rfl (ln ?_)
   refine RC.iteM 19 rfl h (fun hc213 h => ?_) fun hc213 h => ?_
   next =>
    refine jfs ?_
    refine RC.join (fun (s : List api_Instr) a w => ∃ l231, s = (l231) ∧ Holds (· = r) (model_World.j4 a1 a11 l231) ∧ ∃ b230 A232 c233, Has 51 [(1, iV a11), (2, pV b200), (4, pV b201), (7, pV b230)] a ∧ St B w (OSf E_api_Instr 312 (sV A232 l231 c233) l231 :: Cl b201 [.slice none 0 0, iV 0, .slice none 0 0, .int .u64 0] 91 :: Cl b200 (C_api_Model a1 A2 c3 A5 c6 A8 c9) 27 :: Cl b230 [sV A232 l231 c233, iV a11, .slice none 0 0, .int .u64 a1.Seed] 91 :: l) hf) ?_ ?_
    · rintro l231 a w ⟨_, rfl, h, b230, A232, c233, ha, hS⟩
      refine ro ha (RC.seq (sr (rr [3, 0] hS ?_)))
      refine it fun w hS => cF (fun _ hg => model_Ways.ok hr4 hr7 hr10 hg hS) call13 h rfl rfl rfl ?_
      rintro t303 h _ w ⟨A305, c306, rfl, hS⟩
      refine r0 2 rfl (ln (RC.block ?_))
      have hS := hS.nilSl E_api_Link 65
      refine fun a ha => lp h (fun (s : List api_Link × Int) a w => ∃ l327 x330, s = (l327, x330) ∧ ∃ A328 c329, Has 51 [(2, pV b200), (4, pV b201), (7, pV b230), (33, sV A305 t303 c306), (34, iV (t303.length : Int)), (35, iV x330)] a ∧ St B w (OSf E_api_Instr 312 (sV A232 l231 c233) l231 :: OSf E_api_Link 65 (sV A328 l327 c329) l327 :: OSf (FI .i64) 3 (sV A305 t303 c306) t303 :: Cl b201 [.slice none 0 0, iV 0, .slice none 0 0, .int .u64 0] 91 :: Cl b200 (C_api_Model a1 A2 c3 A5 c6 A8 c9) 27 :: Cl b230 [sV A232 l231 c233, iV a11, sV A328 l327 c329, .int .u64 a1.Seed] 91 :: l) hf) ⟨_, _, rfl, _, _, ha.tE rfl, hS.p2⟩ ?_
      rintro G353 _ a w ⟨l327, x330, rfl, A328, c329, ha, hS⟩ h
      refine ro ha (sr (pn 1 rfl (ln (RC.seq ?_))))
      refine RC.iteP 36 rfl h (fun hc355 h => ?_) fun hc355 h => ?_
      next =>
       refine jt (sk (RC.seq (RC.block (sr ?_))))
       obtain ⟨hq364, h⟩ := h.req
       refine RL.s (Vl.indexOwn 2 hS rfl underlying56 sizeOf3 rfl rfl hq364 hc355) rfl (RL.s (Vl.load isAgg3 rfl ((hS.slW 2 rfl).2.2.cell (j := 0) hq364 hc355 rfl)) rfl (pn 1 rfl (ln (dr [0, 4, 6, 10, 14, 17, 20, 23, 26, 29, 32] [8, 9, 10] hS fun w hS => rq [0, 6, 0, 5, 0] hS ?_))))
       refine it ?_
       obtain ⟨⟨hq365, hq366⟩, h⟩ := h.req
       refine RP.v1 5 rfl (Vl.indexAddr underlying23 sizeOf65 rfl rfl ((hr7.2.world hS.sub).adr hq365 hq366) hq365 hq366 rfl) rfl rfl (RP.v1 6 rfl (Vl.loadA isAgg65 sizeOf65 rfl rfl ((hr7.2.world hS.sub).cells hq365 hq366)) rfl rfl (RP.e 7 rfl (OW.buildSlice (E := E_api_Link) (xs := [nth a1.Links (nth t303 x330)]) (cs := (C_api_Link (nth a1.Links (nth t303 x330)))) hS underlying23 zeroValue65 sizeOf65 (parts := [(0, .tmp 45)]) rfl rfl (by decide) (by decide) (by kernel_rfl) rfl) rfl rfl ?_))
       rintro _ w ⟨b367, rfl, hS⟩
       refine ⟨kp ⟨fun _ => hS.d0, trivial⟩, ?_⟩
       obtain ⟨hq368, h⟩ := h.req
       refine RP.e 8 rfl (OW.append (E := E_api_Link) (xs := l327) (ys := [nth a1.Links (nth t303 x330)]) 2 hS rfl underlying23 type65 rfl rfl rfl rfl (by decide) rfl rfl rfl (hS.slW 0 rfl).2.2.flat (by simp only [maxLen, List.length_cons, List.length_nil] at *; omega) hq368 rfl) rfl rfl ?_
       rintro v371 w hS
       obtain ⟨A369, c370, rfl, _⟩ := hS.osShape 0 rfl
       have hS : St B w (_ :: _ :: _ :: _ :: _ :: _ :: _ :: l) hf := hS
       refine ⟨kp ⟨(by intro hx; cases hx), trivial⟩, ?_⟩
       refine RP.v1 9 rfl (Vl.fa 2 underlying91 rfl sizeOf23 rfl rfl) rfl rfl (RP.e0 10 rfl (OW.store (vs := [.slice A369 (l327 ++ ([nth a1.Links (nth t303 x330)])).length c370]) 6 hS rfl rfl rfl rfl sizeOf23 rfl rfl rfl rfl) rfl ?_)
       rintro _ w ⟨rfl, hS⟩
       have hS : St B w (_ :: _ :: _ :: _ :: _ :: _ :: Cl _ [_, _, _, _] _ :: l) hf := hS
       refine ⟨kp ⟨(by intro hx; cases hx), trivial⟩, ?_⟩
       refine RP.nil (RQ.inB_n (RQ.then_n (RC.region (pn 2 rfl (RL.nil ?_)))))
       exact fun a ha => ⟨_, h.some, _, _, rfl, _, _, ha.tE rfl, hS.d1.p1⟩
      refine jf (RC.exit (RQ.exitT ?_))
      have h := h.inrS
      refine RQ.exitT (RQ.inB_hit (tsr (rr [6, 4, 0] hS ?_)))
      refine it fun w hS => lr ?_
      cases h.some
      refine rz [3] results26 hS ?_
      exact it ⟨A232, c233, A328, c329, rfl, hS.d2.d2.d2.d2⟩
    refine RC.planS (.pure 0 (.early 1 0 (.pure 2 (.early 3 0 (.early 4 0 (.pure 6 (.pure 7 (.early 8 0 (.fork 5 10 (.pure 9 (.last 10 (.last 11 .nil))) (.last 5 (.last 9 (.last 11 .nil)))))))))))) [11] hS (fun w hS => hS) follows rfl (by kernel_rfl) (NoTmp.then NoTmp.body) fun w hS => rq [0, 2, 0] hS ?_
    refine it ?_
    obtain ⟨⟨hq372, hq373⟩, h⟩ := h.req
    refine RP.s 0 3 rfl rfl hS (fun w hS => Vl.indexAddr underlying22 sizeOf89 rfl rfl (hr4.2.adr hq372 hq373) hq372 hq373 rfl) rfl ?_
    obtain ⟨_, _, ⟨A374, c375, rfl, hr376⟩, hl377⟩ := hr4.2.elem hq372 hq373
    refine RP.s 0 4 rfl rfl hS (fun w hS => Vl.load isAgg89 rfl (cellH_world hS.sub (hl377 0 _ rfl))) rfl (rq [0, 0, 2] hS ?_)
    refine it ?_
    refine RP.fork ?_ ?_
    · obtain ⟨hq378, h⟩ := h.req
      have hS := hS.nilSl E_api_Instr 312
      refine RPW.e 5 rfl (OW.appendV (E := E_api_Instr) (xs := ([] : List api_Instr)) (ys := nth a1.Progs a11) 0 hS rfl underlying89 type312 rfl rfl rfl rfl (by decide) (by decide) rfl rfl (hr376.2.world hS.sub) hq378 rfl) rfl rfl ?_
      rintro v381 w hS
      obtain ⟨A379, c380, rfl, _⟩ := hS.osShape 0 rfl
      have hS : St B w (_ :: _ :: _ :: l) hf := hS
      refine ⟨kp ⟨fun _ => hS.d0, trivial⟩, ?_⟩
      refine rq [0] hS.d0 ?_
      refine it (RP.e 10 rfl (OW.alloc (cs := [.slice none 0 0, iV 0, .slice none 0 0, .int .u64 0]) hS zeroValue91 rfl) rfl rfl ?_)
      rintro _ w ⟨b382, rfl, hS⟩
      refine ⟨kp ⟨fun _ => hS.d0.d0, trivial⟩, ?_⟩
      refine RP.e0 11 rfl (OW.store (vs := [.slice A379 (([] : List api_Instr) ++ (nth a1.Progs a11)).length c380, iV a11, .slice none 0 0, .int .u64 a1.Seed]) 0 hS rfl rfl rfl rfl sizeOf91 rfl rfl rfl rfl) rfl ?_
      rintro _ w ⟨rfl, hS⟩
      have hS : St B w (Cl _ [_, _, _, _] _ :: _ :: _ :: _ :: l) hf := hS
      refine ⟨kp ⟨(by intro hx; cases hx), trivial⟩, ?_⟩
      refine RP.nil ?_
      exact fun a ha => ⟨_, _, rfl, h, _, _, _, ha.tE rfl, hS.p3.p3.p3⟩
    · refine RPW.e 10 rfl (OW.alloc (cs := [.slice none 0 0, iV 0, .slice none 0 0, .int .u64 0]) hS zeroValue91 rfl) rfl rfl ?_
      rintro _ w ⟨b383, rfl, hS⟩
      refine ⟨kp ⟨fun _ => hS.d0, trivial⟩, ?_⟩
      obtain ⟨hq384, h⟩ := h.req
      have hS := hS.nilSl E_api_Instr 312
      refine RP.e 5 rfl (OW.appendV (E := E_api_Instr) (xs := ([] : List api_Instr)) (ys := nth a1.Progs a11) 0 hS rfl underlying89 type312 rfl rfl rfl rfl (by decide) (by decide) rfl rfl (hr376.2.world hS.sub) hq384 rfl) rfl rfl ?_
      rintro v387 w hS
      obtain ⟨A385, c386, rfl, _⟩ := hS.osShape 0 rfl
      have hS : St B w (_ :: _ :: _ :: _ :: l) hf := hS
      refine ⟨kp ⟨fun _ => hS.d0.d0, trivial⟩, ?_⟩
      refine rq [0] hS.d0.d0 ?_
      refine it (RP.e0 11 rfl (OW.store (vs := [.slice A385 (([] : List api_Instr) ++ (nth a1.Progs a11)).length c386, iV a11, .slice none 0 0, .int .u64 a1.Seed]) 1 hS rfl rfl rfl rfl sizeOf91 rfl rfl rfl rfl) rfl ?_)
      rintro _ w ⟨rfl, hS⟩
      have hS : St B w (_ :: Cl _ [_, _, _, _] _ :: _ :: _ :: l) hf := hS
      refine ⟨kp ⟨(by intro hx; cases hx), trivial⟩, ?_⟩
      refine RP.nil ?_
      exact fun a ha => ⟨_, _, rfl, h, _, _, _, ha.tE rfl, hS.p3.p3.p2⟩
   refine jtr (rr [0, 1, 0] hS ?_)
   refine it fun w hS => lr (RQ.ret ?_)
   have hS := hS.nilSl E_api_Instr 312
   have hS := hS.nilSl E_api_Link 65
   cases h.some
   refine rz [2] results26 hS ?_
   exact it ⟨none, 0, none, 0, rfl, hS.d2.d2.p1⟩
  refine jtr (rr [0, 0, 1, 0] hS ?_)
  refine it fun w hS => lr (RQ.ret ?_)
  have hS := hS.nilSl E_api_Instr 312
  have hS := hS.nilSl E_api_Link 65
  cases h.some
  refine rz [2] results26 hS ?_
  exact it ⟨none, 0, none, 0, rfl, hS.d2.d2.p1⟩
def tune_First.f  : Option (Unit) := some ()
theorem tune_First.ok {r : Unit} (h : tune_First.f = some r) (hS : St B w (l) hf) :
    Calls prog 27 #[] w (Ret fun v w => v = .agg #[iV 2, iV 4, iV 0, iV 1000, iV 0] ∧ St B w (l) hf) := by
  have h := Holds.of h
  refine en func27 rfl ntmps27 rfl (sr (rr [0] hS ?_))
  refine fun b2 => it fun w hS => lnsr (rr [0, 1] hS ?_)
  refine it fun w hS => lr ?_
  have e := h.some
  refine rz [0] results27 hS ?_
  exact it ⟨rfl, hS.d0⟩
def vm_lane.f (a1 : Int) : Option (Bool) := (if 0 ≤ a1 then some (decide (a1 < 16)) else some false)
theorem vm_lane.ok {a1 : Int} {r : Bool} (h : vm_lane.f a1 = some r) (hS : St B w (l) hf) :
    Calls prog 86 #[iV a1] w (Ret fun v w => v = .bool r ∧ St B w (l) hf) := by
  have h := Holds.of h
  refine en func86 rfl ntmps86 rfl (sr (pn 1 rfl (lnsr (pn 3 rfl ?_))))
  refine RL.iteP 5 rfl h (fun hc3 h => ?_) fun hc3 h => ?_
  next =>
   refine pn 4 rfl (lr ?_)
   cases h.some
   exact rt results86 rfl ⟨rfl, hS⟩
  refine pn 4 rfl (lr ?_)
  obtain rfl := h.some
  exact rt results86 rfl ⟨rfl, hS⟩
def vm_Check.l2b (a1 : api_World) : Int → Option ((Int) ⊕ (Int))
  | (x119) => (if x119 < (a1.Links.length : Int) then (if 0 ≤ x119 then ((vm_lane.f ((nth a1.Links x119).To)).bind fun t155 => (if t155 = true then (if (nth a1.Links x119).Look < 1 then some (.inr 1) else ((vtime_Valid.f ((nth a1.Links x119).Look)).bind fun t159 => (if t159 = true then some (.inl (IntKind.i64.wrap (x119 + 1))) else some (.inr 1)))) else some (.inr 1))) else none) else some (.inr 0))
def vm_Check.l2 (a1 : api_World) (s : Int) : Option (Int) := loopR (vm_Check.l2b a1) s
def vm_Check.f (a1 : api_World) : Option (Int) := ((code_Check.f a1.Prog).bind fun t89 => (if t89 = 0 then ((vm_lane.f a1.Self).bind fun t96 => (if t96 = true then (if 1024 < (a1.Links.length : Int) then some 1 else vm_Check.l2 a1 (0)) else some 1)) else some t89))
theorem vm_Check.ok {a1 : api_World} {A2 A5 : Option Addr} {c3 c6 : Nat} (hr4 : SlR E_api_Instr.rep hf A2 c3 a1.Prog) (hr7 : SlR E_api_Link.rep hf A5 c6 a1.Links) {r : Int} (h : vm_Check.f a1 = some r) (hS : St B w (l) hf) :
    Calls prog 55 #[.agg (C_api_World a1 A2 c3 A5 c6).toArray] w (Ret fun v w => v = iV r ∧ St B w (l) hf) := by
  have h := Holds.of h
  refine en func55 rfl ntmps55 rfl (sr (rr [0, 0] hS ?_))
  refine fun b85 => it fun w hS => ln (RC.seq (sr (rr [0, 1] hS ?_)))
  refine it fun w hS => cF (fun _ hg => code_Check.ok hr4 hg hS) call82 h rfl rfl rfl ?_
  rintro t89 h _ w ⟨rfl, hS⟩
  refine pn 1 rfl (lnsr (pn 2 rfl (ln ?_)))
  refine RC.iteN 10 rfl h (fun hc91 h => ?_) fun hc91 h => ?_
  next =>
   refine jfs (RC.seq (sr (rr [0, 1] hS ?_)))
   refine it fun w hS => cF (fun _ hg => vm_lane.ok hg hS) call86 h rfl rfl rfl ?_
   rintro t96 h _ w ⟨rfl, hS⟩
   refine pn 2 rfl ?_
   refine RL.iteM 16 rfl h (fun hc98 h => ?_) fun hc98 h => ?_
   next =>
    refine rr [0, 1, 0, 0, 0] hS ?_
    refine it fun w hS => ln ?_
    refine RC.iteP 21 rfl h (fun hc99 h => ?_) fun hc99 h => ?_
    next =>
     refine jtr (pn 1 rfl (lr (RQ.ret ?_)))
     obtain rfl := h.some
     exact rt results55 rfl ⟨rfl, hS.d0⟩
    refine jfs (RC.seq (sr (rr [0, 1, 0, 0] hS ?_)))
    refine it fun w hS => ln (RC.block (fun a ha => lp h (fun (s : Int) a w => ∃ x119, s = (x119) ∧ Has 45 [(23, sV A5 a1.Links c6), (24, iV (a1.Links.length : Int)), (25, iV x119)] a ∧ St B w (l) hf) ⟨_, rfl, ha.tE rfl, hS.d0⟩ ?_))
    rintro G141 x119 a w ⟨_, rfl, ha, hS⟩ h
    refine ro ha (sr (pn 1 rfl (ln (RC.seq ?_))))
    refine RC.iteP 26 rfl h (fun hc143 h => ?_) fun hc143 h => ?_
    next =>
     refine jt (sk (RC.seq (RC.block (sr ?_))))
     obtain ⟨hq153, h⟩ := h.req
     refine RL.s (Vl.indexAddr underlying23 sizeOf65 rfl rfl ((hr7.2.world hS.sub).adr hq153 hc143) hq153 hc143 rfl) rfl (RL.s (Vl.loadA isAgg65 sizeOf65 rfl rfl ((hr7.2.world hS.sub).cells hq153 hc143)) rfl (rr [0, 1] hS ?_))
     refine fun b154 => it fun w hS => lnsr (rr [0, 1] hS ?_)
     refine it fun w hS => cF (fun _ hg => vm_lane.ok hg hS) call86 h rfl rfl rfl ?_
     rintro t155 h _ w ⟨rfl, hS⟩
     refine pn 2 rfl ?_
     refine RL.iteM 33 rfl h (fun hc157 h => ?_) fun hc157 h => ?_
     next =>
      refine rr [0, 1, 0, 0, 0] hS ?_
      refine it fun w hS => RL.iteP 38 rfl h (fun hc158 h => ?_) fun hc158 h => ?_
      next =>
       refine pn 5 rfl (ln (jtr (pn 1 rfl (lr (ir ?_)))))
       have h := h.inrS
       refine RQ.ret (ir ?_)
       obtain rfl := h.some
       exact rt results55 rfl ⟨rfl, hS.d0⟩
      refine rr [0, 1] hS ?_
      refine it fun w hS => cF (fun _ hg => vtime_Valid.ok hg hS) call81 h rfl rfl rfl ?_
      rintro t159 h _ w ⟨rfl, hS⟩
      refine pn 2 rfl (ln ?_)
      refine RC.iteM 43 rfl h (fun hc161 h => ?_) fun hc161 h => ?_
      next =>
       refine jf (RC.skip (RQ.inB_n (RQ.then_n (RC.region (pn 2 rfl (RL.nil ?_))))))
       exact fun a ha => ⟨_, h.some, _, rfl, ha.tE rfl, hS.d0⟩
      refine jtr (pn 1 rfl (lr (ir ?_)))
      have h := h.inrS
      refine RQ.ret (ir ?_)
      obtain rfl := h.some
      exact rt results55 rfl ⟨rfl, hS.d0⟩
     refine pn 10 rfl (ln (jtr (pn 1 rfl (lr (ir ?_)))))
     have h := h.inrS
     refine RQ.ret (ir ?_)
     obtain rfl := h.some
     exact rt results55 rfl ⟨rfl, hS.d0⟩
    refine jf (RC.exit (RQ.exitT ?_))
    have h := h.inrS
    refine RQ.exitT (RQ.inB_hit (tsr (pn 1 rfl (lr ?_))))
    obtain rfl := h.some
    exact rt results55 rfl ⟨rfl, hS⟩
   refine pn 5 rfl (ln (jtr (pn 1 rfl (lr (RQ.ret ?_)))))
   obtain rfl := h.some
   exact rt results55 rfl ⟨rfl, hS.d0⟩
  refine jtr (pn 2 rfl (lr (RQ.ret ?_)))
  obtain rfl := h.some
  exact rt results55 rfl ⟨rfl, hS.d0⟩
def log_New.f (a1 : api_World) (a8 : api_State) (a9 : Int) : Option ((Int) ⊕ (log_Log × Int)) := ((vm_Check.f a1).bind fun t44 => (if t44 = 0 then (if (if a8.Sent < a8.Draws then a8.Sent else a8.Draws) < 0 then some (.inl 1) else (if 1099511627776 < (if a8.Draws < a8.Sent then a8.Sent else a8.Draws) then some (.inl 1) else (if a9 < 1 then some (.inl 1) else (if 1024 < a9 then some (.inl 1) else (if (([] : List api_Instr).length + a1.Prog.length) * 32 ≤ 140737488355328 then (if (([] : List api_Link).length + a1.Links.length) * 32 ≤ 140737488355328 then some (.inr (((⟨({ a1 with Prog := (([] : List api_Instr) ++ a1.Prog), Links := (([] : List api_Link) ++ a1.Links) } : api_World), true, a8, a9, ([] : List log_done), false⟩ : log_Log), 0))) else none) else none))))) else some (.inl t44)))
theorem log_New.ok {a1 : api_World} {a8 : api_State} {a9 : Int} {A2 A5 : Option Addr} {c3 c6 : Nat} (hr4 : SlR E_api_Instr.rep hf A2 c3 a1.Prog) (hr7 : SlR E_api_Link.rep hf A5 c6 a1.Links) {r : (Int) ⊕ (log_Log × Int)} (h : log_New.f a1 a8 a9 = some r) (hS : St B w (l) hf) :
    Calls prog 28 #[.agg (C_api_World a1 A2 c3 A5 c6).toArray, .agg (C_api_State a8).toArray, iV a9] w (Ret fun v w => match (generalizing := false) r with | .inl r_ => v = .tuple #[.pointer none, iV r_] ∧ St B w (l) hf | .inr (r_) => ∃ hf_ : Hp, Sub hf hf_ ∧ ∃ (b_1 : Nat), v = .tuple #[pV b_1, iV r_.2] ∧ St B w (O_log_Log hf_ r_.1 b_1 :: l) hf_) := by
  have h := Holds.of h
  refine en func28 rfl ntmps28 rfl (sr (rr [0, 0, 0, 0] hS ?_))
  refine fun b39 b40 => it fun w hS => ln (RC.seq (sr (rr [2] hS ?_)))
  refine it fun w hS => cF (fun _ hg => vm_Check.ok hr4 hr7 hg hS) call55 h rfl rfl rfl ?_
  rintro t44 h _ w ⟨rfl, hS⟩
  refine pn 1 rfl (lnsr (pn 2 rfl (ln ?_)))
  refine RC.iteN 12 rfl h (fun hc46 h => ?_) fun hc46 h => ?_
  next =>
   refine jfs (RC.seq (sr (rr [0, 1, 0, 1] hS ?_)))
   refine it fun w hS => RL.s (Vl.min2 rfl rfl) rfl (pn 2 rfl ?_)
   refine RL.iteP 20 rfl h (fun hc51 h => ?_) fun hc51 h => ?_
   next =>
    refine pn 15 rfl (ln (jtr (pn 2 rfl (lr (RQ.ret ?_)))))
    cases h.some
    exact rt results28 rfl ⟨rfl, hS.d0.d0⟩
   refine rr [0, 1, 0, 1] hS ?_
   refine it fun w hS => RL.sg (Vl.max2 rfl rfl) rfl rfl (pn 3 rfl ?_)
   refine RL.iteP 28 rfl h (fun hc52 h => ?_) fun hc52 h => ?_
   next =>
    refine pn 7 rfl (ln (jtr (pn 2 rfl (lr (RQ.ret ?_)))))
    cases h.some
    exact rt results28 rfl ⟨rfl, hS.d0.d0⟩
   refine pn 4 rfl ?_
   refine RL.iteP 32 rfl h (fun hc53 h => ?_) fun hc53 h => ?_
   next =>
    refine pn 3 rfl (ln (jtr (pn 2 rfl (lr (RQ.ret ?_)))))
    cases h.some
    exact rt results28 rfl ⟨rfl, hS.d0.d0⟩
   refine pn 3 rfl (ln ?_)
   refine RC.iteP 35 rfl h (fun hc54 h => ?_) fun hc54 h => ?_
   next =>
    refine jtr (pn 2 rfl (lr (RQ.ret ?_)))
    cases h.some
    exact rt results28 rfl ⟨rfl, hS.d0.d0⟩
   refine jfs (sr (rr [0, 2] hS ?_))
   refine it fun w hS => ?_
   obtain ⟨hq55, h⟩ := h.req
   have hS := hS.nilSl E_api_Instr 312
   refine RL.e (OW.appendV (E := E_api_Instr) (xs := ([] : List api_Instr)) (ys := a1.Prog) 0 hS rfl underlying89 type312 rfl rfl rfl rfl (by decide) (by decide) rfl rfl (hr4.2.world hS.sub) hq55 rfl) rfl rfl ?_
   rintro v58 w hS
   obtain ⟨A56, c57, rfl, _⟩ := hS.osShape 0 rfl
   have hS : St B w (_ :: _ :: _ :: l) hf := hS
   refine rr [0, 3] hS ?_
   refine it fun w hS => lnsr (rr [0, 3] hS ?_)
   refine it fun w hS => ?_
   obtain ⟨hq59, h⟩ := h.req
   have hS := hS.nilSl E_api_Link 65
   refine RL.e (OW.appendV (E := E_api_Link) (xs := ([] : List api_Link)) (ys := a1.Links) 0 hS rfl underlying23 type65 rfl rfl rfl rfl (by decide) (by decide) rfl rfl (hr7.2.world hS.sub) hq59 rfl) rfl rfl ?_
   rintro v62 w hS
   obtain ⟨A60, c61, rfl, _⟩ := hS.osShape 0 rfl
   have hS : St B w (_ :: _ :: _ :: _ :: l) hf := hS
   refine rr [0, 4] hS ?_
   refine it fun w hS => lnsr (rr [4, 3, 0, 0] hS ?_)
   refine it fun w hS => ?_
   obtain ⟨hf, hs63, hS, hr64⟩ := St.promote hS.p1
   obtain ⟨hf, hs65, hS, hr66⟩ := St.promote hS
   refine rr [0, 0, 0] hS ?_
   refine fun b67 => it fun w hS => lr ?_
   have hS := hS.nilSlR 286 10
   have hS := O_log_Log.c (x := (⟨({ a1 with Prog := (([] : List api_Instr) ++ a1.Prog), Links := (([] : List api_Link) ++ a1.Links) } : api_World), true, a8, a9, ([] : List log_done), false⟩ : log_Log)) (hr64.mono hs65) hr66 RepL.nil hS.p1
   cases h.some
   exact rt results28 rfl ⟨_, (hs63.trans hs65), b67, rfl, hS.d1.d1⟩
  refine jtr (pn 3 rfl (lr (RQ.ret ?_)))
  cases h.some
  exact rt results28 rfl ⟨rfl, hS.d0.d0⟩
def heap_New.f  : Option (heap_Heap) := some (⟨([] : List api_Message)⟩ : heap_Heap)
theorem heap_New.ok {r : heap_Heap} (h : heap_New.f = some r) (hS : St B w (l) hf) :
    Calls prog 87 #[] w (Ret fun v w => ∃ (b_1 : Nat), v = pV b_1 ∧ St B w (O_heap_Heap hf r b_1 :: l) hf) := by
  have h := Holds.of h
  refine en func87 rfl ntmps87 rfl (sr (pn 1 rfl (lnsr (rr [0, 0, 0, 0] hS ?_))))
  refine fun b2 => it fun w hS => lr ?_
  have hS := hS.nilSl E_api_Message 115
  have hS := O_heap_Heap.c (x := (⟨([] : List api_Message)⟩ : heap_Heap)) hS.p1
  cases h.some
  exact rt results87 rfl ⟨b2, rfl, hS⟩
def pend_fresh.f  : Option (heap_Heap) := ((heap_New.f).bind fun t4 => some t4)
theorem pend_fresh.ok {r : heap_Heap} (h : pend_fresh.f = some r) (hS : St B w (l) hf) :
    Calls prog 56 #[iV 0] w (Ret fun v w => ∃ (b_1 : Nat), v = .iface 206 (pV b_1) ∧ St B w (O_heap_Heap hf r b_1 :: l) hf) := by
  have h := Holds.of h
  refine en func56 rfl ntmps56 rfl (sr (pn 1 rfl (ln (RC.seq (sr (pn 1 rfl (ln (RC.block (sr (pn 2 rfl ?_))))))))))
  refine ln (jtr (cF (fun _ hg => heap_New.ok hg hS) call87 h rfl rfl rfl ?_))
  rintro t4 h _ w ⟨b6, rfl, hS⟩
  refine r0 2 rfl (lr (ir ?_))
  obtain rfl := h.some
  exact rt results56 rfl ⟨b6, rfl, hS⟩
def pend_New.f  : Option (pend_Pend × Int) := ((pend_fresh.f).bind fun t11 => some ((⟨.c0 t11⟩ : pend_Pend), 0))
theorem pend_New.ok {r : pend_Pend × Int} (h : pend_New.f = some r) (hS : St B w (l) hf) :
    Calls prog 29 #[iV 0] w (Ret fun v w => ∃ (b_1 : Nat), v = .tuple #[pV b_1, iV r.2] ∧ St B w (O_pend_Pend hf r.1 b_1 :: l) hf) := by
  have h := Holds.of h
  refine en func29 rfl ntmps29 rfl (sr (pn 2 rfl (lnsr (pn 1 rfl (cF (fun _ hg => pend_fresh.ok hg hS) call56 h rfl rfl rfl ?_)))))
  rintro t11 h _ w ⟨b13, rfl, hS⟩
  refine pn 1 rfl (ln (RC.seq (sr (pn 1 rfl (RL.s (Vl.bn false rfl rfl) rfl (ln (jfs (sr (rr [0, 0, 0, 0, 0] hS ?_)))))))))
  refine fun b14 => it fun w hS => ?_
  refine lr ?_
  have hS := O_pend_Pend.c0 (x := (⟨.c0 t11⟩ : pend_Pend)) rfl hS
  cases h.some
  exact rt results29 rfl ⟨b14, rfl, hS⟩
def model_Starts.l2b (a1 : api_Model) : List api_Message × Int → Option ((List api_Message × Int) ⊕ (List api_Message))
  | (l90, x93) => (if x93 < (a1.Starts.length : Int) then (if 0 ≤ x93 then (if (l90.length + 1) * 56 ≤ 140737488355328 then some (.inl ((l90 ++ ([(⟨(⟨(nth a1.Starts x93).Time, (-1), x93⟩ : api_Key), (nth a1.Starts x93).To, (nth a1.Starts x93).Value, x93, false⟩ : api_Message)])), IntKind.i64.wrap (x93 + 1))) else none) else none) else some (.inr l90))
def model_Starts.l2 (a1 : api_Model) (s : List api_Message × Int) : Option (List api_Message) := loopR (model_Starts.l2b a1) s
def model_Starts.f (a1 : api_Model) : Option (List api_Message) := model_Starts.l2 a1 ([], 0)
theorem model_Starts.ok {a1 : api_Model} {A2 A5 A8 : Option Addr} {c3 c6 c9 : Nat} (hr4 : SlR (Rep.sl E_api_Instr.rep) hf A2 c3 a1.Progs) (hr7 : SlR E_api_Link.rep hf A5 c6 a1.Links) (hr10 : SlR E_api_Start.rep hf A8 c9 a1.Starts) {r : List api_Message} (h : model_Starts.f a1 = some r) (hS : St B w (l) hf) :
    Calls prog 30 #[.agg (C_api_Model a1 A2 c3 A5 c6 A8 c9).toArray] w (Ret fun v w => ∃ (A_1 : Option Addr) (c_2 : Nat), v = sV A_1 r c_2 ∧ St B w (OSf E_api_Message 115 (sV A_1 r c_2) r :: l) hf) := by
  have h := Holds.of h
  refine en func30 rfl ntmps30 rfl (sr (rr [0, 0] hS ?_))
  refine fun b71 => it fun w hS => lnsr (pn 1 rfl (ln (RC.seq (sr (rr [0, 1, 0, 0] hS ?_)))))
  refine it fun w hS => RL.nil ?_
  refine RQ.then_n (RC.block ?_)
  have hS := hS.nilSl E_api_Message 115
  refine fun a ha => lp h (fun (s : List api_Message × Int) a w => ∃ l90 x93, s = (l90, x93) ∧ ∃ A91 c92, Has 29 [(3, sV A91 l90 c92), (7, sV A8 a1.Starts c9), (8, iV (a1.Starts.length : Int)), (9, iV x93)] a ∧ St B w (OSf E_api_Message 115 (sV A91 l90 c92) l90 :: l) hf) ⟨_, _, rfl, _, _, ha.tE rfl, hS.d1⟩ ?_
  rintro G114 _ a w ⟨l90, x93, rfl, A91, c92, ha, hS⟩ h
  refine ro ha (sr (pn 1 rfl (ln (RC.seq ?_))))
  refine RC.iteP 10 rfl h (fun hc116 h => ?_) fun hc116 h => ?_
  next =>
   refine jt (sk (RC.seq (RC.block (sr (pn 1 rfl ?_)))))
   obtain ⟨hq124, h⟩ := h.req
   refine RL.s (Vl.indexAddr underlying24 sizeOf156 rfl rfl ((hr10.2.world hS.sub).adr hq124 hc116) hq124 hc116 rfl) rfl (RL.s (Vl.loadA isAgg156 sizeOf156 rfl rfl ((hr10.2.world hS.sub).cells hq124 hc116)) rfl (rr [0, 0, 1] hS ?_))
   refine fun b125 => it fun w hS => ln (RC.region (rr [0, 0, 1, 0, 0, 0, 1, 0, 1, 0, 0] hS ?_))
   refine it fun w hS => RL.e (OW.buildSlice (E := E_api_Message) (xs := [(⟨(⟨(nth a1.Starts x93).Time, (-1), x93⟩ : api_Key), (nth a1.Starts x93).To, (nth a1.Starts x93).Value, x93, false⟩ : api_Message)]) (cs := [iV ((nth a1.Starts x93).Time), iV (-1), iV x93, iV ((nth a1.Starts x93).To), iV ((nth a1.Starts x93).Value), iV x93, .bool false]) hS underlying99 zeroValue115 sizeOf115 (parts := [(0, .tmp 24)]) rfl rfl (by decide) (by decide) (by kernel_rfl) rfl) rfl rfl ?_
   rintro _ w ⟨b126, rfl, hS⟩
   obtain ⟨hq127, h⟩ := h.req
   refine RL.e (OW.append (E := E_api_Message) (xs := l90) (ys := [(⟨(⟨(nth a1.Starts x93).Time, (-1), x93⟩ : api_Key), (nth a1.Starts x93).To, (nth a1.Starts x93).Value, x93, false⟩ : api_Message)]) 2 hS rfl underlying99 type115 rfl rfl rfl rfl (by decide) rfl rfl rfl (hS.slW 0 rfl).2.2.flat (by simp only [maxLen, List.length_cons, List.length_nil] at *; omega) hq127 rfl) rfl rfl ?_
   rintro v130 w hS
   obtain ⟨A128, c129, rfl, _⟩ := hS.osShape 0 rfl
   have hS : St B w (_ :: _ :: _ :: l) hf := hS
   refine pn 1 rfl (RL.nil (RQ.inB_n (RQ.then_n (RC.region (pn 2 rfl (RL.nil ?_))))))
   exact fun a ha => ⟨_, h.some, _, _, rfl, _, _, ha.tE rfl, hS.d1.d1⟩
  refine jf (RC.exit (RQ.exitT ?_))
  have h := h.inrS
  refine RQ.exitT (RQ.inB_hit (tsr (pn 2 rfl (lr ?_))))
  obtain rfl := h.some
  exact rt results30 rfl ⟨A91, c92, rfl, hS⟩
def pend_Pend_none.f (a2 : pend_Pend) : Option (Unit) := (a2.q.on (fun y11 => some ()) (fun y12 => some ()) (fun y13 => some ()))
theorem pend_Pend_none.ok {a2 : pend_Pend} {b1 : Nat} {r : Unit} (h : pend_Pend_none.f a2 = some r) (hS : St B w (O_pend_Pend hf a2 b1 :: l) hf) :
    Calls prog 90 #[pV b1] w (Ret fun v w => v = .bool false ∧ St B w (O_pend_Pend hf a2 b1 :: l) hf) := by
  have h := Holds.of h
  refine en func90 rfl ntmps90 rfl (sr (pn 1 rfl (lnsr (pn 1 rfl (RL.s (Vl.bn false rfl rfl) rfl (r0 4 rfl ?_))))))
  rcases hx10 : a2.q with y11 | y12 | y13
  next =>
   have h := Q_pend_Pend.h0 hx10 h
   obtain ⟨b14, hS⟩ := O_pend_Pend.o0 hx10 hS
   refine rr [1] hS ?_
   refine it fun w hS => RL.sg (Vl.bn false rfl rfl) rfl rfl (pn 2 rfl (lr ?_))
   have hS := O_pend_Pend.c0 (x := a2) hx10 hS
   exact rt results90 rfl ⟨rfl, hS⟩
  next =>
   have h := Q_pend_Pend.h1 hx10 h
   obtain ⟨b15, hS⟩ := O_pend_Pend.o1 hx10 hS
   refine rr [1] hS ?_
   refine it fun w hS => RL.sg (Vl.bn false rfl rfl) rfl rfl (pn 2 rfl (lr ?_))
   have hS := O_pend_Pend.c1 (x := a2) hx10 hS
   exact rt results90 rfl ⟨rfl, hS⟩
  have h := Q_pend_Pend.h2 hx10 h
  obtain ⟨b16, hS⟩ := O_pend_Pend.o2 hx10 hS
  refine rr [1] hS ?_
  refine it fun w hS => RL.sg (Vl.bn false rfl rfl) rfl rfl (pn 2 rfl (lr ?_))
  have hS := O_pend_Pend.c2 (x := a2) hx10 hS
  exact rt results90 rfl ⟨rfl, hS⟩
end
end Go.Proofs.Gx
