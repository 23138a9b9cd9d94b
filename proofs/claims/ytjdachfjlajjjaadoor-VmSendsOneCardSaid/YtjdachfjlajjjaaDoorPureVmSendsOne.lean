/-
  The plain law VmSendsOne: a message is its parts.
-/
import Derived.Test.YtjdachfjlajjjaaDoorSums
import Derived.Test.YtjdachfjlajjjaaDoorW10
namespace Go.Proofs.Gx
open Go.Sl
set_option linter.unusedVariables false
def wSend (n d v : Int) (l : List api_Link) : api_World := ⟨[(⟨1, 8, n, 0⟩ : api_Instr), (⟨1, 9, d, 0⟩ : api_Instr), (⟨1, 10, v, 0⟩ : api_Instr), (⟨12, 8, 9, 10⟩ : api_Instr)], 0, l, 0⟩
def mAt (t : Int) : api_Message := ⟨⟨t, 0, 0⟩, 0, 0, 0, false⟩
def lnk (xs : List Int) (k : Nat) : api_Link := ⟨0, (k : Int), 1 + nth xs (k : Int), false⟩
theorem u8_nth {xs : List Int} (h : (okl (fun n => (Lit.int .u8 n).wf = true) 1) xs) {k : Nat} (hk : k < xs.length) : 0 ≤ nth xs (k : Int) ∧ nth xs (k : Int) ≤ 255 := wf8 (h.1 _ (nth_mem (by omega) (by omega)))
theorem lnks_get {xs : List Int} {n k : Nat} (hk : k < n) : nth ((List.range n).map (lnk xs)) (k : Int) = lnk xs k := by
  rw [nth_nat (by simpa using hk)]
  simp
theorem wSend_ok {n d v : Int} (hn : -2147483648 ≤ n ∧ n ≤ 2147483647) (hd : -2147483648 ≤ d ∧ d ≤ 2147483647) (hv : -2147483648 ≤ v ∧ v ≤ 2147483647) {xs : List Int} (hx : (okl (fun n => (Lit.int .u8 n).wf = true) 1) xs) {c : Nat} (hc : c ≤ 10) (hcx : c ≤ xs.length) :
    chkW (wSend n d v ((List.range c).map (lnk xs))) = 0 := by
  have hp : chk (wSend n d v ((List.range c).map (lnk xs))).Prog = 0 := by
    refine chk_of (show ((4 : Nat) : Int) ≤ 256 by decide) fun k hk => ?_
    have hk : k < 4 := hk
    match k, hk with
    | 0, _ => exact may_set (by decide) hn
    | 1, _ => exact may_set (by decide) hd
    | 2, _ => exact may_set (by decide) hv
    | 3, _ => rfl
  have hl : (wSend n d v ((List.range c).map (lnk xs))).Links.length = c := by simp [wSend]
  unfold chkW
  rw [if_pos hp, if_pos (show laneW (wSend n d v ((List.range c).map (lnk xs))).Self = true from rfl), if_neg (by rw [hl]; omega), if_neg]
  simp only [Bool.not_eq_true, List.any_eq_false]
  intro k hk
  have hk : k < c := by rw [hl] at hk; exact List.mem_range.1 hk
  have hu := u8_nth hx (show k < xs.length by omega)
  unfold linkBadW
  rw [show nth (wSend n d v ((List.range c).map (lnk xs))).Links (k : Int) = lnk xs k from lnks_get hk]
  have e1 : laneW (lnk xs k).To = true := decide_eq_true (show 0 ≤ (k : Int) ∧ (k : Int) < 16 by omega)
  have e2 : decide (1 ≤ (lnk xs k).Look ∧ (lnk xs k).Look ≤ 4611686018427387903) = true := decide_eq_true (show 1 ≤ 1 + nth xs (k : Int) ∧ 1 + nth xs (k : Int) ≤ 4611686018427387903 by omega)
  rw [e1, e2]
  rfl
theorem send_j5 {n d v t : Int} (hn : -2147483648 ≤ n ∧ n ≤ 2147483647) (hd : -2147483648 ≤ d ∧ d ≤ 2147483647) (hv : -2147483648 ≤ v ∧ v ≤ 2147483647) {xs : List Int} (hx : (okl (fun n => (Lit.int .u8 n).wf = true) 1) xs) {c : Nat} (hc : c ≤ 10) (hcx : c ≤ xs.length) :
    isochronlaw05vVmSendsOne.j5 n d v t ((List.range c).map (lnk xs)) = some true := by
  have hw := wSend_ok hn hd hv hx hc hcx
  have hll : ((List.range c).map (lnk xs)).length = c := by simp
  generalize hl : (List.range c).map (lnk xs) = l at hw hll
  unfold isochronlaw05vVmSendsOne.j5
  rw [w64 (x := n) (by omega) (by omega), w64 (x := d) (by omega) (by omega), w64 (x := v) (by omega) (by omega)]
  change (vm_Run.f (wSend n d v l) zst (mAt t)).bind _ = some true
  rw [vm_run_eq (wSend n d v l) zst (mAt t) rgs_zst (show -9223372036854775808 ≤ (0 : Int) ∧ (0 : Int) ≤ 9223372036854775807 by decide)]
  have hev : event_Check.f (⟨(⟨t, 0, 0⟩ : api_Key), 0, 0, 0, false⟩ : api_Message) = some (if evB (mAt t) then 0 else 1) := event_check_eq (mAt t)
  rw [hev]
  simp only [Option.bind_some, awake_true]
  by_cases hm : evB (mAt t) = true
  · have ht : 0 ≤ t ∧ t ≤ 4611686018427387903 := by
      simp only [evB, Bool.and_eq_true] at hm
      exact of_decide_eq_true hm.1.1.1
    have hst : stp (wSend n d v l) (mAt t) (⟨12, 8, 9, 10⟩ : api_Instr) (upR (upR (upR (rgs zst) 8 n) 9 d) 10 v) 0 [] 4 = (match sendS (wSend n d v l) (mAt t) (⟨12, 8, 9, 10⟩ : api_Instr) (upR (upR (upR (rgs zst) 8 n) 9 d) 10 v) [] with | .inl o => .inl (upR (upR (upR (rgs zst) 8 n) 9 d) 10 v, 0, o, 4) | .inr e => .inr e) := rfl
    have hgo : runF (wSend n d v l) (mAt t) 4096 (rgs zst, zst.Draws, [], 0) = (match sendS (wSend n d v l) (mAt t) (⟨12, 8, 9, 10⟩ : api_Instr) (upR (upR (upR (rgs zst) 8 n) 9 d) 10 v) [] with | .inl o => .inl (upR (upR (upR (rgs zst) 8 n) 9 d) 10 v, 0, o, 4) | .inr e => .inr e) := by
      rw [show (4096 : Nat) = 4092 + 1 + 1 + 1 + 1 from rfl, runF_go' (s' := (upR (rgs zst) 8 n, 0, [], 1)) 4 rfl (by decide) rfl, runF_go' (s' := (upR (upR (rgs zst) 8 n) 9 d, 0, [], 2)) 4 rfl (by decide) rfl,
        runF_go' (s' := (upR (upR (upR (rgs zst) 8 n) 9 d) 10 v, 0, [], 3)) 4 rfl (by decide) rfl]
      rw [runF]
      rw [if_pos (show (3 : Int) < ((wSend n d v l).Prog.length : Int) from by show (3 : Int) < ((4 : Nat) : Int); decide)]
      show (match stp (wSend n d v l) (mAt t) (⟨12, 8, 9, 10⟩ : api_Instr) (upR (upR (upR (rgs zst) 8 n) 9 d) 10 v) 0 [] 4 with | .inl s' => runF (wSend n d v l) (mAt t) 4092 s' | .inr e => .inr e) = _
      rw [hst]
      cases sendS (wSend n d v l) (mAt t) (⟨12, 8, 9, 10⟩ : api_Instr) (upR (upR (upR (rgs zst) 8 n) 9 d) 10 v) [] with
      | inl o => exact runF_stop' 4 rfl (by decide) 4092
      | inr e => rfl
    rw [hm, if_pos rfl, if_pos rfl]
    have hL : ((wSend n d v l).Links.length : Int) = (l.length : Int) := rfl
    by_cases h0 : (l.length : Int) = 0
    · rw [if_pos h0]
      have hs : sendS (wSend n d v l) (mAt t) (⟨12, 8, 9, 10⟩ : api_Instr) (upR (upR (upR (rgs zst) 8 n) 9 d) 10 v) [] = .inl [] := by unfold sendS; rw [if_pos (show ((wSend n d v l).Links.length : Int) = 0 from h0)]
      rw [hs] at hgo
      rw [vmRun_ok hw hm rfl hgo]
      have e : (stOf zst (upR (upR (upR (rgs zst) 8 n) 9 d) 10 v) 0 0).Sent = 0 := by show IntKind.i64.wrap (0 + ((0 : Nat) : Int)) = 0; rw [w64 (by decide) (by decide)]; rfl
      simp only [if_true, List.length_nil]
      rw [if_pos (show ((0 : Nat) : Int) = 0 from rfl), if_pos e]
    · rw [if_neg h0, if_pos h0]
      have hk2 := lkof_in n (n := (l.length : Int)) (by omega) (by omega)
      rw [if_pos (show 0 ≤ Int.tmod (IntKind.i64.wrap ((Int.tmod n (l.length : Int)) + (l.length : Int))) (l.length : Int) ∧ Int.tmod (IntKind.i64.wrap ((Int.tmod n (l.length : Int)) + (l.length : Int))) (l.length : Int) < (l.length : Int) from hk2), w64 (x := 4611686018427387903 - t) (by omega) (by omega)]
      change (if d < (nth l (lkof n (l.length : Int))).Look then _ else _) = some true
      have hs : sendS (wSend n d v l) (mAt t) (⟨12, 8, 9, 10⟩ : api_Instr) (upR (upR (upR (rgs zst) 8 n) 9 d) 10 v) [] = (if d < (nth l (lkof n (l.length : Int))).Look then .inr 50 else if 4611686018427387903 - t < d then .inr 10 else .inl [⟨lkof n (l.length : Int), d, v⟩]) := by
        unfold sendS
        rw [if_neg (show ¬ ((wSend n d v l).Links.length : Int) = 0 from h0), if_neg (by decide)]
        rfl
      rw [hs] at hgo
      by_cases h1 : d < (nth l (lkof n (l.length : Int))).Look
      · rw [if_pos h1] at hgo ⊢
        rw [vmRun_err hw hm rfl hgo]
        rfl
      · rw [if_neg h1] at hgo ⊢
        by_cases h2 : 4611686018427387903 - t < d
        · rw [if_pos h2] at hgo ⊢
          rw [vmRun_err hw hm rfl hgo]
          rfl
        · rw [if_neg h2] at hgo ⊢
          rw [vmRun_ok hw hm rfl hgo]
          have e : (stOf zst (upR (upR (upR (rgs zst) 8 n) 9 d) 10 v) 0 1).Sent = 1 := by show IntKind.i64.wrap (0 + ((1 : Nat) : Int)) = 1; rw [w64 (by decide) (by decide)]; rfl
          simp only [if_true, List.length_singleton]
          rw [if_pos (show ((1 : Nat) : Int) = 1 from rfl), if_pos e, if_pos (show (0 : Int) < ((1 : Nat) : Int) by decide), decide_eq_true (show nth ([⟨lkof n (l.length : Int), d, v⟩] : List api_Out) 0 = (⟨Int.tmod (IntKind.i64.wrap ((Int.tmod n (l.length : Int)) + (l.length : Int))) (l.length : Int), d, v⟩ : api_Out) from rfl)]
  · simp only [Bool.not_eq_true] at hm
    rw [hm, vmRun_bad hw (fun h => by rw [hm] at h; exact absurd h.1 (by decide))]
    rfl
theorem Pure.vmSendsOne (x0 : (List Int)) (h0 : (okl (fun n => (Lit.int .u8 n).wf = true) 1) x0) (x1 : Int) (h1 : (fun n => (Lit.int .i32 n).wf = true) x1) (x2 : Int) (h2 : (fun n => (Lit.int .i32 n).wf = true) x2) (x3 : Int) (h3 : (fun n => (Lit.int .i32 n).wf = true) x3) (x4 : Int) (h4 : (fun n => (Lit.int .i64 n).wf = true) x4) : isochronlaw05vVmSendsOne.f x0 x1 x2 x3 x4 = some true := by
  unfold isochronlaw05vVmSendsOne.f isochronlaw05vVmSendsOne.l6
  have key : ∀ c, c ≤ 10 → c ≤ x0.length → isochronlaw05vVmSendsOne.j5 x1 x2 x3 x4 ((List.range c).map (lnk x0)) = some true := fun c hc hx => send_j5 (wf32 h1) (wf32 h2) (wf32 h3) h0 hc hx
  refine (show loopR (isochronlaw05vVmSendsOne.l6b x0 x1 x2 x3 x4) ((fun k : Nat => ((List.range k).map (lnk x0), ((k : Nat) : Int))) 0) = _ from loopR_steps (fun k : Nat => ((List.range k).map (lnk x0), ((k : Nat) : Int))) (min x0.length 10) (fun k hk => ?_) ?_)
  · have hu := u8_nth h0 (show k < x0.length by omega)
    simp only [isochronlaw05vVmSendsOne.l6b]
    rw [if_pos (by omega), if_pos (by omega), if_pos (by omega), if_pos (by simp only [List.length_map, List.length_range]; omega), w64 (x := nth x0 (k : Int)) (by omega) (by omega), w64 (x := 1 + nth x0 (k : Int)) (by omega) (by omega), w64 (by omega) (by omega), List.range_succ, List.map_append]
    rfl
  · simp only [isochronlaw05vVmSendsOne.l6b, key _ (Nat.min_le_right _ _) (Nat.min_le_left _ _)]
    by_cases hl : ((min x0.length 10 : Nat) : Int) < (x0.length : Int)
    · rw [if_pos hl, if_neg (by omega)]; rfl
    · rw [if_neg hl]; rfl
end Go.Proofs.Gx
