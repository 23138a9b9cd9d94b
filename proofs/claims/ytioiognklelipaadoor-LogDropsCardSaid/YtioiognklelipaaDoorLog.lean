/-
  What a log does with one event: the run, what it sends, the names of what is sent.
-/
import Derived.Test.YtioiognklelipaaDoorOrd
import Derived.Test.YtioiognklelipaaDoorVmOut
import Derived.Test.YtioiognklelipaaDoorW6
import Derived.Test.YtioiognklelipaaDoorW5
namespace Go.Proofs.Gx
open Go.Sl
set_option linter.unusedVariables false
set_option linter.unusedSimpArgs false
def sendU (w : api_World) (s : api_State) (m : api_Message) (l : List api_Out) (k : Nat) (u : Int) : api_Message := ⟨⟨m.Key.Time + (nth l (k : Int)).Delay, w.Self, s.Sent + (k : Int)⟩, (nth w.Links (nth l (k : Int)).Link).To, (nth l (k : Int)).Value, u, false⟩
def sendsU (w : api_World) (s : api_State) (m : api_Message) (l : List api_Out) : List api_Message := (List.range l.length).map (fun k => sendU w s m l k (k : Int))
theorem sends_eq {w : api_World} {s : api_State} {m : api_Message} {l : List api_Out} (hF : Fine w m) (ho : OutOK w m l) (hl : l.length ≤ 8) (hs : 0 ≤ s.Sent ∧ s.Sent ≤ 1125899906842624) : vm_Sends.f w s m l 0 = some (sendsU w s m l) := by
  have ht := hF.time
  unfold vm_Sends.f vm_Sends.l2
  refine (show loopR (vm_Sends.l2b w s m l 0) ((fun k : Nat => ((List.range k).map (fun k => sendU w s m l k (k : Int)), ((k : Nat) : Int))) 0) = _ from loopR_steps (fun k : Nat => ((List.range k).map (fun k => sendU w s m l k (k : Int)), ((k : Nat) : Int))) l.length (fun k hk => ?_) ?_)
  · obtain ⟨⟨⟨c1, c2⟩, c3, c4⟩, _⟩ := ho _ (nth_mem (xs := l) (i := (k : Int)) (by omega) (by omega))
    have c5 : 1 ≤ (nth l (k : Int)).Delay := by
      have := hF.look (nth l (k : Int)).Link.toNat (by omega)
      rw [Int.toNat_of_nonneg c1] at this
      omega
    simp only [vm_Sends.l2b]
    rw [if_pos (by omega), if_pos (by omega), if_pos c1, if_pos c2, w64 (x := 4611686018427387903 - m.Key.Time) (by omega) (by omega), if_pos c4, if_pos (by simp only [List.length_map, List.length_range]; omega),
      w64 (x := m.Key.Time + (nth l (k : Int)).Delay) (by omega) (by omega), w64 (x := s.Sent + (k : Int)) (by omega) (by omega), w64 (x := 0 + (k : Int)) (by omega) (by omega), w64 (x := (k : Int) + 1) (by omega) (by omega), List.range_succ, List.map_append, Int.zero_add]
    rfl
  · simp only [vm_Sends.l2b]
    rw [if_neg (by omega)]
    rfl
/-! ### a state whose counters are small -/
structure Sok (s : api_State) (b : Int) : Prop where
  regs : Rin (rgs s)
  draws : 0 ≤ s.Draws ∧ s.Draws ≤ b
  sent : 0 ≤ s.Sent ∧ s.Sent ≤ b
/-! ### old names -/
def sameM (x y : api_Message) : Bool := decide (x.Key = y.Key ∧ x.To = y.To ∧ x.Value = y.Value)
def hadS (x : api_Message) (kept : List api_Message) : Int × Bool × List api_Message :=
  match (List.range kept.length).find? (fun k : Nat => sameM x (nth kept (k : Int))) with
  | some k => ((nth kept (k : Int)).Uid, true, subL kept 0 (k : Int) ++ subL kept ((k : Int) + 1) kept.length)
  | none => (0, false, kept)
theorem had_eq (x : api_Message) (kept : List api_Message) (h : kept.length ≤ 1000000) : log_Log_run_1.f x kept = some (hadS x kept) := by
  unfold log_Log_run_1.f log_Log_run_1.l2 hadS
  refine (loopR_findS (fun k : Nat => (k : Int)) (fun k : Nat => sameM x (nth kept (k : Int))) (fun k => ((nth kept (k : Int)).Uid, true, subL kept 0 (k : Int) ++ subL kept ((k : Int) + 1) kept.length)) (0, false, kept) kept.length (fun k hk _ => ?_) (fun _ => ?_)).trans ?_
  · simp only [log_Log_run_1.l2b]
    have l1 := subL_len (xs := kept) (lo := 0) (hi := (k : Int)) (by omega) (by omega) (by omega)
    have l2 := subL_len (xs := kept) (lo := (k : Int) + 1) (hi := (kept.length : Int)) (by omega) (by omega) (by omega)
    rw [if_pos (by omega), if_pos (by omega), w64 (x := (k : Int) + 1) (by omega) (by omega)]
    unfold sameM
    by_cases h1 : x.Key = (nth kept (k : Int)).Key
    · by_cases h2 : x.To = (nth kept (k : Int)).To
      · by_cases h3 : x.Value = (nth kept (k : Int)).Value
        · rw [if_pos h1, if_pos h2, if_pos h3, if_pos (by omega), if_pos (by omega), if_pos (by omega)]
          simp [h1, h2, h3]
        · rw [if_pos h1, if_pos h2, if_neg h3]
          simp [h3]
      · rw [if_pos h1, if_neg h2]
        simp [h2]
    · rw [if_neg h1]
      simp [h1]
  · simp only [log_Log_run_1.l2b]
    rw [if_neg (by omega)]
  · congr 1
/-! ### one run, its bounds -/
structure StepOK (w : api_World) (s : api_State) (m : api_Message) (b : Int) : Prop where
  fine : Fine w m
  outs : OutOK w m (vmRun w s m).2.1
  few : (vmRun w s m).2.1.length ≤ 8
  next : Sok (vmRun w s m).1 (b + 4096)
theorem vm_step {w : api_World} {s : api_State} {m : api_Message} {b : Int} (hw : chkW w = 0) (hm : evB m = true) (hv : -9223372036854775808 ≤ m.Value ∧ m.Value ≤ 9223372036854775807) (hs : Sok s b) (hb : b ≤ 1125899906842624) : StepOK w s m b := by
  have hF := fine_of hw hm hv
  have h1 := hs.draws
  have h2 := hs.sent
  have hst : stB s = true := by simp only [stB, decide_eq_true_eq]; omega
  have hI : Inv w (rgs s, s.Draws, [], 0) := ⟨hs.regs, Nat.zero_le _, Int.le_refl _, by show (0 : Int) ≤ _; omega⟩
  have hO := runF_out hF 4096 (rgs s, s.Draws, [], 0) hI (fun o ho => by cases ho) h1.1 (by show s.Draws + _ ≤ _; omega)
  cases hr : runF w m 4096 (rgs s, s.Draws, [], 0) with
  | inr c =>
    have e := vmRun_err hw hm hst hr
    refine ⟨hF, ?_, ?_, ?_⟩
    · rw [e]; exact fun o ho => by cases ho
    · rw [e]; exact Nat.zero_le _
    · rw [e]; exact ⟨hs.regs, ⟨h1.1, by show s.Draws ≤ _; omega⟩, ⟨h2.1, by show s.Sent ≤ _; omega⟩⟩
  | inl y =>
    obtain ⟨f, dr, outs, at_⟩ := y
    obtain ⟨b1, b2, b3, b4⟩ := hO _ hr
    have e := vmRun_ok hw hm hst hr
    have b5 : outs.length ≤ 8 := b1.outs
    simp only at b3 b4
    refine ⟨hF, by rw [e]; exact b2, by rw [e]; exact b5, ?_⟩
    rw [e]
    refine ⟨rgs_of b1.rg s dr _, ?_, ?_⟩
    · show 0 ≤ dr ∧ dr ≤ _; omega
    · show 0 ≤ IntKind.i64.wrap _ ∧ IntKind.i64.wrap _ ≤ _; rw [w64 (by omega) (by omega)]; omega
/-! ### the names of what is sent -/
def setUid (x : api_Message) (u : Int) : api_Message := ⟨x.Key, x.To, x.Value, u, x.Anti⟩
/-- the next new name, what is sent, what was sent and is not used yet: behind k steps -/
def rnS (u : Int) (l kept : List api_Message) : Nat → Int × List api_Message × List api_Message
  | 0 => (u, l, kept)
  | k + 1 =>
    let s := rnS u l kept k
    let h := hadS (nth l (k : Int)) s.2.2
    (if h.2.1 = true then s.1 else s.1 + 1, setL s.2.1 (k : Int) (setUid (nth s.2.1 (k : Int)) (if h.2.1 = true then h.1 else s.1)), h.2.2)
theorem hadS_len (x : api_Message) (kept : List api_Message) : (hadS x kept).2.2.length ≤ kept.length := by
  unfold hadS
  split
  · rename_i k hk
    have h := List.find?_some hk
    have hk' := List.mem_range.1 (List.mem_of_find?_eq_some hk)
    have l1 := subL_len (xs := kept) (lo := 0) (hi := (k : Int)) (by omega) (by omega) (by omega)
    have l2 := subL_len (xs := kept) (lo := (k : Int) + 1) (hi := (kept.length : Int)) (by omega) (by omega) (by omega)
    simp only [List.length_append]
    omega
  · exact Nat.le_refl _
theorem rnS_len (u : Int) (l kept : List api_Message) : ∀ k, (rnS u l kept k).2.1.length = l.length ∧ (rnS u l kept k).2.2.length ≤ kept.length ∧ u ≤ (rnS u l kept k).1 ∧ (rnS u l kept k).1 ≤ u + (k : Int)
  | 0 => ⟨rfl, Nat.le_refl _, Int.le_refl _, by show u ≤ u + _; omega⟩
  | k + 1 => by
    obtain ⟨h1, h2, h3, h4⟩ := rnS_len u l kept k
    refine ⟨?_, ?_, ?_, ?_⟩
    · show (setL _ _ _).length = _; rw [setL_len]; exact h1
    · exact Nat.le_trans (hadS_len _ _) h2
    · show u ≤ ite _ _ _; split <;> omega
    · show ite _ _ _ ≤ _; split <;> omega
theorem nth_setL_ne {α : Type} [Inhabited α] {xs : List α} {i j : Int} {x : α} (h0 : 0 ≤ i) (h2 : 0 ≤ j) (h : j ≠ i) : nth (setL xs i x) j = nth xs j := by
  by_cases h1 : i < xs.length
  · rw [nth_setL h0 h1 h2, if_neg h]
  · unfold setL
    rw [List.set_eq_of_length_le (by omega)]
theorem rnS_at (u : Int) (l kept : List api_Message) : ∀ k, ∀ j : Nat, k ≤ j → nth (rnS u l kept k).2.1 (j : Int) = nth l (j : Int)
  | 0, j, _ => rfl
  | k + 1, j, h => by
    show nth (setL _ _ _) _ = _
    rw [nth_setL_ne (by omega) (by omega) (by omega)]
    exact rnS_at u l kept k j (by omega)
/-- what is sent, with its names -/
def named (u : Int) (l kept : List api_Message) : List api_Message := (rnS u l kept l.length).2.1
theorem run_eq {a : log_Log} {m : api_Message} {b u : Int} {kept : List api_Message} (hw : chkW a.w = 0) (hm : evB m = true) (hv : -9223372036854775808 ≤ m.Value ∧ m.Value ≤ 9223372036854775807) (hs : Sok a.state b) (hb : b ≤ 1125899906842624)
    (hu : 0 ≤ u ∧ u ≤ 1099511627776) (hk : kept.length ≤ 1000000) :
    log_Log_run.f a m u kept = some ((⟨m, (vmRun a.w a.state m).2.2, named u (sendsU a.w a.state m (vmRun a.w a.state m).2.1) kept, ⟨false, default⟩⟩ : log_done), (vmRun a.w a.state m).1) := by
  have hS := vm_step hw hm hv hs hb
  have h2 := hs.sent
  unfold log_Log_run.f
  rw [vm_run_eq _ _ _ hs.regs hv]
  simp only [Option.bind_some]
  unfold log_Log_run.j17
  rw [sends_eq hS.fine hS.outs hS.few (by omega)]
  simp only [Option.bind_some]
  unfold log_Log_run.j18
  rw [if_pos (by simp only [List.length_nil]; omega), List.nil_append]
  generalize hl : sendsU a.w a.state m (vmRun a.w a.state m).2.1 = l
  have hll : l.length ≤ 8 := by rw [← hl]; simp only [sendsU, List.length_map, List.length_range]; exact hS.few
  unfold log_Log_run.l30
  refine (show loopR _ ((fun k : Nat => ((rnS u l kept k).1, (rnS u l kept k).2.1, (rnS u l kept k).2.2, (k : Int))) 0) = _ from loopR_steps (fun k : Nat => ((rnS u l kept k).1, (rnS u l kept k).2.1, (rnS u l kept k).2.2, (k : Int))) l.length (fun k hk' => ?_) ?_)
  · obtain ⟨c1, c2, c3, c4⟩ := rnS_len u l kept k
    simp only [log_Log_run.l30b]
    rw [if_pos (by omega), if_pos (by omega), had_eq _ _ (by omega)]
    simp only [Option.bind_some]
    have e := rnS_at u l kept k k (Nat.le_refl k)
    show (if (hadS (nth (rnS u l kept k).2.1 (k : Int)) (rnS u l kept k).2.2).2.1 = true then _ else _) = _
    rw [e]
    have hn : rnS u l kept (k + 1) = (if (hadS (nth l (k : Int)) (rnS u l kept k).2.2).2.1 = true then (rnS u l kept k).1 else (rnS u l kept k).1 + 1, setL (rnS u l kept k).2.1 (k : Int) (setUid (nth (rnS u l kept k).2.1 (k : Int)) (if (hadS (nth l (k : Int)) (rnS u l kept k).2.2).2.1 = true then (hadS (nth l (k : Int)) (rnS u l kept k).2.2).1 else (rnS u l kept k).1)), (hadS (nth l (k : Int)) (rnS u l kept k).2.2).2.2) := rfl
    rw [hn]
    unfold log_Log_run.j32 setUid
    rw [w64 (x := (k : Int) + 1) (by omega) (by omega), w64 (x := (rnS u l kept k).1 + 1) (by omega) (by omega)]
    by_cases h : (hadS (nth l (k : Int)) (rnS u l kept k).2.2).2.1 = true
    · simp only [h, if_true]
      congr 1
    · simp only [h, if_false]
      congr 1
  · simp only [log_Log_run.l30b]
    rw [if_neg (by omega)]
    rfl
end Go.Proofs.Gx
