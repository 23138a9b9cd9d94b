/-
  A log, told plainly: New, Try, Do.
-/
import Derived.Test.YtioiognklelipaaDoorLog
import Derived.Test.YtioiognklelipaaDoorW7
import Derived.Test.YtioiognklelipaaDoorW1
import Derived.Test.YtioiognklelipaaDoorW1
import Derived.Test.YtioiognklelipaaDoorW1
namespace Go.Proofs.Gx
open Go.Sl
set_option linter.unusedVariables false
set_option linter.unusedSimpArgs false
def zmsg : api_Message := ⟨⟨0, 0, 0⟩, 0, 0, 0, false⟩
def zent : api_Entry := ⟨zmsg, zst, 0, []⟩
/-! ### whether an event may be done -/
def lastE (a : log_Log) : api_Message := (nth a.l ((a.l.length : Int) - 1)).event
def mayS (a : log_Log) (m : api_Message) (u : Int) : Int :=
  if evB m = true then if m.Anti = true then 1 else if u < 0 then 1 else if 1099511627776 < u then 1 else
    if a.l.length ≠ 0 ∧ bef (lastE a) m = false then 1 else if a.stuck = true then 5 else if 16384 ≤ (a.l.length : Int) then 9 else 0 else 1
theorem last_eq {a : log_Log} (hm : a.made = true) (hl : a.l.length ≤ 1000000) : log_Log_Last.f a = some (if a.l.length = 0 then (zmsg, false) else (lastE a, true)) := by
  unfold log_Log_Last.f log_Log_none.f
  simp only [hm, Bool.not_true, Option.bind_some, Bool.false_eq_true, if_false]
  by_cases h : a.l.length = 0
  · rw [if_pos (by omega), if_pos h]; rfl
  · rw [if_neg (by omega), if_neg h, w64 (x := (a.l.length : Int) - 1) (by omega) (by omega), if_pos (by omega)]; rfl
theorem may_eq {a : log_Log} (hm : a.made = true) (hl : a.l.length ≤ 1000000) (m : api_Message) (u : Int) : log_Log_may.f a m u = some (mayS a m u) := by
  unfold log_Log_may.f mayS
  rw [last_eq hm hl, event_check_eq]
  by_cases h0 : evB m = true
  · simp only [h0, if_true]
    by_cases h : a.l.length = 0
    · simp only [h, if_true, Option.bind_some, Bool.false_eq_true, if_false, ne_eq, not_true_eq_false, false_and]
      repeat' split
      all_goals rfl
    · simp only [h, if_false, Option.bind_some, if_true, before_eq, ne_eq, not_false_eq_true, true_and]
      cases bef (lastE a) m
      · simp
        repeat' split
        all_goals rfl
      · simp
        repeat' split
        all_goals rfl
  · simp only [h0, if_false]
    by_cases h : a.l.length = 0
    · simp [h]
    · simp [h]
/-! ### whether the state ahead is kept -/
def dueS (a : log_Log) : Bool := match (List.range a.l.length).find? (fun k : Nat => (nth a.l ((a.l.length : Int) - 1 - (k : Int))).ahead.has) with
  | some k => decide (a.every ≤ (k : Int) + 1)
  | none => true
theorem due_eq {a : log_Log} (hl : a.l.length ≤ 1000000) : log_Log_due.f a = some (dueS a) := by
  unfold log_Log_due.f log_Log_due.l2 dueS
  refine loopR_findS (fun k : Nat => (k : Int)) (fun k : Nat => (nth a.l ((a.l.length : Int) - 1 - (k : Int))).ahead.has) (fun k => decide (a.every ≤ (k : Int) + 1)) true a.l.length (fun k hk _ => ?_) (fun _ => ?_)
  · simp only [log_Log_due.l2b]
    rw [if_pos (by omega), w64 (x := (a.l.length : Int) - 1) (by omega) (by omega), w64 (x := (a.l.length : Int) - 1 - (k : Int)) (by omega) (by omega), w64 (x := (k : Int) + 1) (by omega) (by omega), if_pos (by omega)]
    split <;> rfl
  · simp only [log_Log_due.l2b]
    rw [if_neg (by omega)]
theorem entry_eq (d : log_done) (s : api_State) (h : d.sent.length ≤ 1000000) : log_done_entry.f d s = some ⟨d.event, s, d.fault, d.sent⟩ := by
  unfold log_done_entry.f
  rw [if_pos (by simp only [List.length_nil]; omega), List.nil_append]
/-! ### an event is done -/
noncomputable def sentS (a : log_Log) (m : api_Message) (u : Int) (kept : List api_Message) : List api_Message := named u (sendsU a.w a.state m (vmRun a.w a.state m).2.1) kept
noncomputable def doneS (a : log_Log) (m : api_Message) (u : Int) (kept : List api_Message) : log_done := ⟨m, (vmRun a.w a.state m).2.2, sentS a m u kept, if dueS a = true then ⟨true, a.state⟩ else ⟨false, default⟩⟩
noncomputable def entS (a : log_Log) (m : api_Message) (u : Int) (kept : List api_Message) : api_Entry := ⟨m, a.state, (vmRun a.w a.state m).2.2, sentS a m u kept⟩
noncomputable def doS (a : log_Log) (m : api_Message) (u : Int) (kept : List api_Message) : log_Log := ⟨a.w, a.made, (vmRun a.w a.state m).1, a.every, a.l ++ [doneS a m u kept], !decide ((vmRun a.w a.state m).2.2 = 0)⟩
structure LogOK (a : log_Log) (b : Int) : Prop where
  made : a.made = true
  chk : chkW a.w = 0
  st : Sok a.state b
  low : b ≤ 1125899906842624
  few : a.l.length ≤ 20000
theorem may_zero {a : log_Log} {m : api_Message} {u : Int} (h : mayS a m u = 0) : evB m = true ∧ m.Anti = false ∧ 0 ≤ u ∧ u ≤ 1099511627776 := by
  unfold mayS at h
  split at h
  · rename_i h0
    split at h
    · cases h
    · rename_i h1
      split at h
      · cases h
      · split at h
        · cases h
        · exact ⟨h0, by simpa using h1, by omega, by omega⟩
  · cases h
theorem sentS_len {a : log_Log} {b : Int} (hA : LogOK a b) {m : api_Message} (hm : evB m = true) (hv : -9223372036854775808 ≤ m.Value ∧ m.Value ≤ 9223372036854775807) (u : Int) (kept : List api_Message) : (sentS a m u kept).length = (vmRun a.w a.state m).2.1.length ∧ (sentS a m u kept).length ≤ 8 := by
  have hS := vm_step hA.chk hm hv hA.st hA.low
  have e : (sentS a m u kept).length = (vmRun a.w a.state m).2.1.length := by
    unfold sentS named
    rw [(rnS_len _ _ _ _).1]
    simp [sendsU]
  exact ⟨e, by rw [e]; exact hS.few⟩
theorem do_eq {a : log_Log} {b : Int} (hA : LogOK a b) {m : api_Message} (hv : -9223372036854775808 ≤ m.Value ∧ m.Value ≤ 9223372036854775807) {u : Int} {kept : List api_Message} (hk : kept.length ≤ 1000000) :
    log_Log_Do.f a m u kept = some (if mayS a m u = 0 then (entS a m u kept, 0, doS a m u kept) else (zent, mayS a m u, a)) := by
  have hf := hA.few
  unfold log_Log_Do.f log_Log_none.f
  rw [may_eq hA.made (by omega)]
  simp only [hA.made, Bool.not_true, Option.bind_some, Bool.false_eq_true, if_false]
  by_cases h : mayS a m u = 0
  · rw [if_pos h, if_pos h]
    obtain ⟨h1, h2, h3⟩ := may_zero h
    have hl := sentS_len hA h1 hv u kept
    rw [run_eq hA.chk h1 hv hA.st hA.low h3 hk]
    simp only [Option.bind_some]
    rw [due_eq (by omega)]
    simp only [Option.bind_some]
    by_cases hd : dueS a = true
    · rw [if_pos hd, if_pos (by simp only [List.length_singleton]; omega), entry_eq _ _ (by show (sentS a m u kept).length ≤ _; omega)]
      simp only [Option.bind_some, entS, doS, doneS, hd, if_true, hA.made]
      rfl
    · rw [if_neg hd, if_pos (by simp only [List.length_singleton]; omega), entry_eq _ _ (by show (sentS a m u kept).length ≤ _; omega)]
      simp only [Option.bind_some, entS, doS, doneS, hd, if_false, hA.made]
      rfl
  · rw [if_neg h, if_neg h]; rfl
/-! ### a new log -/
theorem new_eq (w : api_World) (e : Int) (he : 1 ≤ e ∧ e ≤ 1024) : log_New.f w zst e = some (if chkW w = 0 then .inr (⟨w, true, zst, e, [], false⟩, 0) else .inl (chkW w)) := by
  unfold log_New.f
  rw [vm_check_eq]
  simp only [Option.bind_some]
  by_cases h : chkW w = 0
  · have hF := fine_of (m := zmsg) h (by decide) (by decide)
    have h1 := hF.many
    have h2 := hF.links
    rw [if_pos h, if_pos h, if_neg (by decide), if_neg (by decide), if_neg (by omega), if_neg (by omega), if_pos (by simp only [List.length_nil]; omega), if_pos (by simp only [List.length_nil]; omega), List.nil_append, List.nil_append]
  · rw [if_neg h, if_neg h]
theorem zst_ok : Sok zst 0 := ⟨rgs_zst, ⟨by decide, by decide⟩, ⟨by decide, by decide⟩⟩
theorem new_ok {w : api_World} (h : chkW w = 0) (e : Int) : LogOK ⟨w, true, zst, e, [], false⟩ 0 := ⟨rfl, h, zst_ok, by decide, by simp⟩
theorem awake_true : isochronlaw10vawake.f = some true := by
  unfold isochronlaw10vawake.f
  rw [show (⟨(⟨0, 0, 0, 0, 0, 0, 0, 0⟩ : Arr8xInti64), 0, 0⟩ : api_State) = zst from rfl, new_eq _ _ (by decide), show chkW ⟨[], 0, [], 0⟩ = 0 from by decide]
  simp only [if_true, Option.bind_some]
  unfold log_Log_Kept.f log_Log_none.f
  simp only [Bool.not_true, Option.bind_some, Bool.false_eq_true, if_false]
  have : log_Log_Kept.l2 (⟨⟨[], 0, [], 0⟩, true, zst, 1, [], false⟩ : log_Log) (1, 0) = some 1 := by
    unfold log_Log_Kept.l2
    exact loopR_steps (fun _ => ((1 : Int), (0 : Int))) 0 (fun k hk => by omega) (by simp [log_Log_Kept.l2b])
  rw [this]
  rfl
end Go.Proofs.Gx
