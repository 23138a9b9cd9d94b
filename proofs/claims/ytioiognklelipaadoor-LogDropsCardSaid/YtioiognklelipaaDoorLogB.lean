/-
  A log as a list of entries: All.
-/
import Derived.Test.YtioiognklelipaaDoorLogA
import Derived.Test.YtioiognklelipaaDoorW9
namespace Go.Proofs.Gx
open Go.Sl
set_option linter.unusedVariables false
set_option linter.unusedSimpArgs false
/-- a log holds the entries es -/
structure Lg (a : log_Log) (es : List api_Entry) : Prop where
  len : es.length = a.l.length
  ev : ∀ k : Nat, k < es.length → (nth a.l (k : Int)).event = (nth es (k : Int)).Event
  fl : ∀ k : Nat, k < es.length → (nth a.l (k : Int)).fault = (nth es (k : Int)).Fault
  sn : ∀ k : Nat, k < es.length → (nth a.l (k : Int)).sent = (nth es (k : Int)).Sent
  ah : ∀ k : Nat, k < es.length → (nth a.l (k : Int)).ahead.has = true → (nth a.l (k : Int)).ahead.val = (nth es (k : Int)).Before
  first : 0 < es.length → (nth a.l 0).ahead.has = true
  step : ∀ k : Nat, k + 1 < es.length → (vmRun a.w (nth es (k : Int)).Before (nth es (k : Int)).Event).1 = (nth es ((k + 1 : Nat) : Int)).Before
  last : ∀ k : Nat, k + 1 = es.length → (vmRun a.w (nth es (k : Int)).Before (nth es (k : Int)).Event).1 = a.state
  regs : ∀ k : Nat, k < es.length → Rin (rgs (nth es (k : Int)).Before)
  val : ∀ k : Nat, k < es.length → -9223372036854775808 ≤ (nth es (k : Int)).Event.Value ∧ (nth es (k : Int)).Event.Value ≤ 9223372036854775807
  few : ∀ k : Nat, k < es.length → (nth es (k : Int)).Sent.length ≤ 8
theorem Lg.entry {a : log_Log} {es : List api_Entry} (h : Lg a es) {k : Nat} (hk : k < es.length) : log_done_entry.f (nth a.l (k : Int)) (nth es (k : Int)).Before = some (nth es (k : Int)) := by
  rw [entry_eq _ _ (by rw [h.sn k hk]; have := h.few k hk; omega), h.ev k hk, h.fl k hk, h.sn k hk]
/-- the state that the loop over the states holds ahead of entry k, from k0 on -/
noncomputable def stAt (a : log_Log) (es : List api_Entry) (k0 k : Nat) : api_State := if k = k0 then zst else (vmRun a.w (nth es ((k - 1 : Nat) : Int)).Before (nth es ((k - 1 : Nat) : Int)).Event).1
theorem stAt_succ (a : log_Log) (es : List api_Entry) {k0 k : Nat} (h : k0 ≤ k) : stAt a es k0 (k + 1) = (vmRun a.w (nth es (k : Int)).Before (nth es (k : Int)).Event).1 := by
  unfold stAt; rw [if_neg (by omega)]; rfl
/-- what a round is given -/
theorem Lg.given {a : log_Log} {es : List api_Entry} (h : Lg a es) {k0 k : Nat} (hk : k < es.length) (h0 : k0 ≤ k) (hh : (nth a.l (k0 : Int)).ahead.has = true) :
    (if (nth a.l (k : Int)).ahead.has = true then (nth a.l (k : Int)).ahead.val else stAt a es k0 k) = (nth es (k : Int)).Before := by
  by_cases hb : (nth a.l (k : Int)).ahead.has = true
  · rw [if_pos hb, h.ah k hk hb]
  · rw [if_neg hb]
    have hne : k ≠ k0 := fun e => hb (by rw [e]; exact hh)
    obtain ⟨j, rfl⟩ : ∃ j, k = j + 1 := ⟨k - 1, by omega⟩
    rw [stAt_succ a es (by omega), h.step j hk]
theorem Lg.run {a : log_Log} {es : List api_Entry} (h : Lg a es) {k : Nat} (hk : k < es.length) : vm_Run.f a.w (nth es (k : Int)).Before (nth a.l (k : Int)).event = some (vmRun a.w (nth es (k : Int)).Before (nth es (k : Int)).Event) := by
  rw [h.ev k hk, vm_run_eq _ _ _ (h.regs k hk) (h.val k hk)]
theorem take_succ' {α : Type} [Inhabited α] (l : List α) {k : Nat} (h : k < l.length) : l.take (k + 1) = l.take k ++ [nth l (k : Int)] := by
  rw [List.take_succ_eq_append_getElem h, nth_nat h]
theorem all_eq {a : log_Log} {es : List api_Entry} (h : Lg a es) (hm : a.made = true) (hl : es.length ≤ 20000) : log_Log_All.f a = some es := by
  have hn := h.len
  unfold log_Log_All.f log_Log_none.f log_Log_states.f
  simp only [hm, Bool.not_true, Option.bind_some, Bool.false_eq_true, if_false]
  have key : log_Log_states_1.l21 a 0 ([], zst, 0) = some (es, 0) := by
    unfold log_Log_states_1.l21
    refine (show loopR _ ((fun k : Nat => (es.take k, stAt a es 0 k, (k : Int))) 0) = _ from loopR_steps (fun k : Nat => (es.take k, stAt a es 0 k, (k : Int))) es.length (fun k hk => ?_) ?_)
    · have hg := h.given hk (Nat.zero_le k) (h.first (by omega))
      have hT : (es.take k).length = k := by rw [List.length_take]; omega
      have hj : ∀ s, s = (nth es (k : Int)).Before → log_Log_states_1.j23 a (es.take k) (k : Int) s = some (.inl (es.take (k + 1), stAt a es 0 (k + 1), ((k + 1 : Nat) : Int))) := fun s e => by
        subst e
        unfold log_Log_states_1.j23 log_Log_All_round0.f
        rw [if_pos (by omega)]
        show Option.bind (Option.bind (log_done_entry.f (nth a.l (k : Int)) _) _) _ = _
        rw [h.entry hk]
        simp only [Option.bind_some]
        rw [if_pos (by simp only [List.length_singleton]; omega)]
        simp only [Option.bind_some]
        rw [if_pos (by omega)]
        show Option.bind (vm_Run.f a.w _ (nth a.l (k : Int)).event) _ = _
        rw [h.run hk]
        simp only [Option.bind_some]
        rw [w64 (x := (k : Int) + 1) (by omega) (by omega), take_succ' es hk, stAt_succ a es (Nat.zero_le k)]
        rfl
      simp only [log_Log_states_1.l21b]
      rw [if_pos (by omega), if_pos (by omega)]
      by_cases hb : (nth a.l (k : Int)).ahead.has = true
      · rw [if_pos hb]; rw [if_pos hb] at hg; exact hj _ hg
      · rw [if_neg hb]; rw [if_neg hb] at hg; exact hj _ hg
    · simp only [log_Log_states_1.l21b]
      rw [if_neg (by omega), List.take_length]
  have : log_Log_states_1.f a [] 0 = some (es, 0) := by
    unfold log_Log_states_1.f log_Log_states_1.l24
    refine loopR_steps (fun _ => (0 : Int)) 0 (fun k hk => by omega) ?_
    simp only [log_Log_states_1.l24b]
    rw [if_neg (by omega)]
    unfold log_Log_states_1.j14
    rw [show (⟨(⟨0, 0, 0, 0, 0, 0, 0, 0⟩ : Arr8xInti64), 0, 0⟩ : api_State) = zst from rfl, key]
    rfl
  rw [this]
  rfl
end Go.Proofs.Gx
