/-
  A log as a list of entries: Drop.
-/
import Derived.Test.YtioiognklelipaaDoorLogC
import Derived.Test.YtioiognklelipaaDoorW10
namespace Go.Proofs.Gx
open Go.Sl
set_option linter.unusedVariables false
set_option linter.unusedSimpArgs false
/-- what is left when the first n entries are dropped -/
theorem Lg.drop {a : log_Log} {es : List api_Entry} (h : Lg a es) (n : Nat) (hn : n ≤ es.length) {L : List log_done} (hl : L.length = es.length - n)
    (h1 : ∀ k : Nat, n + k < es.length → (nth L (k : Int)).event = (nth a.l ((n + k : Nat) : Int)).event ∧ (nth L (k : Int)).fault = (nth a.l ((n + k : Nat) : Int)).fault ∧ (nth L (k : Int)).sent = (nth a.l ((n + k : Nat) : Int)).sent)
    (h2 : ∀ k : Nat, n + k < es.length → (nth L (k : Int)).ahead.has = true → (nth L (k : Int)).ahead.val = (nth es ((n + k : Nat) : Int)).Before) (h3 : n < es.length → (nth L 0).ahead.has = true) :
    Lg ⟨a.w, a.made, a.state, a.every, L, a.stuck⟩ (es.drop n) := by
  have hE : ∀ k : Nat, n + k < es.length → nth (es.drop n) (k : Int) = nth es ((n + k : Nat) : Int) := fun k hk => by
    rw [nth_nat (by rw [List.length_drop]; omega), nth_nat hk, List.getElem_drop]
  have hlt : ∀ k, k < (es.drop n).length → n + k < es.length := fun k hk => by rw [List.length_drop] at hk; omega
  refine ⟨by rw [List.length_drop]; exact hl.symm, fun k hk => ?_, fun k hk => ?_, fun k hk => ?_, fun k hk => ?_, fun hp => ?_, fun k hk => ?_, fun k hk => ?_, fun k hk => ?_, fun k hk => ?_, fun k hk => ?_⟩
  · rw [hE k (hlt k hk)]; exact (h1 k (hlt k hk)).1.trans (h.ev _ (hlt k hk))
  · rw [hE k (hlt k hk)]; exact (h1 k (hlt k hk)).2.1.trans (h.fl _ (hlt k hk))
  · rw [hE k (hlt k hk)]; exact (h1 k (hlt k hk)).2.2.trans (h.sn _ (hlt k hk))
  · rw [hE k (hlt k hk)]; exact h2 k (hlt k hk)
  · exact h3 (by rw [List.length_drop] at hp; omega)
  · rw [hE k (by rw [List.length_drop] at hk; omega), hE (k + 1) (hlt _ hk)]; exact h.step (n + k) (by rw [List.length_drop] at hk; omega)
  · rw [List.length_drop] at hk
    rw [hE k (by omega)]; exact h.last (n + k) (by omega)
  · rw [hE k (hlt k hk)]; exact h.regs _ (hlt k hk)
  · rw [hE k (hlt k hk)]; exact h.val _ (hlt k hk)
  · rw [hE k (hlt k hk)]; exact h.few _ (hlt k hk)
/-- how many entries are earlier than a time -/
def nT (es : List api_Entry) (t : Int) : Nat := (es.takeWhile (fun e => decide (e.Event.Key.Time < t))).length
theorem nT_le (es : List api_Entry) (t : Int) : nT es t ≤ es.length := by
  have := (List.takeWhile_prefix (l := es) (fun e => decide (e.Event.Key.Time < t))).length_le
  exact this
theorem nT_lt {es : List api_Entry} {t : Int} {k : Nat} (h : k < nT es t) : (nth es (k : Int)).Event.Key.Time < t := by
  have hk : k < es.length := Nat.lt_of_lt_of_le h (nT_le es t)
  have hp := List.takeWhile_prefix (l := es) (fun e => decide (e.Event.Key.Time < t))
  have hm : (es.takeWhile (fun e => decide (e.Event.Key.Time < t)))[k]'h ∈ es.takeWhile (fun e => decide (e.Event.Key.Time < t)) := List.getElem_mem _
  have := List.all_eq_true.1 (List.all_takeWhile (p := fun e : api_Entry => decide (e.Event.Key.Time < t)) (l := es)) _ hm
  rw [hp.getElem h] at this
  rw [nth_nat hk]
  simpa using this
theorem nT_ge : ∀ {es : List api_Entry} {t : Int}, nT es t < es.length → ¬ (nth es (nT es t : Int)).Event.Key.Time < t
  | [], t, h => by simp at h
  | e :: es, t, h => by
    unfold nT at h ⊢
    by_cases he : e.Event.Key.Time < t
    · rw [List.takeWhile_cons_of_pos (by simpa using he)] at h ⊢
      simp only [List.length_cons] at h ⊢
      have h' : nT es t < es.length := by unfold nT; omega
      have := nT_ge h'
      rw [nth_nat (by simp only [List.length_cons]; exact h)]
      rw [nth_nat h'] at this
      simpa [nT] using this
    · rw [List.takeWhile_cons_of_neg (by simpa using he)]
      simpa [nth] using he
/-- the rows that are left -/
noncomputable def dropL (a : log_Log) (es : List api_Entry) (t : Int) : List log_done :=
  if nT es t < es.length then subL (setL a.l (nT es t : Int) ⟨(nth a.l (nT es t : Int)).event, (nth a.l (nT es t : Int)).fault, (nth a.l (nT es t : Int)).sent, ⟨true, (nth es (nT es t : Int)).Before⟩⟩) (nT es t : Int) a.l.length else []
theorem drop_it {a : log_Log} {es : List api_Entry} (h : Lg a es) (hl : es.length ≤ 20000) (t : Int) : log_Log_states_1v2.f a (nT es t : Int) [] 0 = some (
    if nT es t < es.length then .inl (setL a.l (nT es t : Int) ⟨(nth a.l (nT es t : Int)).event, (nth a.l (nT es t : Int)).fault, (nth a.l (nT es t : Int)).sent, ⟨true, (nth es (nT es t : Int)).Before⟩⟩, es.take (nT es t), 0) else .inr (es, 0)) := by
  have hn := h.len
  have hT0 := nT_le es t
  have key : log_Log_states_1v2.l21 a (nT es t : Int) 0 ([], zst, 0) = some (
    if nT es t < es.length then .inl (setL a.l (nT es t : Int) ⟨(nth a.l (nT es t : Int)).event, (nth a.l (nT es t : Int)).fault, (nth a.l (nT es t : Int)).sent, ⟨true, (nth es (nT es t : Int)).Before⟩⟩, es.take (nT es t), 0) else .inr (es, 0)) := by
    unfold log_Log_states_1v2.l21
    refine (show loopR _ ((fun k : Nat => (es.take k, stAt a es 0 k, (k : Int))) 0) = _ from loopR_steps (fun k : Nat => (es.take k, stAt a es 0 k, (k : Int))) (nT es t) (fun k hk => ?_) ?_)
    · have hk' : k < es.length := by omega
      have hg := h.given hk' (Nat.zero_le k) (h.first (by omega))
      have hT : (es.take k).length = k := by rw [List.length_take]; omega
      have hj : ∀ s, s = (nth es (k : Int)).Before → log_Log_states_1v2.j23 a (nT es t : Int) 0 (es.take k) (k : Int) s = some (.inl (es.take (k + 1), stAt a es 0 (k + 1), ((k + 1 : Nat) : Int))) := fun s e => by
        subst e
        unfold log_Log_states_1v2.j23 log_Log_Drop_round0.f
        rw [if_neg (by omega), if_pos (by omega)]
        show Option.bind (Option.bind (log_done_entry.f (nth a.l (k : Int)) _) _) _ = _
        rw [h.entry hk']
        simp only [Option.bind_some]
        rw [if_pos (by simp only [List.length_singleton]; omega)]
        simp only [Option.bind_some]
        rw [if_pos (by omega)]
        show Option.bind (vm_Run.f a.w _ (nth a.l (k : Int)).event) _ = _
        rw [h.run hk']
        simp only [Option.bind_some]
        rw [w64 (x := (k : Int) + 1) (by omega) (by omega), take_succ' es hk', stAt_succ a es (Nat.zero_le k)]
        rfl
      simp only [log_Log_states_1v2.l21b]
      rw [if_pos (by omega), if_pos (by omega)]
      by_cases hb : (nth a.l (k : Int)).ahead.has = true
      · rw [if_pos hb]; rw [if_pos hb] at hg; exact hj _ hg
      · rw [if_neg hb]; rw [if_neg hb] at hg; exact hj _ hg
    · simp only [log_Log_states_1v2.l21b]
      by_cases hlt : nT es t < es.length
      · have hg := h.given hlt (Nat.zero_le _) (h.first (by omega))
        rw [if_pos (by omega), if_pos (by omega), if_pos hlt]
        have hj : ∀ s, s = (nth es (nT es t : Int)).Before → log_Log_states_1v2.j23 a (nT es t : Int) 0 (es.take (nT es t)) (nT es t : Int) s = some (.inr (.inl (setL a.l (nT es t : Int) ⟨(nth a.l (nT es t : Int)).event, (nth a.l (nT es t : Int)).fault, (nth a.l (nT es t : Int)).sent, ⟨true, (nth es (nT es t : Int)).Before⟩⟩, es.take (nT es t), 0))) := fun s e => by
          subst e
          unfold log_Log_states_1v2.j23 log_Log_Drop_round0.f
          rw [if_pos rfl, if_pos (by omega)]
          rfl
        by_cases hb : (nth a.l (nT es t : Int)).ahead.has = true
        · rw [if_pos hb]; rw [if_pos hb] at hg; exact hj _ hg
        · rw [if_neg hb]; rw [if_neg hb] at hg; exact hj _ hg
      · rw [if_neg (by omega), if_neg hlt, List.take_of_length_le (by omega)]
  unfold log_Log_states_1v2.f log_Log_states_1v2.l24
  refine loopR_steps (fun _ => (0 : Int)) 0 (fun k hk => by omega) ?_
  simp only [log_Log_states_1v2.l24b]
  rw [if_neg (by omega)]
  unfold log_Log_states_1v2.j14
  rw [show (⟨(⟨0, 0, 0, 0, 0, 0, 0, 0⟩ : Arr8xInti64), 0, 0⟩ : api_State) = zst from rfl, key]
  rfl
theorem drop_eq {a : log_Log} {es : List api_Entry} (h : Lg a es) (hm : a.made = true) (hl : es.length ≤ 20000) (t : Int) : log_Log_Drop.f a t = some (es.take (nT es t), dropL a es t) := by
  have hn := h.len
  have hT0 := nT_le es t
  have hj5 : log_Log_Drop.j5 a (nT es t : Int) = some (es.take (nT es t), dropL a es t) := by
    unfold log_Log_Drop.j5 log_Log_states.f dropL
    simp only [Option.bind_some]
    rw [drop_it h hl t]
    by_cases hlt : nT es t < es.length
    · rw [if_pos hlt, if_pos hlt]
      simp only [Option.bind_some, setL_len]
      have := subL_len (xs := setL a.l (nT es t : Int) ⟨(nth a.l (nT es t : Int)).event, (nth a.l (nT es t : Int)).fault, (nth a.l (nT es t : Int)).sent, ⟨true, (nth es (nT es t : Int)).Before⟩⟩) (lo := (nT es t : Int)) (hi := (a.l.length : Int)) (by omega) (by omega) (by rw [setL_len]; omega)
      rw [if_pos (by omega), if_pos (by simp only [List.length_nil]; omega), List.nil_append]
    · rw [if_neg hlt, if_neg hlt]
      simp only [Option.bind_some]
      have e : nT es t = a.l.length := by omega
      have := subL_len (xs := a.l) (lo := (nT es t : Int)) (hi := (a.l.length : Int)) (by omega) (by omega) (by omega)
      rw [if_pos (by omega), if_pos (by simp only [List.length_nil]; omega), List.nil_append, List.take_of_length_le (by omega), List.eq_nil_of_length_eq_zero (l := subL a.l (nT es t : Int) (a.l.length : Int)) (by omega)]
  unfold log_Log_Drop.f log_Log_none.f
  simp only [hm, Bool.not_true, Option.bind_some, Bool.false_eq_true, if_false]
  unfold log_Log_Drop.l6
  refine (show loopR _ ((fun k : Nat => (k : Int)) 0) = _ from loopR_steps (fun k : Nat => (k : Int)) (nT es t) (fun k hk => ?_) ?_)
  · simp only [log_Log_Drop.l6b]
    have ht := nT_lt hk
    rw [← h.ev k (by omega)] at ht
    rw [if_pos (by omega), if_pos (by omega), if_pos ht, w64 (x := (k : Int) + 1) (by omega) (by omega)]
    rfl
  · simp only [log_Log_Drop.l6b]
    by_cases hlt : nT es t < es.length
    · have ht := nT_ge hlt
      rw [← h.ev _ hlt] at ht
      rw [if_pos (by omega), if_pos (by omega), if_neg ht, hj5]; rfl
    · rw [if_neg (by omega), hj5]; rfl
theorem nth_subL {α : Type} [Inhabited α] {xs : List α} {n k : Nat} (h : n + k < xs.length) : nth (subL xs (n : Int) (xs.length : Int)) (k : Int) = nth xs ((n + k : Nat) : Int) := by
  have hl := subL_len (xs := xs) (lo := (n : Int)) (hi := (xs.length : Int)) (by omega) (by omega) (by omega)
  rw [nth_nat (by omega), nth_nat h]
  simp [subL]
theorem Lg.dropped {a : log_Log} {es : List api_Entry} (h : Lg a es) (t : Int) : Lg ⟨a.w, a.made, a.state, a.every, dropL a es t, a.stuck⟩ (es.drop (nT es t)) := by
  have hn := h.len
  have hT0 := nT_le es t
  by_cases hlt : nT es t < es.length
  · have hD : dropL a es t = subL (setL a.l (nT es t : Int) ⟨(nth a.l (nT es t : Int)).event, (nth a.l (nT es t : Int)).fault, (nth a.l (nT es t : Int)).sent, ⟨true, (nth es (nT es t : Int)).Before⟩⟩) (nT es t : Int) a.l.length := by unfold dropL; rw [if_pos hlt]
    generalize hX : setL a.l (nT es t : Int) ⟨(nth a.l (nT es t : Int)).event, (nth a.l (nT es t : Int)).fault, (nth a.l (nT es t : Int)).sent, ⟨true, (nth es (nT es t : Int)).Before⟩⟩ = X at hD
    have hXl : X.length = a.l.length := by rw [← hX, setL_len]
    have hXn : ∀ k : Nat, nth X (k : Int) = if (k : Int) = (nT es t : Int) then ⟨(nth a.l (nT es t : Int)).event, (nth a.l (nT es t : Int)).fault, (nth a.l (nT es t : Int)).sent, ⟨true, (nth es (nT es t : Int)).Before⟩⟩ else nth a.l (k : Int) := fun k => by rw [← hX, nth_setL (by omega) (by omega) (by omega)]
    rw [← hXl] at hD
    have hN : ∀ k : Nat, nT es t + k < es.length → nth (dropL a es t) (k : Int) = nth X ((nT es t + k : Nat) : Int) := fun k hk => by rw [hD]; exact nth_subL (by omega)
    refine h.drop (nT es t) hT0 (by rw [hD, subL_len (by omega) (by omega) (by omega)]; omega) (fun k hk => ?_) (fun k hk => ?_) (fun _ => ?_)
    · rw [hN k hk, hXn]
      split
      · rename_i e; rw [e]; exact ⟨rfl, rfl, rfl⟩
      · exact ⟨rfl, rfl, rfl⟩
    · rw [hN k hk, hXn]
      split
      · rename_i e; rw [e]; exact fun _ => rfl
      · exact h.ah _ hk
    · have := hN 0 (by omega)
      rw [show ((0 : Nat) : Int) = 0 from rfl] at this
      rw [this, hXn, if_pos (by omega)]
  · have hD : dropL a es t = [] := by unfold dropL; rw [if_neg hlt]
    refine h.drop (nT es t) hT0 (by rw [hD]; simp; omega) (fun k hk => by omega) (fun k hk => by omega) (fun h => absurd h hlt)
end Go.Proofs.Gx
