/-
  A log as a list of entries: Back.
-/
import Derived.Test.YtioiognklelipaaGreatDoorLogD
import Derived.Test.YtioiognklelipaaGreatDoorW8
namespace Go.Proofs.Gx
open Go.Sl
set_option linter.unusedVariables false
set_option linter.unusedSimpArgs false
/-- how many entries stay -/
def fB (es : List api_Entry) (m : api_Message) : Nat → Nat
  | 0 => 0
  | x + 1 => if bef (nth es (x : Int)).Event m = true then x + 1 else fB es m x
theorem fB_le (es : List api_Entry) (m : api_Message) : ∀ x, fB es m x ≤ x
  | 0 => Nat.le_refl 0
  | x + 1 => by
    unfold fB
    split
    · exact Nat.le_refl _
    · exact Nat.le_succ_of_le (fB_le es m x)
/-- the entries that are taken back, in the making -/
def outAt (es : List api_Entry) (x k : Nat) : List api_Entry := (List.range (es.length - x)).map fun j => if es.length - 1 - j < k then nth es ((es.length - 1 - j : Nat) : Int) else zent
theorem outAt_len (es : List api_Entry) (x k : Nat) : (outAt es x k).length = es.length - x := by simp [outAt]
theorem outAt_low (es : List api_Entry) {x k : Nat} (h : k ≤ x) : outAt es x k = List.replicate (es.length - x) zent := by
  refine List.ext_getElem (by simp [outAt]) fun j h1 h2 => ?_
  rw [outAt_len] at h1
  simp only [outAt, List.getElem_map, List.getElem_range, List.getElem_replicate]
  rw [if_neg (by omega)]
theorem outAt_set (es : List api_Entry) {x k : Nat} (h : x ≤ k) (hk : k < es.length) : setL (outAt es x k) ((es.length : Int) - 1 - (k : Int)) (nth es (k : Int)) = outAt es x (k + 1) := by
  unfold setL
  refine List.ext_getElem (by simp [outAt]) fun j h1 h2 => ?_
  rw [outAt_len] at h2
  rw [List.getElem_set]
  simp only [outAt, List.getElem_map, List.getElem_range]
  by_cases hj : ((es.length : Int) - 1 - (k : Int)).toNat = j
  · rw [if_pos hj, if_pos (by omega), show es.length - 1 - j = k by omega]
  · rw [if_neg hj]
    by_cases h3 : es.length - 1 - j < k
    · rw [if_pos h3, if_pos (by omega)]
    · rw [if_neg h3, if_neg (by omega)]
theorem outAt_all (es : List api_Entry) {x : Nat} (hx : x ≤ es.length) : outAt es x es.length = (es.drop x).reverse := by
  refine List.ext_getElem (by simp [outAt]) fun j h1 h2 => ?_
  rw [outAt_len] at h1
  simp only [outAt, List.getElem_map, List.getElem_range, List.getElem_reverse, List.getElem_drop, List.length_drop]
  rw [if_pos (by omega), nth_nat (by omega)]
  congr 1
  omega
/-- whether the log is stuck, in the making -/
def qAt (a : log_Log) (es : List api_Entry) (x : Nat) : Nat → Bool
  | 0 => a.stuck
  | k + 1 => if x ≤ k then (qAt a es x k && decide ((nth es (k : Int)).Fault = 0)) else qAt a es x k
theorem qAt_low (a : log_Log) (es : List api_Entry) (x : Nat) : ∀ k, k ≤ x → qAt a es x k = a.stuck
  | 0, _ => rfl
  | k + 1, h => by rw [qAt, if_neg (by omega)]; exact qAt_low a es x k (by omega)
theorem back_round {a : log_Log} {es : List api_Entry} (h : Lg a es) (hl : es.length ≤ 20000) {x k : Nat} (hk : k < es.length) :
    log_Log_Back_round0.f ⟨a.w, a.made, a.state, a.every, a.l, qAt a es x k⟩ (x : Int) (outAt es x k) (k : Int) (nth es (k : Int)).Before = some (qAt a es x (k + 1), outAt es x (k + 1)) := by
  have hn := h.len
  have ho := outAt_len es x k
  unfold log_Log_Back_round0.f
  by_cases hx : x ≤ k
  · rw [if_pos (by omega), if_pos (by show 0 ≤ (k : Int) ∧ (k : Int) < (a.l.length : Int); omega)]
    show Option.bind (log_done_entry.f (nth a.l (k : Int)) _) _ = _
    rw [h.entry hk]
    simp only [Option.bind_some]
    rw [w64 (x := (a.l.length : Int) - 1) (by omega) (by omega), w64 (x := (a.l.length : Int) - 1 - (k : Int)) (by omega) (by omega), if_pos (by omega), show (a.l.length : Int) - 1 - (k : Int) = (es.length : Int) - 1 - (k : Int) by omega, outAt_set es hx hk, h.fl k hk, qAt, if_pos hx]
    cases qAt a es x k <;> simp
  · rw [if_neg (by omega), qAt, if_neg hx, outAt_low es (by omega), outAt_low es (by omega)]
/-- from where the states are told anew -/
def k0S (a : log_Log) : Nat → Nat
  | 0 => 0
  | x + 1 => if (nth a.l ((x + 1 : Nat) : Int)).ahead.has = true then x + 1 else k0S a x
theorem k0S_le (a : log_Log) : ∀ x, k0S a x ≤ x
  | 0 => Nat.le_refl 0
  | x + 1 => by
    unfold k0S
    split
    · exact Nat.le_refl _
    · exact Nat.le_succ_of_le (k0S_le a x)
theorem k0S_has {a : log_Log} {es : List api_Entry} (h : Lg a es) (hp : 0 < es.length) : ∀ x, (nth a.l (k0S a x : Int)).ahead.has = true
  | 0 => h.first hp
  | x + 1 => by
    unfold k0S
    split
    · rename_i h1; exact h1
    · exact k0S_has h hp x
theorem back_fwd {a : log_Log} {es : List api_Entry} (h : Lg a es) (hl : es.length ≤ 20000) {x k0 : Nat} (hx : x < es.length) (h0 : k0 ≤ x) (hh : (nth a.l (k0 : Int)).ahead.has = true) :
    log_Log_states_1v2.l21 a (x : Int) (k0 : Int) (a.stuck, outAt es x 0, zst, (k0 : Int)) = some (qAt a es x es.length, outAt es x es.length, (k0 : Int)) := by
  have hn := h.len
  unfold log_Log_states_1v2.l21
  have e0 : (a.stuck, outAt es x 0, zst, (k0 : Int)) = (fun i : Nat => (qAt a es x (k0 + i), outAt es x (k0 + i), stAt a es k0 (k0 + i), ((k0 + i : Nat) : Int))) 0 := by
    simp only [Nat.add_zero, qAt_low a es x k0 h0, outAt_low es h0, outAt_low es (Nat.zero_le x), stAt, if_true]
  rw [e0]
  refine loopR_steps (fun i : Nat => (qAt a es x (k0 + i), outAt es x (k0 + i), stAt a es k0 (k0 + i), ((k0 + i : Nat) : Int))) (es.length - k0) (fun i hi => ?_) ?_
  · generalize hk : k0 + i = k
    have hk' : k < es.length := by omega
    have hg := h.given hk' (by omega) hh
    have hj : ∀ s, s = (nth es (k : Int)).Before → log_Log_states_1v2.j23 a (x : Int) (qAt a es x k) (outAt es x k) (k : Int) s = some (.inl (qAt a es x (k + 1), outAt es x (k + 1), stAt a es k0 (k + 1), ((k + 1 : Nat) : Int))) := fun s e => by
      subst e
      unfold log_Log_states_1v2.j23
      rw [back_round h hl hk']
      simp only [Option.bind_some]
      rw [if_pos (by omega)]
      show Option.bind (vm_Run.f a.w _ (nth a.l (k : Int)).event) _ = _
      rw [h.run hk']
      simp only [Option.bind_some]
      rw [w64 (x := (k : Int) + 1) (by omega) (by omega), stAt_succ a es (show k0 ≤ k by omega)]
      rfl
    rw [show k0 + (i + 1) = k + 1 by omega]
    simp only [log_Log_states_1v2.l21b]
    rw [if_pos (by omega), if_pos (by omega)]
    by_cases hb : (nth a.l (k : Int)).ahead.has = true
    · rw [if_pos hb]; rw [if_pos hb] at hg; exact hj _ hg
    · rw [if_neg hb]; rw [if_neg hb] at hg; exact hj _ hg
  · rw [show k0 + (es.length - k0) = es.length by omega]
    simp only [log_Log_states_1v2.l21b]
    rw [if_neg (by omega)]
theorem back_it {a : log_Log} {es : List api_Entry} (h : Lg a es) (hl : es.length ≤ 20000) {x : Nat} (hx : x < es.length) :
    log_Log_states_1v2.f a (x : Int) (outAt es x 0) (x : Int) = some (qAt a es x es.length, outAt es x es.length, (k0S a x : Int)) := by
  have hn := h.len
  have hj : ∀ y : Nat, y ≤ x → (nth a.l (y : Int)).ahead.has = true → log_Log_states_1v2.j14 a (x : Int) (outAt es x 0) (y : Int) = some (qAt a es x es.length, outAt es x es.length, (y : Int)) := fun y hy hh => by
    unfold log_Log_states_1v2.j14
    exact back_fwd h hl hx hy hh
  unfold log_Log_states_1v2.f log_Log_states_1v2.l24
  have go : ∀ y : Nat, y ≤ x → loopR (log_Log_states_1v2.l24b a (x : Int) (outAt es x 0)) (y : Int) = some (qAt a es x es.length, outAt es x es.length, (k0S a y : Int)) := fun y => by
    induction y with
    | zero => exact fun _ => loopR_steps (fun _ => ((0 : Nat) : Int)) 0 (fun k hk => by omega) (by
        simp only [log_Log_states_1v2.l24b]
        rw [if_neg (by omega), hj 0 (Nat.zero_le _) (h.first (by omega))]; rfl)
    | succ y ih =>
      intro hy
      by_cases hb : (nth a.l ((y + 1 : Nat) : Int)).ahead.has = true
      · exact loopR_steps (fun _ => ((y + 1 : Nat) : Int)) 0 (fun k hk => by omega) (by
          simp only [log_Log_states_1v2.l24b]
          rw [if_pos (by omega), if_pos (by omega), if_pos hb, hj (y + 1) hy hb, k0S, if_pos hb]; rfl)
      · have e : log_Log_states_1v2.l24b a (x : Int) (outAt es x 0) ((y + 1 : Nat) : Int) = some (.inl (y : Int)) := by
          simp only [log_Log_states_1v2.l24b]
          rw [if_pos (by omega), if_pos (by omega), if_neg hb, w64 (x := ((y + 1 : Nat) : Int) - 1) (by omega) (by omega), show ((y + 1 : Nat) : Int) - 1 = (y : Int) by omega]
        rw [loopR_eq, e]
        show loopR _ (y : Int) = _
        rw [ih (by omega), k0S, if_neg hb]
  exact go x (Nat.le_refl x)
noncomputable def backL (a : log_Log) (es : List api_Entry) (x : Nat) : log_Log := ⟨a.w, a.made, (nth es (x : Int)).Before, a.every, subL a.l 0 (x : Int), qAt a es x es.length⟩
theorem back_j6 {a : log_Log} {es : List api_Entry} (h : Lg a es) (hl : es.length ≤ 20000) {x : Nat} (hx : x ≤ es.length) :
    log_Log_Back.j6 a (x : Int) = some (if x = es.length then ([], a) else ((es.drop x).reverse, backL a es x)) := by
  have hn := h.len
  unfold log_Log_Back.j6
  by_cases he : x = es.length
  · rw [if_pos (by omega), if_pos he]
  · have hx' : x < es.length := by omega
    rw [if_neg (by omega), if_neg he, w64 (x := (a.l.length : Int) - (x : Int)) (by omega) (by omega), if_pos (by omega), show ((a.l.length : Int) - (x : Int)).toNat = es.length - x by omega]
    rw [show List.replicate (es.length - x) (⟨(⟨(⟨0, 0, 0⟩ : api_Key), 0, 0, 0, false⟩ : api_Message), (⟨(⟨0, 0, 0, 0, 0, 0, 0, 0⟩ : Arr8xInti64), 0, 0⟩ : api_State), 0, []⟩ : api_Entry) = outAt es x 0 from (outAt_low es (Nat.zero_le x)).symm]
    unfold log_Log_Back.j7 log_Log_states.f
    simp only [Option.bind_some]
    rw [back_it h hl hx', outAt_all es hx]
    have hr : ((es.drop x).reverse).length = es.length - x := by simp
    simp only [Option.bind_some, hr]
    rw [w64 (x := ((es.length - x : Nat) : Int) - 1) (by omega) (by omega), if_pos (by omega), if_pos (by omega)]
    have : nth (es.drop x).reverse (((es.length - x : Nat) : Int) - 1) = nth es (x : Int) := by
      rw [show ((es.length - x : Nat) : Int) - 1 = ((es.length - x - 1 : Nat) : Int) by omega, nth_nat (by rw [hr]; omega), nth_nat hx']
      simp only [List.getElem_reverse, List.getElem_drop, List.length_drop]
      congr 1
      omega
    rw [this]
    rfl
theorem back_eq {a : log_Log} {es : List api_Entry} (h : Lg a es) (hm : a.made = true) (hl : es.length ≤ 20000) (m : api_Message) :
    log_Log_Back.f a m = some (if fB es m es.length = es.length then ([], a) else ((es.drop (fB es m es.length)).reverse, backL a es (fB es m es.length))) := by
  have hn := h.len
  unfold log_Log_Back.f log_Log_none.f
  simp only [hm, Bool.not_true, Option.bind_some, Bool.false_eq_true, if_false]
  unfold log_Log_Back.l8
  have go : ∀ y : Nat, y ≤ es.length → loopR (log_Log_Back.l8b a m) (y : Int) = log_Log_Back.j6 a (fB es m y : Int) := fun y => by
    induction y with
    | zero =>
      intro _
      rw [loopR_eq]
      simp only [log_Log_Back.l8b]
      rw [if_neg (by omega)]
      show Option.bind (Option.map Sum.inr (log_Log_Back.j6 a ((0 : Nat) : Int))) _ = _
      show _ = log_Log_Back.j6 a ((0 : Nat) : Int)
      cases log_Log_Back.j6 a ((0 : Nat) : Int) <;> rfl
    | succ y ih =>
      intro hy
      rw [loopR_eq]
      simp only [log_Log_Back.l8b]
      rw [if_pos (by omega), w64 (x := ((y + 1 : Nat) : Int) - 1) (by omega) (by omega), show ((y + 1 : Nat) : Int) - 1 = (y : Int) by omega, if_pos (by omega)]
      show Option.bind (Option.bind (event_Before.f (nth a.l (y : Int)).event m) _) _ = _
      rw [h.ev y (by omega), before_eq]
      simp only [Option.bind_some]
      unfold fB
      by_cases hb : bef (nth es (y : Int)).Event m = true
      · rw [if_pos hb, if_pos hb]
        cases log_Log_Back.j6 a ((y + 1 : Nat) : Int) <;> rfl
      · rw [if_neg hb, if_neg hb]
        show loopR _ (y : Int) = _
        exact ih (by omega)
  rw [show (a.l.length : Int) = (es.length : Int) by omega, go _ (Nat.le_refl _)]
  exact back_j6 h hl (fB_le es m es.length)
theorem Lg.back {a : log_Log} {es : List api_Entry} (h : Lg a es) {x : Nat} (hx : x < es.length) : Lg (backL a es x) (es.take x) := by
  have hn := h.len
  have hE : ∀ k : Nat, k < x → nth (es.take x) (k : Int) = nth es (k : Int) := fun k hk => by
    rw [nth_nat (by rw [List.length_take]; omega), nth_nat (by omega), List.getElem_take]
  have hl : (backL a es x).l.length = x := by
    show (subL a.l 0 (x : Int)).length = x
    rw [subL_len (by omega) (by omega) (by omega)]; omega
  have hL : ∀ k : Nat, k < x → nth (backL a es x).l (k : Int) = nth a.l (k : Int) := fun k hk => by
    rw [nth_nat (by rw [hl]; exact hk), nth_nat (by omega)]
    simp [backL, subL]
  have hlt : ∀ k, k < (es.take x).length → k < x := fun k hk => by rw [List.length_take] at hk; omega
  have hle : ∀ k, k < x → k < es.length := fun k hk => by omega
  refine ⟨by rw [hl, List.length_take]; omega, fun k hk => ?_, fun k hk => ?_, fun k hk => ?_, fun k hk => ?_, fun hp => ?_, fun k hk => ?_, fun k hk => ?_, fun k hk => ?_, fun k hk => ?_, fun k hk => ?_⟩
  · rw [hL k (hlt k hk), hE k (hlt k hk)]; exact h.ev k (hle _ (hlt k hk))
  · rw [hL k (hlt k hk), hE k (hlt k hk)]; exact h.fl k (hle _ (hlt k hk))
  · rw [hL k (hlt k hk), hE k (hlt k hk)]; exact h.sn k (hle _ (hlt k hk))
  · rw [hL k (hlt k hk), hE k (hlt k hk)]; exact h.ah k (hle _ (hlt k hk))
  · have := hL 0 (hlt 0 hp)
    rw [show ((0 : Nat) : Int) = 0 from rfl] at this
    rw [this]; exact h.first (by omega)
  · have h1 := hlt _ hk
    rw [hE k (by omega), hE (k + 1) h1]; exact h.step k (by omega)
  · rw [List.length_take] at hk
    rw [hE k (by omega)]
    show (vmRun a.w _ _).1 = (nth es (x : Int)).Before
    rw [h.step k (by omega), show k + 1 = x by omega]
  · rw [hE k (hlt k hk)]; exact h.regs k (hle _ (hlt k hk))
  · rw [hE k (hlt k hk)]; exact h.val k (hle _ (hlt k hk))
  · rw [hE k (hlt k hk)]; exact h.few k (hle _ (hlt k hk))
end Go.Proofs.Gx
