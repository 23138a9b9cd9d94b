/-
  The events of the laws, done one by one: what the entries are, and when the log is stuck; Back.
-/
import Derived.Test.YtioiognklelipaaGreatDoorLogI
namespace Go.Proofs.Gx
open Go.Sl
set_option linter.unusedVariables false
set_option linter.unusedSimpArgs false
/-! ### Back, without the states that are kept -/
noncomputable def aBack (A : AL) (m : api_Message) : AL := if fB A.1 m A.1.length = A.1.length then A else (A.1.take (fB A.1 m A.1.length), (nth A.1 (fB A.1 m A.1.length : Int)).Before, false)
def gB (A : AL) (m : api_Message) : List api_Entry := if fB A.1 m A.1.length = A.1.length then [] else (A.1.drop (fB A.1 m A.1.length)).reverse
noncomputable def backC (a : log_Log) (A : AL) (m : api_Message) : log_Log := if fB A.1 m A.1.length = A.1.length then a else backL a A.1 (fB A.1 m A.1.length)
theorem back_abs {a : log_Log} {A : AL} {b : Int} (h : Has2 a A b) (m : api_Message) : log_Log_Back.f a m = some (gB A m, backC a A m) := by
  have hn := h.lg.len
  have hf := h.ok.few
  rw [back_eq h.lg h.ok.made (by omega) m]
  unfold gB backC
  split <;> rfl
theorem Has2.backC {a : log_Log} {A : AL} {b : Int} (h : Has2 a A b) (m : api_Message) : Has2 (backC a A m) (aBack A m) b ∧ (backC a A m).w = a.w ∧ (backC a A m).made = a.made ∧ (backC a A m).every = a.every := by
  have := fB_le A.1 m A.1.length
  unfold Gx.backC aBack
  split
  · exact ⟨h, rfl, rfl, rfl⟩
  · exact ⟨h.back (by omega), rfl, rfl, rfl⟩
theorem gB_len {a : log_Log} {A : AL} {b : Int} (h : Has2 a A b) (m : api_Message) : (gB A m).length ≤ A.1.length ∧ ∀ k : Nat, k < (gB A m).length → (nth (gB A m) (k : Int)).Sent.length ≤ 8 := by
  unfold gB
  split
  · exact ⟨by simp, fun k hk => by simp at hk⟩
  · refine ⟨by simp, fun k hk => ?_⟩
    have hl : ((A.1.drop (fB A.1 m A.1.length)).reverse).length = A.1.length - fB A.1 m A.1.length := by simp
    have e : nth (A.1.drop (fB A.1 m A.1.length)).reverse (k : Int) = nth A.1 ((fB A.1 m A.1.length + (A.1.length - fB A.1 m A.1.length - 1 - k) : Nat) : Int) := by
      rw [nth_nat hk, nth_nat (by omega)]
      simp only [List.getElem_reverse, List.getElem_drop, List.length_drop]
    rw [e]
    exact h.lg.few _ (by omega)
theorem gB_self {a : log_Log} {A : AL} {b : Int} (h : Has2 a A b) (m : api_Message) : isochronlaw10ventries.f (gB A m) (gB A m) = some true := by
  have hn := h.lg.len
  have hf := h.ok.few
  obtain ⟨h1, h2⟩ := gB_len h m
  exact entries_self _ (by omega) (fun k hk => by have := h2 k hk; omega)
/-! ### rising events -/
theorem aMay_fit {l : List Int} (hl : (okl (fun n => (Lit.int .u8 n).wf = true) 1) l) {A : AL} {k : Nat} (hk : k < (evs l).length) {u : Int} (hu : 0 ≤ u ∧ u ≤ 1099511627776) (hA : A.1.length = k) (hE : ∀ j : Nat, j < A.1.length → (nth A.1 (j : Int)).Event = evM l j) (hs : A.2.2 = false) : aMay A (evM l k) u = 0 := by
  obtain ⟨h1, h2, h3⟩ := evM_ok hl hk
  have hM := evs_len l
  unfold aMay
  rw [if_pos h1, if_neg (by simp [h2]), if_neg (by omega), if_neg (by omega), if_neg, if_neg (by simp [hs]), if_neg (by omega)]
  rintro ⟨g1, g2⟩
  rw [show (A.1.length : Int) - 1 = ((A.1.length - 1 : Nat) : Int) by omega, hE _ (by omega), evM_bef hl (by omega) hk] at g2
  cases g2
theorem aMay_stuck {A : AL} {m : api_Message} {u : Int} (hs : A.2.2 = true) : aMay A m u ≠ 0 := by
  unfold aMay
  rw [if_pos (c := A.2.2 = true) hs]
  repeat' split
  all_goals decide
theorem aDo_stuck {w : api_World} {A : AL} {m : api_Message} {u : Int} (hs : A.2.2 = true) : aDo w A m u = A := by
  unfold aDo; rw [if_neg (aMay_stuck hs)]
structure Fits (l : List Int) (A : AL) (k : Nat) : Prop where
  le : A.1.length ≤ k
  ev : ∀ j : Nat, j < A.1.length → (nth A.1 (j : Int)).Event = evM l j
  all : A.2.2 = false → A.1.length = k
theorem Fits.next {l : List Int} (hl : (okl (fun n => (Lit.int .u8 n).wf = true) 1) l) {w : api_World} {A : AL} {k : Nat} (h : Fits l A k) (hk : k < (evs l).length) {u : Int} (hu : 0 ≤ u ∧ u ≤ 1099511627776) : Fits l (aDo w A (evM l k) u) (k + 1) := by
  by_cases hs : A.2.2 = true
  · rw [aDo_stuck hs]
    exact ⟨Nat.le_succ_of_le h.le, h.ev, fun h => by rw [hs] at h; cases h⟩
  · have hs : A.2.2 = false := by simpa using hs
    have hA := h.all hs
    have h0 := aMay_fit hl hk hu hA h.ev hs
    unfold aDo
    rw [if_pos h0]
    refine ⟨by simp; omega, fun j hj => ?_, fun _ => by simp; omega⟩
    rw [List.length_append, List.length_singleton] at hj
    rcases Nat.lt_or_ge j A.1.length with h1 | h1
    · show (nth (A.1 ++ _) _).Event = _
      rw [nth_sn _ _ _ h1]; exact h.ev j h1
    · show (nth (A.1 ++ _) _).Event = _
      rw [show j = A.1.length by omega, nth_sl, hA]
      rfl
theorem run_fits {l : List Int} (hl : (okl (fun n => (Lit.int .u8 n).wf = true) 1) l) (w : api_World) {u : Nat → Int} (hu : ∀ k, k < (evs l).length → 0 ≤ u k ∧ u k ≤ 1099511627776) : ∀ k, k ≤ (evs l).length → Fits l (aRun w (evM l) u ([], zst, false) k) k
  | 0, _ => ⟨Nat.le_refl _, fun j hj => by simp [aRun] at hj, fun _ => rfl⟩
  | k + 1, hk => (run_fits hl w hu k (by omega)).next hl (by omega) (hu k (by omega))
theorem run_pre {l : List Int} (hl : (okl (fun n => (Lit.int .u8 n).wf = true) 1) l) (w : api_World) {u : Nat → Int} (hu : ∀ k, k < (evs l).length → 0 ≤ u k ∧ u k ≤ 1099511627776) : ∀ M, M ≤ (evs l).length → ∀ k, k < (aRun w (evM l) u ([], zst, false) M).1.length →
    aRun w (evM l) u ([], zst, false) k = ((aRun w (evM l) u ([], zst, false) M).1.take k, (nth (aRun w (evM l) u ([], zst, false) M).1 (k : Int)).Before, false)
  | 0, _, k, hk => by simp [aRun] at hk
  | M + 1, hM, k, hk => by
    have ih := run_pre hl w hu M (by omega)
    have hF := run_fits hl w hu M (by omega)
    generalize hA : aRun w (evM l) u ([], zst, false) M = A at ih hF
    have e : aRun w (evM l) u ([], zst, false) (M + 1) = aDo w A (evM l M) (u M) := by rw [aRun, hA]
    rw [e] at hk ⊢
    by_cases hs : A.2.2 = true
    · rw [aDo_stuck hs] at hk ⊢
      exact ih k hk
    · have hs : A.2.2 = false := by simpa using hs
      have hA' := hF.all hs
      have h0 := aMay_fit hl (show M < (evs l).length by omega) (hu M (by omega)) hA' hF.ev hs
      unfold aDo at hk ⊢
      rw [if_pos h0] at hk ⊢
      simp only [List.length_append, List.length_singleton] at hk
      show _ = ((A.1 ++ [aEnt w A (evM l M) (u M)]).take k, (nth (A.1 ++ [aEnt w A (evM l M) (u M)]) (k : Int)).Before, false)
      rcases Nat.lt_or_ge k A.1.length with h1 | h1
      · rw [ih k h1, nth_sn _ _ _ h1, List.take_append_of_le_length (by omega)]
      · have ek : k = A.1.length := by omega
        have e2 : aRun w (evM l) u ([], zst, false) k = A := by rw [ek, hA', hA]
        rw [e2, ek, nth_sl, List.take_append_of_le_length (Nat.le_refl _), List.take_length]
        show A = (A.1, A.2.1, false)
        rw [← hs]
theorem run_shift (w : api_World) (ev : Nat → api_Message) (u : Nat → Int) (A : AL) (k : Nat) : ∀ i, aRun w (fun j => ev (k + j)) (fun j => u (k + j)) (aRun w ev u A k) i = aRun w ev u A (k + i)
  | 0 => rfl
  | i + 1 => by rw [aRun, run_shift w ev u A k i]; rfl
theorem run_stuck (w : api_World) (ev : Nat → api_Message) (u : Nat → Int) {A : AL} (hs : A.2.2 = true) : ∀ i, aRun w ev u A i = A
  | 0 => rfl
  | i + 1 => by rw [aRun, run_stuck w ev u hs i, aDo_stuck hs]
/-- how many entries stay when one of the events is taken back -/
theorem fB_ev {l : List Int} (hl : (okl (fun n => (Lit.int .u8 n).wf = true) 1) l) {es : List api_Entry} (hE : ∀ j : Nat, j < es.length → (nth es (j : Int)).Event = evM l j) (hM : es.length ≤ (evs l).length) {k : Nat} (hk : k < (evs l).length) : ∀ x, x ≤ es.length → fB es (evM l k) x = min x k
  | 0, _ => by simp [fB]
  | x + 1, hx => by
    rw [fB, hE x (by omega)]
    by_cases h : x < k
    · rw [if_pos (evM_bef hl h hk)]; omega
    · rw [if_neg (by rw [evM_not hl (by omega) (show x < (evs l).length by omega)]; simp), fB_ev hl hE hM hk x (by omega)]; omega
end Go.Proofs.Gx
