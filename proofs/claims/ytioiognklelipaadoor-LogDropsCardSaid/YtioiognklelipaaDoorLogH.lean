/-
  What Drop leaves, without the states that are kept; how many are kept; the events of the laws, done one by one.
-/
import Derived.Test.YtioiognklelipaaDoorLogG
import Derived.Test.YtioiognklelipaaDoorW9
import Derived.Test.YtioiognklelipaaDoorW9
namespace Go.Proofs.Gx
open Go.Sl
set_option linter.unusedVariables false
set_option linter.unusedSimpArgs false
noncomputable def dropA (a : log_Log) (A : AL) (t : Int) : log_Log := ⟨a.w, a.made, a.state, a.every, dropL a A.1 t, a.stuck⟩
theorem Has2.drop {a : log_Log} {A : AL} {b : Int} (h : Has2 a A b) (t : Int) : Has2 (dropA a A t) (A.1.drop (nT A.1 t), A.2.1, A.2.2) b := by
  have hn := h.lg.len
  have hd := h.lg.dropped t
  have hf := h.ok.few
  have hl := hd.len
  have hE : ∀ k : Nat, nT A.1 t + k < A.1.length → nth (A.1.drop (nT A.1 t)) (k : Int) = nth A.1 ((nT A.1 t + k : Nat) : Int) := fun k hk => by
    rw [nth_nat (by rw [List.length_drop]; omega), nth_nat hk, List.getElem_drop]
  refine ⟨hd, ⟨h.ok.made, h.ok.chk, h.ok.st, h.ok.low, ?_⟩, h.st, h.sk, fun k hk => ?_, fun hs hp => ?_⟩
  · show (dropL a A.1 t).length ≤ _
    rw [List.length_drop] at hl
    show (dropL a A.1 t).length ≤ _
    have : A.1.length - nT A.1 t = (dropL a A.1 t).length := hl
    omega
  · simp only [List.length_drop] at hk
    show Sok (nth (A.1.drop _) _).Before b
    rw [hE k (by omega)]; exact h.bd _ (by omega)
  · simp only [List.length_drop] at hp
    have := h.ends hs (by omega)
    show (nth (A.1.drop (nT A.1 t)) (((A.1.drop (nT A.1 t)).length : Int) - 1)).Fault ≠ 0
    rw [List.length_drop, show ((A.1.length - nT A.1 t : Nat) : Int) - 1 = ((A.1.length - nT A.1 t - 1 : Nat) : Int) by omega, hE _ (by omega), show ((nT A.1 t + (A.1.length - nT A.1 t - 1) : Nat) : Int) = (A.1.length : Int) - 1 by omega]
    exact this
theorem drop_abs {a : log_Log} {A : AL} {b : Int} (h : Has2 a A b) (t : Int) : log_Log_Drop.f a t = some (A.1.take (nT A.1 t), dropL a A.1 t) := by
  have hn := h.lg.len
  have hf := h.ok.few
  exact drop_eq h.lg h.ok.made (by omega) t
theorem all_abs {a : log_Log} {A : AL} {b : Int} (h : Has2 a A b) : log_Log_All.f a = some A.1 := by
  have hn := h.lg.len
  have hf := h.ok.few
  exact all_eq h.lg h.ok.made (by omega)
theorem state_abs {a : log_Log} {A : AL} {b : Int} (h : Has2 a A b) : log_Log_State.f a = some A.2.1 := by
  unfold log_Log_State.f log_Log_none.f
  simp only [h.ok.made, Bool.not_true, Option.bind_some, Bool.false_eq_true, if_false, h.st]
def kept (a : log_Log) : Nat → Int
  | 0 => 1
  | k + 1 => if 0 < k ∧ (nth a.l (k : Int)).ahead.has = true then kept a k + 1 else kept a k
theorem kept_in (a : log_Log) : ∀ k : Nat, 1 ≤ kept a k ∧ kept a k ≤ (k : Int) + 1
  | 0 => ⟨Int.le_refl _, Int.le_refl _⟩
  | k + 1 => by
    have := kept_in a k
    rw [kept]
    split <;> omega
theorem kept_eq {a : log_Log} (hm : a.made = true) (hl : a.l.length ≤ 1000000) : log_Log_Kept.f a = some (kept a a.l.length) := by
  unfold log_Log_Kept.f log_Log_none.f
  simp only [hm, Bool.not_true, Option.bind_some, Bool.false_eq_true, if_false]
  unfold log_Log_Kept.l2
  refine (show loopR _ ((fun k : Nat => (kept a k, (k : Int))) 0) = _ from loopR_steps (fun k : Nat => (kept a k, (k : Int))) a.l.length (fun k hk => ?_) ?_)
  · have := kept_in a k
    simp only [log_Log_Kept.l2b]
    rw [if_pos (by omega), if_pos (by omega), w64 (x := (k : Int) + 1) (by omega) (by omega), w64 (x := kept a k + 1) (by omega) (by omega), kept]
    by_cases h0 : 0 < k
    · rw [if_pos (by omega)]
      by_cases hh : (nth a.l (k : Int)).ahead.has = true
      · rw [if_pos hh, if_pos ⟨h0, hh⟩]; rfl
      · rw [if_neg hh, if_neg (fun h => hh h.2)]; rfl
    · rw [if_neg (by omega), if_neg (fun h => h0 h.1)]; rfl
  · simp only [log_Log_Kept.l2b]
    rw [if_neg (by omega)]
theorem kept_abs {a : log_Log} {A : AL} {b : Int} (h : Has2 a A b) : ∃ k : Int, log_Log_Kept.f a = some k ∧ 1 ≤ k ∧ k ≤ (A.1.length : Int) + 1 := by
  have hn := h.lg.len
  have hf := h.ok.few
  have := kept_in a a.l.length
  exact ⟨_, kept_eq h.ok.made (by omega), this.1, by omega⟩
/-! ### the events -/
def evT (l : List Int) : Nat → Int
  | 0 => 0
  | k + 1 => evT l k + IntKind.i64.wrap (nth l (k : Int))
def evM (l : List Int) (k : Nat) : api_Message := ⟨⟨evT l (k + 1), -1, (k : Int)⟩, 0, (k : Int), (k : Int), false⟩
def evs (l : List Int) : List api_Message := (List.range (min l.length 60)).map (evM l)
theorem evs_len (l : List Int) : (evs l).length = min l.length 60 := by simp [evs]
theorem evs_nth (l : List Int) {k : Nat} (h : k < (evs l).length) : nth (evs l) (k : Int) = evM l k := by
  rw [nth_nat h]; simp [evs]
theorem u8_of {l : List Int} (h : (okl (fun n => (Lit.int .u8 n).wf = true) 1) l) {k : Nat} (hk : k < l.length) : 0 ≤ nth l (k : Int) ∧ nth l (k : Int) ≤ 255 := wf8 (h.1 _ (nth_mem (xs := l) (i := (k : Int)) (by omega) (by omega)))
theorem evT_in {l : List Int} (h : (okl (fun n => (Lit.int .u8 n).wf = true) 1) l) : ∀ k : Nat, k ≤ l.length → k ≤ 60 → 0 ≤ evT l k ∧ evT l k ≤ 255 * (k : Int)
  | 0, _, _ => ⟨Int.le_refl _, Int.le_refl _⟩
  | k + 1, h1, h2 => by
    have := evT_in h k (by omega) (by omega)
    have h3 := u8_of h (k := k) (by omega)
    rw [evT, w64 (x := nth l (k : Int)) (by omega) (by omega)]
    omega
theorem events_eq {l : List Int} (h : (okl (fun n => (Lit.int .u8 n).wf = true) 1) l) : isochronlaw10vevents.f l = some (evs l) := by
  unfold isochronlaw10vevents.f isochronlaw10vevents.l2 evs
  refine (show loopR _ ((fun k : Nat => ((List.range k).map (evM l), evT l k, (k : Int))) 0) = _ from loopR_steps (fun k : Nat => ((List.range k).map (evM l), evT l k, (k : Int))) (min l.length 60) (fun k hk => ?_) ?_)
  · have h1 := evT_in h k (by omega) (by omega)
    have h2 := evT_in h (k + 1) (by omega) (by omega)
    have h3 := u8_of h (k := k) (by omega)
    simp only [isochronlaw10vevents.l2b]
    rw [if_pos (by omega), if_pos (by omega), if_pos (by omega), if_pos (by simp only [List.length_map, List.length_range]; omega), w64 (x := (k : Int) + 1) (by omega) (by omega), List.range_succ, List.map_append]
    have e : IntKind.i64.wrap (evT l k + IntKind.i64.wrap (nth l (k : Int))) = evT l (k + 1) := by
      rw [evT] at h2
      rw [evT, w64 (by omega) (by omega)]
    rw [e]
    rfl
  · simp only [isochronlaw10vevents.l2b]
    by_cases hl : l.length < 60
    · rw [if_neg (by omega)]
    · by_cases h60 : l.length = 60
      · rw [if_neg (by omega)]
      · rw [if_pos (by omega), if_neg (by omega)]
theorem evM_ok {l : List Int} (h : (okl (fun n => (Lit.int .u8 n).wf = true) 1) l) {k : Nat} (hk : k < (evs l).length) : evB (evM l k) = true ∧ (evM l k).Anti = false ∧ -9223372036854775808 ≤ (evM l k).Value ∧ (evM l k).Value ≤ 9223372036854775807 := by
  rw [evs_len] at hk
  have h2 := evT_in h (k + 1) (by omega) (by omega)
  refine ⟨?_, rfl, ?_, ?_⟩
  · simp only [evB, evM, timeB, laneW, Bool.and_eq_true, decide_eq_true_eq]
    refine ⟨⟨⟨?_, ?_⟩, ?_⟩, ?_⟩ <;> first | omega | exact decide_eq_true (by omega)
  · show _ ≤ (k : Int); omega
  · show (k : Int) ≤ _; omega
theorem evM_bef {l : List Int} (h : (okl (fun n => (Lit.int .u8 n).wf = true) 1) l) {j k : Nat} (hjk : j < k) (hk : k < (evs l).length) : bef (evM l j) (evM l k) = true := by
  rw [evs_len] at hk
  have mono : ∀ i : Nat, i ≤ k → ∀ j : Nat, j ≤ i → evT l (j + 1) ≤ evT l (i + 1) := fun i => by
    induction i with
    | zero => exact fun _ j hj => by rw [show j = 0 by omega]; exact Int.le_refl _
    | succ i ih =>
      intro hi j hj
      by_cases e : j = i + 1
      · rw [e]; exact Int.le_refl _
      · have := ih (by omega) j (by omega)
        have h3 := u8_of h (k := i + 1) (by omega)
        rw [show evT l (i + 1 + 1) = evT l (i + 1) + IntKind.i64.wrap (nth l ((i + 1 : Nat) : Int)) from rfl, w64 (x := nth l ((i + 1 : Nat) : Int)) (by omega) (by omega)]
        omega
  have := mono k (Nat.le_refl _) j (by omega)
  simp only [bef, evM, decide_eq_true_eq, cmpK, sgn_self]
  left
  by_cases e : evT l (j + 1) = evT l (k + 1)
  · rw [if_neg (by rw [e, sgn_self]; simp), if_neg (by simp)]
    unfold sgn; rw [if_pos (by omega)]; omega
  · have e2 : sgn (evT l (j + 1)) (evT l (k + 1)) = -1 := by unfold sgn; rw [if_pos (by omega)]
    rw [e2, if_pos (by decide)]; decide
theorem evM_not {l : List Int} (h : (okl (fun n => (Lit.int .u8 n).wf = true) 1) l) {j k : Nat} (hjk : j ≤ k) (hk : k < (evs l).length) : bef (evM l k) (evM l j) = false := by
  by_cases e : j = k
  · subst e
    simp [bef, cmpK_self, evM]
  · have h1 := evM_bef h (show j < k by omega) hk
    simp only [bef, decide_eq_true_eq] at h1
    simp only [bef, decide_eq_false_iff_not]
    have anti : ∀ x y : api_Key, cmpK y x = - cmpK x y := fun x y => by
      have s : ∀ a b : Int, sgn b a = - sgn a b := fun a b => by
        unfold sgn
        by_cases h1 : a < b
        · rw [if_neg (by omega), if_pos h1, if_pos h1]; rfl
        · by_cases h2 : b < a
          · rw [if_pos h2, if_neg h1, if_pos h2]
          · rw [if_neg h2, if_neg h1, if_neg h1, if_neg h2]; decide
      unfold cmpK
      rw [s x.Time y.Time, s x.From y.From, s x.Seq y.Seq]
      by_cases e1 : sgn x.Time y.Time = 0
      · have a1 : ¬ (-sgn x.Time y.Time ≠ 0) := by omega
        have a2 : ¬ (sgn x.Time y.Time ≠ 0) := by omega
        rw [if_neg a1, if_neg a2]
        by_cases e2 : sgn x.From y.From = 0
        · have a3 : ¬ (-sgn x.From y.From ≠ 0) := by omega
          have a4 : ¬ (sgn x.From y.From ≠ 0) := by omega
          rw [if_neg a3, if_neg a4]
        · have a3 : -sgn x.From y.From ≠ 0 := by omega
          rw [if_pos a3, if_pos e2]
      · have a3 : -sgn x.Time y.Time ≠ 0 := by omega
        rw [if_pos a3, if_pos e1]
    rw [anti]
    omega
/-! ### events done one by one -/
noncomputable def aRun (w : api_World) (ev : Nat → api_Message) (u : Nat → Int) (A : AL) : Nat → AL
  | 0 => A
  | k + 1 => aDo w (aRun w ev u A k) (ev k) (u k)
noncomputable def lRun (a : log_Log) (A : AL) (ev : Nat → api_Message) (u : Nat → Int) : Nat → log_Log
  | 0 => a
  | k + 1 => nextL (lRun a A ev u k) (aRun a.w ev u A k) (ev k) (u k)
theorem aDo_len (w : api_World) (A : AL) (m : api_Message) (u : Int) : (aDo w A m u).1.length ≤ A.1.length + 1 := by
  unfold aDo; split <;> simp
theorem aRun_len (w : api_World) (ev : Nat → api_Message) (u : Nat → Int) (A : AL) : ∀ k, (aRun w ev u A k).1.length ≤ A.1.length + k
  | 0 => Nat.le_refl _
  | k + 1 => by
    have := aRun_len w ev u A k
    have := aDo_len w (aRun w ev u A k) (ev k) (u k)
    rw [aRun]; omega
def Vin (m : api_Message) : Prop := -9223372036854775808 ≤ m.Value ∧ m.Value ≤ 9223372036854775807
theorem lRun_has {a : log_Log} {A : AL} {b : Int} (h : Has2 a A b) {ev : Nat → api_Message} {N : Nat} (hv : ∀ k, k < N → Vin (ev k)) (u : Nat → Int) (hA : A.1.length ≤ 200) (hN : N ≤ 200) (hb : b + 4096 * 200 ≤ 1125899906842624) : ∀ k : Nat, k ≤ N → Has2 (lRun a A ev u k) (aRun a.w ev u A k) (b + 4096 * (k : Int)) ∧ (lRun a A ev u k).w = a.w ∧ (lRun a A ev u k).every = a.every ∧ (lRun a A ev u k).made = a.made
  | 0, _ => ⟨by rw [show b + 4096 * ((0 : Nat) : Int) = b by omega]; exact h, rfl, rfl, rfl⟩
  | k + 1, hk => by
    obtain ⟨h1, h2, h3, h4⟩ := lRun_has h hv u hA hN hb k (by omega)
    have hL := aRun_len a.w ev u A k
    obtain ⟨g1, g2, g3, g4⟩ := h1.did (m := ev k) (hv k (by omega)) (u k) (by omega) (by omega)
    rw [h2] at g1
    refine ⟨?_, g2.trans h2, g3.trans h3, g4.trans h4⟩
    rw [lRun, aRun, show b + 4096 * ((k + 1 : Nat) : Int) = b + 4096 * (k : Int) + 4096 by omega]
    exact g1
theorem log_eta (a c : log_Log) (h1 : c.w = a.w) (h2 : c.made = a.made) (h3 : c.every = a.every) : (⟨a.w, a.made, c.state, a.every, c.l, c.stuck⟩ : log_Log) = c := by
  rw [← h1, ← h2, ← h3]
theorem evs_nth' {l : List Int} {k : Nat} (hk : k < (evs l).length) : (⟨(nth (evs l) (k : Int)).Key, (nth (evs l) (k : Int)).To, (nth (evs l) (k : Int)).Value, (nth (evs l) (k : Int)).Uid, (nth (evs l) (k : Int)).Anti⟩ : api_Message) = evM l k := by
  rw [evs_nth l hk]
/-- one event more -/
theorem run_do {a : log_Log} {A : AL} {b : Int} (h : Has2 a A b) {ev : Nat → api_Message} {N : Nat} (hv : ∀ k, k < N → Vin (ev k)) (u : Nat → Int) (hA : A.1.length ≤ 200) (hN : N ≤ 200) (hb : b + 4096 * 200 ≤ 1125899906842624) {k : Nat} (hk : k < N) :
    log_Log_Do.f (lRun a A ev u k) (ev k) (u k) [] = some (if aMay (aRun a.w ev u A k) (ev k) (u k) = 0 then aEnt a.w (aRun a.w ev u A k) (ev k) (u k) else zent, aMay (aRun a.w ev u A k) (ev k) (u k), lRun a A ev u (k + 1)) := by
  obtain ⟨h1, h2, h3, h4⟩ := lRun_has h hv u hA hN hb k (by omega)
  rw [do_abs h1 (hv k hk), h2]
  rfl
theorem evs_vin {l : List Int} (h : (okl (fun n => (Lit.int .u8 n).wf = true) 1) l) : ∀ k, k < (evs l).length → Vin (evM l k) := fun k hk => (evM_ok h hk).2.2
theorem new_has {w : api_World} (h : chkW w = 0) (e : Int) : Has2 ⟨w, true, zst, e, [], false⟩ ([], zst, false) 0 :=
  ⟨Lg.nil w e, new_ok h e, rfl, rfl, fun k hk => by simp at hk, fun hs _ => by cases hs⟩
theorem every_in {x : Int} (h : (Lit.int .u8 x).wf = true) : 1 ≤ IntKind.i64.wrap (1 + IntKind.i64.wrap (Int.tmod x 20)) ∧ IntKind.i64.wrap (1 + IntKind.i64.wrap (Int.tmod x 20)) ≤ 1024 := by
  have := wf8 h
  have h1 := Int.tmod_nonneg 20 this.1
  have h2 := Int.tmod_lt_of_pos x (show (0 : Int) < 20 by decide)
  rw [w64 (x := Int.tmod x 20) (by omega) (by omega), w64 (by omega) (by omega)]
  omega
theorem ents_self {a : log_Log} {A : AL} {b : Int} (h : Has2 a A b) : isochronlaw10ventries.f A.1 A.1 = some true := by
  have hn := h.lg.len
  have hf := h.ok.few
  exact entries_self _ (by omega) (fun k hk => by have := h.lg.few k hk; omega)
end Go.Proofs.Gx
