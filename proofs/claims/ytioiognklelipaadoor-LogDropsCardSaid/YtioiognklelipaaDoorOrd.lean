/-
  The order of messages.
-/
import Derived.Test.YtioiognklelipaaDoorLoops
import Derived.Test.YtioiognklelipaaDoorW2
namespace Go.Proofs.Gx
open Go.Sl
set_option linter.unusedVariables false
set_option linter.unusedSimpArgs false
def sgn (a b : Int) : Int := if a < b then -1 else if b < a then 1 else 0
def cmpK (a b : api_Key) : Int := if sgn a.Time b.Time ≠ 0 then sgn a.Time b.Time else if sgn a.From b.From ≠ 0 then sgn a.From b.From else sgn a.Seq b.Seq
def bef (a b : api_Message) : Bool := decide (cmpK a.Key b.Key < 0 ∨ cmpK a.Key b.Key = 0 ∧ a.Uid < b.Uid)
theorem cmp64 (a b : Int) : cmp_Compare_int64.f a b = some (sgn a b) := by
  unfold cmp_Compare_int64.f cmp_isNaN_int64.f sgn
  simp only [decide_true, Bool.not_true, Option.bind_some, Bool.false_eq_true, if_false]
  split
  · rfl
  · split <;> rfl
theorem cmpI (a b : Int) : cmp_Compare_int.f a b = some (sgn a b) := by
  unfold cmp_Compare_int.f cmp_isNaN_int.f sgn
  simp only [decide_true, Bool.not_true, Option.bind_some, Bool.false_eq_true, if_false]
  split
  · rfl
  · split <;> rfl
theorem or_first (l : List Int) (k : Nat) (hk : k < l.length) (hl : l.length < 1000) (h0 : ∀ j, j < k → nth l (j : Int) = 0) (h : nth l (k : Int) ≠ 0) : cmp_Or_int.f l = some (nth l (k : Int)) := by
  unfold cmp_Or_int.f cmp_Or_int.l2
  refine loopR_steps (fun k => ((k : Nat) : Int)) k (fun j hj => ?_) ?_
  · simp only [cmp_Or_int.l2b]
    rw [if_pos (by omega), if_pos (by omega), if_pos (h0 j hj), w64 (by omega) (by omega)]
    rfl
  · simp only [cmp_Or_int.l2b]
    rw [if_pos (by omega), if_pos (by omega), if_neg h]
theorem or_none (l : List Int) (hl : l.length < 1000) (h0 : ∀ j, j < l.length → nth l (j : Int) = 0) : cmp_Or_int.f l = some 0 := by
  unfold cmp_Or_int.f cmp_Or_int.l2
  refine loopR_steps (fun k => ((k : Nat) : Int)) l.length (fun j hj => ?_) ?_
  · simp only [cmp_Or_int.l2b]
    rw [if_pos (by omega), if_pos (by omega), if_pos (h0 j hj), w64 (by omega) (by omega)]
    rfl
  · simp only [cmp_Or_int.l2b]
    rw [if_neg (by omega)]
theorem or3 (a b c : Int) : cmp_Or_int.f ([a, b, c] : List Int) = some (if a ≠ 0 then a else if b ≠ 0 then b else c) := by
  by_cases ha : a = 0
  · by_cases hb : b = 0
    · by_cases hc : c = 0
      · subst ha; subst hb; subst hc
        exact or_none _ (by decide) (fun j hj => by
          have : j = 0 ∨ j = 1 ∨ j = 2 := by simp at hj; omega
          rcases this with rfl | rfl | rfl <;> rfl)
      · rw [if_neg (by simpa using ha), if_neg (by simpa using hb)]
        exact or_first [a, b, c] 2 (by simp) (by simp) (fun j hj => by
          have : j = 0 ∨ j = 1 := by omega
          rcases this with rfl | rfl
          · exact ha
          · exact hb) hc
    · rw [if_neg (by simpa using ha), if_pos hb]
      exact or_first [a, b, c] 1 (by simp) (by simp) (fun j hj => by
          obtain rfl : j = 0 := by omega
          exact ha) hb
  · rw [if_pos ha]
    exact or_first [a, b, c] 0 (by simp) (by simp) (fun j hj => by omega) ha
theorem or2 (a b : Int) : cmp_Or_int.f ([a, b] : List Int) = some (if a ≠ 0 then a else b) := by
  by_cases ha : a = 0
  · rw [if_neg (by simpa using ha)]
    by_cases hb : b = 0
    · subst ha; subst hb
      exact or_none _ (by decide) (fun j hj => by
          have : j = 0 ∨ j = 1 := by simp at hj; omega
          rcases this with rfl | rfl <;> rfl)
    · exact or_first [a, b] 1 (by simp) (by simp) (fun j hj => by
          obtain rfl : j = 0 := by omega
          exact ha) hb
  · rw [if_pos ha]
    exact or_first [a, b] 0 (by simp) (by simp) (fun j hj => by omega) ha
theorem sgn_self (a : Int) : sgn a a = 0 := by unfold sgn; rw [if_neg (by omega), if_neg (by omega)]
theorem sgn_zero {a b : Int} : sgn a b = 0 ↔ a = b := by
  unfold sgn
  constructor
  · intro h
    split at h
    · cases h
    · split at h
      · cases h
      · omega
  · rintro rfl; rw [if_neg (by omega), if_neg (by omega)]
theorem cmpK_self (a : api_Key) : cmpK a a = 0 := by simp [cmpK, sgn_self]
theorem compare_eq (a b : api_Key) : event_Compare.f a b = some (cmpK a b) := by
  unfold event_Compare.f
  by_cases h : a = b
  · subst h; rw [if_pos rfl, cmpK_self]
  · rw [if_neg h, cmp64]
    simp only [Option.bind_some, cmpI, or3]
    rfl
theorem before_eq (a b : api_Message) : event_Before.f a b = some (bef a b) := by
  unfold event_Before.f event_order.f
  simp only [compare_eq, cmpI, Option.bind_some, or2, bef]
  congr 1
  rw [decide_eq_decide]
  by_cases h : cmpK a.Key b.Key = 0
  · rw [if_neg (by simpa using h), h]
    unfold sgn
    constructor
    · intro h1
      refine .inr ⟨rfl, ?_⟩
      split at h1
      · assumption
      · split at h1 <;> omega
    · rintro (h1 | ⟨_, h1⟩)
      · omega
      · rw [if_pos h1]; omega
  · rw [if_pos h]
    constructor
    · exact .inl
    · rintro (h1 | ⟨h1, _⟩)
      · exact h1
      · exact absurd h1 h
end Go.Proofs.Gx
