/-
  The order of messages: the reference's.
-/
import Derived.Test.YtofgeidjbfmmdaaGreatDoorOrd
import Derived.Test.YtofgeidjbfmmdaaGreatDoorW11
import Derived.Test.YtofgeidjbfmmdaaGreatDoorW11
namespace Go.Proofs.Gx
open Go.Sl
set_option linter.unusedVariables false
set_option linter.unusedSimpArgs false
theorem ref_sign_eq (a b : Int) : isochronref02vsign.f a b = some (sgn a b) := by
  unfold isochronref02vsign.f sgn
  split
  · rfl
  · split <;> rfl
theorem ref_compare_eq (a b : api_Key) : isochronref02vCompare.f a b = some (cmpK a b) := by
  unfold isochronref02vCompare.f cmpK
  simp only [ref_sign_eq, Option.bind_some]
  by_cases h : a.Time = b.Time
  · rw [if_pos h, if_neg (show ¬ (sgn a.Time b.Time ≠ 0) from fun h' => h' (sgn_zero.2 h))]
    by_cases h2 : a.From = b.From
    · rw [if_pos h2, if_neg (show ¬ (sgn a.From b.From ≠ 0) from fun h' => h' (sgn_zero.2 h2))]
    · rw [if_neg h2, if_pos (show sgn a.From b.From ≠ 0 from fun h' => h2 (sgn_zero.1 h'))]
  · rw [if_neg h, if_pos (show sgn a.Time b.Time ≠ 0 from fun h' => h (sgn_zero.1 h'))]
theorem ref_before_eq (a b : api_Message) : isochronref02vBefore.f a b = some (bef a b) := by
  unfold isochronref02vBefore.f bef
  simp only [ref_compare_eq, Option.bind_some]
  by_cases h : cmpK a.Key b.Key < 0
  · simp [h]
  · rw [if_neg h]
    by_cases h2 : cmpK a.Key b.Key = 0
    · simp [h2]
    · simp [h, h2]
theorem insert_eq (l : List api_Message) (x : api_Message) (hl : l.length ≤ 1000000) : isochronref02vInsert.f l x = some (ins l x) := by
  have hj : ∀ k : Nat, k ≤ l.length → isochronref02vInsert.j5 l x (k : Int) = some (l.take k ++ x :: l.drop k) := fun k hk => by
    have e1 : subL l 0 (k : Int) = l.take k := by simp [subL]
    have e2 : subL l (k : Int) (l.length : Int) = l.drop k := by simp only [subL, Int.toNat_natCast]; exact List.take_of_length_le (by simp)
    unfold isochronref02vInsert.j5
    rw [e1, e2, if_pos (by omega), if_pos (by simp only [List.length_nil, List.length_take]; omega), if_pos (by simp only [List.length_nil, List.length_take, List.nil_append]; omega),
      if_pos (by simp only [List.nil_append, List.length_append, List.length_take, List.length_singleton, List.length_drop]; omega)]
    simp
  have key : ∀ k : Nat, k ≤ l.length → loopR (isochronref02vInsert.l6b l x) (k : Int) = some (l.take (posI x l k) ++ x :: l.drop (posI x l k)) := by
    intro k
    induction k with
    | zero =>
      intro _
      rw [loopR_eq]
      simp only [isochronref02vInsert.l6b]
      rw [if_neg (by omega), inr_bind]
      exact hj 0 (Nat.zero_le _)
    | succ k ih =>
      intro hk
      rw [loopR_eq]
      simp only [isochronref02vInsert.l6b]
      have e1 : IntKind.i64.wrap (((k + 1 : Nat) : Int) - 1) = (k : Int) := by rw [w64 (by omega) (by omega)]; omega
      rw [if_pos (by omega), e1, if_pos (by omega), ref_before_eq]
      simp only [Option.bind_some]
      show Option.bind (if bef x (nth l (k : Int)) = true then _ else _) _ = _
      unfold posI
      by_cases h : bef x (nth l (k : Int)) = true
      · rw [if_pos h, if_pos h]
        exact ih (by omega)
      · rw [if_neg h, if_neg h, inr_bind]
        exact hj (k + 1) hk
  exact key l.length (Nat.le_refl _)
end Go.Proofs.Gx
