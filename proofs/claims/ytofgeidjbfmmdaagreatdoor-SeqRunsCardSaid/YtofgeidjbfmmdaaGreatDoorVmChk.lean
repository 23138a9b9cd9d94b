/-
  In what a handler may run: the reference's answer.
-/
import Derived.Test.YtofgeidjbfmmdaaGreatDoorVm
import Derived.Test.YtofgeidjbfmmdaaGreatDoorW11
namespace Go.Proofs.Gx
open Go.Sl
set_option linter.unusedVariables false
theorem ref_link_any (w : api_World) (k : Nat) : linkBadW w k = decide ((nth w.Links (k : Int)).To < 0 ∨ 16 ≤ (nth w.Links (k : Int)).To ∨ (nth w.Links (k : Int)).Look < 1 ∨ 4611686018427387903 < (nth w.Links (k : Int)).Look) := by
  unfold linkBadW laneW
  rw [Bool.eq_iff_iff]
  simp only [Bool.not_eq_true', Bool.and_eq_false_iff, decide_eq_false_iff_not, decide_eq_true_eq]
  omega
theorem ref_vm_check_eq (w : api_World) : isochronref05vCheck.f w = some (chkW w) := by
  unfold isochronref05vCheck.f chkW
  simp only [ref_check_eq, Option.bind_some]
  by_cases h : chk w.Prog = 0
  · rw [if_pos h, if_pos h]
    unfold laneW
    by_cases h1 : w.Self < 0
    · rw [if_pos h1, if_neg (by simp only [decide_eq_true_eq]; omega)]
    rw [if_neg h1]
    by_cases h2 : 16 ≤ w.Self
    · rw [if_pos h2, if_neg (by simp only [decide_eq_true_eq]; omega)]
    rw [if_neg h2, if_pos (show decide (0 ≤ w.Self ∧ w.Self < 16) = true by simp only [decide_eq_true_eq]; omega)]
    by_cases h3 : 1024 < (w.Links.length : Int)
    · rw [if_pos h3, if_pos h3]
    rw [if_neg h3, if_neg h3]
    unfold isochronref05vCheck.l2
    rw [loopR_any (linkBadW w) (1 : Int) 0 w.Links.length (fun k hk => by
      simp only [isochronref05vCheck.l2b, ref_link_any]
      rw [if_pos (by omega), if_pos (by omega), w64 (by omega) (by omega)]
      by_cases a1 : (nth w.Links (k : Int)).To < 0
      · rw [if_pos a1, if_pos (by simp only [decide_eq_true_eq]; omega)]
      rw [if_neg a1]
      by_cases a2 : 16 ≤ (nth w.Links (k : Int)).To
      · rw [if_pos a2, if_pos (by simp only [decide_eq_true_eq]; omega)]
      rw [if_neg a2]
      by_cases a3 : (nth w.Links (k : Int)).Look < 1
      · rw [if_pos a3, if_pos (by simp only [decide_eq_true_eq]; omega)]
      rw [if_neg a3]
      by_cases a4 : 4611686018427387903 < (nth w.Links (k : Int)).Look
      · rw [if_pos a4, if_pos (by simp only [decide_eq_true_eq]; omega)]
      rw [if_neg a4, if_neg (by simp only [decide_eq_true_eq]; omega)]; rfl) (by simp only [isochronref05vCheck.l2b]; rw [if_neg (by omega)])]
  · rw [if_neg h, if_neg h]
end Go.Proofs.Gx
