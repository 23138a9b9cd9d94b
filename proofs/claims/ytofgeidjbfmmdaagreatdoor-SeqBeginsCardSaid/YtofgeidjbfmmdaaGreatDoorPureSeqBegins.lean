/-
  The plain law SeqBegins: a beginning.
-/
import Derived.Test.YtofgeidjbfmmdaaGreatDoorPart
import Derived.Test.YtofgeidjbfmmdaaGreatDoorW19
namespace Go.Proofs.Gx
open Go.Sl
set_option linter.unusedVariables false
theorem Pure.seqBegins (x0 : api_Model) (h0 : ok_api_Model x0) (x1 : Int) (h1 : (fun n => (Lit.int .u8 n).wf = true) x1) (x2 : Int) (h2 : (fun n => (Lit.int .u8 n).wf = true) x2) : isochronlaw14vSeqBegins.f x0 x1 x2 = some true := by
  have b1 := wf8 h1
  have b2 := wf8 h2
  obtain ⟨n, rfl⟩ := Int.eq_ofNat_of_zero_le b1.1
  obtain ⟨k, rfl⟩ := Int.eq_ofNat_of_zero_le b2.1
  have e1 : IntKind.i64.wrap ((n : Nat) : Int) = (n : Int) := w64 (by omega) (by omega)
  have e2 : IntKind.i64.wrap ((k : Nat) : Int) = (k : Int) := w64 (by omega) (by omega)
  have e3 : IntKind.i64.wrap (((n : Nat) : Int) + (k : Int)) = ((n + k : Nat) : Int) := by rw [w64 (by omega) (by omega)]; omega
  unfold isochronlaw14vSeqBegins.f
  rw [e1, e2, e3, Run_eq h0, Part_eq h0, Part_eq h0]
  simp only [Option.bind_some]
  unfold resP partP
  by_cases hC : chkM x0 = 0
  · rw [if_pos hC, if_pos hC, if_pos hC]
    simp only
    have hf := runM_few h0 hC (-1)
    rw [runM_take x0 n, runM_take x0 (n + k)]
    generalize (runM x0 (-1)).1.2.2 = F at *
    have l1 : (F.take n).length = min n F.length := List.length_take
    have l2 : (F.take (n + k)).length = min (n + k) F.length := List.length_take
    rw [if_pos trivial, if_pos trivial, if_neg (by omega), if_neg (by omega), if_pos (by split <;> omega), if_pos (by omega), sub_take', history_eq _ _ (by omega)]
    have q1 : F.take n = (F.take (n + k)).take (F.take n).length := by
      rw [l1, List.take_take]
      by_cases h : n ≤ F.length
      · congr 1; omega
      · rw [List.take_of_length_le (by omega), List.take_of_length_le (by omega)]
    rw [decide_eq_true q1]
    simp only [Option.bind_some, if_true]
    rw [if_pos (by omega), sub_take', history_eq _ _ (by omega)]
    have q2 : F.take (n + k) = F.take (F.take (n + k)).length := by
      rw [l2]
      by_cases h : n + k ≤ F.length
      · congr 1; omega
      · rw [List.take_of_length_le (by omega), List.take_of_length_le (by omega)]
    rw [decide_eq_true q2]
    simp [awake_true]
  · rw [if_neg hC, if_neg hC, if_neg hC]
    simp only
    rw [if_pos trivial, if_pos trivial, if_neg (by simp), if_neg (by simp), if_pos (by simp only [List.length_nil]; split <;> omega), if_pos (by simp), sub_take', history_eq _ _ (by simp)]
    simp only [List.take_nil, decide_true, Option.bind_some, if_true]
    simp [awake_true]
end Go.Proofs.Gx
