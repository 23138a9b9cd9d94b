/-
  Histories and results that are compared with themselves.
-/
import Derived.Test.YtofgeidjbfmmdaaGreatDoorAwake14
import Derived.Test.YtofgeidjbfmmdaaGreatDoorW14
namespace Go.Proofs.Gx
open Go.Sl
set_option linter.unusedVariables false
theorem history_eq (a b : List api_Done) (ha : a.length ≤ 1000000) : isochronlaw14vhistory.f a b = some (decide (a = b)) := by
  unfold isochronlaw14vhistory.f
  by_cases hl : (a.length : Int) = (b.length : Int)
  · rw [if_pos hl]
    unfold isochronlaw14vhistory.l2
    have hab : a.length = b.length := by omega
    have key := loopR_find (body := isochronlaw14vhistory.l2b a b) (fun k => !decide (nth a (k : Int) = nth b (k : Int))) (fun _ => false) true a.length (fun k hk => by
      simp only [isochronlaw14vhistory.l2b]
      rw [if_pos (by omega), if_pos (by omega), if_pos (by omega), w64 (by omega) (by omega)]
      by_cases h : nth a (k : Int) = nth b (k : Int)
      · rw [if_pos h]; simp [h]
      · rw [if_neg h]; simp [h]) (by
      simp only [isochronlaw14vhistory.l2b]
      rw [if_neg (by omega)])
    refine key.trans ?_
    congr 1
    cases hf : (List.range a.length).find? (fun k : Nat => !decide (nth a (k : Int) = nth b (k : Int))) with
    | none =>
      rw [List.find?_eq_none] at hf
      symm
      refine decide_eq_true (List.ext_getElem hab fun i h1 h2 => ?_)
      have := hf i (List.mem_range.2 h1)
      simp only [Bool.not_eq_true', decide_eq_false_iff_not, Decidable.not_not] at this
      rwa [nth_nat h1, nth_nat h2] at this
    | some k =>
      symm
      refine decide_eq_false fun e => ?_
      have := List.find?_some hf
      subst e
      simp at this
  · rw [if_neg hl]
    congr 1
    symm
    exact decide_eq_false fun e => hl (by rw [e])
theorem runM_few {m : api_Model} (h : ok_api_Model m) (hC : chkM m = 0) (n : Int) : (runM m n).1.2.2.length ≤ 4096 ∧ (runM m n).1.1.length ≤ 16 := by
  have hg := runM_good h hC n
  have hz := sizes_of hC
  have := hg.done
  have := hg.n
  constructor <;> omega
theorem res_few {m : api_Model} (h : ok_api_Model m) : (resP m).1.length ≤ 1000000 ∧ (resP m).2.1.length ≤ 1000000 := by
  unfold resP
  by_cases hC : chkM m = 0
  · rw [if_pos hC]
    have := runM_few h hC (-1)
    constructor
    · show (runM m (-1)).1.2.2.length ≤ _; omega
    · show (runM m (-1)).1.1.length ≤ _; omega
  · rw [if_neg hC]; simp
end Go.Proofs.Gx
