/-
  The plain law SeqRises: in order, each once.
-/
import Derived.Test.YtofgeidjbfmmdaaGreatDoorRise
import Derived.Test.YtofgeidjbfmmdaaGreatDoorAwake14
import Derived.Test.YtofgeidjbfmmdaaGreatDoorW16
namespace Go.Proofs.Gx
open Go.Sl
set_option linter.unusedVariables false
theorem hist_at {l : List api_Done} (h : l.Pairwise (fun a b => klt a.Key b.Key)) {i j : Nat} (hij : i < j) (hj : j < l.length) : cmpK (nth l (i : Int)).Key (nth l (j : Int)).Key = -1 := by
  rw [cmpK_lt, nth_nat (by omega), nth_nat hj]
  exact List.pairwise_iff_getElem.1 h i j (by omega) hj hij
theorem Pure.seqRises (x0 : api_Model) (h0 : ok_api_Model x0) : isochronlaw14vSeqRises.f x0 = some true := by
  unfold isochronlaw14vSeqRises.f
  rw [Run_eq h0]
  simp only [Option.bind_some]
  unfold resP
  by_cases hC : chkM x0 = 0
  · rw [if_pos hC]
    simp only
    rw [if_pos trivial]
    have hg := runM_good h0 hC (-1)
    have hr := runM_ris h0 hC (-1)
    have hz := sizes_of hC
    obtain ⟨hs0, hs4⟩ := run_stop hC (x0.Budget.toNat + 1) (beginS x0) (good_begin h0 hC) (by show x0.Budget - ((0 : Nat) : Int) < _; omega)
    have hs0 : (runM x0 (-1)).2 ≠ 0 := hs0
    have hs4 : (runM x0 (-1)).2 = 4 → ((runM x0 (-1)).1.2.2.length : Int) = x0.Budget := hs4
    generalize runM x0 (-1) = r at *
    obtain ⟨⟨st, wt, dn⟩, sp⟩ := r
    have hd := hg.done
    have hn := hg.n
    have hh := hr.hist
    have ht := hr.tms
    simp only at hd hn hh ht hs0 hs4
    unfold isochronlaw14vSeqRises.l4
    refine loopR_steps (fun k => ((k : Nat) : Int)) dn.length (fun k hk => ?_) ?_
    · obtain ⟨t1, t2, t3⟩ := ht _ (nth_mem (xs := dn) (i := (k : Int)) (by omega) (by omega))
      simp only [isochronlaw14vSeqRises.l4b]
      rw [if_pos (by omega), if_pos (by omega), if_neg (by omega)]
      have e1 : IntKind.i64.wrap ((k : Int) + 1) = ((k + 1 : Nat) : Int) := by rw [w64 (by omega) (by omega)]; rfl
      by_cases hk0 : k = 0
      · subst hk0
        rw [if_neg (by omega), if_neg (by omega), if_neg (by omega), e1]
      · have e2 : IntKind.i64.wrap ((k : Int) - 1) = ((k - 1 : Nat) : Int) := by rw [w64 (by omega) (by omega)]; omega
        rw [if_pos (by omega), e2, if_pos (by omega), compare_eq, hist_at hh (show k - 1 < k by omega) hk]
        simp only [Option.bind_some]
        rw [if_pos trivial, if_neg (by omega), if_neg (by omega), e1]
    · simp only [isochronlaw14vSeqRises.l4b]
      rw [if_neg (by omega), if_pos hd]
      by_cases h4 : sp = 4
      · rw [if_pos h4, if_pos (hs4 h4), if_neg hs0, decide_eq_true (by omega)]
        rfl
      · rw [if_neg h4, if_neg hs0, decide_eq_true (by omega)]
        rfl
  · rw [if_neg hC]
    simp only
    rw [if_neg hC, model_check_eq]
    simp only [Option.bind_some]
    rw [if_pos trivial, if_pos (by simp), awake_true]
    rfl
end Go.Proofs.Gx
