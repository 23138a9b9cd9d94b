/-
  The reference's whole run is the program's.
-/
import Derived.Test.YtofgeidjbfmmdaaGreatDoorPlay
import Derived.Test.YtofgeidjbfmmdaaGreatDoorSeqR
import Derived.Test.YtofgeidjbfmmdaaGreatDoorW14
namespace Go.Proofs.Gx
open Go.Sl
set_option linter.unusedVariables false
set_option linter.unusedSimpArgs false
theorem sorted_eq (l : List api_Message) (hl : l.length ≤ 1000000) : isochronref02vSorted.f l = some (insAll [] l) := by
  have ht : ∀ k, k ≤ l.length → (l.take k).length = k := fun k hk => by rw [List.length_take]; omega
  unfold isochronref02vSorted.f isochronref02vSorted.l2
  refine (show loopR _ ((fun k : Nat => (insAll [] (l.take k), ((k : Nat) : Int))) 0) = _ from loopR_steps (fun k : Nat => (insAll [] (l.take k), ((k : Nat) : Int))) l.length (fun k hk => ?_) ?_)
  · simp only [isochronref02vSorted.l2b]
    rw [if_pos (by omega), if_pos (by omega), insert_eq _ _ (by rw [insAll_len, ht k (by omega)]; simp only [List.length_nil]; omega)]
    simp only [Option.bind_some]
    rw [w64 (by omega) (by omega), List.take_succ_eq_append_getElem hk, insAll_snoc, nth_nat hk]
    rfl
  · simp only [isochronref02vSorted.l2b]
    rw [if_neg (by omega), List.take_length]
theorem ref_begin_eq {m : api_Model} (h : ok_api_Model m) (hC : chkM m = 0) : isochronref14vbegin.f m = some (m.Progs, m.Links, m.Starts, m.Seed, m.End, m.Budget, worldsP m, zeroS m, insAll [] (startMsgs m)) := by
  have hz := sizes_of hC
  unfold isochronref14vbegin.f
  rw [if_pos (by omega)]
  unfold isochronref14vbegin.l4
  refine worlds_loop h hz.1.2 (ref_world_eq h) (fun l => (isochronref13vStarts.f m).bind fun t => (isochronref02vSorted.f t).bind fun u => some (m.Progs, m.Links, m.Starts, m.Seed, m.End, m.Budget, l, (List.replicate ((m.Progs.length : Int) : Int).toNat (⟨(⟨0, 0, 0, 0, 0, 0, 0, 0⟩ : Arr8xInti64), 0, 0⟩ : api_State)), u)) ?_
  rw [ref_starts_list (by omega)]
  simp only [Option.bind_some]
  rw [sorted_eq _ (by simp; omega)]
  rfl
theorem play_loopS {m : api_Model} (hC : chkM m = 0) (n : Int) : ∀ (k : Nat) (s : SS), Good m s → (0 ≤ n → (s.2.2.length : Int) ≤ n) → m.Budget - (s.2.2.length : Int) < (k : Int) →
    loopR (isochronref14vplay.l4b n m.Progs m.Links m.Starts m.Seed m.End m.Budget (worldsP m)) s = some (m.Progs, m.Links, m.Starts, m.Seed, m.End, m.Budget, worldsP m, (runP (worldsP m) m.End m.Budget n k s).1.1, (runP (worldsP m) m.End m.Budget n k s).1.2.1, (runP (worldsP m) m.End m.Budget n k s).1.2.2, (runP (worldsP m) m.End m.Budget n k s).2)
  | 0, s, hg, _, hk => by have := hg.done; omega
  | k + 1, s, hg, hn, hk => by
    obtain ⟨st, wt, dn⟩ := s
    simp only at hn
    rw [loopR_eq]
    simp only [isochronref14vplay.l4b, runP]
    rw [show isochronref14vone_step.f m.Progs m.Links m.Starts m.Seed m.End m.Budget (worldsP m) st wt dn = _ from ref_step_eq hC hg]
    simp only [Option.bind_some]
    by_cases h1 : (dn.length : Int) = n
    · rw [if_pos h1, if_neg (by omega), if_neg (by omega)]
      rfl
    · rw [if_neg h1]
      have key : (if n < 0 then (if (refOut (st, wt, dn) (oneStep (worldsP m) m.End m.Budget (st, wt, dn))).1 = 0 then
            (some (.inl ((refOut (st, wt, dn) (oneStep (worldsP m) m.End m.Budget (st, wt, dn))).2.1, (refOut (st, wt, dn) (oneStep (worldsP m) m.End m.Budget (st, wt, dn))).2.2.1, (refOut (st, wt, dn) (oneStep (worldsP m) m.End m.Budget (st, wt, dn))).2.2.2)) : Option (SS ⊕ (List (List api_Instr) × List api_Link × List api_Start × Int × Int × Int × List api_World × List api_State × List api_Message × List api_Done × Int)))
          else some (.inr (m.Progs, m.Links, m.Starts, m.Seed, m.End, m.Budget, worldsP m, (refOut (st, wt, dn) (oneStep (worldsP m) m.End m.Budget (st, wt, dn))).2.1, (refOut (st, wt, dn) (oneStep (worldsP m) m.End m.Budget (st, wt, dn))).2.2.1, (refOut (st, wt, dn) (oneStep (worldsP m) m.End m.Budget (st, wt, dn))).2.2.2, (refOut (st, wt, dn) (oneStep (worldsP m) m.End m.Budget (st, wt, dn))).1)))
          else if (dn.length : Int) < n then (if (refOut (st, wt, dn) (oneStep (worldsP m) m.End m.Budget (st, wt, dn))).1 = 0 then
            (some (.inl ((refOut (st, wt, dn) (oneStep (worldsP m) m.End m.Budget (st, wt, dn))).2.1, (refOut (st, wt, dn) (oneStep (worldsP m) m.End m.Budget (st, wt, dn))).2.2.1, (refOut (st, wt, dn) (oneStep (worldsP m) m.End m.Budget (st, wt, dn))).2.2.2)) : Option (SS ⊕ (List (List api_Instr) × List api_Link × List api_Start × Int × Int × Int × List api_World × List api_State × List api_Message × List api_Done × Int)))
          else some (.inr (m.Progs, m.Links, m.Starts, m.Seed, m.End, m.Budget, worldsP m, (refOut (st, wt, dn) (oneStep (worldsP m) m.End m.Budget (st, wt, dn))).2.1, (refOut (st, wt, dn) (oneStep (worldsP m) m.End m.Budget (st, wt, dn))).2.2.1, (refOut (st, wt, dn) (oneStep (worldsP m) m.End m.Budget (st, wt, dn))).2.2.2, (refOut (st, wt, dn) (oneStep (worldsP m) m.End m.Budget (st, wt, dn))).1)))
          else some (.inr (m.Progs, m.Links, m.Starts, m.Seed, m.End, m.Budget, worldsP m, st, wt, dn, 0))) =
          (if (refOut (st, wt, dn) (oneStep (worldsP m) m.End m.Budget (st, wt, dn))).1 = 0 then
            (some (.inl ((refOut (st, wt, dn) (oneStep (worldsP m) m.End m.Budget (st, wt, dn))).2.1, (refOut (st, wt, dn) (oneStep (worldsP m) m.End m.Budget (st, wt, dn))).2.2.1, (refOut (st, wt, dn) (oneStep (worldsP m) m.End m.Budget (st, wt, dn))).2.2.2)) : Option (SS ⊕ (List (List api_Instr) × List api_Link × List api_Start × Int × Int × Int × List api_World × List api_State × List api_Message × List api_Done × Int)))
          else some (.inr (m.Progs, m.Links, m.Starts, m.Seed, m.End, m.Budget, worldsP m, (refOut (st, wt, dn) (oneStep (worldsP m) m.End m.Budget (st, wt, dn))).2.1, (refOut (st, wt, dn) (oneStep (worldsP m) m.End m.Budget (st, wt, dn))).2.2.1, (refOut (st, wt, dn) (oneStep (worldsP m) m.End m.Budget (st, wt, dn))).2.2.2, (refOut (st, wt, dn) (oneStep (worldsP m) m.End m.Budget (st, wt, dn))).1))) := by
        by_cases h2 : n < 0
        · rw [if_pos h2]
        · rw [if_neg h2, if_pos (by have := hn (by omega); omega)]
      refine (congrArg (fun o => Option.bind o (Sum.elim (loopR (isochronref14vplay.l4b n m.Progs m.Links m.Starts m.Seed m.End m.Budget (worldsP m))) some)) key).trans ?_
      cases hs : oneStep (worldsP m) m.End m.Budget (st, wt, dn) with
      | inl x =>
        have hx : x.1 ≠ 0 := by rcases stop_is hs with h | h | h | h <;> rw [h] <;> decide
        rw [if_neg (show ¬ (refOut (st, wt, dn) (Sum.inl x)).1 = 0 from hx)]
        rfl
      | inr s' =>
        obtain ⟨h2, h3, _⟩ := step_more hC hg hs
        rw [if_pos (show (refOut (st, wt, dn) (Sum.inr s')).1 = 0 from rfl)]
        exact play_loopS hC n k s' h2 (fun h0 => by have := hn h0; simp only at h3; omega) (by simp only at h3 hk; omega)
theorem play_eq {m : api_Model} (h : ok_api_Model m) (hC : chkM m = 0) (n : Int) : isochronref14vplay.f m n = some (m.Progs, m.Links, m.Starts, m.Seed, m.End, m.Budget, worldsP m, (runM m n).1.1, (runM m n).1.2.1, (runM m n).1.2.2, (runM m n).2) := by
  have hz := sizes_of hC
  unfold isochronref14vplay.f
  rw [ref_begin_eq h hC]
  simp only [Option.bind_some]
  unfold isochronref14vplay.l4
  exact play_loopS hC n (m.Budget.toNat + 1) (beginS m) (good_begin h hC) (fun h0 => h0) (by show m.Budget - ((0 : Nat) : Int) < _; omega)
theorem ref_Run_eq {m : api_Model} (h : ok_api_Model m) : isochronref14vRun.f m = some (resP m) := by
  unfold isochronref14vRun.f resP
  rw [model_ref_eq]
  simp only [Option.bind_some]
  by_cases hC : chkM m = 0
  · rw [if_pos hC, if_pos hC, play_eq h hC]; rfl
  · rw [if_neg hC, if_neg hC]
end Go.Proofs.Gx
