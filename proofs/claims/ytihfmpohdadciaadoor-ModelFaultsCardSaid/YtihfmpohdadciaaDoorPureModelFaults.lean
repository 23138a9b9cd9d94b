/-
  The plain law ModelFaults: a model that may be may not be any more with one fault, and says which.
-/
import Derived.Test.YtihfmpohdadciaaDoorWays
namespace Go.Proofs.Gx
open Go.Sl
set_option linter.unusedVariables false
theorem any_last (p : Nat → Bool) (n : Nat) (h : p n = true) : (List.range (n + 1)).any p = true := List.any_eq_true.2 ⟨n, List.mem_range.2 (Nat.lt_succ_self n), h⟩
theorem nth_last {α : Type} [Inhabited α] (xs : List α) (x : α) : nth (xs ++ [x]) (xs.length : Int) = x := by
  rw [nth_nat (by simp)]
  simp
theorem sizes_parts {m : api_Model} (h : sizesB m = true) : (1 ≤ m.Progs.length ∧ m.Progs.length ≤ 16) ∧ timeB m.End = true ∧ 0 ≤ m.Budget ∧ m.Budget ≤ 4096 := by
  simpa [sizesB, and_assoc] using h
theorem fault_end {m : api_Model} : chkM ⟨m.Progs, m.Links, m.Starts, m.Seed, -1, m.Budget⟩ = 1 := by
  unfold chkM
  rw [if_neg (by simp [sizesB, timeB])]
theorem fault_budget {m : api_Model} : chkM ⟨m.Progs, m.Links, m.Starts, m.Seed, m.End, 4097⟩ = 1 := by
  unfold chkM
  rw [if_neg (by simp [sizesB])]
theorem fault_progs1 {m : api_Model} (h : 16 < ((m.Progs ++ [[(⟨99, 0, 0, 0⟩ : api_Instr)]]).length : Int)) : chkM ⟨m.Progs ++ [[(⟨99, 0, 0, 0⟩ : api_Instr)]], m.Links, m.Starts, m.Seed, m.End, m.Budget⟩ = 1 := by
  unfold chkM
  rw [if_neg]
  intro hs
  have := (sizes_parts hs).1
  simp only at this
  omega
theorem chk99 : chk [(⟨99, 0, 0, 0⟩ : api_Instr)] = 130 := rfl
theorem fault_progs2 {m : api_Model} (hc : chkM m = 0) (h : ¬ 16 < ((m.Progs ++ [[(⟨99, 0, 0, 0⟩ : api_Instr)]]).length : Int)) : chkM ⟨m.Progs ++ [[(⟨99, 0, 0, 0⟩ : api_Instr)]], m.Links, m.Starts, m.Seed, m.End, m.Budget⟩ = 130 := by
  obtain ⟨hs, _⟩ := chkM_zero hc
  obtain ⟨p1, p2, p3, p4⟩ := sizes_parts hs
  unfold chkM
  rw [if_pos, if_pos]
  · rw [show (m.Progs ++ [[(⟨99, 0, 0, 0⟩ : api_Instr)]]).length = m.Progs.length + 1 by simp]
    refine any_last _ _ ?_
    unfold progBad
    simp only [nth_last, chk99]
    rfl
  · simp only [sizesB, p2, Bool.and_true, Bool.and_eq_true, decide_eq_true_eq]
    refine ⟨⟨?_, ?_⟩, p3, p4⟩
    · simp
    · omega
theorem fault_links {m : api_Model} (hc : chkM m = 0) (l : api_Link) (hl : linkOK m l = false) : chkM ⟨m.Progs, m.Links ++ [l], m.Starts, m.Seed, m.End, m.Budget⟩ = 131 := by
  obtain ⟨hs, h2, _⟩ := chkM_zero hc
  unfold chkM
  rw [if_pos (show sizesB ⟨m.Progs, m.Links ++ [l], m.Starts, m.Seed, m.End, m.Budget⟩ = true from hs), if_neg (by rw [show (List.range m.Progs.length).any (progBad ⟨m.Progs, m.Links ++ [l], m.Starts, m.Seed, m.End, m.Budget⟩) = false from h2]; simp)]
  by_cases h : 1024 < ((m.Links ++ [l]).length : Int)
  · rw [if_pos h]
  · rw [if_neg h, if_pos]
    rw [show (m.Links ++ [l]).length = m.Links.length + 1 by simp]
    refine any_last _ _ ?_
    unfold linkBad
    simp only [nth_last]
    rw [show linkOK ⟨m.Progs, m.Links ++ [l], m.Starts, m.Seed, m.End, m.Budget⟩ l = false from hl]
    rfl
theorem fault_starts {m : api_Model} (hc : chkM m = 0) (s : api_Start) (hs' : startOK m s = false) : chkM ⟨m.Progs, m.Links, m.Starts ++ [s], m.Seed, m.End, m.Budget⟩ = 132 := by
  obtain ⟨hs, h2, h3, h4, _⟩ := chkM_zero hc
  unfold chkM
  rw [if_pos (show sizesB ⟨m.Progs, m.Links, m.Starts ++ [s], m.Seed, m.End, m.Budget⟩ = true from hs), if_neg (by rw [show (List.range m.Progs.length).any (progBad ⟨m.Progs, m.Links, m.Starts ++ [s], m.Seed, m.End, m.Budget⟩) = false from h2]; simp), if_neg (by simp only; omega),
    if_neg (by rw [show (List.range m.Links.length).any (linkBad ⟨m.Progs, m.Links, m.Starts ++ [s], m.Seed, m.End, m.Budget⟩) = false from h4]; simp)]
  by_cases h : 4096 < ((m.Starts ++ [s]).length : Int)
  · rw [if_pos h]
  · rw [if_neg h, if_pos]
    rw [show (m.Starts ++ [s]).length = m.Starts.length + 1 by simp]
    refine any_last _ _ ?_
    unfold startBad
    simp only [nth_last]
    rw [show startOK ⟨m.Progs, m.Links, m.Starts ++ [s], m.Seed, m.End, m.Budget⟩ s = false from hs']
    rfl
theorem Pure.modelFaults (x0 : api_Model) (h0 : ok_api_Model x0) (x1 : Int) (h1 : (fun n => (Lit.int .u8 n).wf = true) x1) : isochronlaw13vModelFaults.f x0 x1 = some true := by
  unfold isochronlaw13vModelFaults.f
  simp only [model_check_eq, Option.bind_some, awake_true]
  by_cases hc : chkM x0 = 0
  · rw [if_pos hc]
    obtain ⟨hs, h2, h3, h4, h5, h6⟩ := chkM_zero hc
    obtain ⟨p1, p2, p3, p4⟩ := sizes_parts hs
    split
    · exact if_pos fault_end
    split
    · exact if_pos fault_budget
    split
    · simp only [List.nil_append, List.length_nil, Nat.zero_add]
      rw [if_pos (by omega), if_pos (by simp only [List.length_singleton]; omega)]
      by_cases h : 16 < ((x0.Progs ++ [[(⟨99, 0, 0, 0⟩ : api_Instr)]]).length : Int)
      · rw [if_pos h]; exact if_pos (fault_progs1 h)
      · rw [if_neg h]; exact if_pos (fault_progs2 hc h)
    split
    · simp only [List.nil_append, List.length_nil, Nat.zero_add]
      rw [if_pos (by omega), if_pos (by omega)]; exact if_pos (fault_links hc _ (by simp [linkOK, laneB]))
    split
    · simp only [List.nil_append, List.length_nil, Nat.zero_add]
      rw [if_pos (by omega), if_pos (by omega)]; exact if_pos (fault_links hc _ (by simp [linkOK]))
    · simp only [List.nil_append, List.length_nil, Nat.zero_add]
      rw [if_pos (by omega), if_pos (by omega)]; exact if_pos (fault_starts hc _ (by simp [startOK, laneB]))
  · rw [if_neg hc]
end Go.Proofs.Gx
