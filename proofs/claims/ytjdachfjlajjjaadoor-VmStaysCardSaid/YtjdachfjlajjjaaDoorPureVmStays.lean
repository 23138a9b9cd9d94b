/-
  The plain law VmStays: nothing done.
-/
import Derived.Test.YtjdachfjlajjjaaDoorAwake
namespace Go.Proofs.Gx
open Go.Sl
set_option linter.unusedVariables false
theorem stOf_same {s : api_State} (h : 0 ≤ s.Sent ∧ s.Sent ≤ 1125899906842624) : stOf s (rgs s) s.Draws 0 = s := by
  obtain ⟨⟨c0, c1, c2, c3, c4, c5, c6, c7⟩, d, n⟩ := s
  simp only at h
  unfold stOf
  simp only
  rw [w64 (by omega) (by omega)]
  simp only [Int.natCast_zero, Int.add_zero]
  rfl
theorem stays_run (l : List api_Instr) (hl : l = [] ∨ ∃ r, l = (⟨0, 0, 0, 0⟩ : api_Instr) :: r) (s : api_State) (m : api_Message) : ∃ a, runF ⟨l, 0, [], 0⟩ m 4096 (rgs s, s.Draws, [], 0) = .inl (rgs s, s.Draws, [], a) := by
  rcases hl with rfl | ⟨r, rfl⟩
  · exact ⟨0, runF_stop' 0 rfl (by decide) 4096⟩
  · refine ⟨((r.length + 1 : Nat) : Int), ?_⟩
    rw [show (4096 : Nat) = 4095 + 1 from rfl, runF_go' (s' := (rgs s, s.Draws, [], ((r.length + 1 : Nat) : Int))) (r.length + 1) rfl (by omega) rfl, runF_stop' (r.length + 1) rfl (by omega)]
theorem stays_j2 {s : api_State} (h0 : ok_api_State s) {m : api_Message} (h1 : ok_api_Message m) (l : List api_Instr) (hl : l = [] ∨ ∃ r, l = (⟨0, 0, 0, 0⟩ : api_Instr) :: r) : isochronlaw05vVmStays.j2 s m l = some true := by
  unfold isochronlaw05vVmStays.j2
  rw [vm_run_eq _ s m (rgs_in h0) (wf64 h1.2.2.1)]
  simp only [Option.bind_some, vm_check_eq, event_check_eq, awake_true]
  by_cases hw : chkW ⟨l, 0, [], 0⟩ = 0
  · by_cases hm : evB m = true ∧ stB s = true
    · obtain ⟨a, hr⟩ := stays_run l hl s m
      have hs : (0 ≤ s.Draws ∧ s.Draws ≤ 1125899906842624) ∧ 0 ≤ s.Sent ∧ s.Sent ≤ 1125899906842624 := by simpa [stB] using hm.2
      have hrun : vmRun ⟨l, 0, [], 0⟩ s m = (s, [], 0) := by
        rw [vmRun_ok hw hm.1 hm.2 hr]
        show (stOf s (rgs s) s.Draws 0, _, _) = _
        rw [stOf_same hs.2]
      rw [hrun]
      simp
    · rw [vmRun_bad hw hm]
      simp only [List.length_nil]
      rw [if_neg (by decide), if_pos (by decide), if_pos (show zst = (⟨⟨0, 0, 0, 0, 0, 0, 0, 0⟩, 0, 0⟩ : api_State) from rfl), if_pos hw]
      by_cases he : evB m = true
      · rw [he]
        simp only [if_true]
        have hb : ¬ ((0 ≤ s.Draws ∧ s.Draws ≤ 1125899906842624) ∧ 0 ≤ s.Sent ∧ s.Sent ≤ 1125899906842624) := fun h => hm ⟨he, by simpa [stB] using h⟩
        by_cases a1 : (if s.Sent < s.Draws then s.Sent else s.Draws) < 0
        · rw [if_pos a1]
        rw [if_neg a1]
        by_cases a2 : 1125899906842624 < (if s.Draws < s.Sent then s.Sent else s.Draws)
        · rw [if_pos a2]
        exfalso
        apply hb
        split at a1 <;> split at a2 <;> omega
      · simp only [Bool.not_eq_true] at he
        rw [he]
        rfl
  · have hv : vmRun ⟨l, 0, [], 0⟩ s m = (zst, [], chkW ⟨l, 0, [], 0⟩) := by unfold vmRun; rw [if_neg hw]
    rw [hv]
    simp only [List.length_nil]
    rw [if_neg hw, if_pos (by decide), if_pos (show zst = (⟨⟨0, 0, 0, 0, 0, 0, 0, 0⟩, 0, 0⟩ : api_State) from rfl), if_neg hw]
theorem Pure.vmStays (x0 : api_State) (h0 : ok_api_State x0) (x1 : api_Message) (h1 : ok_api_Message x1) (x2 : Bool) (h2 : (fun _ => True) x2) (x3 : (List api_Instr)) (h3 : (okl ok_api_Instr 32) x3) : isochronlaw05vVmStays.f x0 x1 x2 x3 = some true := by
  have hb : x3.length * 32 ≤ 140737488351232 := by simpa [reachBytes] using h3.2
  unfold isochronlaw05vVmStays.f
  cases x2 with
  | true =>
    rw [if_pos rfl, if_pos (by simp only [List.length_singleton]; omega)]
    exact stays_j2 h0 h1 _ (.inr ⟨x3, rfl⟩)
  | false =>
    rw [if_neg (by decide)]
    exact stays_j2 h0 h1 _ (.inl rfl)
end Go.Proofs.Gx
