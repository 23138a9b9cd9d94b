/-
  The sequential simulator computes at all; lists that are compared with themselves.
-/
import Derived.Test.YtofgeidjbfmmdaaGreatDoorPlay
import Derived.Test.YtofgeidjbfmmdaaGreatDoorW12
namespace Go.Proofs.Gx
open Go.Sl
set_option linter.unusedVariables false
def m7 : api_Model := ⟨[([] : List api_Instr)], [], [(⟨0, 0, 3⟩ : api_Start)], 0, 0, 5⟩
theorem m7_ok : ok_api_Model m7 := by
  refine ⟨⟨fun x hx => ?_, by decide⟩, ⟨fun x hx => (by cases hx), by decide⟩, ⟨fun x hx => ?_, by decide⟩, by decide, by decide, by decide⟩
  · obtain rfl := List.mem_singleton.1 hx
    exact ⟨fun y hy => (by cases hy), by decide⟩
  · obtain rfl := List.mem_singleton.1 hx
    exact ⟨by decide, by decide, by decide⟩
theorem m7_chk : chkM m7 = 0 := rfl
theorem m7_vm : vmRun (wldW m7 0) zst (msg m7 0) = (stOf zst (rgs zst) 0 0, [], 0) := vmRun_ok rfl rfl rfl (runF_stop (show ¬ (0 : Int) < ((0 : Nat) : Int) by omega) 4096)
theorem m7_run : ∃ s : SS, runM m7 (-1) = (s, 1) ∧ s.2.2.length = 1 := by
  have e1 : oneStep (worldsP m7) 0 5 ([zst], [msg m7 0], []) = .inr (setL [zst] 0 (stOf zst (rgs zst) 0 0), [], [⟨(msg m7 0).Key, 0, 3⟩]) := by
    have hw : nth (worldsP m7) (nth [msg m7 0] 0).To = wldW m7 0 := rfl
    have hz : nth [zst] (nth [msg m7 0] 0).To = zst := rfl
    unfold oneStep
    simp only
    rw [if_neg (show ¬ (([msg m7 0] : List api_Message).length : Int) = 0 by decide), if_neg (show ¬ (0 : Int) < (nth [msg m7 0] 0).Key.Time from (by decide : ¬ (0 : Int) < 0)), if_neg (show ¬ (5 : Int) ≤ (([] : List api_Done).length : Int) by decide), hw, hz,
      show nth [msg m7 0] 0 = msg m7 0 from rfl, m7_vm]
    rfl
  have e2 : ∀ st dn, oneStep (worldsP m7) 0 5 (st, [], dn) = .inl (1, 6) := fun st dn => by
    unfold oneStep
    exact if_pos rfl
  refine ⟨(setL [zst] 0 (stOf zst (rgs zst) 0 0), [], [⟨(msg m7 0).Key, 0, 3⟩]), ?_, rfl⟩
  show runP (worldsP m7) 0 5 (-1) 6 ([zst], [msg m7 0], []) = _
  unfold runP
  rw [if_neg (show ¬ ((([] : List api_Done).length : Nat) : Int) = -1 by decide), e1]
  show runP (worldsP m7) 0 5 (-1) 5 _ = _
  unfold runP
  rw [if_neg (show ¬ ((([⟨(msg m7 0).Key, 0, 3⟩] : List api_Done).length : Nat) : Int) = -1 by simp), e2]
theorem awake_true : isochronlaw14vawake.f = some true := by
  obtain ⟨s, e, h⟩ := m7_run
  unfold isochronlaw14vawake.f
  rw [show seq_Run.f (⟨[([] : List api_Instr)], [], [(⟨0, 0, 3⟩ : api_Start)], 0, 0, 5⟩ : api_Model) = some (resP m7) from Run_eq m7_ok]
  unfold resP
  rw [if_pos m7_chk, e]
  simp only [Option.bind_some, if_true]
  simp [h]
end Go.Proofs.Gx
