/-
  The plain law ModelWorlds: in what a process's handler runs.
-/
import Derived.Test.YtihfmpohdadciaaDoorWays
namespace Go.Proofs.Gx
open Go.Sl
set_option linter.unusedVariables false
theorem worlds_l8 (l : List api_Link) (hb : l.length * 32 ≤ 140737488351232) : isochronlaw13vModelWorlds.l8 l l 0 = some true := by
  unfold isochronlaw13vModelWorlds.l8
  refine loopR_steps (fun k => ((k : Nat) : Int)) l.length (fun k hk => ?_) ?_
  · simp only [isochronlaw13vModelWorlds.l8b]
    rw [if_pos (by omega), if_pos (by omega), if_pos (by omega), if_pos trivial, w64 (by omega) (by omega)]
    rfl
  · simp only [isochronlaw13vModelWorlds.l8b, awake_true]
    rw [if_neg (by omega)]
    rfl
theorem worlds_l6 (p : List api_Instr) (l : List api_Link) (hb : l.length * 32 ≤ 140737488351232) (hp : p.length * 32 ≤ 140737488351232) : isochronlaw13vModelWorlds.l6 p l p l 0 = some true := by
  unfold isochronlaw13vModelWorlds.l6
  refine loopR_steps (fun k => ((k : Nat) : Int)) p.length (fun k hk => ?_) ?_
  · simp only [isochronlaw13vModelWorlds.l6b]
    rw [if_pos (by omega), if_pos (by omega), if_pos (by omega), if_pos trivial, w64 (by omega) (by omega)]
    rfl
  · simp only [isochronlaw13vModelWorlds.l6b, worlds_l8 l hb]
    rw [if_neg (by omega)]
    rfl
theorem Pure.modelWorlds (x0 : api_Model) (h0 : ok_api_Model x0) (x1 : Int) (h1 : (fun n => (Lit.int .i64 n).wf = true) x1) : isochronlaw13vModelWorlds.f x0 x1 = some true := by
  unfold isochronlaw13vModelWorlds.f
  rw [world_eq h0, ref_world_eq h0]
  simp only [Option.bind_some, if_true]
  have hb := links_bound h0
  unfold wld
  split
  · split
    · rename_i hc hl
      have hr : 0 ≤ x1 ∧ x1 < (x0.Progs.length : Int) := by simpa [laneB] using hl
      have hq : (nth x0.Progs x1).length * 32 ≤ 140737488351232 := by
        have := (h0.1.1 _ (nth_mem hr.1 hr.2)).2
        simpa [reachBytes] using this
      have hw : (ways x0 x1).length ≤ x0.Links.length := idxs_len _ _
      exact worlds_l6 _ _ (by simp only [wlinks, List.length_map, List.length_range]; omega) hq
    · exact worlds_l6 _ _ (by simp) (by simp)
  · exact worlds_l6 _ _ (by simp) (by simp)
end Go.Proofs.Gx
