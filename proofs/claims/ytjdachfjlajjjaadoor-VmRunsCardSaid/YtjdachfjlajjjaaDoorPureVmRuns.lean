/-
  The plain law VmRuns: what comes of any program, state and event.
-/
import Derived.Test.YtjdachfjlajjjaaDoorVmRef
import Derived.Test.YtjdachfjlajjjaaDoorW17
namespace Go.Proofs.Gx
open Go.Sl
set_option linter.unusedVariables false
theorem outs_same (l : List api_Out) (h : l.length ≤ 8) : isochronlaw05vouts.f l l = some true := by
  unfold isochronlaw05vouts.f
  rw [if_pos rfl]
  unfold isochronlaw05vouts.l2
  refine loopR_steps (fun k => ((k : Nat) : Int)) l.length (fun k hk => ?_) ?_
  · simp only [isochronlaw05vouts.l2b]
    rw [if_pos (by omega), if_pos (by omega), if_pos (by omega), if_pos trivial, w64 (by omega) (by omega)]
    rfl
  · simp only [isochronlaw05vouts.l2b]
    rw [if_neg (by omega)]
theorem run_outs (w : api_World) (s : api_State) (m : api_Message) (hs : Rin (rgs s)) (hv : -9223372036854775808 ≤ m.Value ∧ m.Value ≤ 9223372036854775807) : (vmRun w s m).2.1.length ≤ 8 := by
  unfold vmRun
  split
  · rename_i hw
    split
    · rename_i hm
      have hI : Inv w (rgs s, s.Draws, [], 0) := ⟨hs, Nat.zero_le _, Int.le_refl _, by show (0 : Int) ≤ _; omega⟩
      obtain ⟨r, _, _, h3⟩ := run_loop (fine_of hw hm.1 hv) 4096 (Nat.le_refl _) _ hI
      cases hr : runF w m 4096 (rgs s, s.Draws, [], 0) with
      | inl x => exact (h3 x hr).outs
      | inr e => exact Nat.zero_le _
    · exact Nat.zero_le _
  · exact Nat.zero_le _
theorem Pure.vmRuns (x0 : api_World) (h0 : ok_api_World x0) (x1 : api_State) (h1 : ok_api_State x1) (x2 : api_Message) (h2 : ok_api_Message x2) : isochronlaw05vVmRuns.f x0 x1 x2 = some true := by
  have hs := rgs_in h1
  have hv := wf64 h2.2.2.1
  unfold isochronlaw05vVmRuns.f
  rw [vm_run_eq x0 x1 x2 hs hv, ref_run_eq x0 x1 x2 hs hv]
  simp only [Option.bind_some, if_true, outs_same _ (run_outs x0 x1 x2 hs hv), awake_true]
end Go.Proofs.Gx
