/-
  The plain law VmTells: what a handler sees.
-/
import Derived.Test.YtjdachfjlajjjaaDoorAwake
namespace Go.Proofs.Gx
open Go.Sl
set_option linter.unusedVariables false
def wTells (n : Int) : api_World := ⟨[(⟨14, 0, 0, 0⟩ : api_Instr), (⟨15, 1, 0, 0⟩ : api_Instr), (⟨16, 2, 0, 0⟩ : api_Instr), (⟨2, 3, 0, 0⟩ : api_Instr)], n, [], 0⟩
theorem wTells_ok (n : Int) (h : 0 ≤ n ∧ n < 16) : chkW (wTells n) = 0 := by
  unfold chkW
  rw [if_pos (show chk (wTells n).Prog = 0 from rfl), if_pos (show laneW (wTells n).Self = true from decide_eq_true h)]
  rfl
theorem Pure.vmTells (x0 : api_Message) (h0 : ok_api_Message x0) (x1 : Int) (h1 : (fun n => (Lit.int .u8 n).wf = true) x1) : isochronlaw05vVmTells.f x0 x1 = some true := by
  have hx := wf8 h1
  have hv := wf64 h0.2.2.1
  unfold isochronlaw05vVmTells.f
  have e16 : Int.tmod x1 16 = x1 % 16 := tmod_pos' hx.1 16
  rw [e16, w64 (x := x1 % 16) (by omega) (by omega)]
  change (vm_Run.f (wTells (x1 % 16)) zst x0).bind _ = some true
  rw [vm_run_eq (wTells (x1 % 16)) zst x0 rgs_zst hv]
  have hw := wTells_ok (x1 % 16) (by omega)
  simp only [Option.bind_some, event_check_eq]
  by_cases hm : evB x0 = true
  · have hr : runF (wTells (x1 % 16)) x0 4096 (rgs zst, zst.Draws, [], 0) = .inl (upR (upR (upR (upR (rgs zst) 0 x0.Value) 1 x0.Key.Time) 2 (x1 % 16)) 3 (rdR (upR (upR (upR (rgs zst) 0 x0.Value) 1 x0.Key.Time) 2 (x1 % 16)) 0), 0, [], 4) := by
      rw [show (4096 : Nat) = 4092 + 1 + 1 + 1 + 1 from rfl, runF_go' (s' := (upR (rgs zst) 0 x0.Value, 0, [], 1)) 4 rfl (by decide) rfl, runF_go' (s' := (upR (upR (rgs zst) 0 x0.Value) 1 x0.Key.Time, 0, [], 2)) 4 rfl (by decide) rfl,
        runF_go' (s' := (upR (upR (upR (rgs zst) 0 x0.Value) 1 x0.Key.Time) 2 (x1 % 16), 0, [], 3)) 4 rfl (by decide) rfl, runF_go' (s' := (upR (upR (upR (upR (rgs zst) 0 x0.Value) 1 x0.Key.Time) 2 (x1 % 16)) 3 (rdR (upR (upR (upR (rgs zst) 0 x0.Value) 1 x0.Key.Time) 2 (x1 % 16)) 0), 0, [], 4)) 4 rfl (by decide) rfl, runF_stop' 4 rfl (by decide)]
    rw [vmRun_ok hw hm rfl hr]
    generalize hf : upR (upR (upR (upR (rgs zst) 0 x0.Value) 1 x0.Key.Time) 2 (x1 % 16)) 3 (rdR (upR (upR (upR (rgs zst) 0 x0.Value) 1 x0.Key.Time) 2 (x1 % 16)) 0) = f
    have f0 : f 0 = x0.Value := by rw [← hf]; rfl
    have f1 : f 1 = x0.Key.Time := by rw [← hf]; rfl
    have f2 : f 2 = x1 % 16 := by rw [← hf]; rfl
    have f3 : f 3 = x0.Value := by rw [← hf]; rfl
    have f4 : f 4 = 0 := by rw [← hf]; rfl
    simp only [stOf, f0, f1, f2, f3, f4, if_true, decide_true]
  · rw [vmRun_bad hw (fun h => hm h.1)]
    simp only [Bool.not_eq_true] at hm
    rw [hm]
    rfl
end Go.Proofs.Gx
