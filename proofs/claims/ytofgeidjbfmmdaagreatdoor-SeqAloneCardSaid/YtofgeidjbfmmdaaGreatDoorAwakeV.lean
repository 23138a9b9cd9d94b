/-
  The program computes at all.
-/
import Derived.Test.YtofgeidjbfmmdaaGreatDoorVm
namespace Go.Proofs.Gx
open Go.Sl
set_option linter.unusedVariables false
def w7 : api_World := ⟨[(⟨1, 0, 7, 0⟩ : api_Instr)], 0, [], 0⟩
def m0 : api_Message := ⟨⟨0, 0, 0⟩, 0, 0, 0, false⟩
theorem rgs_zst : Rin (rgs zst) := fun j => by
  have : rgs zst j = 0 := by
    match j with
    | 0 => rfl
    | 1 => rfl
    | 2 => rfl
    | 3 => rfl
    | 4 => rfl
    | 5 => rfl
    | 6 => rfl
    | 7 => rfl
    | k + 8 => rfl
  rw [this]
  decide
/-- a step of a run that goes on -/
theorem runF_go {w : api_World} {m : api_Message} {k : Nat} {rg : Rg} {dr : Int} {outs : List api_Out} {at_ : Int} {s' : Sv} (h : at_ < (w.Prog.length : Int)) (e : stp w m (nth w.Prog at_) rg dr outs (at_ + 1) = .inl s') :
    runF w m (k + 1) (rg, dr, outs, at_) = runF w m k s' := by
  simp only [runF]
  rw [if_pos h, e]
theorem runF_stop {w : api_World} {m : api_Message} {rg : Rg} {dr : Int} {outs : List api_Out} {at_ : Int} (h : ¬ at_ < (w.Prog.length : Int)) : ∀ k, runF w m k (rg, dr, outs, at_) = .inl (rg, dr, outs, at_)
  | 0 => rfl
  | k + 1 => by
    simp only [runF]
    rw [if_neg h]
theorem runF_go' {w : api_World} {m : api_Message} {k : Nat} {rg : Rg} {dr : Int} {outs : List api_Out} {at_ : Int} {s' : Sv} (n : Nat) (hn : w.Prog.length = n) (h : at_ < (n : Int)) (e : stp w m (nth w.Prog at_) rg dr outs (at_ + 1) = .inl s') :
    runF w m (k + 1) (rg, dr, outs, at_) = runF w m k s' := runF_go (by rw [hn]; exact h) e
theorem runF_stop' {w : api_World} {m : api_Message} {rg : Rg} {dr : Int} {outs : List api_Out} {at_ : Int} (n : Nat) (hn : w.Prog.length = n) (h : ¬ at_ < (n : Int)) (k : Nat) : runF w m k (rg, dr, outs, at_) = .inl (rg, dr, outs, at_) := runF_stop (by rw [hn]; exact h) k
theorem vmRun_ok {w : api_World} {s : api_State} {m : api_Message} {f : Rg} {dr at_ : Int} {outs : List api_Out} (hw : chkW w = 0) (hm : evB m = true) (hs : stB s = true) (hr : runF w m 4096 (rgs s, s.Draws, [], 0) = .inl (f, dr, outs, at_)) : vmRun w s m = (stOf s f dr outs.length, outs, 0) := by
  unfold vmRun
  rw [if_pos hw, if_pos ⟨hm, hs⟩, hr]
theorem vmRun_err {w : api_World} {s : api_State} {m : api_Message} {e : Int} (hw : chkW w = 0) (hm : evB m = true) (hs : stB s = true) (hr : runF w m 4096 (rgs s, s.Draws, [], 0) = .inr e) : vmRun w s m = (s, [], e) := by
  unfold vmRun
  rw [if_pos hw, if_pos ⟨hm, hs⟩, hr]
theorem vmRun_bad {w : api_World} {s : api_State} {m : api_Message} (hw : chkW w = 0) (hm : ¬ (evB m = true ∧ stB s = true)) : vmRun w s m = (zst, [], 1) := by
  unfold vmRun
  rw [if_pos hw, if_neg hm]
end Go.Proofs.Gx
