/-
  The sequential simulator's whole run, told plainly; the program's and the reference's are the same.
-/
import Derived.Test.YtofgeidjbfmmdaaGreatDoorSeq
namespace Go.Proofs.Gx
open Go.Sl
set_option linter.unusedVariables false
set_option linter.unusedSimpArgs false
def zeroS (m : api_Model) : List api_State := List.replicate m.Progs.length zst
def startMsgs (m : api_Model) : List api_Message := (List.range m.Starts.length).map (msg m)
def beginS (m : api_Model) : SS := (zeroS m, insAll [] (startMsgs m), [])
theorem starts_len (m : api_Model) : (startMsgs m).length = m.Starts.length := by simp [startMsgs]
theorem worlds_loop {R : Type} {m : api_Model} (h : ok_api_Model m) (hp : m.Progs.length ≤ 16) {wf : Int → Option (api_World × Int)} (hw : ∀ n, wf n = some (wldP m n)) (k : List api_World → Option R) {r : R} (hk : k (worldsP m) = some r) :
    loopR (fun (s : List api_World × Int) => (if s.2 < (m.Progs.length : Int) then ((wf s.2).bind fun (y1, y2) => (if (s.1.length + ([y1]).length) * 64 ≤ 140737488355328 then some (.inl ((s.1 ++ ([y1])), IntKind.i64.wrap (s.2 + 1))) else none)) else (Option.map Sum.inr (k s.1)))) ([], 0) = some r := by
  refine loop_map (wldW m) m.Progs.length (fun k hk l hl => ?_) ?_
  · simp only
    rw [if_pos (by omega), hw, wldP_eq]
    simp only [Option.bind_some]
    rw [if_pos (by simp only [List.length_singleton]; omega), w64 (by omega) (by omega)]
    rfl
  · simp only
    rw [if_neg (by omega)]
    show Option.map Sum.inr (k (worldsP m)) = _
    rw [hk]
    rfl
theorem start_eq {m : api_Model} (h : ok_api_Model m) (hC : chkM m = 0) : seq_start.f m = some (m.Progs, m.Links, m.Starts, m.Seed, m.End, m.Budget, worldsP m, zeroS m, insAll [] (startMsgs m), []) := by
  have hz := sizes_of hC
  unfold seq_start.f
  rw [if_pos (by omega)]
  unfold seq_start.l5
  refine worlds_loop h hz.1.2 (world_eq h) (fun l => (model_Starts.f m).bind fun t => seq_start.l6 m l t ([], [], 0)) ?_
  rw [starts_list (by omega)]
  simp only [Option.bind_some]
  unfold seq_start.l6
  have hl : ((List.range m.Starts.length).map (msg m)).length = m.Starts.length := by simp
  refine (show loopR _ ((fun k : Nat => (insAll [] ((List.range k).map (msg m)), ([] : List api_Done), ((k : Nat) : Int))) 0) = _ from loopR_steps (fun k : Nat => (insAll [] ((List.range k).map (msg m)), ([] : List api_Done), ((k : Nat) : Int))) m.Starts.length (fun k hk => ?_) ?_)
  · simp only [seq_start.l6b]
    have hg : nth ((List.range m.Starts.length).map (msg m)) (k : Int) = msg m k := by
      rw [nth_nat (by rw [hl]; exact hk)]; simp
    rw [if_pos (by rw [hl]; omega), if_pos (by omega), hg, put_eq _ _ _ _ _ _ _ _ _ _ _ (by rw [insAll_len]; simp only [List.length_nil, List.length_map, List.length_range]; omega)]
    simp only [Option.bind_some]
    rw [w64 (by omega) (by omega), List.range_succ, List.map_append, List.map_singleton, insAll_snoc]
    rfl
  · simp only [seq_start.l6b]
    rw [if_neg (by rw [hl]; omega)]
    rfl
theorem good_begin {m : api_Model} (h : ok_api_Model m) (hC : chkM m = 0) : Good m (beginS m) := by
  have hz := sizes_of hC
  obtain ⟨_, _, _, _, _, h6⟩ := chkM_zero hC
  refine ⟨by simp [beginS, zeroS], fun p hp => ?_, fun x hx => ?_, ?_, ?_⟩
  · show Rin (rgs (nth (zeroS m) (p : Int)))
    rw [nth_nat (by simp [zeroS]; exact hp)]
    simp only [zeroS, List.getElem_replicate]
    exact rgs_zst
  · rcases insAll_mem.1 hx with hx | hx
    · obtain ⟨k, hk, rfl⟩ := List.mem_map.1 hx
      have hk := List.mem_range.1 hk
      have hb := List.any_eq_false.1 h6 k (List.mem_range.2 hk)
      rw [Bool.not_eq_true] at hb
      unfold startBad startOK laneB at hb
      simp only [Bool.not_eq_false', Bool.and_eq_true, decide_eq_true_eq] at hb
      have hv := h.2.2.1.1 _ (nth_mem (xs := m.Starts) (i := (k : Int)) (by omega) (by omega))
      exact ⟨hb.1, wf64 hv.2.2⟩
    · cases hx
  · show (insAll [] (startMsgs m)).length ≤ _
    rw [insAll_len, starts_len]
    simp only [List.length_nil]; omega
  · show ((0 : Nat) : Int) ≤ _
    omega
/-! ### the run -/
noncomputable def runP (ws : List api_World) (e b n : Int) : Nat → SS → SS × Int
  | 0, s => (s, 0)
  | k + 1, s => if (s.2.2.length : Int) = n then (s, 0) else match oneStep ws e b s with
    | .inl x => (s, x.1)
    | .inr s' => runP ws e b n k s'
noncomputable def runM (m : api_Model) (n : Int) : SS × Int := runP (worldsP m) m.End m.Budget n (m.Budget.toNat + 1) (beginS m)
theorem step_more {m : api_Model} (hC : chkM m = 0) {s s' : SS} (hg : Good m s) (h : oneStep (worldsP m) m.End m.Budget s = .inr s') : Good m s' ∧ s'.2.2.length = s.2.2.length + 1 ∧ (s.2.2.length : Int) < m.Budget := by
  obtain ⟨p, _, _, hg', _, _, hb, e⟩ := good_step hC hg h
  refine ⟨hg', ?_, hb⟩
  rw [e]; simp
theorem stop_is {ws : List api_World} {e b : Int} {s : SS} {x : Int × Int} (hs : oneStep ws e b s = .inl x) : x.1 = 1 ∨ x.1 = 4 ∨ x.1 = 2 ∨ x.1 = 3 := by
  unfold oneStep at hs
  simp only at hs
  split at hs
  · cases hs; exact .inl rfl
  split at hs
  · cases hs; exact .inl rfl
  split at hs
  · cases hs; exact .inr (.inl rfl)
  split at hs
  · cases hs
  split at hs
  · cases hs; exact .inr (.inr (.inl rfl))
  · cases hs; exact .inr (.inr (.inr rfl))
theorem idle_eq : seq_run_1.f 0 = some 0 := rfl
theorem stop_eq (a b : Int) : seq_run_1v2.f a b 0 = some a := rfl
theorem run_loopS {m : api_Model} (hC : chkM m = 0) (n : Int) : ∀ (k : Nat) (s : SS), Good m s → m.Budget - (s.2.2.length : Int) < (k : Int) →
    loopR (seq_run.l4b n m.Progs m.Links m.Starts m.Seed m.End m.Budget (worldsP m)) (.inl s) = some (m.Progs, m.Links, m.Starts, m.Seed, m.End, m.Budget, worldsP m, (runP (worldsP m) m.End m.Budget n k s).1.1, (runP (worldsP m) m.End m.Budget n k s).1.2.1, (runP (worldsP m) m.End m.Budget n k s).1.2.2, (runP (worldsP m) m.End m.Budget n k s).2)
  | 0, s, hg, hk => by have := hg.done; omega
  | k + 1, s, hg, hk => by
    obtain ⟨st, wt, dn⟩ := s
    rw [loopR_eq]
    simp only [seq_run.l4b, runP]
    by_cases h1 : (dn.length : Int) = n
    · rw [if_pos h1, if_pos h1, inr_bind, idle_eq]
      rfl
    · rw [if_neg h1, if_neg h1, show seq_sim_step.f m.Progs m.Links m.Starts m.Seed m.End m.Budget (worldsP m) st wt dn = _ from step_eq hC hg]
      simp only [Option.bind_some]
      cases hs : oneStep (worldsP m) m.End m.Budget (st, wt, dn) with
      | inl x =>
        obtain ⟨a, b⟩ := x
        simp only
        show loopR _ (Sum.inr (st, wt, dn, a, b)) = _
        rw [loopR_eq]
        simp only [seq_run.l4b]
        rw [inr_bind, stop_eq]
        rfl
      | inr s' =>
        obtain ⟨h2, h3, _⟩ := step_more hC hg hs
        exact run_loopS hC n k s' h2 (by simp only at h3 hk; omega)
theorem run_eq {m : api_Model} (h : ok_api_Model m) (hC : chkM m = 0) (n : Int) : seq_run.f m n = some (m.Progs, m.Links, m.Starts, m.Seed, m.End, m.Budget, worldsP m, (runM m n).1.1, (runM m n).1.2.1, (runM m n).1.2.2, (runM m n).2) := by
  have hz := sizes_of hC
  unfold seq_run.f
  rw [start_eq h hC]
  simp only [Option.bind_some]
  unfold seq_run.l4
  exact run_loopS hC n (m.Budget.toNat + 1) (beginS m) (good_begin h hC) (by show m.Budget - ((0 : Nat) : Int) < _; omega)
/-! ### what is answered -/
noncomputable def resP (m : api_Model) : api_Result × Int :=
  if chkM m = 0 then (⟨(runM m (-1)).1.2.2, (runM m (-1)).1.1, (runM m (-1)).2⟩, 0) else (⟨[], [], 0⟩, chkM m)
theorem Run_eq {m : api_Model} (h : ok_api_Model m) : seq_Run.f m = some (resP m) := by
  unfold seq_Run.f resP
  rw [model_check_eq]
  simp only [Option.bind_some]
  by_cases hC : chkM m = 0
  · rw [if_pos hC, if_pos hC, run_eq h hC]; rfl
  · rw [if_neg hC, if_neg hC]
theorem run_good {m : api_Model} (hC : chkM m = 0) (n : Int) : ∀ (k : Nat) (s : SS), Good m s → Good m (runP (worldsP m) m.End m.Budget n k s).1
  | 0, s, hg => hg
  | k + 1, s, hg => by
    simp only [runP]
    split
    · exact hg
    · cases hs : oneStep (worldsP m) m.End m.Budget s with
      | inl x => exact hg
      | inr s' => exact run_good hC n k s' (step_more hC hg hs).1
theorem runM_good {m : api_Model} (h : ok_api_Model m) (hC : chkM m = 0) (n : Int) : Good m (runM m n).1 := run_good hC n _ _ (good_begin h hC)
end Go.Proofs.Gx
