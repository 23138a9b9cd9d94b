/-
  The links from a process, the links to one, the way between two, a process's world: what the program and the reference compute.
-/
import Derived.Test.YtofgeidjbfmmdaaGreatDoorMod
import Derived.Test.YtofgeidjbfmmdaaGreatDoorW10
import Derived.Test.YtofgeidjbfmmdaaGreatDoorW3
namespace Go.Proofs.Gx
open Go.Sl
set_option linter.unusedVariables false
set_option linter.unusedSimpArgs false
def idxs (p : Nat → Bool) (n : Nat) : List Int := ((List.range n).filter p).map (fun k : Nat => (k : Int))
theorem idxs_succ (p : Nat → Bool) (k : Nat) : idxs p (k + 1) = if p k then idxs p k ++ [(k : Int)] else idxs p k := by
  unfold idxs
  rw [List.range_succ, List.filter_append, List.map_append]
  cases h : p k <;> simp [h]
theorem idxs_len (p : Nat → Bool) (n : Nat) : (idxs p n).length ≤ n := by
  unfold idxs
  rw [List.length_map]
  exact Nat.le_trans (List.length_filter_le _ _) (by simp)
theorem idxs_get (p : Nat → Bool) (n i : Nat) (h : i < (idxs p n).length) : ∃ k : Nat, nth (idxs p n) (i : Int) = (k : Int) ∧ k < n ∧ p k = true := by
  rw [nth_nat h]
  have hm := List.getElem_mem h
  obtain ⟨k, hk, e⟩ := List.mem_map.1 hm
  obtain ⟨h1, h2⟩ := List.mem_filter.1 hk
  exact ⟨k, e.symm, List.mem_range.1 h1, h2⟩
theorem idxs_lt (p : Nat → Bool) (n i : Nat) (h : i + 1 < (idxs p n).length) : nth (idxs p n) (i : Int) < nth (idxs p n) ((i + 1 : Nat) : Int) := by
  rw [nth_nat (show i < (idxs p n).length by omega), nth_nat h]
  have hp : (idxs p n).Pairwise (· < ·) := by
    unfold idxs
    rw [List.pairwise_map]
    exact ((List.pairwise_lt_range (n := n)).filter p).imp fun h => by omega
  exact List.pairwise_iff_getElem.1 hp i (i + 1) (by omega) h (by omega)
theorem loop_idxs {R : Type} {body : List Int × Int → Option ((List Int × Int) ⊕ R)} (p : Nat → Bool) (n : Nat) {r : R} (h : ∀ k, k < n → ∀ l : List Int, l.length ≤ k → body (l, (k : Int)) = some (.inl (if p k then l ++ [(k : Int)] else l, ((k + 1 : Nat) : Int)))) (he : body (idxs p n, (n : Int)) = some (.inr r)) : loopR body ([], 0) = some r :=
  loopR_steps (fun k => (idxs p k, (k : Int))) n (fun k hk => by rw [h k hk _ (idxs_len p k), ← idxs_succ]) he
theorem loop_map {α R : Type} {body : List α × Int → Option ((List α × Int) ⊕ R)} (g : Nat → α) (n : Nat) {r : R} (h : ∀ k, k < n → ∀ l : List α, l.length = k → body (l, (k : Int)) = some (.inl (l ++ [g k], ((k + 1 : Nat) : Int)))) (he : body ((List.range n).map g, (n : Int)) = some (.inr r)) : loopR body ([], 0) = some r :=
  loopR_steps (fun k => ((List.range k).map g, (k : Int))) n (fun k hk => by rw [h k hk _ (by simp), List.range_succ, List.map_append]; rfl) he
def fromB (m : api_Model) (n : Int) (k : Nat) : Bool := decide ((nth m.Links (k : Int)).From = n)
def toB (m : api_Model) (n : Int) (k : Nat) : Bool := decide ((nth m.Links (k : Int)).To = n)
def ways (m : api_Model) (n : Int) : List Int := idxs (fromB m n) m.Links.length
def into (m : api_Model) (n : Int) : List Int := idxs (toB m n) m.Links.length
theorem links_bound {m : api_Model} (h : ok_api_Model m) : m.Links.length * 32 ≤ 140737488351232 := by
  have := h.2.1.2
  simpa [reachBytes] using this
theorem ways_eq {m : api_Model} (h : ok_api_Model m) (n : Int) : model_Ways.f m n = some (ways m n) := by
  have hb := links_bound h
  unfold model_Ways.f model_places.f model_places.l7
  rw [loop_idxs (r := ways m n) (fromB m n) m.Links.length (fun k hk l hl => by
    simp only [model_places.l7b, model_Ways_1.f, model_places.j8, Option.bind_some]
    rw [if_pos (by omega), if_pos (by omega), w64 (by omega) (by omega)]
    unfold fromB
    by_cases e : (nth m.Links (k : Int)).From = n
    · rw [if_pos (by simp [e]), if_pos (by omega), if_pos (by simp [e])]; rfl
    · rw [if_neg (by simp [e]), if_neg (by simp [e])]; rfl) (by simp only [model_places.l7b]; rw [if_neg (by omega)]; rfl)]
  rfl
theorem ref_ways_eq {m : api_Model} (h : ok_api_Model m) (n : Int) : isochronref13vWays.f m n = some (ways m n) := by
  have hb := links_bound h
  unfold isochronref13vWays.f isochronref13vWays.l7
  rw [loop_idxs (r := ways m n) (fromB m n) m.Links.length (fun k hk l hl => by
    simp only [isochronref13vWays.l7b, isochronref13vWays.j8, Option.bind_some]
    rw [if_pos (by omega), if_pos (by omega), w64 (by omega) (by omega)]
    unfold fromB
    by_cases e : (nth m.Links (k : Int)).From = n
    · rw [if_pos e, if_pos (by omega), if_pos (by simp [e])]; rfl
    · rw [if_neg e, if_neg (by simp [e])]; rfl) (by simp only [isochronref13vWays.l7b]; rw [if_neg (by omega)]; rfl)]
/-- a process's world -/
def wlinks (m : api_Model) (n : Int) : List api_Link := (List.range (ways m n).length).map fun k : Nat => nth m.Links (nth (ways m n) (k : Int))
def wld (m : api_Model) (n : Int) : List api_Instr × Int × List api_Link × Int × Int :=
  if chkM m = 0 then if laneB m n then (nth m.Progs n, n, wlinks m n, m.Seed, 0) else ([], 0, [], 0, 1) else ([], 0, [], 0, chkM m)
/-- the same, as a world and an error -/
def wldP (m : api_Model) (n : Int) : api_World × Int :=
  if chkM m = 0 then if laneB m n then (⟨nth m.Progs n, n, wlinks m n, m.Seed⟩, 0) else (⟨[], 0, [], 0⟩, 1) else (⟨[], 0, [], 0⟩, chkM m)
theorem wldP_eq (m : api_Model) (n : Int) : wldP m n = (⟨(wld m n).1, (wld m n).2.1, (wld m n).2.2.1, (wld m n).2.2.2.1⟩, (wld m n).2.2.2.2) := by
  unfold wldP wld
  split
  · split <;> rfl
  · rfl
theorem world_eq {m : api_Model} (h : ok_api_Model m) (n : Int) : model_World.f m n = some (wldP m n) := by
  have hb := links_bound h
  unfold model_World.f wldP
  rw [model_check_eq]
  simp only [Option.bind_some, lane_eq]
  by_cases hc : chkM m = 0
  · rw [if_pos hc, if_pos hc]
    by_cases hl : laneB m n = true
    · rw [if_pos hl, if_pos hl]
      have hr : 0 ≤ n ∧ n < (m.Progs.length : Int) := by simpa [laneB] using hl
      have hq : (nth m.Progs n).length * 32 ≤ 140737488351232 := by
        have := (h.1.1 _ (nth_mem hr.1 hr.2)).2
        simpa [reachBytes] using this
      rw [if_pos hr, if_pos (by simp only [List.length_nil]; omega)]
      unfold model_World.j4
      rw [ways_eq h]
      simp only [Option.bind_some, List.nil_append]
      unfold model_World.l6
      have hw : (ways m n).length ≤ m.Links.length := idxs_len _ _
      refine loop_map (fun k : Nat => nth m.Links (nth (ways m n) (k : Int))) (ways m n).length (fun k hk l hl => ?_) ?_
      · obtain ⟨j, e1, e2, _⟩ := idxs_get (fromB m n) m.Links.length k hk
        simp only [model_World.l6b]
        rw [if_pos (by omega), if_pos (by omega), if_pos (by rw [show nth (ways m n) (k : Int) = (j : Int) from e1]; omega), if_pos (by omega), w64 (by omega) (by omega)]
        rfl
      · simp only [model_World.l6b]
        rw [if_neg (by omega)]
        rfl
    · rw [if_neg hl, if_neg hl]
  · rw [if_neg hc, if_neg hc]
theorem ref_world_eq {m : api_Model} (h : ok_api_Model m) (n : Int) : isochronref13vWorld.f m n = some (wldP m n) := by
  have hb := links_bound h
  unfold isochronref13vWorld.f wldP
  rw [model_ref_eq]
  simp only [Option.bind_some]
  by_cases hc : chkM m = 0
  · rw [if_pos hc, if_pos hc]
    unfold laneB
    by_cases h0 : n < 0
    · rw [if_pos h0, if_neg (by simp only [decide_eq_true_eq]; omega)]
    rw [if_neg h0]
    by_cases h1 : (m.Progs.length : Int) ≤ n
    · rw [if_pos h1, if_neg (by simp only [decide_eq_true_eq]; omega)]
    rw [if_neg h1, if_pos (by omega), if_pos (by simp only [decide_eq_true_eq]; omega), ref_ways_eq h]
    simp only [Option.bind_some]
    unfold isochronref13vWorld.l4
    have hw : (ways m n).length ≤ m.Links.length := idxs_len _ _
    refine loop_map (fun k : Nat => nth m.Links (nth (ways m n) (k : Int))) (ways m n).length (fun k hk l hl => ?_) ?_
    · obtain ⟨j, e1, e2, _⟩ := idxs_get (fromB m n) m.Links.length k hk
      simp only [isochronref13vWorld.l4b]
      rw [if_pos (by omega), if_pos (by omega), if_pos (by rw [show nth (ways m n) (k : Int) = (j : Int) from e1]; omega), if_pos (by omega), w64 (by omega) (by omega)]
      rfl
    · simp only [isochronref13vWorld.l4b]
      rw [if_neg (by omega)]
      rfl
  · rw [if_neg hc, if_neg hc]
theorem chkM_zero {m : api_Model} (h : chkM m = 0) : sizesB m = true ∧ (List.range m.Progs.length).any (progBad m) = false ∧ m.Links.length ≤ 1024 ∧ (List.range m.Links.length).any (linkBad m) = false ∧ m.Starts.length ≤ 4096 ∧ (List.range m.Starts.length).any (startBad m) = false := by
  unfold chkM at h
  split at h
  · rename_i h1
    split at h
    · cases h
    · rename_i h2
      split at h
      · cases h
      · rename_i h3
        split at h
        · cases h
        · rename_i h4
          split at h
          · cases h
          · rename_i h5
            split at h
            · cases h
            · rename_i h6
              refine ⟨h1, ?_, ?_, ?_, ?_, ?_⟩ <;> first | omega | simp_all
  · cases h
end Go.Proofs.Gx
