/-
  The plain law ModelWhole: of a model that may be each process has a world that may be, each link is one process's, and leads into one, and is the one between them.
-/
import Derived.Test.YtihfmpohdadciaaDoorWays
namespace Go.Proofs.Gx
open Go.Sl
set_option linter.unusedVariables false
theorem idxs_add (p q r : Nat → Bool) : ∀ n, (∀ j, j < n → r j = (p j || q j)) → (∀ j, j < n → (p j && q j) = false) → (idxs r n).length = (idxs p n).length + (idxs q n).length
  | 0, _, _ => rfl
  | n + 1, h1, h2 => by
    have ih := idxs_add p q r n (fun j hj => h1 j (by omega)) (fun j hj => h2 j (by omega))
    have e1 := h1 n (by omega)
    have e2 := h2 n (by omega)
    rw [idxs_succ, idxs_succ, idxs_succ, e1]
    cases hp : p n <;> cases hq : q n <;> simp_all <;> omega
theorem idxs_all (p : Nat → Bool) : ∀ n, (∀ j, j < n → p j = true) → (idxs p n).length = n
  | 0, _ => rfl
  | n + 1, h => by
    rw [idxs_succ, if_pos (h n (by omega)), List.length_append, idxs_all p n (fun j hj => h j (by omega))]
    rfl
theorem idxs_none (p : Nat → Bool) : ∀ n, (∀ j, j < n → p j = false) → (idxs p n).length = 0
  | 0, _ => rfl
  | n + 1, h => by
    rw [idxs_succ, h n (by omega)]
    exact idxs_none p n (fun j hj => h j (by omega))
theorem any_false {p : Nat → Bool} {n : Nat} (h : (List.range n).any p = false) (k : Nat) (hk : k < n) : p k = false := by
  have := List.any_eq_false.1 h k (List.mem_range.2 hk)
  simpa using this
theorem vm_lane_eq (n : Int) : vm_lane.f n = some (decide (0 ≤ n ∧ n < 16)) := by
  unfold vm_lane.f
  by_cases h : 0 ≤ n <;> simp [h]
section
variable {m : api_Model} (h : ok_api_Model m) (hc : chkM m = 0)
include hc
theorem prog_ok (n : Nat) (hn : n < m.Progs.length) : chk (nth m.Progs (n : Int)) = 0 := by
  have := any_false (chkM_zero hc).2.1 n hn
  simpa [progBad] using this
theorem link_ok (k : Nat) (hk : k < m.Links.length) : linkOK m (nth m.Links (k : Int)) = true ∧ ∀ j, j < k → same2 (nth m.Links (j : Int)) (nth m.Links (k : Int)) = false := by
  have := any_false (chkM_zero hc).2.2.2.1 k hk
  unfold linkBad at this
  simp only [Bool.or_eq_false_iff, Bool.not_eq_false'] at this
  exact ⟨this.1, fun j hj => any_false this.2 j hj⟩
theorem progs_le : m.Progs.length ≤ 16 := by
  have := (chkM_zero hc).1
  simp only [sizesB, Bool.and_eq_true, decide_eq_true_eq] at this
  exact this.1.1.2
omit hc in
theorem wlinks_get (n : Int) (k : Nat) (hk : k < (ways m n).length) : nth (wlinks m n) (k : Int) = nth m.Links (nth (ways m n) (k : Int)) := by
  have h1 : k < (wlinks m n).length := by simpa [wlinks] using hk
  rw [nth_nat h1]
  simp [wlinks]
theorem vm_ok (n : Nat) (hn : n < m.Progs.length) (s : Int) : vm_Check.f (⟨nth m.Progs (n : Int), (n : Int), wlinks m (n : Int), s⟩ : api_World) = some 0 := by
  have hp := progs_le hc
  have hl3 := (chkM_zero hc).2.2.1
  have hw : (ways m (n : Int)).length ≤ m.Links.length := idxs_len _ _
  have hl : (wlinks m (n : Int)).length = (ways m (n : Int)).length := by simp [wlinks]
  unfold vm_Check.f
  simp only [code_check_eq, prog_ok hc n hn, Option.bind_some, if_true, vm_lane_eq]
  rw [if_pos (by simp only [decide_eq_true_eq]; omega), if_neg (by omega)]
  unfold vm_Check.l2
  refine loopR_steps (fun k => ((k : Nat) : Int)) (wlinks m (n : Int)).length (fun k hk => ?_) ?_
  · rw [hl] at hk
    obtain ⟨j, e1, e2, _⟩ := idxs_get (fromB m (n : Int)) m.Links.length k hk
    have e1 : nth (ways m (n : Int)) (k : Int) = (j : Int) := e1
    obtain ⟨⟨f0, f1⟩, ⟨t0, t1⟩, q0, q1⟩ := linkOK_of (link_ok hc j e2).1
    simp only [vm_Check.l2b, wlinks_get (n : Int) k hk, e1, vm_lane_eq, valid_eq, Option.bind_some]
    rw [if_pos (by omega), if_pos (by omega), if_pos (by simp only [decide_eq_true_eq]; omega), if_neg (by omega), if_pos (by simp only [timeB, decide_eq_true_eq]; omega), w64 (by omega) (by omega)]
    rfl
  · simp only [vm_Check.l2b]
    rw [if_neg (by omega)]
theorem way_self (j : Nat) (hj : j < m.Links.length) : model_Way.f m (nth m.Links (j : Int)).From (nth m.Links (j : Int)).To = some (j : Int) := by
  have hl3 := (chkM_zero hc).2.2.1
  unfold model_Way.f model_Way.l2
  rw [loopR_find (fun k : Nat => same2 (nth m.Links (k : Int)) (nth m.Links (j : Int))) (fun k : Nat => (k : Int)) (-1) m.Links.length (fun k hk => by
    simp only [model_Way.l2b]
    rw [if_pos (by omega), if_pos (by omega), w64 (by omega) (by omega)]
    unfold same2
    by_cases e1 : (nth m.Links (k : Int)).From = (nth m.Links (j : Int)).From
    · rw [if_pos e1]
      by_cases e2 : (nth m.Links (k : Int)).To = (nth m.Links (j : Int)).To
      · rw [if_pos e2]; simp [e1, e2]
      · rw [if_neg e2]; simp [e2]
    · rw [if_neg e1]; simp [e1]) (by simp only [model_Way.l2b]; rw [if_neg (by omega)])]
  have : (List.range m.Links.length).find? (fun k : Nat => same2 (nth m.Links (k : Int)) (nth m.Links (j : Int))) = some j := by
    rw [List.find?_range_eq_some]
    refine ⟨by simp [same2], List.mem_range.2 hj, fun i hi => ?_⟩
    have := (link_ok hc j hj).2 i hi
    simp [this]
  rw [this]
theorem whole_l28 (a b : Int) (n : Nat) : isochronlaw13vModelWhole.l28 m a b (n : Int) (wlinks m (n : Int)) (ways m (n : Int)) (into m (n : Int)) 0 = some (.inl (IntKind.i64.wrap (a + ((ways m (n : Int)).length : Int)), IntKind.i64.wrap (b + ((into m (n : Int)).length : Int)), IntKind.i64.wrap ((n : Int) + 1))) := by
  have hl3 := (chkM_zero hc).2.2.1
  have hw : (ways m (n : Int)).length ≤ m.Links.length := idxs_len _ _
  have hl : (wlinks m (n : Int)).length = (ways m (n : Int)).length := by simp [wlinks]
  unfold isochronlaw13vModelWhole.l28
  refine loopR_steps (fun k => ((k : Nat) : Int)) (ways m (n : Int)).length (fun k hk => ?_) ?_
  · obtain ⟨j, e1, e2, e3⟩ := idxs_get (fromB m (n : Int)) m.Links.length k hk
    have e1 : nth (ways m (n : Int)) (k : Int) = (j : Int) := e1
    have e4 : (nth m.Links (j : Int)).From = (n : Int) := by simpa [fromB] using e3
    have hway : model_Way.f m (n : Int) (nth m.Links (j : Int)).To = some (j : Int) := by rw [← e4]; exact way_self hc j e2
    simp only [isochronlaw13vModelWhole.l28b, wlinks_get (n : Int) k hk, e1, hway, Option.bind_some]
    rw [if_pos (by omega), if_pos (by omega), if_pos (by omega), if_pos e4, if_pos trivial, if_pos (by omega), if_pos trivial, w64 (by omega) (by omega)]
    rfl
  · simp only [isochronlaw13vModelWhole.l28b]
    rw [if_neg (by omega)]
include h in
theorem Pure.whole1 : isochronlaw13vModelWhole.l26 m (0, 0, 0) = some true := by
  have hp := progs_le hc
  have hl3 := (chkM_zero hc).2.2.1
  have ff : ∀ j, j < m.Links.length → (0 ≤ (nth m.Links (j : Int)).From ∧ (nth m.Links (j : Int)).From < (m.Progs.length : Int)) ∧ 0 ≤ (nth m.Links (j : Int)).To ∧ (nth m.Links (j : Int)).To < (m.Progs.length : Int) := fun j hj => by
    obtain ⟨a, b, _⟩ := linkOK_of (link_ok hc j hj).1
    exact ⟨a, b⟩
  let F : Nat → Nat := fun k => (idxs (fun j => decide ((nth m.Links (j : Int)).From < (k : Int))) m.Links.length).length
  let T : Nat → Nat := fun k => (idxs (fun j => decide ((nth m.Links (j : Int)).To < (k : Int))) m.Links.length).length
  have F0 : F 0 = 0 := idxs_none _ _ fun j hj => by have := ff j hj; simp; omega
  have T0 : T 0 = 0 := idxs_none _ _ fun j hj => by have := ff j hj; simp; omega
  have FP : F m.Progs.length = m.Links.length := idxs_all _ _ fun j hj => by have := ff j hj; simp; omega
  have TP : T m.Progs.length = m.Links.length := idxs_all _ _ fun j hj => by have := ff j hj; simp; omega
  have FS : ∀ k, F (k + 1) = F k + (ways m (k : Int)).length := fun k => idxs_add _ _ _ _ (fun j hj => by
      rw [Bool.eq_iff_iff]; simp only [Bool.or_eq_true, decide_eq_true_eq, fromB]; omega) (fun j hj => by
      rw [Bool.eq_false_iff]; simp only [ne_eq, Bool.and_eq_true, decide_eq_true_eq, fromB]; omega)
  have TS : ∀ k, T (k + 1) = T k + (into m (k : Int)).length := fun k => idxs_add _ _ _ _ (fun j hj => by
      rw [Bool.eq_iff_iff]; simp only [Bool.or_eq_true, decide_eq_true_eq, toB]; omega) (fun j hj => by
      rw [Bool.eq_false_iff]; simp only [ne_eq, Bool.and_eq_true, decide_eq_true_eq, toB]; omega)
  have FL : ∀ k, F k ≤ m.Links.length := fun k => idxs_len _ _
  have TL : ∀ k, T k ≤ m.Links.length := fun k => idxs_len _ _
  unfold isochronlaw13vModelWhole.l26
  have key := loopR_steps (body := isochronlaw13vModelWhole.l26b m) (fun k => (((F k : Nat) : Int), ((T k : Nat) : Int), ((k : Nat) : Int))) m.Progs.length (r := true) (fun k hk => by
    have e1 := FS k
    have e2 := TS k
    have e3 := FL (k + 1)
    have e4 := TL (k + 1)
    have hlane : laneB m (k : Int) = true := by simp [laneB]; omega
    simp only [isochronlaw13vModelWhole.l26b, world_eq h, wld, if_pos hc, if_pos hlane, Option.bind_some, vm_ok hc k hk, if_true, ways_eq h, into_eq h, whole_l28 hc]
    rw [if_pos (by omega), w64 (by omega) (by omega), w64 (by omega) (by omega), w64 (by omega) (by omega), e1, e2]
    simp only [Int.natCast_add]
    rfl) (by
    simp only [isochronlaw13vModelWhole.l26b]
    rw [if_neg (by omega), if_pos (by omega), TP]
    simp)
  simp only [F0, T0] at key
  exact key
end
theorem Pure.modelWhole (x0 : api_Model) (h0 : ok_api_Model x0) : isochronlaw13vModelWhole.f x0 = some true := by
  unfold isochronlaw13vModelWhole.f
  simp only [model_check_eq, Option.bind_some, awake_true]
  by_cases hc : chkM x0 = 0
  · rw [if_pos hc, Pure.whole1 h0 hc]
  · rw [if_neg hc]
end Go.Proofs.Gx
