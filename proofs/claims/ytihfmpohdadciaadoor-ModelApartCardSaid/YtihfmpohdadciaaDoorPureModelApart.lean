/-
  The plain law ModelApart: the links from a process and those to it rise, and are its own.
-/
import Derived.Test.YtihfmpohdadciaaDoorWays
namespace Go.Proofs.Gx
open Go.Sl
set_option linter.unusedVariables false
theorem apart_l45 {m : api_Model} (h : ok_api_Model m) (n : Int) : isochronlaw13vModelApart.l45 m n (ways m n) (into m n) (0, 0) = some true := by
  have hb := links_bound h
  have key : ∀ k, ((idxs (fromB m n) k).length + (idxs (toB m n) k).length : Nat) ≤ 2 * k := fun k => by
    have h1 := idxs_len (fromB m n) k
    have h2 := idxs_len (toB m n) k
    omega
  unfold isochronlaw13vModelApart.l45
  refine loopR_steps (fun k => ((((idxs (fromB m n) k).length + (idxs (toB m n) k).length : Nat) : Int), ((k : Nat) : Int))) m.Links.length (fun k hk => ?_) ?_
  · have hk2 := key k
    simp only [isochronlaw13vModelApart.l45b, isochronlaw13vModelApart.j48, isochronlaw13vModelApart.j47, idxs_succ]
    rw [if_pos (by omega), if_pos (by omega)]
    by_cases e1 : (nth m.Links (k : Int)).From = n <;> by_cases e2 : (nth m.Links (k : Int)).To = n
    all_goals simp only [e1, e2, if_true, if_false, fromB, toB, decide_true, decide_false, Bool.false_eq_true, List.length_append, List.length_singleton]
    · rw [if_pos (by omega), w64 (x := (k : Int) + 1) (by omega) (by omega)]
      simp only [Option.some.injEq, Sum.inl.injEq, Prod.mk.injEq]
      refine ⟨?_, by omega⟩
      generalize hc : (((idxs (fromB m n) k).length + (idxs (toB m n) k).length : Nat) : Int) = c
      rw [w64 (x := c + 1) (by omega) (by omega), w64 (x := c + 1 + 1) (by omega) (by omega)]
      omega
    · rw [if_pos (by omega), w64 (x := (k : Int) + 1) (by omega) (by omega)]
      simp only [Option.some.injEq, Sum.inl.injEq, Prod.mk.injEq]
      refine ⟨?_, by omega⟩
      rw [w64 (by omega) (by omega)]
      omega
    · rw [if_pos (by omega), w64 (x := (k : Int) + 1) (by omega) (by omega)]
      simp only [Option.some.injEq, Sum.inl.injEq, Prod.mk.injEq]
      refine ⟨?_, by omega⟩
      rw [w64 (by omega) (by omega)]
      omega
    · rw [if_pos (by omega), w64 (x := (k : Int) + 1) (by omega) (by omega)]
      rfl
  · have hk2 := key m.Links.length
    simp only [isochronlaw13vModelApart.l45b, awake_true]
    rw [if_neg (by omega)]
    unfold ways into
    rw [w64 (by omega) (by omega), if_pos (by omega)]
    rfl
theorem apart_l28 {m : api_Model} (h : ok_api_Model m) (n : Int) : isochronlaw13vModelApart.l28 m n (ways m n) (into m n) 0 = some true := by
  have hb := links_bound h
  have hw : (into m n).length ≤ m.Links.length := idxs_len _ _
  unfold isochronlaw13vModelApart.l28
  refine loopR_steps (fun k => ((k : Nat) : Int)) (into m n).length (fun k hk => ?_) ?_
  · obtain ⟨j, e1, e2, e3⟩ := idxs_get (toB m n) m.Links.length k hk
    have e1 : nth (into m n) (k : Int) = (j : Int) := e1
    have e4 : (nth m.Links (j : Int)).To = n := by simpa [toB] using e3
    simp only [isochronlaw13vModelApart.l28b, e1, e4]
    rw [if_pos (by omega), w64 (x := (k : Int) + 1) (by omega) (by omega)]
    by_cases hk0 : 0 < (k : Int)
    · have hlt := idxs_lt (toB m n) m.Links.length (k - 1) (by rw [Nat.sub_add_cancel (by omega)]; exact hk)
      rw [Nat.sub_add_cancel (by omega)] at hlt
      have hlt : nth (into m n) ((k - 1 : Nat) : Int) < nth (into m n) (k : Int) := hlt
      rw [e1] at hlt
      rw [if_pos hk0, w64 (by omega) (by omega), if_pos (by omega), if_pos (by omega), show (k : Int) - 1 = ((k - 1 : Nat) : Int) by omega, if_neg (by omega), if_neg (by omega), if_neg (by omega), if_pos (by omega), if_pos trivial]
      rfl
    · rw [if_neg hk0, if_pos (by omega), if_neg (by omega), if_neg (by omega), if_pos (by omega), if_pos trivial]
      rfl
  · simp only [isochronlaw13vModelApart.l28b, apart_l45 h n]
    rw [if_neg (by omega)]
    rfl
theorem Pure.modelApart (x0 : api_Model) (h0 : ok_api_Model x0) (x1 : Int) (h1 : (fun n => (Lit.int .i64 n).wf = true) x1) : isochronlaw13vModelApart.f x0 x1 = some true := by
  unfold isochronlaw13vModelApart.f
  rw [ways_eq h0, into_eq h0]
  simp only [Option.bind_some]
  have hb := links_bound h0
  have hw : (ways x0 x1).length ≤ x0.Links.length := idxs_len _ _
  unfold isochronlaw13vModelApart.l26
  refine loopR_steps (fun k => ((k : Nat) : Int)) (ways x0 x1).length (fun k hk => ?_) ?_
  · obtain ⟨j, e1, e2, e3⟩ := idxs_get (fromB x0 x1) x0.Links.length k hk
    have e1 : nth (ways x0 x1) (k : Int) = (j : Int) := e1
    have e4 : (nth x0.Links (j : Int)).From = x1 := by simpa [fromB] using e3
    simp only [isochronlaw13vModelApart.l26b, e1, e4]
    rw [if_pos (by omega), w64 (x := (k : Int) + 1) (by omega) (by omega)]
    by_cases hk0 : 0 < (k : Int)
    · have hlt := idxs_lt (fromB x0 x1) x0.Links.length (k - 1) (by rw [Nat.sub_add_cancel (by omega)]; exact hk)
      rw [Nat.sub_add_cancel (by omega)] at hlt
      have hlt : nth (ways x0 x1) ((k - 1 : Nat) : Int) < nth (ways x0 x1) (k : Int) := hlt
      rw [e1] at hlt
      rw [if_pos hk0, w64 (by omega) (by omega), if_pos (by omega), if_pos (by omega), show (k : Int) - 1 = ((k - 1 : Nat) : Int) by omega, if_neg (by omega), if_neg (by omega), if_neg (by omega), if_pos (by omega), if_pos trivial]
      rfl
    · rw [if_neg hk0, if_pos (by omega), if_neg (by omega), if_neg (by omega), if_pos (by omega), if_pos trivial]
      rfl
  · simp only [isochronlaw13vModelApart.l26b, apart_l28 h0 x1]
    rw [if_neg (by omega)]
    rfl
end Go.Proofs.Gx
