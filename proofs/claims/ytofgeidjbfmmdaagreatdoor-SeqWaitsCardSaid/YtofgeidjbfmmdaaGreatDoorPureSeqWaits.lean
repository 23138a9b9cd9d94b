/-
  The plain law SeqWaits: all that is left.
-/
import Derived.Test.YtofgeidjbfmmdaaGreatDoorPart
import Derived.Test.YtofgeidjbfmmdaaGreatDoorW20
import Derived.Test.YtofgeidjbfmmdaaGreatDoorW21
namespace Go.Proofs.Gx
open Go.Sl
set_option linter.unusedVariables false
def bare (x : api_Message) : api_Message := ⟨x.Key, x.To, x.Value, 0, x.Anti⟩
noncomputable def leftP (m : api_Model) (n : Nat) : List api_Message × Int := if chkM m = 0 then ((runM m n).1.2.1.map bare, 0) else ([], chkM m)
theorem bare_loop (l : List api_Message) (hl : l.length ≤ 1000000) : seq_Left.l4 l (l, 0) = some (l.map bare, 0) := by
  unfold seq_Left.l4
  let f : Nat → List api_Message := fun k => (l.take k).map bare ++ l.drop k
  have hfl : ∀ k, k ≤ l.length → (f k).length = l.length := fun k hk => by simp only [f, List.length_append, List.length_map, List.length_take, List.length_drop]; omega
  have h0 : f 0 = l := by simp [f]
  have hn : f l.length = l.map bare := by simp only [f, List.take_length, List.drop_length, List.append_nil]
  have key := loopR_steps (body := seq_Left.l4b l) (fun k : Nat => (f k, ((k : Nat) : Int))) l.length (r := (l.map bare, 0)) (fun k hk => by
    have hg : nth (f k) (k : Int) = l[k] := by
      rw [nth_nat (by rw [hfl k (by omega)]; exact hk)]
      simp only [f]
      rw [List.getElem_append_right (by simp; omega)]
      simp [Nat.min_eq_left (Nat.le_of_lt hk)]
    simp only [seq_Left.l4b, hg]
    rw [if_pos (by omega), if_pos (by rw [hfl k (by omega)]; omega), w64 (by omega) (by omega)]
    have hs : setL (f k) (k : Int) (bare l[k]) = f (k + 1) := by
      simp only [setL, Int.toNat_natCast, f]
      have hlk : ((l.take k).map bare).length = k := by rw [List.length_map, List.length_take]; omega
      rw [List.take_succ_eq_append_getElem hk, List.map_append, List.drop_eq_getElem_cons hk, List.set_append_right _ _ (by omega), hlk, Nat.sub_self, List.set_cons_zero, List.map_singleton, List.append_assoc]
      rfl
    exact congrArg (fun q => some (Sum.inl (q, ((k : Int) + 1)))) hs) (by
    simp only [seq_Left.l4b]
    rw [if_neg (by omega), hn])
  rw [h0] at key
  exact key
theorem Left_eq {m : api_Model} (h : ok_api_Model m) (n : Nat) : seq_Left.f m (n : Int) = some (leftP m n) := by
  unfold seq_Left.f leftP
  rw [may_eq]
  simp only [Option.bind_some]
  by_cases hC : chkM m = 0
  · rw [if_pos hC, if_pos hC, run_eq h hC]
    simp only [Option.bind_some]
    have hg := (runM_good h hC n).many
    have := (runM_few h hC n).1
    exact bare_loop _ (by omega)
  · rw [if_neg hC, if_neg hC]
theorem nth_bare {l : List api_Message} {i : Int} (h0 : 0 ≤ i) (h1 : i < l.length) : nth (l.map bare) i = bare (nth l i) := by
  have hi : i = ((i.toNat : Nat) : Int) := by omega
  rw [hi, nth_nat (by simp; omega), nth_nat (by omega)]
  simp
theorem wait_at {l : List api_Message} (h : Srt l) {i j : Nat} (hij : i < j) (hj : j < l.length) : cmpK (nth l (i : Int)).Key (nth l (j : Int)).Key = -1 := by
  rw [cmpK_lt, nth_nat (by omega), nth_nat hj]
  exact List.pairwise_iff_getElem.1 h i j (by omega) hj hij
theorem Pure.seqWaits (x0 : api_Model) (h0 : ok_api_Model x0) (x1 : Int) (h1 : (fun n => (Lit.int .u8 n).wf = true) x1) : isochronlaw14vSeqWaits.f x0 x1 = some true := by
  have b1 := wf8 h1
  obtain ⟨n, rfl⟩ := Int.eq_ofNat_of_zero_le b1.1
  have e1 : IntKind.i64.wrap ((n : Nat) : Int) = (n : Int) := w64 (by omega) (by omega)
  have e2 : IntKind.i64.wrap (((n : Nat) : Int) + 1) = ((n + 1 : Nat) : Int) := by rw [w64 (by omega) (by omega)]; omega
  unfold isochronlaw14vSeqWaits.f
  rw [e1, e2, Left_eq h0, Part_eq h0, Part_eq h0]
  simp only [Option.bind_some]
  unfold leftP partP
  by_cases hC : chkM x0 = 0
  · rw [if_pos hC, if_pos hC, if_pos hC]
    simp only
    rw [if_pos trivial, if_pos trivial]
    have hr := runM_ris h0 hC n
    have hg := (runM_good h0 hC n).many
    have hf := (runM_few h0 hC n).1
    have hf' := (runM_few h0 hC ((n + 1 : Nat) : Int)).1
    have hx := run_next (worldsP x0) x0.End x0.Budget n (x0.Budget.toNat + 1) (beginS x0) (Nat.zero_le _)
    have hx : (runM x0 ((n + 1 : Nat) : Int)).1.2.2 = (runM x0 n).1.2.2 ∨ 0 < (runM x0 n).1.2.1.length ∧ (runM x0 ((n + 1 : Nat) : Int)).1.2.2 = (runM x0 n).1.2.2 ++ [⟨(nth (runM x0 n).1.2.1 0).Key, (nth (runM x0 n).1.2.1 0).To, (nth (runM x0 n).1.2.1 0).Value⟩] := by
      unfold runM
      rw [show (((n + 1 : Nat) : Int)) = (n : Int) + 1 by omega]
      exact hx
    generalize runM x0 n = r at *
    generalize (runM x0 ((n + 1 : Nat) : Int)).1.2.2 = dn2 at *
    obtain ⟨⟨st, wt, dn⟩, sp⟩ := r
    have hs := hr.srt
    have hl := hr.last
    simp only at hs hl hx hg hf hf'
    simp only
    unfold isochronlaw14vSeqWaits.l4
    have hlen : (wt.map bare).length = wt.length := by simp
    refine loopR_steps (fun k => ((k : Nat) : Int)) wt.length (fun k hk => ?_) ?_
    · simp only [isochronlaw14vSeqWaits.l4b]
      have e3 : IntKind.i64.wrap ((k : Int) + 1) = ((k + 1 : Nat) : Int) := by rw [w64 (by omega) (by omega)]; rfl
      have hnb : nth (wt.map bare) (k : Int) = bare (nth wt (k : Int)) := nth_bare (by omega) (by omega)
      rw [if_pos (by omega), hnb]
      have hlast : 0 < dn.length → cmpK (nth dn ((dn.length - 1 : Nat) : Int)).Key (bare (nth wt (k : Int))).Key = -1 := fun hd => by
        rw [cmpK_lt]
        exact hl _ (nth_mem (i := ((dn.length - 1 : Nat) : Int)) (by omega) (by omega)) (nth wt (k : Int)) (nth_mem (xs := wt) (i := (k : Int)) (by omega) (by omega))
      have tail : (if 0 < (dn.length : Int) then (if 0 ≤ IntKind.i64.wrap ((dn.length : Int) - 1) ∧ IntKind.i64.wrap ((dn.length : Int) - 1) < (dn.length : Int) then ((event_Compare.f ((nth dn (IntKind.i64.wrap ((dn.length : Int) - 1))).Key) ((bare (nth wt (k : Int))).Key)).bind fun t => (if t = (-1) then (some (.inl (IntKind.i64.wrap ((k : Int) + 1))) : Option (Int ⊕ Bool)) else some (.inr false))) else none) else some (.inl (IntKind.i64.wrap ((k : Int) + 1)))) = some (.inl ((k + 1 : Nat) : Int)) := by
        by_cases hd : 0 < dn.length
        · have e4 : IntKind.i64.wrap ((dn.length : Int) - 1) = ((dn.length - 1 : Nat) : Int) := by rw [w64 (by omega) (by omega)]; omega
          rw [if_pos (by omega), e4, if_pos (by omega), compare_eq, hlast hd, e3]
          rfl
        · rw [if_neg (by omega), e3]
      by_cases hk0 : k = 0
      · subst hk0
        rw [if_neg (by omega)]
        by_cases hd : 0 < dn.length
        · have e4 : IntKind.i64.wrap ((dn.length : Int) - 1) = ((dn.length - 1 : Nat) : Int) := by rw [w64 (by omega) (by omega)]; omega
          rw [if_pos (by omega), e4, if_pos (by omega), if_pos (by omega), compare_eq, hlast hd, e3]
          rfl
        · rw [if_neg (by omega), e3]
      · have e2 : IntKind.i64.wrap ((k : Int) - 1) = ((k - 1 : Nat) : Int) := by rw [w64 (by omega) (by omega)]; omega
        rw [if_pos (by omega), e2, if_pos (by omega), if_pos (by omega), nth_bare (by omega) (by omega), compare_eq,
          show cmpK (bare (nth wt ((k - 1 : Nat) : Int))).Key (bare (nth wt (k : Int))).Key = -1 from wait_at hs (show k - 1 < k by omega) hk]
        simp only [Option.bind_some]
        rw [if_pos trivial]
        exact tail
    · simp only [isochronlaw14vSeqWaits.l4b]
      rw [if_neg (by omega)]
      rcases hx with hx | ⟨hw, hx⟩
      · rw [hx, if_pos (Int.le_refl _), if_pos rfl, awake_true]
        rfl
      · rw [hx]
        rw [if_neg (by simp only [List.length_append, List.length_singleton]; omega), if_pos (by omega), if_pos (by simp only [List.length_append, List.length_singleton]; omega), nth_bare (by omega) (by omega)]
        rw [nth_nat (by simp)]
        simp [bare]
  · rw [if_neg hC, if_neg hC, if_neg hC]
    simp only
    rw [if_pos trivial, if_pos (by simp), awake_true]
    rfl
end Go.Proofs.Gx
