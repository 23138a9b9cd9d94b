/-
  The plain law CodeParts: a program without jumps may be just if each instruction may be by itself.
-/
import Derived.Test.YtdiaknplnonddaaDoorChk
namespace Go.Proofs.Gx
open Go.Sl
set_option linter.unusedVariables false
theorem nth_mem {α : Type} [Inhabited α] (l : List α) (k : Nat) (h : k < l.length) : nth l (k : Int) = l[k] := by
  obtain ⟨h1, e⟩ := nth_eq (xs := l) (i := (k : Int)) (by omega) (by omega)
  simpa using e
theorem subL_one (l : List api_Instr) (k : Nat) (h : k < l.length) : subL l (k : Int) ((k : Int) + 1) = [nth l (k : Int)] := by
  rw [nth_mem l k h]
  unfold subL
  rw [show ((k : Int) + 1).toNat - (k : Int).toNat = 1 by omega, show (k : Int).toNat = k by omega]
  rw [List.drop_eq_getElem_cons h]
  rfl
theorem chk_zero (l : List api_Instr) : chk l = 0 ↔ l.length ≤ 256 ∧ ∀ k : Nat, k < l.length → mayB (nth l (k : Int)) (l.length : Int) = true := by
  unfold chk
  by_cases h : 256 < (l.length : Int)
  · rw [if_pos h]
    exact ⟨fun x => by omega, fun x => by omega⟩
  · rw [if_neg h]
    cases hf : (List.range l.length).find? (fun k : Nat => !mayB (nth l (k : Int)) (l.length : Int)) with
    | none =>
      refine ⟨fun _ => ⟨by omega, fun k hk => ?_⟩, fun _ => rfl⟩
      have := List.find?_eq_none.1 hf k (List.mem_range.2 hk)
      simpa using this
    | some k =>
      refine ⟨fun x => by simp at x, fun x => ?_⟩
      have h1 := List.find?_some hf
      have h2 := List.mem_of_find?_eq_some hf
      rw [x.2 k (List.mem_range.1 h2)] at h1
      simp at h1
theorem mayB_many (i : api_Instr) (m n : Int) (h10 : i.Op ≠ 10) (h11 : i.Op ≠ 11) : mayB i m = mayB i n := by
  unfold mayB
  by_cases h : 0 ≤ i.Op ∧ i.Op < 17
  · rw [if_pos h, if_pos h]
    have key : ∀ k : Nat, k < 3 → bt (shapeOf i.Op) (k : Int) ≠ 112 := by
      have := ops17 (p := fun op => op ≠ 10 → op ≠ 11 → ∀ k : Nat, k < 3 → bt (shapeOf op) (k : Int) ≠ 112) i.Op h.1 h.2 (by decide)
      exact this h10 h11
    have e : ∀ (x kd : Int), kd ≠ 112 → rightB x kd m = rightB x kd n := fun x kd hk => by
      unfold rightB
      rw [if_neg hk, if_neg hk]
    have k0 := key 0 (by omega)
    have k1 := key 1 (by omega)
    have k2 := key 2 (by omega)
    rw [e _ _ (by simpa using k0), e _ _ (by simpa using k1), e _ _ (by simpa using k2)]
  · rw [if_neg h, if_neg h]
/-- whether the first k may each be, and there are not too many -/
def fineAt (l : List api_Instr) : Nat → Bool
  | 0 => decide ((l.length : Int) ≤ 256)
  | k + 1 => if fineAt l k = true then decide (chk [nth l (k : Int)] = 0) else false
theorem fineAt_iff (l : List api_Instr) : ∀ n, fineAt l n = true ↔ l.length ≤ 256 ∧ ∀ k, k < n → mayB (nth l (k : Int)) 1 = true
  | 0 => by simp [fineAt]; omega
  | n + 1 => by
    have one : chk [nth l (n : Int)] = 0 ↔ mayB (nth l (n : Int)) 1 = true := by
      rw [chk_zero]
      constructor
      · intro h
        have := h.2 0 (by simp)
        simpa [nth] using this
      · intro h
        refine ⟨by simp, fun k hk => ?_⟩
        have : k = 0 := by simpa using hk
        subst this
        simpa [nth] using h
    have ih := fineAt_iff l n
    unfold fineAt
    by_cases hf : fineAt l n = true
    · rw [if_pos hf, decide_eq_true_eq, one]
      refine ⟨fun h => ⟨(ih.1 hf).1, fun k hk => ?_⟩, fun h => h.2 n (by omega)⟩
      rcases Nat.lt_succ_iff_lt_or_eq.1 hk with h1 | h1
      · exact (ih.1 hf).2 k h1
      · rw [h1]; exact h
    · rw [if_neg hf]
      refine ⟨fun h => by simp at h, fun h => absurd (ih.2 ⟨h.1, fun k hk => h.2 k (by omega)⟩) hf⟩
def jumps (l : List api_Instr) (k : Nat) : Bool := decide ((nth l (k : Int)).Op = 10) || decide ((nth l (k : Int)).Op = 11)
theorem Pure.codeParts (x0 : List api_Instr) (h0 : (okl ok_api_Instr 32) x0) : isochronlaw03vCodeParts.f x0 = some true := by
  unfold isochronlaw03vCodeParts.f isochronlaw03vCodeParts.l4
  have hlen : x0.length ≤ 140737488355328 := by
    have := h0.2
    simp only [reachBytes] at this
    omega
  have step : ∀ k, k < x0.length → jumps x0 k = false → isochronlaw03vCodeParts.l4b x0 (fineAt x0 k, (k : Int)) = some (.inl (fineAt x0 (k + 1), ((k + 1 : Nat) : Int))) := fun k hk hj => by
    simp only [jumps, Bool.or_eq_false_iff, decide_eq_false_iff_not] at hj
    simp only [isochronlaw03vCodeParts.l4b]
    rw [if_pos (by omega), if_pos (by omega), if_neg hj.1, if_neg hj.2]
    rw [w64 (x := (k : Int) + 1) (by omega) (by omega)]
    conv => rhs; unfold fineAt
    by_cases hf : fineAt x0 k = true
    · rw [if_pos hf, if_pos hf, if_pos (by omega), subL_one x0 k hk, code_check_eq]
      rfl
    · rw [if_neg hf, if_neg hf]
      rfl
  cases hf : (List.range x0.length).find? (fun k : Nat => jumps x0 k) with
  | some j =>
    obtain ⟨hp, hm, hbef⟩ := List.find?_range_eq_some.1 hf
    have hj := List.mem_range.1 hm
    refine loopR_steps (fun k => (fineAt x0 k, ((k : Nat) : Int))) j (fun k hk => step k (by omega) (by simpa using hbef k hk)) ?_
    simp only [isochronlaw03vCodeParts.l4b, awake_true, Option.bind_some]
    rw [if_pos (by omega), if_pos (by omega)]
    simp only [jumps, Bool.or_eq_true, decide_eq_true_eq] at hp
    by_cases h10 : (nth x0 (j : Int)).Op = 10
    · rw [if_pos h10]
    · rw [if_neg h10, if_pos (by rcases hp with h | h; exact absurd h h10; exact h)]
  | none =>
    have hno : ∀ k, k < x0.length → jumps x0 k = false := fun k hk => by
      have := List.find?_eq_none.1 hf k (List.mem_range.2 hk)
      simpa using this
    refine loopR_steps (fun k => (fineAt x0 k, ((k : Nat) : Int))) x0.length (fun k hk => step k hk (hno k hk)) ?_
    simp only [isochronlaw03vCodeParts.l4b]
    rw [if_neg (by omega)]
    simp only [code_check_eq, Option.bind_some, awake_true]
    have e : decide (chk x0 = 0) = fineAt x0 x0.length := by
      rw [Bool.eq_iff_iff, decide_eq_true_eq, chk_zero, fineAt_iff]
      refine ⟨fun h => ⟨h.1, fun k hk => ?_⟩, fun h => ⟨h.1, fun k hk => ?_⟩⟩
      · have hj := hno k hk
        simp only [jumps, Bool.or_eq_false_iff, decide_eq_false_iff_not] at hj
        rw [mayB_many _ 1 (x0.length : Int) hj.1 hj.2]
        exact h.2 k hk
      · have hj := hno k hk
        simp only [jumps, Bool.or_eq_false_iff, decide_eq_false_iff_not] at hj
        rw [mayB_many _ (x0.length : Int) 1 hj.1 hj.2]
        exact h.2 k hk
    rw [if_pos e]
    rfl
end Go.Proofs.Gx
