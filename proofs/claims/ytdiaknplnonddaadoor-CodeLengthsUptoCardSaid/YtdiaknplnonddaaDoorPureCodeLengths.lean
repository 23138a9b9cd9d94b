/-
  The plain law CodeLengths: nine bytes each; those of two programs, one behind the other. For lists of at most 1048576 instructions.
-/
import Derived.Test.YtdiaknplnonddaaDoorEnc
namespace Go.Proofs.Gx
open Go.Sl
set_option linter.unusedVariables false
theorem nth_app_l (a b : List api_Instr) (k : Nat) (h : k < a.length) : nth (a ++ b) (k : Int) = nth a (k : Int) := by
  rw [nth_mem _ k (by simp; omega), nth_mem a k h, List.getElem_append_left h]
theorem nth_app_r (a b : List api_Instr) (k : Nat) (h : k < b.length) : nth (a ++ b) ((a.length + k : Nat) : Int) = nth b (k : Int) := by
  rw [nth_mem _ (a.length + k) (by simp; omega), nth_mem b k h, List.getElem_append_right (by omega)]
  congr 1
  omega
theorem chk_app (a b : List api_Instr) (hj : ∀ k, k < (a ++ b).length → jumps (a ++ b) k = false) : chk (a ++ b) = 0 ↔ chk a = 0 ∧ chk b = 0 ∧ a.length + b.length ≤ 256 := by
  have hl : (a ++ b).length = a.length + b.length := List.length_append
  have nj : ∀ k, k < (a ++ b).length → (nth (a ++ b) (k : Int)).Op ≠ 10 ∧ (nth (a ++ b) (k : Int)).Op ≠ 11 := fun k hk => by
    have := hj k hk
    simpa [jumps, Bool.or_eq_false_iff] using this
  rw [chk_zero, chk_zero, chk_zero, hl]
  constructor
  · intro ⟨h1, h2⟩
    refine ⟨⟨by omega, fun k hk => ?_⟩, ⟨by omega, fun k hk => ?_⟩, h1⟩
    · have h3 := h2 k (by omega)
      have h4 := nj k (by omega)
      rw [nth_app_l a b k hk] at h3 h4
      rw [mayB_many _ _ _ h4.1 h4.2]
      exact h3
    · have h3 := h2 (a.length + k) (by omega)
      have h4 := nj (a.length + k) (by omega)
      rw [nth_app_r a b k hk] at h3 h4
      rw [mayB_many _ _ _ h4.1 h4.2]
      exact h3
  · intro ⟨h1, h2, h3⟩
    refine ⟨h3, fun k hk => ?_⟩
    by_cases hka : k < a.length
    · have h4 := nj k (by omega)
      rw [nth_app_l a b k hka] at h4 ⊢
      rw [mayB_many _ _ (a.length : Int) h4.1 h4.2]
      exact h1.2 k hka
    · obtain ⟨q, rfl⟩ := Nat.le.dest (Nat.not_lt.1 hka)
      have h4 := nj (a.length + q) (by omega)
      rw [nth_app_r a b q (by omega)] at h4 ⊢
      rw [mayB_many _ _ (b.length : Int) h4.1 h4.2]
      exact h2.2 q (by omega)
theorem encs_app_l (a b : List api_Instr) : ∀ k, k ≤ a.length → encs (a ++ b) k = encs a k
  | 0, _ => rfl
  | k + 1, h => by simp only [encs]; rw [encs_app_l a b k (by omega), nth_app_l a b k (by omega)]
theorem encs_app (a b : List api_Instr) : ∀ k, k ≤ b.length → encs (a ++ b) (a.length + k) = encs a a.length ++ encs b k
  | 0, _ => by simp only [Nat.add_zero, encs, List.append_nil]; exact encs_app_l a b a.length (Nat.le_refl _)
  | k + 1, h => by
    rw [show a.length + (k + 1) = (a.length + k) + 1 by omega]
    simp only [encs]
    rw [encs_app a b k (by omega), nth_app_r a b k (by omega), List.append_assoc]
theorem strOf_push (s : ByteArray) : ∀ (y : List Int), y.foldl (fun r n => r.push (UInt8.ofNat n.toNat)) s = s ++ strOf y := by
  have key : ∀ (y : List Int) (s t : ByteArray), y.foldl (fun r n => r.push (UInt8.ofNat n.toNat)) (s ++ t) = s ++ y.foldl (fun r n => r.push (UInt8.ofNat n.toNat)) t := by
    intro y
    induction y with
    | nil => intro s t; rfl
    | cons n y ih =>
      intro s t
      simp only [List.foldl_cons]
      rw [← ih s (t.push (UInt8.ofNat n.toNat))]
      congr 1
      apply ByteArray.ext
      simp
  intro y
  have := key y s ByteArray.empty
  rw [ByteArray.append_empty] at this
  exact this
theorem strOf_app (x y : List Int) : strOf (x ++ y) = strOf x ++ strOf y := by
  have : strOf (x ++ y) = y.foldl (fun r n => r.push (UInt8.ofNat n.toNat)) (strOf x) := by
    unfold strOf
    rw [List.foldl_append]
  rw [this, strOf_push]
theorem strOf_size (x : List Int) : (strOf x).size = x.length := by
  have key : ∀ (y : List Int) (s : ByteArray), (y.foldl (fun r n => r.push (UInt8.ofNat n.toNat)) s).size = s.size + y.length := by
    intro y
    induction y with
    | nil => intro s; rfl
    | cons n y ih =>
      intro s
      simp only [List.foldl_cons, ih, ByteArray.size_push, List.length_cons]
      omega
  have := key x ByteArray.empty
  rw [ByteArray.size_empty, Nat.zero_add] at this
  exact this
theorem lengths_end (x0 x1 : List api_Instr) (l0 : x0.length ≤ 1048576) (l1 : x1.length ≤ 1048576) (hno : ∀ k, k < (x0 ++ x1).length → jumps (x0 ++ x1) k = false) :
    isochronlaw03vCodeLengths.l28b x0 x1 (encR x0).1 (encR x0).2 (encR x1).1 (encR x1).2 (((x0 ++ x1).length : Nat) : Int) = some (.inr true) := by
  have hl : (x0 ++ x1).length = x0.length + x1.length := List.length_append
  have hw : IntKind.i64.wrap ((x0.length : Int) + (x1.length : Int)) = (x0.length : Int) + (x1.length : Int) := w64 (by omega) (by omega)
  have hc := chk_app x0 x1 hno
  simp only [isochronlaw03vCodeLengths.l28b, hw]
  rw [if_neg (by omega), if_pos (by simp; omega), if_pos (by simp; omega), List.nil_append, code_enc]
  simp only [Option.bind_some, awake_true]
  -- the program of both
  have big : ¬ chk (x0 ++ x1) = 0 → (if (encR (x0 ++ x1)).2 = 0 then some false else (if ((encR (x0 ++ x1)).1.length : Int) = 0 then some true else some false)) = some true := fun h => by
    unfold encR
    rw [if_neg h]
    simp only
    rw [if_neg h]
    rfl
  by_cases h0 : chk x0 = 0
  · have e0 : encR x0 = (encs x0 x0.length, 0) := by unfold encR; rw [if_pos h0]
    rw [e0]
    simp only
    rw [if_pos trivial]
    by_cases h1 : chk x1 = 0
    · have e1 : encR x1 = (encs x1 x1.length, 0) := by unfold encR; rw [if_pos h1]
      rw [e1]
      simp only
      rw [if_pos trivial]
      by_cases hb : 256 < (x0.length : Int) + (x1.length : Int)
      · rw [if_pos hb, big (fun h => by have := (hc.1 h).2.2; omega)]
        rfl
      · have h2 : chk (x0 ++ x1) = 0 := hc.2 ⟨h0, h1, by omega⟩
        have e2 : encR (x0 ++ x1) = (encs x0 x0.length ++ encs x1 x1.length, 0) := by
          unfold encR
          rw [if_pos h2, hl, encs_app x0 x1 _ (Nat.le_refl _)]
        have s0 := encs_len x0 x0.length
        have s1 := encs_len x1 x1.length
        rw [if_neg hb, e2]
        simp only
        rw [if_pos trivial, if_pos (by rw [strOf_size, strOf_size]; omega), strOf_app]
        simp
    · have e1 : encR x1 = ([], chk x1) := by unfold encR; rw [if_neg h1]
      rw [e1]
      simp only
      rw [if_neg h1, big (fun h => h1 (hc.1 h).2.1)]
      rfl
  · have e0 : encR x0 = ([], chk x0) := by unfold encR; rw [if_neg h0]
    rw [e0]
    simp only
    rw [if_neg h0, big (fun h => h0 (hc.1 h).1)]
    rfl
theorem lengths_step (x0 x1 : List api_Instr) (l0 : x0.length ≤ 1048576) (l1 : x1.length ≤ 1048576) (y0 y1 : List Int) (z0 z1 : Int) (k : Nat) (hk : k < (x0 ++ x1).length) :
    isochronlaw03vCodeLengths.l28b x0 x1 y0 z0 y1 z1 (k : Int) = some (if jumps (x0 ++ x1) k = true then .inr true else .inl ((k + 1 : Nat) : Int)) := by
  have hl : (x0 ++ x1).length = x0.length + x1.length := List.length_append
  have hw : IntKind.i64.wrap ((x0.length : Int) + (x1.length : Int)) = (x0.length : Int) + (x1.length : Int) := w64 (by omega) (by omega)
  have j30 : ∀ op : Int, (nth (x0 ++ x1) (k : Int)).Op = op → isochronlaw03vCodeLengths.j30 (k : Int) op = some (if jumps (x0 ++ x1) k = true then .inr true else .inl ((k + 1 : Nat) : Int)) := fun op e => by
    unfold isochronlaw03vCodeLengths.j30 jumps
    rw [e, awake_true, w64 (by omega) (by omega)]
    by_cases h10 : op = 10
    · simp [h10]
    · by_cases h11 : op = 11
      · simp [h11]
      · simp [h10, h11]
  simp only [isochronlaw03vCodeLengths.l28b, hw]
  rw [if_pos (by omega)]
  by_cases h : k < x0.length
  · rw [if_pos (by omega), if_pos (by omega)]
    exact j30 _ (by rw [nth_app_l x0 x1 k h])
  · obtain ⟨q, rfl⟩ := Nat.le.dest (Nat.not_lt.1 h)
    have e : IntKind.i64.wrap (((x0.length + q : Nat) : Int) - (x0.length : Int)) = (q : Int) := by rw [w64 (by omega) (by omega)]; omega
    rw [if_neg (by omega), e, if_pos (by omega)]
    exact j30 _ (by rw [nth_app_r x0 x1 q (by omega)])
theorem Pure.codeLengths (x0 : List api_Instr) (h0 : (okl ok_api_Instr 32) x0) (l0 : x0.length ≤ 1048576) (x1 : List api_Instr) (h1 : (okl ok_api_Instr 32) x1) (l1 : x1.length ≤ 1048576) : isochronlaw03vCodeLengths.f x0 x1 = some true := by
  have hj : isochronlaw03vCodeLengths.j16 x0 x1 (encR x0).1 (encR x0).2 (encR x1).1 (encR x1).2 = some true := by
    unfold isochronlaw03vCodeLengths.j16 isochronlaw03vCodeLengths.l28
    cases hf : (List.range (x0 ++ x1).length).find? (fun k : Nat => jumps (x0 ++ x1) k) with
    | none =>
      have hno : ∀ k, k < (x0 ++ x1).length → jumps (x0 ++ x1) k = false := fun k hk => by
        have := List.find?_eq_none.1 hf k (List.mem_range.2 hk)
        simpa using this
      exact loopR_steps (fun k : Nat => (k : Int)) (x0 ++ x1).length (fun k hk => by rw [lengths_step x0 x1 l0 l1 _ _ _ _ k hk, hno k hk]; rfl) (lengths_end x0 x1 l0 l1 hno)
    | some j =>
      obtain ⟨hp, hm, hbef⟩ := List.find?_range_eq_some.1 hf
      have hjl := List.mem_range.1 hm
      exact loopR_steps (fun k : Nat => (k : Int)) j (fun k hk => by
        have hb := hbef k hk
        rw [lengths_step x0 x1 l0 l1 _ _ _ _ k (by omega)]
        simp only [Bool.not_eq_true'] at hb
        rw [hb]; rfl) (by rw [lengths_step x0 x1 l0 l1 _ _ _ _ j hjl, hp]; rfl)
  unfold isochronlaw03vCodeLengths.f
  rw [code_enc, code_enc]
  simp only [Option.bind_some]
  by_cases h : chk x0 = 0
  · have e0 : encR x0 = (encs x0 x0.length, 0) := by unfold encR; rw [if_pos h]
    have s0 := encs_len x0 x0.length
    rw [if_pos (by rw [e0]), if_pos (by rw [e0, w64 (by omega) (by omega)]; simp only; omega)]
    exact hj
  · have e0 : encR x0 = ([], chk x0) := by unfold encR; rw [if_neg h]
    rw [if_neg (by rw [e0]; exact h), if_pos (by rw [e0]; rfl)]
    exact hj
end Go.Proofs.Gx
