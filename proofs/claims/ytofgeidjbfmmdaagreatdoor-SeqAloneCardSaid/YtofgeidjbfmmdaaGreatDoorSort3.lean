/-
  The library's sort of messages, told plainly: blocks, and the whole.
-/
import Derived.Test.YtofgeidjbfmmdaaGreatDoorSort2
import Derived.Test.YtofgeidjbfmmdaaGreatDoorW21
import Derived.Test.YtofgeidjbfmmdaaGreatDoorW21
namespace Go.Proofs.Gx
open Go.Sl
set_option linter.unusedVariables false
set_option linter.unusedSimpArgs false
/-- rows of s in order, one behind the other; the last may be shorter -/
inductive Blks (s : Nat) : List api_Message → Prop
  | last {l : List api_Message} : l.length ≤ s → SrtM l → Blks s l
  | cons {x l : List api_Message} : x.length = s → SrtM x → Blks s l → Blks s (x ++ l)
theorem Blks.short {s : Nat} {l : List api_Message} (h : Blks s l) (hl : l.length ≤ s) : SrtM l := by
  cases h with
  | last _ h => exact h
  | @cons x l h1 h2 h3 =>
    simp only [List.length_append] at hl
    have : l = [] := List.length_eq_zero_iff.1 (by omega)
    subst this
    simpa using h2
theorem Blks.split {s : Nat} {l : List api_Message} (h : Blks s l) (hl : s < l.length) : ∃ x r, l = x ++ r ∧ x.length = s ∧ SrtM x ∧ Blks s r := by
  cases h with
  | last h1 _ => omega
  | @cons x l h1 h2 h3 => exact ⟨x, l, rfl, h1, h2, h3⟩
theorem Blks.cut {s : Nat} (hs : 0 < s) {l : List api_Message} (h : Blks s l) (hl : s ≤ l.length) : ∃ x r, l = x ++ r ∧ x.length = s ∧ SrtM x ∧ Blks s r := by
  by_cases e : s < l.length
  · exact h.split e
  · exact ⟨l, [], by simp, by omega, h.short (by omega), .last (by simp) List.Pairwise.nil⟩
theorem blocks_eq {d0 : List api_Message} (hd : d0.length ≤ 1099511627776) : ∀ (n : Nat) (P R : List api_Message), R.length ≤ n → (P ++ R).length = d0.length →
    ∃ W, Blks 20 W ∧ W.Perm R ∧ loopR (slices_stableCmpFunc_api_Message.l14b d0 (d0.length : Int)) (P ++ R, (P.length : Int), (P.length : Int) + 20) = slices_stableCmpFunc_api_Message.l21 d0 (d0.length : Int) (P ++ W, 20)
  | n, P, R, hn, hl => by
    have hl' := hl
    simp only [List.length_append] at hl'
    rw [loopR_eq]
    simp only [slices_stableCmpFunc_api_Message.l14b]
    by_cases c : (P.length : Int) + 20 ≤ (d0.length : Int)
    · rw [if_pos c]
      have eR : R = R.take 20 ++ R.drop 20 := (List.take_append_drop _ _).symm
      have r1 : (R.take 20).length = 20 := by rw [List.length_take]; omega
      have r2 : (R.drop 20).length = R.length - 20 := List.length_drop
      obtain ⟨X, x1, x2, x3⟩ := insertion_eq P (R.take 20) (R.drop 20) (a := (P.length : Int)) (b := (P.length : Int) + 20) rfl (by omega) (by simp only [List.length_append]; omega)
      have hx := x2.length_eq
      rw [r1] at hx
      rw [← eR] at x3
      rw [x3]
      simp only [Option.bind_some]
      rw [w64 (x := (P.length : Int) + 20 + 20) (by omega) (by omega)]
      match n, hn with
      | 0, hn => omega
      | n + 1, hn =>
        obtain ⟨W, w1, w2, w3⟩ := blocks_eq hd n (P ++ X) (R.drop 20) (by omega) (by simp only [List.length_append]; omega)
        refine ⟨X ++ W, .cons hx x1 w1, ?_, ?_⟩
        · conv => rhs; rw [eR]
          exact x2.append w2
        · simp only [List.length_append, hx] at w3
          show loopR _ (P ++ (X ++ R.drop 20), (P.length : Int) + 20, (P.length : Int) + 20 + 20) = _
          rw [show P ++ (X ++ R.drop 20) = (P ++ X) ++ R.drop 20 by simp, show (P.length : Int) + 20 = ((P.length + 20 : Nat) : Int) by omega, w3]
          simp
    · rw [if_neg c, inr_bind]
      obtain ⟨W, w1, w2, w3⟩ := insertion_eq P R [] (a := (P.length : Int)) (b := (d0.length : Int)) rfl (by omega) (by simp only [List.length_append, List.length_nil]; omega)
      have hw := w2.length_eq
      simp only [List.append_nil] at w3
      rw [w3]
      simp only [Option.bind_some]
      exact ⟨W, .last (by omega) w1, w2, rfl⟩
theorem pass_eq {N : Int} {s : Nat} (hs : 0 < s) (hs2 : (s : Int) ≤ 1099511627776) : ∀ (n : Nat) (P R : List api_Message), R.length ≤ n → Blks s R → N = (P.length : Int) + R.length → N ≤ 1099511627776 →
    ∃ W, Blks (2 * s) W ∧ W.Perm R ∧ loopR (slices_stableCmpFunc_api_Message.l23b N (s : Int)) (P ++ R, (P.length : Int), (P.length : Int) + 2 * (s : Int)) = some (.inl (P ++ W, (s : Int) * 2))
  | n, P, R, hn, hB, hN, hN1 => by
    rw [loopR_eq]
    simp only [slices_stableCmpFunc_api_Message.l23b]
    rw [w64 (x := (P.length : Int) + (s : Int)) (by omega) (by omega), w64 (x := 2 * (s : Int)) (by omega) (by omega)]
    by_cases c : (P.length : Int) + 2 * (s : Int) ≤ N
    · rw [if_pos c, w64 (x := (P.length : Int) + 2 * (s : Int) + 2 * (s : Int)) (by omega) (by omega)]
      obtain ⟨X, R1, rfl, x1, x2, x3⟩ := hB.cut hs (by omega)
      simp only [List.length_append] at hN hn
      obtain ⟨Y, R', rfl, y1, y2, y3⟩ := x3.cut hs (by omega)
      simp only [List.length_append] at hN hn
      obtain ⟨Z, z1, z2, z3⟩ := sym_eq P X Y R' x2 y2 (by omega) (by omega) (a := (P.length : Int)) (m := (P.length : Int) + (s : Int)) (b := (P.length : Int) + 2 * (s : Int)) rfl (by omega) (by omega) (by simp only [List.length_append]; omega)
      have hz := z2.length_eq
      simp only [List.length_append] at hz
      rw [z3]
      simp only [Option.bind_some]
      match n, hn with
      | 0, hn => omega
      | n + 1, hn =>
        obtain ⟨W, w1, w2, w3⟩ := pass_eq hs hs2 n (P ++ Z) R' (by omega) y3 (by simp only [List.length_append]; omega) hN1
        refine ⟨Z ++ W, .cons (by omega) z1 w1, ?_, ?_⟩
        · rw [← List.append_assoc X]; exact z2.append w2
        · show loopR _ (P ++ (Z ++ R'), (P.length : Int) + 2 * (s : Int), (P.length : Int) + 2 * (s : Int) + 2 * (s : Int)) = _
          rw [show P ++ (Z ++ R') = (P ++ Z) ++ R' by simp, show (P.length : Int) + 2 * (s : Int) = ((P ++ Z).length : Int) by simp only [List.length_append]; omega, w3]
          simp
    · rw [if_neg c, inr_bind]
      unfold slices_stableCmpFunc_api_Message.j24
      rw [w64 (x := (s : Int) * 2) (by omega) (by omega)]
      by_cases c2 : (P.length : Int) + (s : Int) < N
      · rw [if_pos c2]
        obtain ⟨X, Y, rfl, x1, x2, x3⟩ := hB.cut hs (by omega)
        simp only [List.length_append] at hN hn
        obtain ⟨Z, z1, z2, z3⟩ := sym_eq P X Y [] x2 (x3.short (by omega)) (by omega) (by omega) (a := (P.length : Int)) (m := (P.length : Int) + (s : Int)) (b := N) rfl (by omega) (by omega) (by simp only [List.length_append, List.length_nil]; omega)
        have hz := z2.length_eq
        simp only [List.length_append] at hz
        simp only [List.append_nil] at z3
        rw [z3]
        exact ⟨Z, .last (by omega) z1, z2, rfl⟩
      · rw [if_neg c2]
        exact ⟨R, .last (by omega) (hB.short (by omega)), List.Perm.refl _, rfl⟩
theorem passes_eq {d0 : List api_Message} (hd : d0.length ≤ 1099511627776) : ∀ (n : Nat) (s : Nat) (R : List api_Message), 0 < s → d0.length - s ≤ n → Blks s R → R.length = d0.length → (s : Int) ≤ 4398046511104 →
    ∃ W, SrtM W ∧ W.Perm R ∧ loopR (slices_stableCmpFunc_api_Message.l21b d0 (d0.length : Int)) (R, (s : Int)) = some W
  | n, s, R, hs, hn, hB, hl, hs2 => by
    rw [loopR_eq]
    simp only [slices_stableCmpFunc_api_Message.l21b]
    by_cases c : (s : Int) < (d0.length : Int)
    · rw [if_pos c, w64 (x := 2 * (s : Int)) (by omega) (by omega)]
      unfold slices_stableCmpFunc_api_Message.l23
      obtain ⟨W, w1, w2, w3⟩ := pass_eq hs (by omega) _ [] R (Nat.le_refl _) hB (N := (d0.length : Int)) (by simp only [List.length_nil]; omega) (by omega)
      have hw := w2.length_eq
      simp only [List.nil_append, List.length_nil] at w3
      rw [show (0 : Int) = ((0 : Nat) : Int) from rfl, show 2 * (s : Int) = ((0 : Nat) : Int) + 2 * (s : Int) by omega, w3]
      match n, hn with
      | 0, hn => omega
      | n + 1, hn =>
        obtain ⟨V, v1, v2, v3⟩ := passes_eq hd n (2 * s) W (by omega) (by omega) w1 (by omega) (by omega)
        refine ⟨V, v1, v2.trans w2, ?_⟩
        show loopR _ (W, (s : Int) * 2) = _
        rw [show (s : Int) * 2 = ((2 * s : Nat) : Int) by omega]
        exact v3
    · rw [if_neg c, if_pos hl]
      exact ⟨R, hB.short (by omega), List.Perm.refl _, rfl⟩
theorem stable_eq (l : List api_Message) (hl : l.length ≤ 1099511627776) : ∃ W, SrtM W ∧ W.Perm l ∧ slices_stableCmpFunc_api_Message.f l (l.length : Int) = some W := by
  unfold slices_stableCmpFunc_api_Message.f slices_stableCmpFunc_api_Message.l14
  obtain ⟨W, w1, w2, w3⟩ := blocks_eq hl _ [] l (Nat.le_refl _) (by simp)
  simp only [List.nil_append, List.length_nil] at w3
  have w3' : loopR (slices_stableCmpFunc_api_Message.l14b l (l.length : Int)) (l, 0, 20) = slices_stableCmpFunc_api_Message.l21 l (l.length : Int) (W, 20) := w3
  rw [w3']
  unfold slices_stableCmpFunc_api_Message.l21
  obtain ⟨V, v1, v2, v3⟩ := passes_eq hl _ 20 W (by decide) (Nat.le_refl _) w1 w2.length_eq (by decide)
  exact ⟨V, v1, v2.trans w2, v3⟩
theorem Sorted_eq (l : List api_Message) (hl : l.length ≤ 1000000) : ∃ W, SrtM W ∧ W.Perm l ∧ event_Sorted.f l = some W := by
  obtain ⟨W, w1, w2, w3⟩ := stable_eq l (by omega)
  refine ⟨W, w1, w2, ?_⟩
  unfold event_Sorted.f event_sorted_api_Message.f slices_Clone_api_Message_api_Message.f slices_Clone_api_Message_api_Message_3.f slices_SortStableFunc_api_Message_api_Message.f
  rw [if_pos (by simp only [List.length_nil]; omega)]
  simp only [List.nil_append, Option.bind_some]
  rw [w3]
  simp only [Option.bind_some]
  rw [if_pos w2.length_eq]
  rfl
end Go.Proofs.Gx
