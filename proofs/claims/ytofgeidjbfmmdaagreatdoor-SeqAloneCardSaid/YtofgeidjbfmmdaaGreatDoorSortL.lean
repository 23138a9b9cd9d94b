/-
  Rows in order, told plainly: what stands at a place, changing two places, putting in, merging.
-/
import Derived.Test.YtofgeidjbfmmdaaGreatDoorOrd
namespace Go.Proofs.Gx
open Go.Sl
set_option linter.unusedVariables false
set_option linter.unusedSimpArgs false
/-! ### the order is one -/
theorem bef_iff {a b : api_Message} : bef a b = true ↔ a.Key.Time < b.Key.Time ∨ a.Key.Time = b.Key.Time ∧ (a.Key.From < b.Key.From ∨ a.Key.From = b.Key.From ∧ (a.Key.Seq < b.Key.Seq ∨ a.Key.Seq = b.Key.Seq ∧ a.Uid < b.Uid)) := by
  have hs : ∀ x y : Int, (sgn x y = -1 ∧ x < y) ∨ (sgn x y = 1 ∧ y < x) ∨ (sgn x y = 0 ∧ x = y) := fun x y => by
    unfold sgn
    by_cases h1 : x < y
    · rw [if_pos h1]; exact .inl ⟨rfl, h1⟩
    · by_cases h2 : y < x
      · rw [if_neg h1, if_pos h2]; exact .inr (.inl ⟨rfl, h2⟩)
      · rw [if_neg h1, if_neg h2]; exact .inr (.inr ⟨rfl, by omega⟩)
  simp only [bef, decide_eq_true_eq]
  unfold cmpK
  rcases hs a.Key.Time b.Key.Time with ⟨e, h⟩ | ⟨e, h⟩ | ⟨e, h⟩
  · rw [e, if_pos (by decide)]
    exact ⟨fun _ => .inl h, fun _ => .inl (by decide)⟩
  · rw [e, if_pos (by decide)]
    constructor
    · rintro (h1 | ⟨h1, _⟩)
      · exact absurd h1 (by decide)
      · exact absurd h1 (by decide)
    · rintro (h1 | ⟨h1, _⟩) <;> omega
  · rw [e, if_neg (by decide)]
    rcases hs a.Key.From b.Key.From with ⟨e2, h2⟩ | ⟨e2, h2⟩ | ⟨e2, h2⟩
    · rw [e2, if_pos (by decide)]
      exact ⟨fun _ => .inr ⟨h, .inl h2⟩, fun _ => .inl (by decide)⟩
    · rw [e2, if_pos (by decide)]
      constructor
      · rintro (h1 | ⟨h1, _⟩)
        · exact absurd h1 (by decide)
        · exact absurd h1 (by decide)
      · rintro (h1 | ⟨_, h1 | ⟨h1, _⟩⟩) <;> omega
    · rw [e2, if_neg (by decide)]
      rcases hs a.Key.Seq b.Key.Seq with ⟨e3, h3⟩ | ⟨e3, h3⟩ | ⟨e3, h3⟩
      · rw [e3]
        exact ⟨fun _ => .inr ⟨h, .inr ⟨h2, .inl h3⟩⟩, fun _ => .inl (by decide)⟩
      · rw [e3]
        constructor
        · rintro (h1 | ⟨h1, _⟩)
          · exact absurd h1 (by decide)
          · exact absurd h1 (by decide)
        · rintro (h1 | ⟨_, h1 | ⟨_, h1 | ⟨h1, _⟩⟩⟩) <;> omega
      · rw [e3]
        constructor
        · rintro (h1 | ⟨_, h1⟩)
          · exact absurd h1 (by decide)
          · exact .inr ⟨h, .inr ⟨h2, .inr ⟨h3, h1⟩⟩⟩
        · rintro (h1 | ⟨_, h1 | ⟨_, h1 | ⟨_, h1⟩⟩⟩)
          · omega
          · omega
          · omega
          · exact .inr ⟨rfl, h1⟩
/-- not behind -/
abbrev leM (a b : api_Message) : Prop := bef b a = false
theorem leM_iff {a b : api_Message} : leM a b ↔ ¬ (b.Key.Time < a.Key.Time ∨ b.Key.Time = a.Key.Time ∧ (b.Key.From < a.Key.From ∨ b.Key.From = a.Key.From ∧ (b.Key.Seq < a.Key.Seq ∨ b.Key.Seq = a.Key.Seq ∧ b.Uid < a.Uid))) := by
  show bef b a = false ↔ _
  rw [← bef_iff, Bool.not_eq_true]
theorem leM_trans {a b c : api_Message} (h1 : leM a b) (h2 : leM b c) : leM a c := by
  rw [leM_iff] at *; omega
theorem leM_of_bef {a b : api_Message} (h : bef a b = true) : leM a b := by
  rw [leM_iff]; rw [bef_iff] at h; omega
theorem leM_refl (a : api_Message) : leM a a := by rw [leM_iff]; omega
theorem leM_total (a b : api_Message) : leM a b ∨ leM b a := by rw [leM_iff, leM_iff]; omega
theorem leM_of_not {a b : api_Message} (h : ¬ bef a b = true) : leM b a := by simpa using h
def SrtM (l : List api_Message) : Prop := l.Pairwise leM
theorem order_eq (a b : api_Message) : ∃ v, event_order.f a b = some v ∧ (v < 0 ↔ bef a b = true) := by
  have h := before_eq a b
  unfold event_Before.f at h
  cases hv : event_order.f a b with
  | none => rw [hv] at h; cases h
  | some v =>
    rw [hv] at h
    refine ⟨v, rfl, ?_⟩
    have : decide (v < 0) = bef a b := by simpa using h
    rw [← this, decide_eq_true_eq]
/-! ### places -/
section
variable {α : Type} [Inhabited α]
theorem nth_mid {P S : List α} {x : α} {i : Int} (h : i = (P.length : Int)) : nth (P ++ x :: S) i = x := by
  subst h
  rw [nth_nat (by simp)]
  simp
omit [Inhabited α] in
theorem set_mid {P S : List α} {x y : α} {i : Int} (h : i = (P.length : Int)) : setL (P ++ x :: S) i y = P ++ y :: S := by
  subst h
  simp [setL]
/-- two places are changed -/
def swp (l : List α) (i j : Int) : List α := setL (setL l i (nth l j)) j (nth l i)
theorem swp_far {P M S : List α} {x y : α} {i j : Int} (hi : i = (P.length : Int)) (hj : j = (P.length : Int) + 1 + (M.length : Int)) : swp (P ++ x :: (M ++ y :: S)) i j = P ++ y :: (M ++ x :: S) := by
  unfold swp
  have e : ∀ z : α, P ++ z :: (M ++ y :: S) = (P ++ z :: M) ++ y :: S := fun z => by simp
  rw [nth_mid hi]
  have e1 : nth (P ++ x :: (M ++ y :: S)) j = y := by
    rw [e]; exact nth_mid (by simp only [List.length_append, List.length_cons]; omega)
  rw [e1, set_mid hi, e, set_mid (by simp only [List.length_append, List.length_cons]; omega)]
  simp
theorem swp_back {P M S : List α} {x y : α} {i j : Int} (hi : i = (P.length : Int)) (hj : j = (P.length : Int) + 1 + (M.length : Int)) : swp (P ++ x :: (M ++ y :: S)) j i = P ++ y :: (M ++ x :: S) := by
  unfold swp
  have e : ∀ z : α, P ++ z :: (M ++ y :: S) = (P ++ z :: M) ++ y :: S := fun z => by simp
  have e' : ∀ z : α, P ++ z :: (M ++ x :: S) = (P ++ z :: M) ++ x :: S := fun z => by simp
  rw [nth_mid hi]
  have e1 : nth (P ++ x :: (M ++ y :: S)) j = y := by
    rw [e]; exact nth_mid (by simp only [List.length_append, List.length_cons]; omega)
  rw [e1]
  have e2 : setL (P ++ x :: (M ++ y :: S)) j x = P ++ x :: (M ++ x :: S) := by
    rw [e, set_mid (by simp only [List.length_append, List.length_cons]; omega), e']
  rw [e2, set_mid hi]
theorem split_at {l : List α} {k : Nat} (h : k < l.length) : l = l.take k ++ nth l (k : Int) :: l.drop (k + 1) := by
  rw [nth_nat h, List.getElem_cons_drop, List.take_append_drop]
end
/-! ### merging -/
theorem srt_merge {A1 A2 B1 B2 Z1 Z2 : List api_Message} (hA : SrtM (A1 ++ A2)) (hB : SrtM (B1 ++ B2)) (h1 : ∀ a ∈ A1, ∀ b ∈ B2, leM a b) (h2 : ∀ b ∈ B1, ∀ a ∈ A2, leM b a)
    (s1 : SrtM Z1) (s2 : SrtM Z2) (p1 : Z1.Perm (A1 ++ B1)) (p2 : Z2.Perm (A2 ++ B2)) : SrtM (Z1 ++ Z2) ∧ (Z1 ++ Z2).Perm ((A1 ++ A2) ++ (B1 ++ B2)) := by
  constructor
  · refine List.pairwise_append.2 ⟨s1, s2, fun x hx y hy => ?_⟩
    rcases List.mem_append.1 (p1.mem_iff.1 hx) with hx | hx <;> rcases List.mem_append.1 (p2.mem_iff.1 hy) with hy | hy
    · exact (List.pairwise_append.1 hA).2.2 x hx y hy
    · exact h1 x hx y hy
    · exact h2 x hx y hy
    · exact (List.pairwise_append.1 hB).2.2 x hx y hy
  · refine (p1.append p2).trans ?_
    have : (A1 ++ B1 ++ (A2 ++ B2)).Perm (A1 ++ (B1 ++ (A2 ++ B2))) := by rw [List.append_assoc]
    refine this.trans ?_
    rw [List.append_assoc]
    refine List.Perm.append_left _ ?_
    rw [← List.append_assoc, ← List.append_assoc]
    exact List.Perm.append_right _ List.perm_append_comm
theorem srt_lastle {A : List api_Message} (h : SrtM A) {x b : api_Message} (hx : x ∈ A) (hl : ∀ n : Nat, n + 1 = A.length → leM (nth A (n : Int)) b) : leM x b := by
  obtain ⟨i, hi, rfl⟩ := List.getElem_of_mem hx
  have hl' := hl (A.length - 1) (by omega)
  rw [nth_nat (by omega)] at hl'
  by_cases e : i = A.length - 1
  · subst e; exact hl'
  · exact leM_trans (List.pairwise_iff_getElem.1 h i (A.length - 1) hi (by omega) (by omega)) hl'
theorem srt_firstle {A : List api_Message} (h : SrtM A) {x b : api_Message} (hx : x ∈ A) (hl : 0 < A.length → leM b (nth A 0)) : leM b x := by
  obtain ⟨i, hi, rfl⟩ := List.getElem_of_mem hx
  have hl' := hl (by omega)
  have e0 : nth A 0 = A[0] := nth_nat (k := 0) (by omega)
  rw [e0] at hl'
  by_cases e : i = 0
  · subst e; exact hl'
  · exact leM_trans hl' (List.pairwise_iff_getElem.1 h 0 i (by omega) hi (by omega))
/-- one is put into a row in order -/
theorem srt_put {X1 X2 : List api_Message} {x : api_Message} (h : SrtM (X1 ++ X2)) (h1 : ∀ a ∈ X1, leM a x) (h2 : ∀ b ∈ X2, leM x b) : SrtM (X1 ++ x :: X2) := by
  obtain ⟨a, b, c⟩ := List.pairwise_append.1 h
  refine List.pairwise_append.2 ⟨a, List.pairwise_cons.2 ⟨h2, b⟩, fun y hy z hz => ?_⟩
  rcases List.mem_cons.1 hz with rfl | hz
  · exact h1 y hy
  · exact c y hy z hz
end Go.Proofs.Gx
