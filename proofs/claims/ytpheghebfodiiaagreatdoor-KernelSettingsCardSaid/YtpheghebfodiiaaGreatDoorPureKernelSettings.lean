/-
  The plain law KernelSettings, and what it rests on.
-/
import Derived.Test.YtpheghebfodiiaaGreatDoorOpen
import Derived.Test.YtpheghebfodiiaaGreatDoorWalk
import Derived.Test.YtpheghebfodiiaaGreatDoorW3
import Derived.Test.YtpheghebfodiiaaGreatDoorW8
import Derived.Test.YtpheghebfodiiaaGreatDoorW9
import Derived.Test.YtpheghebfodiiaaGreatDoorW4
import Derived.Test.YtpheghebfodiiaaGreatDoorW6
import Derived.Test.YtpheghebfodiiaaGreatDoorW1
import Derived.Test.YtpheghebfodiiaaGreatDoorW2
import Derived.Test.YtpheghebfodiiaaGreatDoorW5
import Derived.Test.YtpheghebfodiiaaGreatDoorW10
namespace Go.Proofs.Gx
section
open Go.Sl
set_option linter.unusedVariables false
theorem loopR_findS {S R : Type} {body : S → Option (S ⊕ R)} (st : Nat → S) (p : Nat → Bool) (g : Nat → R) (e : R) (n : Nat) (h : ∀ k, k < n → (∀ j, j < k → p j = false) → body (st k) = some (if p k then .inr (g k) else .inl (st (k + 1)))) (he : (∀ j, j < n → p j = false) → body (st n) = some (.inr e)) :
    loopR body (st 0) = some (match (List.range n).find? p with | some k => g k | none => e) := by
  cases hf : (List.range n).find? p with
  | none =>
    have hn : ∀ k, k < n → p k = false := fun k hk => by
      have := List.find?_eq_none.1 hf k (List.mem_range.2 hk)
      simpa using this
    exact loopR_steps st n (fun k hk => by rw [h k hk (fun j hj => hn j (by omega)), hn k hk]; rfl) (he hn)
  | some k =>
    obtain ⟨hp, hm⟩ := List.find?_range_eq_some.1 hf
    obtain ⟨hk, hbef⟩ := hm
    have hb : ∀ j, j < k → p j = false := fun j hj => by
      have := hbef j hj
      simpa using this
    have hkn := List.mem_range.1 hk
    exact loopR_steps st k (fun j hj => by rw [h j (by omega) (fun i hi => hb i (by omega)), hb j hj]; rfl) (by rw [h k hkn hb, hp]; rfl)
theorem find_any (p : Nat → Bool) (n : Nat) {R : Type} (a b : R) : (match (List.range n).find? p with | some _ => a | none => b) = if (List.range n).any p then a else b := by
  cases hf : (List.range n).find? p with
  | none =>
    have : (List.range n).any p = false := by
      rw [List.any_eq_false]
      exact fun x hx => List.find?_eq_none.1 hf x hx
    rw [this]; rfl
  | some k =>
    have h1 := List.find?_some hf
    have h2 := List.mem_of_find?_eq_some hf
    have : (List.range n).any p = true := List.any_eq_true.2 ⟨k, h2, h1⟩
    rw [this]; rfl
theorem loopR_any {R : Type} {body : Int → Option (Int ⊕ R)} (p : Nat → Bool) (a e : R) (n : Nat) (h : ∀ k, k < n → body (k : Int) = some (if p k then .inr a else .inl ((k + 1 : Nat) : Int))) (he : body (n : Int) = some (.inr e)) :
    loopR body 0 = some (if (List.range n).any p then a else e) := (loopR_find p (fun _ => a) e n h he).trans (congrArg some (find_any p n a e))
theorem nth_nat {α : Type} [Inhabited α] {xs : List α} {k : Nat} (h : k < xs.length) : nth xs (k : Int) = xs[k] := by
  simp [nth, List.getD_eq_getElem?_getD, h]
theorem nth_mem {α : Type} [Inhabited α] {xs : List α} {i : Int} (h0 : 0 ≤ i) (h1 : i < xs.length) : nth xs i ∈ xs := by
  obtain ⟨h, e⟩ := nth_eq h0 h1
  rw [e]; exact List.getElem_mem h
end
section
open Go.Sl
set_option linter.unusedVariables false
set_option linter.unusedSimpArgs false
def sgn (a b : Int) : Int := if a < b then -1 else if b < a then 1 else 0
def cmpK (a b : api_Key) : Int := if sgn a.Time b.Time ≠ 0 then sgn a.Time b.Time else if sgn a.From b.From ≠ 0 then sgn a.From b.From else sgn a.Seq b.Seq
def bef (a b : api_Message) : Bool := decide (cmpK a.Key b.Key < 0 ∨ cmpK a.Key b.Key = 0 ∧ a.Uid < b.Uid)
theorem cmp64 (a b : Int) : cmp_Compare_int64.f a b = some (sgn a b) := by
  unfold cmp_Compare_int64.f cmp_isNaN_int64.f sgn
  simp only [decide_true, Bool.not_true, Option.bind_some, Bool.false_eq_true, if_false]
  split
  · rfl
  · split <;> rfl
theorem cmpI (a b : Int) : cmp_Compare_int.f a b = some (sgn a b) := by
  unfold cmp_Compare_int.f cmp_isNaN_int.f sgn
  simp only [decide_true, Bool.not_true, Option.bind_some, Bool.false_eq_true, if_false]
  split
  · rfl
  · split <;> rfl
theorem or_first (l : List Int) (k : Nat) (hk : k < l.length) (hl : l.length < 1000) (h0 : ∀ j, j < k → nth l (j : Int) = 0) (h : nth l (k : Int) ≠ 0) : cmp_Or_int.f l = some (nth l (k : Int)) := by
  unfold cmp_Or_int.f cmp_Or_int.l2
  refine loopR_steps (fun k => ((k : Nat) : Int)) k (fun j hj => ?_) ?_
  · simp only [cmp_Or_int.l2b]
    rw [if_pos (by omega), if_pos (by omega), if_pos (h0 j hj), w64 (by omega) (by omega)]
    rfl
  · simp only [cmp_Or_int.l2b]
    rw [if_pos (by omega), if_pos (by omega), if_neg h]
theorem or_none (l : List Int) (hl : l.length < 1000) (h0 : ∀ j, j < l.length → nth l (j : Int) = 0) : cmp_Or_int.f l = some 0 := by
  unfold cmp_Or_int.f cmp_Or_int.l2
  refine loopR_steps (fun k => ((k : Nat) : Int)) l.length (fun j hj => ?_) ?_
  · simp only [cmp_Or_int.l2b]
    rw [if_pos (by omega), if_pos (by omega), if_pos (h0 j hj), w64 (by omega) (by omega)]
    rfl
  · simp only [cmp_Or_int.l2b]
    rw [if_neg (by omega)]
theorem or3 (a b c : Int) : cmp_Or_int.f ([a, b, c] : List Int) = some (if a ≠ 0 then a else if b ≠ 0 then b else c) := by
  by_cases ha : a = 0
  · by_cases hb : b = 0
    · by_cases hc : c = 0
      · subst ha; subst hb; subst hc
        exact or_none _ (by decide) (fun j hj => by
          have : j = 0 ∨ j = 1 ∨ j = 2 := by simp at hj; omega
          rcases this with rfl | rfl | rfl <;> rfl)
      · rw [if_neg (by simpa using ha), if_neg (by simpa using hb)]
        exact or_first [a, b, c] 2 (by simp) (by simp) (fun j hj => by
          have : j = 0 ∨ j = 1 := by omega
          rcases this with rfl | rfl
          · exact ha
          · exact hb) hc
    · rw [if_neg (by simpa using ha), if_pos hb]
      exact or_first [a, b, c] 1 (by simp) (by simp) (fun j hj => by
          obtain rfl : j = 0 := by omega
          exact ha) hb
  · rw [if_pos ha]
    exact or_first [a, b, c] 0 (by simp) (by simp) (fun j hj => by omega) ha
theorem or2 (a b : Int) : cmp_Or_int.f ([a, b] : List Int) = some (if a ≠ 0 then a else b) := by
  by_cases ha : a = 0
  · rw [if_neg (by simpa using ha)]
    by_cases hb : b = 0
    · subst ha; subst hb
      exact or_none _ (by decide) (fun j hj => by
          have : j = 0 ∨ j = 1 := by simp at hj; omega
          rcases this with rfl | rfl <;> rfl)
    · exact or_first [a, b] 1 (by simp) (by simp) (fun j hj => by
          obtain rfl : j = 0 := by omega
          exact ha) hb
  · rw [if_pos ha]
    exact or_first [a, b] 0 (by simp) (by simp) (fun j hj => by omega) ha
theorem sgn_self (a : Int) : sgn a a = 0 := by unfold sgn; rw [if_neg (by omega), if_neg (by omega)]
theorem cmpK_self (a : api_Key) : cmpK a a = 0 := by simp [cmpK, sgn_self]
theorem compare_eq (a b : api_Key) : event_Compare.f a b = some (cmpK a b) := by
  unfold event_Compare.f
  by_cases h : a = b
  · subst h; rw [if_pos rfl, cmpK_self]
  · rw [if_neg h, cmp64]
    simp only [Option.bind_some, cmpI, or3]
    rfl
theorem before_eq (a b : api_Message) : event_Before.f a b = some (bef a b) := by
  unfold event_Before.f event_order.f
  simp only [compare_eq, cmpI, Option.bind_some, or2, bef]
  congr 1
  rw [decide_eq_decide]
  by_cases h : cmpK a.Key b.Key = 0
  · rw [if_neg (by simpa using h), h]
    unfold sgn
    constructor
    · intro h1
      refine .inr ⟨rfl, ?_⟩
      split at h1
      · assumption
      · split at h1 <;> omega
    · rintro (h1 | ⟨_, h1⟩)
      · omega
      · rw [if_pos h1]; omega
  · rw [if_pos h]
    constructor
    · exact .inl
    · rintro (h1 | ⟨h1, _⟩)
      · exact h1
      · exact absurd h1 h
theorem inr_bind {S R : Type} {f : S → Option R} (o : Option R) : (Option.map (Sum.inr : R → S ⊕ R) o).bind (Sum.elim f some) = o := by cases o <;> rfl
end
section
open Go.Sl
set_option linter.unusedVariables false
set_option linter.unusedSimpArgs false
theorem bef_iff {a b : api_Message} : bef a b = true ↔ a.Key.Time < b.Key.Time ∨ a.Key.Time = b.Key.Time ∧ (a.Key.From < b.Key.From ∨ a.Key.From = b.Key.From ∧ (a.Key.Seq < b.Key.Seq ∨ a.Key.Seq = b.Key.Seq ∧ a.Uid < b.Uid)) := by
  have hs : ∀ x y : Int, (sgn x y = -1 ∧ x < y) ∨ (sgn x y = 1 ∧ y < x) ∨ (sgn x y = 0 ∧ x = y) := fun x y => by
    unfold sgn
    by_cases h1 : x < y
    · rw [if_pos h1]; exact .inl ⟨rfl, h1⟩
    · by_cases h2 : y < x
      · rw [if_neg h1, if_pos h2]; exact .inr (.inl ⟨rfl, h2⟩)
      · rw [if_neg h1, if_neg h2]; exact .inr (.inr ⟨rfl, by omega⟩)
  simp only [bef, decide_eq_true_eq]
  unfold cmpK
  rcases hs a.Key.Time b.Key.Time with ⟨e, h⟩ | ⟨e, h⟩ | ⟨e, h⟩
  · rw [e, if_pos (by decide)]
    exact ⟨fun _ => .inl h, fun _ => .inl (by decide)⟩
  · rw [e, if_pos (by decide)]
    constructor
    · rintro (h1 | ⟨h1, _⟩)
      · exact absurd h1 (by decide)
      · exact absurd h1 (by decide)
    · rintro (h1 | ⟨h1, _⟩) <;> omega
  · rw [e, if_neg (by decide)]
    rcases hs a.Key.From b.Key.From with ⟨e2, h2⟩ | ⟨e2, h2⟩ | ⟨e2, h2⟩
    · rw [e2, if_pos (by decide)]
      exact ⟨fun _ => .inr ⟨h, .inl h2⟩, fun _ => .inl (by decide)⟩
    · rw [e2, if_pos (by decide)]
      constructor
      · rintro (h1 | ⟨h1, _⟩)
        · exact absurd h1 (by decide)
        · exact absurd h1 (by decide)
      · rintro (h1 | ⟨_, h1 | ⟨h1, _⟩⟩) <;> omega
    · rw [e2, if_neg (by decide)]
      rcases hs a.Key.Seq b.Key.Seq with ⟨e3, h3⟩ | ⟨e3, h3⟩ | ⟨e3, h3⟩
      · rw [e3]
        exact ⟨fun _ => .inr ⟨h, .inr ⟨h2, .inl h3⟩⟩, fun _ => .inl (by decide)⟩
      · rw [e3]
        constructor
        · rintro (h1 | ⟨h1, _⟩)
          · exact absurd h1 (by decide)
          · exact absurd h1 (by decide)
        · rintro (h1 | ⟨_, h1 | ⟨_, h1 | ⟨h1, _⟩⟩⟩) <;> omega
      · rw [e3]
        constructor
        · rintro (h1 | ⟨_, h1⟩)
          · exact absurd h1 (by decide)
          · exact .inr ⟨h, .inr ⟨h2, .inr ⟨h3, h1⟩⟩⟩
        · rintro (h1 | ⟨_, h1 | ⟨_, h1 | ⟨_, h1⟩⟩⟩)
          · omega
          · omega
          · omega
          · exact .inr ⟨rfl, h1⟩
abbrev leM (a b : api_Message) : Prop := bef b a = false
theorem leM_iff {a b : api_Message} : leM a b ↔ ¬ (b.Key.Time < a.Key.Time ∨ b.Key.Time = a.Key.Time ∧ (b.Key.From < a.Key.From ∨ b.Key.From = a.Key.From ∧ (b.Key.Seq < a.Key.Seq ∨ b.Key.Seq = a.Key.Seq ∧ b.Uid < a.Uid))) := by
  show bef b a = false ↔ _
  rw [← bef_iff, Bool.not_eq_true]
theorem leM_trans {a b c : api_Message} (h1 : leM a b) (h2 : leM b c) : leM a c := by
  rw [leM_iff] at *; omega
theorem leM_of_bef {a b : api_Message} (h : bef a b = true) : leM a b := by
  rw [leM_iff]; rw [bef_iff] at h; omega
theorem leM_of_not {a b : api_Message} (h : ¬ bef a b = true) : leM b a := by simpa using h
def SrtM (l : List api_Message) : Prop := l.Pairwise leM
theorem order_eq (a b : api_Message) : ∃ v, event_order.f a b = some v ∧ (v < 0 ↔ bef a b = true) := by
  have h := before_eq a b
  unfold event_Before.f at h
  cases hv : event_order.f a b with
  | none => rw [hv] at h; cases h
  | some v =>
    rw [hv] at h
    refine ⟨v, rfl, ?_⟩
    have : decide (v < 0) = bef a b := by simpa using h
    rw [← this, decide_eq_true_eq]
section
variable {α : Type} [Inhabited α]
theorem nth_mid {P S : List α} {x : α} {i : Int} (h : i = (P.length : Int)) : nth (P ++ x :: S) i = x := by
  subst h
  rw [nth_nat (by simp)]
  simp
omit [Inhabited α] in
theorem set_mid {P S : List α} {x y : α} {i : Int} (h : i = (P.length : Int)) : setL (P ++ x :: S) i y = P ++ y :: S := by
  subst h
  simp [setL]
def swp (l : List α) (i j : Int) : List α := setL (setL l i (nth l j)) j (nth l i)
theorem swp_far {P M S : List α} {x y : α} {i j : Int} (hi : i = (P.length : Int)) (hj : j = (P.length : Int) + 1 + (M.length : Int)) : swp (P ++ x :: (M ++ y :: S)) i j = P ++ y :: (M ++ x :: S) := by
  unfold swp
  have e : ∀ z : α, P ++ z :: (M ++ y :: S) = (P ++ z :: M) ++ y :: S := fun z => by simp
  rw [nth_mid hi]
  have e1 : nth (P ++ x :: (M ++ y :: S)) j = y := by
    rw [e]; exact nth_mid (by simp only [List.length_append, List.length_cons]; omega)
  rw [e1, set_mid hi, e, set_mid (by simp only [List.length_append, List.length_cons]; omega)]
  simp
theorem swp_back {P M S : List α} {x y : α} {i j : Int} (hi : i = (P.length : Int)) (hj : j = (P.length : Int) + 1 + (M.length : Int)) : swp (P ++ x :: (M ++ y :: S)) j i = P ++ y :: (M ++ x :: S) := by
  unfold swp
  have e : ∀ z : α, P ++ z :: (M ++ y :: S) = (P ++ z :: M) ++ y :: S := fun z => by simp
  have e' : ∀ z : α, P ++ z :: (M ++ x :: S) = (P ++ z :: M) ++ x :: S := fun z => by simp
  rw [nth_mid hi]
  have e1 : nth (P ++ x :: (M ++ y :: S)) j = y := by
    rw [e]; exact nth_mid (by simp only [List.length_append, List.length_cons]; omega)
  rw [e1]
  have e2 : setL (P ++ x :: (M ++ y :: S)) j x = P ++ x :: (M ++ x :: S) := by
    rw [e, set_mid (by simp only [List.length_append, List.length_cons]; omega), e']
  rw [e2, set_mid hi]
end
theorem srt_merge {A1 A2 B1 B2 Z1 Z2 : List api_Message} (hA : SrtM (A1 ++ A2)) (hB : SrtM (B1 ++ B2)) (h1 : ∀ a ∈ A1, ∀ b ∈ B2, leM a b) (h2 : ∀ b ∈ B1, ∀ a ∈ A2, leM b a)
    (s1 : SrtM Z1) (s2 : SrtM Z2) (p1 : Z1.Perm (A1 ++ B1)) (p2 : Z2.Perm (A2 ++ B2)) : SrtM (Z1 ++ Z2) ∧ (Z1 ++ Z2).Perm ((A1 ++ A2) ++ (B1 ++ B2)) := by
  constructor
  · refine List.pairwise_append.2 ⟨s1, s2, fun x hx y hy => ?_⟩
    rcases List.mem_append.1 (p1.mem_iff.1 hx) with hx | hx <;> rcases List.mem_append.1 (p2.mem_iff.1 hy) with hy | hy
    · exact (List.pairwise_append.1 hA).2.2 x hx y hy
    · exact h1 x hx y hy
    · exact h2 x hx y hy
    · exact (List.pairwise_append.1 hB).2.2 x hx y hy
  · refine (p1.append p2).trans ?_
    have : (A1 ++ B1 ++ (A2 ++ B2)).Perm (A1 ++ (B1 ++ (A2 ++ B2))) := by rw [List.append_assoc]
    refine this.trans ?_
    rw [List.append_assoc]
    refine List.Perm.append_left _ ?_
    rw [← List.append_assoc, ← List.append_assoc]
    exact List.Perm.append_right _ List.perm_append_comm
theorem srt_lastle {A : List api_Message} (h : SrtM A) {x b : api_Message} (hx : x ∈ A) (hl : ∀ n : Nat, n + 1 = A.length → leM (nth A (n : Int)) b) : leM x b := by
  obtain ⟨i, hi, rfl⟩ := List.getElem_of_mem hx
  have hl' := hl (A.length - 1) (by omega)
  rw [nth_nat (by omega)] at hl'
  by_cases e : i = A.length - 1
  · subst e; exact hl'
  · exact leM_trans (List.pairwise_iff_getElem.1 h i (A.length - 1) hi (by omega) (by omega)) hl'
theorem srt_firstle {A : List api_Message} (h : SrtM A) {x b : api_Message} (hx : x ∈ A) (hl : 0 < A.length → leM b (nth A 0)) : leM b x := by
  obtain ⟨i, hi, rfl⟩ := List.getElem_of_mem hx
  have hl' := hl (by omega)
  have e0 : nth A 0 = A[0] := nth_nat (k := 0) (by omega)
  rw [e0] at hl'
  by_cases e : i = 0
  · subst e; exact hl'
  · exact leM_trans hl' (List.pairwise_iff_getElem.1 h 0 i (by omega) hi (by omega))
theorem srt_put {X1 X2 : List api_Message} {x : api_Message} (h : SrtM (X1 ++ X2)) (h1 : ∀ a ∈ X1, leM a x) (h2 : ∀ b ∈ X2, leM x b) : SrtM (X1 ++ x :: X2) := by
  obtain ⟨a, b, c⟩ := List.pairwise_append.1 h
  refine List.pairwise_append.2 ⟨a, List.pairwise_cons.2 ⟨h2, b⟩, fun y hy z hz => ?_⟩
  rcases List.mem_cons.1 hz with rfl | hz
  · exact h1 y hy
  · exact c y hy z hz
end
section
open Go.Sl
set_option linter.unusedVariables false
set_option linter.unusedSimpArgs false
def par (i : Nat) : Nat := (i - 1) / 2
def HpF (f : Nat → api_Message) (n : Nat) : Prop := ∀ j, 0 < j → j < n → leM (f (par j)) (f j)
def Up2 (f : Nat → api_Message) (n i : Nat) : Prop := ∀ j, 0 < j → j < n → par j = i → 0 < i → leM (f (par i)) (f j)
def UpF (f : Nat → api_Message) (n i : Nat) : Prop := (∀ j, 0 < j → j < n → j ≠ i → leM (f (par j)) (f j)) ∧ Up2 f n i
def sw (f : Nat → api_Message) (i j k : Nat) : api_Message := if k = j then f i else if k = i then f j else f k
theorem sw_j {f : Nat → api_Message} {i j : Nat} : sw f i j j = f i := by simp [sw]
theorem sw_i {f : Nat → api_Message} {i j : Nat} : sw f i j i = f j := by unfold sw; split <;> simp_all
theorem sw_o {f : Nat → api_Message} {i j k : Nat} (h1 : k ≠ i) (h2 : k ≠ j) : sw f i j k = f k := by simp [sw, h1, h2]
theorem par_lt {j : Nat} (h : 0 < j) : par j < j := by unfold par; omega
theorem HpF.up {f : Nat → api_Message} {n i : Nat} (h : HpF f n) (hi : i < n) : UpF f n i := ⟨fun j h0 h1 _ => h j h0 h1, fun j h0 h1 e hi0 => by
  have := h i hi0 hi
  exact leM_trans this (by rw [← e]; exact h j h0 h1)⟩
theorem up_done {f : Nat → api_Message} {n i : Nat} (h : UpF f n i) (hd : i = 0 ∨ leM (f (par i)) (f i)) : HpF f n := fun j h0 h1 => by
  by_cases e : j = i
  · subst e
    rcases hd with hd | hd
    · omega
    · exact hd
  · exact h.1 j h0 h1 e
theorem up_step {f : Nat → api_Message} {n i : Nat} (h : UpF f n i) (hi : 0 < i) (hn : i < n) (hb : leM (f i) (f (par i))) : UpF (sw f i (par i)) n (par i) := by
  have hp := par_lt hi
  refine ⟨fun j h0 h1 hj => ?_, fun j h0 h1 e hp0 => ?_⟩
  · have hjp := par_lt h0
    by_cases e1 : j = i
    · subst e1; rw [sw_j, sw_i]; exact hb
    by_cases e2 : par j = i
    · rw [e2, sw_i, sw_o e1 hj]; exact h.2 j h0 h1 e2 hi
    by_cases e3 : par j = par i
    · rw [e3, sw_j, sw_o e1 hj]; exact leM_trans hb (by rw [← e3]; exact h.1 j h0 h1 e1)
    · rw [sw_o e2 e3, sw_o e1 hj]; exact h.1 j h0 h1 e1
  · have hpp := par_lt hp0
    rw [sw_o (by omega) (by omega)]
    have h3 := h.1 (par i) hp0 (by omega) (by omega)
    by_cases e1 : j = i
    · subst e1; rw [sw_i]; exact h3
    · have := par_lt h0
      rw [sw_o e1 (by omega)]
      exact leM_trans h3 (by rw [← e]; exact h.1 j h0 h1 e1)
section
variable {l : List api_Message}
def at_ (l : List api_Message) (k : Nat) : api_Message := nth l (k : Int)
theorem at_set {i k : Nat} {x : api_Message} (hi : i < l.length) : at_ (setL l (i : Int) x) k = if k = i then x else at_ l k := by
  unfold at_ nth setL
  simp only [Int.toNat_natCast, List.getD_eq_getElem?_getD, List.getElem?_set]
  by_cases e : i = k
  · subst e; simp [hi]
  · rw [if_neg e, if_neg (by omega)]
theorem at_swp {i j : Nat} (hi : i < l.length) (hj : j < l.length) : at_ (swp l (i : Int) (j : Int)) = sw (at_ l) i j := by
  funext k
  unfold swp sw
  rw [at_set (by rw [setL_len]; exact hj), at_set hi]; rfl
theorem swp_len {i j : Int} : (swp l i j).length = l.length := by unfold swp; rw [setL_len, setL_len]
theorem swp_perm {i j : Nat} (hi : i < l.length) (hj : j < l.length) : (swp l (i : Int) (j : Int)).Perm l := by
  unfold swp setL
  rw [nth_nat hi, nth_nat hj]
  simp only [Int.toNat_natCast]
  exact List.set_set_perm hi hj
end
end
section
open Go.Sl
set_option linter.unusedVariables false
set_option linter.unusedSimpArgs false
theorem up_step_eq {l : List api_Message} {i : Nat} (hi : i < l.length) (hl : l.length ≤ 1099511627776) :
    heap_pile_api_Message_up.l2b (l, (i : Int)) = some (if 0 < i ∧ bef (at_ l i) (at_ l (par i)) = true then .inl (swp l (i : Int) (par i : Int), (par i : Int)) else .inr l) := by
  simp only [heap_pile_api_Message_up.l2b]
  by_cases h0 : 0 < i
  · have hp := par_lt h0
    have e : IntKind.i64.wrap (Int.tdiv (IntKind.i64.wrap ((i : Int) - 1)) 2) = (par i : Int) := by
      rw [w64 (x := (i : Int) - 1) (by omega) (by omega), tdiv_pos' (by omega) 2, w64 (by omega) (by omega)]
      unfold par; omega
    rw [if_pos (by omega), if_pos (by omega), e, if_pos (by omega), before_eq]
    simp only [Option.bind_some]
    by_cases hb : bef (at_ l i) (at_ l (par i)) = true
    · have hb' : bef (nth l (i : Int)) (nth l (par i : Int)) = true := hb
      rw [if_pos hb', if_pos (by rw [setL_len]; omega), if_pos ⟨h0, hb⟩]; rfl
    · have hb' : ¬ bef (nth l (i : Int)) (nth l (par i : Int)) = true := hb
      rw [if_neg hb', if_neg (fun h => hb h.2)]
  · rw [if_neg (by omega), if_neg (fun h => h0 h.1)]
theorem up_loop : ∀ (k i : Nat) (l : List api_Message), i ≤ k → i < l.length → l.length ≤ 1099511627776 → UpF (at_ l) l.length i →
    ∃ W, loopR heap_pile_api_Message_up.l2b (l, (i : Int)) = some W ∧ W.Perm l ∧ HpF (at_ W) l.length
  | k, i, l, hk, hi, hl, h => by
    rw [loopR_eq, up_step_eq hi hl]
    by_cases hc : 0 < i ∧ bef (at_ l i) (at_ l (par i)) = true
    · rw [if_pos hc]
      have hp := par_lt hc.1
      have hs := up_step h hc.1 hi (leM_of_bef hc.2)
      rw [← at_swp hi (by omega)] at hs
      cases k with
      | zero => omega
      | succ k =>
        obtain ⟨W, e, p, q⟩ := up_loop k (par i) (swp l (i : Int) (par i : Int)) (by omega) (by rw [swp_len]; omega) (by rw [swp_len]; exact hl) (by rw [swp_len]; exact hs)
        exact ⟨W, e, p.trans (swp_perm hi (by omega)), by rw [swp_len] at q; exact q⟩
    · rw [if_neg hc]
      refine ⟨l, rfl, List.Perm.refl _, up_done h ?_⟩
      by_cases h0 : i = 0
      · exact .inl h0
      · exact .inr (leM_of_not fun hb => hc ⟨by omega, hb⟩)
end
section
open Go.Sl
set_option linter.unusedVariables false
set_option linter.unusedSimpArgs false
theorem at_app_l {l r : List api_Message} {k : Nat} (h : k < l.length) : at_ (l ++ r) k = at_ l k := by
  unfold at_
  rw [nth_nat (by rw [List.length_append]; omega), nth_nat h, List.getElem_append_left h]
theorem at_mem {l : List api_Message} {k : Nat} (h : k < l.length) : at_ l k ∈ l := by
  unfold at_; rw [nth_nat h]; exact List.getElem_mem h
theorem mem_at {l : List api_Message} {x : api_Message} (h : x ∈ l) : ∃ k, k < l.length ∧ at_ l k = x := by
  obtain ⟨k, hk, e⟩ := List.getElem_of_mem h
  exact ⟨k, hk, by unfold at_; rw [nth_nat hk]; exact e⟩
def HpL (l : List api_Message) : Prop := HpF (at_ l) l.length
theorem HpL.nil : HpL [] := fun j _ h => by simp at h
theorem push_eq {l : List api_Message} {m : api_Message} (hl : l.length ≤ 1000000) (h : HpL l) : ∃ W, heap_pile_api_Message_push.f l m = some W ∧ W.Perm (m :: l) ∧ HpL W := by
  unfold heap_pile_api_Message_push.f
  have hlen : (l ++ [m]).length = l.length + 1 := by simp
  rw [if_pos (by omega), hlen, w64 (by omega) (by omega), show ((l.length + 1 : Nat) : Int) - 1 = (l.length : Int) by omega]
  obtain ⟨W, e, p, q⟩ := up_loop l.length l.length (l ++ [m]) (Nat.le_refl _) (by omega) (by omega) (by
    rw [hlen]
    refine ⟨fun j h0 h1 hj => ?_, fun j h0 h1 ej _ => ?_⟩
    · have := par_lt h0
      rw [at_app_l (by omega), at_app_l (by omega)]; exact h j h0 (by omega)
    · have := par_lt h0; omega)
  unfold heap_pile_api_Message_up.f heap_pile_api_Message_up.l2
  rw [e]
  refine ⟨W, rfl, p.trans (List.perm_append_comm (l₁ := l) (l₂ := [m])), ?_⟩
  have : W.length = (l ++ [m]).length := p.length_eq
  unfold HpL; rw [this]; exact q
theorem find_eq (q : heap_Heap) (fr uid : Int) (hl : q.p_l.length ≤ 1000000) : ∃ v, heap_Heap_find.f q fr uid = some v ∧
    ((v = -1 ∧ ∀ x ∈ q.p_l, ¬ (x.Key.From = fr ∧ x.Uid = uid)) ∨ ∃ k, k < q.p_l.length ∧ v = (k : Int) ∧ (at_ q.p_l k).Key.From = fr ∧ (at_ q.p_l k).Uid = uid) := by
  unfold heap_Heap_find.f heap_pile_api_Message_each.f
  simp only [Option.bind_some]
  have e : heap_pile_api_Message_each_1.f fr uid 0 q.p_l = some (match (List.range q.p_l.length).find? (fun k => decide ((at_ q.p_l k).Key.From = fr ∧ (at_ q.p_l k).Uid = uid)) with | some k => (Sum.inl (k : Int) : Int ⊕ Unit) | none => .inr ()) := by
    unfold heap_pile_api_Message_each_1.f heap_pile_api_Message_each_1.l2
    refine loopR_find (fun k => decide ((at_ q.p_l k).Key.From = fr ∧ (at_ q.p_l k).Uid = uid)) (fun k => (Sum.inl (k : Int) : Int ⊕ Unit)) (Sum.inr ()) q.p_l.length (fun k hk => ?_) ?_
    · simp only [heap_pile_api_Message_each_1.l2b]
      rw [if_pos (by omega), if_pos (by omega), w64 (by omega) (by omega)]
      unfold heap_Heap_find_round0.f
      by_cases h1 : (nth q.p_l (k : Int)).Key.From = fr
      · by_cases h2 : (nth q.p_l (k : Int)).Uid = uid
        · simp [at_, h1, h2]
        · simp [at_, h1, h2]
      · simp [at_, h1]
    · simp only [heap_pile_api_Message_each_1.l2b]
      rw [if_neg (by omega)]
  rw [e]
  cases hf : (List.range q.p_l.length).find? (fun k => decide ((at_ q.p_l k).Key.From = fr ∧ (at_ q.p_l k).Uid = uid)) with
  | none =>
    refine ⟨-1, rfl, .inl ⟨rfl, fun x hx hc => ?_⟩⟩
    obtain ⟨k, hk, ek⟩ := mem_at hx
    have := List.find?_eq_none.1 hf k (List.mem_range.2 hk)
    rw [ek] at this
    simp [hc] at this
  | some k =>
    have h1 := List.find?_some hf
    have h2 := List.mem_range.1 (List.mem_of_find?_eq_some hf)
    have h3 := of_decide_eq_true h1
    exact ⟨k, rfl, .inr ⟨k, h2, rfl, h3⟩⟩
end
section
open Go.Sl
set_option linter.unusedVariables false
set_option linter.unusedSimpArgs false
theorem swapR_eq (P U M V S : List api_Message) {a b n : Int} (hUV : U.length = V.length) (ha : a = (P.length : Int)) (hb : b = (P.length : Int) + U.length + M.length) (hn : n = (U.length : Int)) (hs : (P ++ (U ++ (M ++ (V ++ S)))).length ≤ 1099511627776) :
    slices_swapRangeCmpFunc_api_Message.f (P ++ (U ++ (M ++ (V ++ S)))) a b n = some (P ++ (V ++ (M ++ (U ++ S)))) := by
  subst ha hb hn
  have hl0 : (P ++ (U ++ (M ++ (V ++ S)))).length = P.length + (U.length + (M.length + (V.length + S.length))) := by simp
  rw [hl0] at hs
  unfold slices_swapRangeCmpFunc_api_Message.f slices_swapRangeCmpFunc_api_Message.l2
  have hst : ∀ k : Nat, k ≤ U.length → (P ++ (V.take k ++ (U.drop k ++ (M ++ (U.take k ++ (V.drop k ++ S)))))).length = P.length + (U.length + (M.length + (V.length + S.length))) := fun k hk => by
    simp only [List.length_append, List.length_take, List.length_drop]; omega
  refine (show loopR _ ((fun k : Nat => (P ++ (V.take k ++ (U.drop k ++ (M ++ (U.take k ++ (V.drop k ++ S))))), (k : Int))) 0) = _ from loopR_steps (fun k : Nat => (P ++ (V.take k ++ (U.drop k ++ (M ++ (U.take k ++ (V.drop k ++ S))))), (k : Int))) U.length (fun k hk => ?_) ?_)
  · have hk' : k < V.length := by omega
    have hl := hst k (by omega)
    simp only [slices_swapRangeCmpFunc_api_Message.l2b]
    rw [if_pos (by omega), w64 (x := (P.length : Int) + U.length + M.length + (k : Int)) (by omega) (by omega), w64 (x := (P.length : Int) + (k : Int)) (by omega) (by omega), w64 (x := (k : Int) + 1) (by omega) (by omega), if_pos (by rw [hl]; omega), if_pos (by rw [hl]; omega), if_pos (by rw [setL_len, hl]; omega)]
    have e1 : P ++ (V.take k ++ (U.drop k ++ (M ++ (U.take k ++ (V.drop k ++ S))))) = (P ++ V.take k) ++ U[k] :: ((U.drop (k + 1) ++ (M ++ U.take k)) ++ V[k] :: (V.drop (k + 1) ++ S)) := by
      rw [List.drop_eq_getElem_cons hk, List.drop_eq_getElem_cons hk']; simp only [List.append_assoc, List.cons_append]
    have e2 : P ++ (V.take (k + 1) ++ (U.drop (k + 1) ++ (M ++ (U.take (k + 1) ++ (V.drop (k + 1) ++ S))))) = (P ++ V.take k) ++ V[k] :: ((U.drop (k + 1) ++ (M ++ U.take k)) ++ U[k] :: (V.drop (k + 1) ++ S)) := by
      rw [List.take_succ_eq_append_getElem hk, List.take_succ_eq_append_getElem hk']; simp only [List.append_assoc, List.cons_append, List.nil_append]
    rw [e1, e2]
    refine congrArg (fun x => some (Sum.inl (x, (k : Int) + 1))) ?_
    exact swp_far (by simp only [List.length_append, List.length_take]; omega) (by simp only [List.length_append, List.length_take, List.length_drop]; omega)
  · have hl := hst U.length (Nat.le_refl _)
    simp only [slices_swapRangeCmpFunc_api_Message.l2b]
    rw [if_neg (by omega), if_pos (by rw [hl, hl0])]
    rw [List.take_of_length_le (l := V) (by omega), List.drop_of_length_le (l := U) (Nat.le_refl _), List.take_length, List.drop_of_length_le (l := V) (by omega)]
    simp
theorem rot_loop {d0 : List api_Message} {m : Int} (hd : d0.length ≤ 1099511627776) : ∀ (n : Nat) (P U V S : List api_Message), U.length + V.length ≤ n → 0 < U.length → 0 < V.length → m = (P.length : Int) + U.length → (P ++ (U ++ (V ++ S))).length = d0.length →
    loopR (slices_rotateCmpFunc_api_Message.l4b d0 m) (P ++ (U ++ (V ++ S)), (U.length : Int), (V.length : Int)) = some (P ++ (V ++ (U ++ S)))
  | 0, P, U, V, S, h, h1, h2, _, _ => by omega
  | n + 1, P, U, V, S, h, h1, h2, hm, hl => by
    have hl' := hl
    simp only [List.length_append] at hl'
    rw [loopR_eq]
    simp only [slices_rotateCmpFunc_api_Message.l4b]
    rw [w64 (x := m - (U.length : Int)) (by omega) (by omega), show m - (U.length : Int) = (P.length : Int) by omega]
    by_cases e : (U.length : Int) = (V.length : Int)
    · rw [if_pos e]
      have := swapR_eq P U [] V S (b := m) (n := (U.length : Int)) (by omega) rfl (by simp only [List.length_nil]; omega) rfl (by simp only [List.nil_append]; omega)
      simp only [List.nil_append] at this
      rw [this]
      simp only [Option.bind_some]
      rw [if_pos (by rw [← hl]; simp only [List.length_append]; omega)]
      rfl
    · rw [if_neg e]
      by_cases hlt : (V.length : Int) < (U.length : Int)
      · rw [if_pos hlt]
        have eU : U = U.take V.length ++ U.drop V.length := (List.take_append_drop _ _).symm
        generalize h3 : U.take V.length = U1 at eU
        generalize h4 : U.drop V.length = U2 at eU
        have l1 : U1.length = V.length := by rw [← h3, List.length_take]; omega
        have l2 : U2.length = U.length - V.length := by rw [← h4, List.length_drop]
        have hs1 : (P ++ (U1 ++ (U2 ++ (V ++ S)))).length ≤ 1099511627776 := by simp only [List.length_append]; omega
        have := swapR_eq P U1 U2 V S (b := m) (n := (V.length : Int)) l1 rfl (by omega) (by omega) hs1
        have e5 : P ++ (U ++ (V ++ S)) = P ++ (U1 ++ (U2 ++ (V ++ S))) := by rw [eU]; simp
        rw [e5, this]
        simp only [Option.bind_some]
        rw [w64 (x := (U.length : Int) - (V.length : Int)) (by omega) (by omega)]
        have ih := rot_loop (m := m) hd n (P ++ V) U2 U1 S (by omega) (by omega) (by omega) (by simp only [List.length_append]; omega) (by simp only [List.length_append]; omega)
        show loopR _ (P ++ (V ++ (U2 ++ (U1 ++ S))), (U.length : Int) - (V.length : Int), (V.length : Int)) = _
        rw [show (U.length : Int) - (V.length : Int) = (U2.length : Int) by omega, show (V.length : Int) = (U1.length : Int) by omega, show P ++ (V ++ (U2 ++ (U1 ++ S))) = (P ++ V) ++ (U2 ++ (U1 ++ S)) by simp, ih, eU]
        simp
      · rw [if_neg hlt]
        have eV : V = V.take (V.length - U.length) ++ V.drop (V.length - U.length) := (List.take_append_drop _ _).symm
        generalize h3 : V.take (V.length - U.length) = V1 at eV
        generalize h4 : V.drop (V.length - U.length) = V2 at eV
        have l1 : V1.length = V.length - U.length := by rw [← h3, List.length_take]; omega
        have l2 : V2.length = U.length := by rw [← h4, List.length_drop]; omega
        have hs1 : (P ++ (U ++ (V1 ++ (V2 ++ S)))).length ≤ 1099511627776 := by simp only [List.length_append]; omega
        have := swapR_eq P U V1 V2 S (b := m + (V.length : Int) - (U.length : Int)) (n := (U.length : Int)) l2.symm rfl (by omega) rfl hs1
        have e5 : P ++ (U ++ (V ++ S)) = P ++ (U ++ (V1 ++ (V2 ++ S))) := by rw [eV]; simp
        rw [e5, w64 (x := m + (V.length : Int)) (by omega) (by omega), w64 (x := m + (V.length : Int) - (U.length : Int)) (by omega) (by omega), this]
        simp only [Option.bind_some]
        rw [w64 (x := (V.length : Int) - (U.length : Int)) (by omega) (by omega)]
        have ih := rot_loop (m := m) hd n P V2 V1 (U ++ S) (by omega) (by omega) (by omega) (by omega) (by simp only [List.length_append]; omega)
        show loopR _ (P ++ (V2 ++ (V1 ++ (U ++ S))), (U.length : Int), (V.length : Int) - (U.length : Int)) = _
        rw [show (V.length : Int) - (U.length : Int) = (V1.length : Int) by omega, show (U.length : Int) = (V2.length : Int) by omega, ih, eV]
        simp
theorem rotate_eq (P U V S : List api_Message) {a m b : Int} (hU : 0 < U.length) (hV : 0 < V.length) (ha : a = (P.length : Int)) (hm : m = (P.length : Int) + U.length) (hb : b = (P.length : Int) + U.length + V.length) (hs : (P ++ (U ++ (V ++ S))).length ≤ 1099511627776) :
    slices_rotateCmpFunc_api_Message.f (P ++ (U ++ (V ++ S))) a m b = some (P ++ (V ++ (U ++ S))) := by
  have hl' := hs
  simp only [List.length_append] at hl'
  unfold slices_rotateCmpFunc_api_Message.f slices_rotateCmpFunc_api_Message.l4
  rw [w64 (x := m - a) (by omega) (by omega), w64 (x := b - m) (by omega) (by omega), show m - a = (U.length : Int) by omega, show b - m = (V.length : Int) by omega]
  exact rot_loop hs _ P U V S (Nat.le_refl _) hU hV hm rfl
theorem ins_inner {a : Int} {i : Int} (hi : 0 ≤ i ∧ i ≤ 1099511627776) {P : List api_Message} (ha : a = (P.length : Int)) {T : List api_Message} {x : api_Message} : ∀ (n : Nat) (Z1 Z2 : List api_Message), Z1.length = n → SrtM (Z1 ++ Z2) → (∀ z ∈ Z2, leM x z) → (P ++ (Z1 ++ x :: (Z2 ++ T))).length ≤ 1099511627776 →
    ∃ W, SrtM W ∧ W.Perm (Z1 ++ x :: Z2) ∧ loopR (slices_insertionSortCmpFunc_api_Message.l14b a i) (P ++ (Z1 ++ x :: (Z2 ++ T)), (P.length : Int) + (Z1.length : Int)) = some (.inl (P ++ (W ++ T), i + 1))
  | 0, Z1, Z2, hn, hs, hx, hl => by
    have : Z1 = [] := List.length_eq_zero_iff.1 hn
    subst this
    refine ⟨x :: Z2, List.pairwise_cons.2 ⟨hx, hs⟩, List.Perm.refl _, ?_⟩
    rw [loopR_eq]
    simp only [slices_insertionSortCmpFunc_api_Message.l14b, List.length_nil]
    rw [if_neg (by omega), w64 (x := i + 1) (by omega) (by omega)]
    simp
  | n + 1, Z1, Z2, hn, hs, hx, hl => by
    have hne : Z1 ≠ [] := fun h => by rw [h] at hn; simp at hn
    obtain ⟨Y, y, rfl⟩ : ∃ Y y, Z1 = Y ++ [y] := ⟨Z1.dropLast, Z1.getLast hne, (List.dropLast_concat_getLast hne).symm⟩
    simp only [List.length_append, List.length_cons, List.length_nil] at hn hl
    rw [loopR_eq]
    have e1 : P ++ ((Y ++ [y]) ++ x :: (Z2 ++ T)) = (P ++ Y) ++ y :: ([] ++ x :: (Z2 ++ T)) := by simp
    have e2 : P ++ ((Y ++ [y]) ++ x :: (Z2 ++ T)) = (P ++ (Y ++ [y])) ++ x :: (Z2 ++ T) := by simp
    have hl1 : (P ++ ((Y ++ [y]) ++ x :: (Z2 ++ T))).length = P.length + (Y.length + 1 + (Z2.length + T.length + 1)) := by simp only [List.length_append, List.length_cons, List.length_nil]
    have hj : IntKind.i64.wrap ((P.length : Int) + ((Y ++ [y]).length : Int) - 1) = (P.length : Int) + (Y.length : Int) := by
      simp only [List.length_append, List.length_cons, List.length_nil]
      rw [w64 (by omega) (by omega)]; omega
    have n1 : nth (P ++ ((Y ++ [y]) ++ x :: (Z2 ++ T))) ((P.length : Int) + ((Y ++ [y]).length : Int)) = x := by
      rw [e2]; exact nth_mid (by simp only [List.length_append]; omega)
    have n2 : nth (P ++ ((Y ++ [y]) ++ x :: (Z2 ++ T))) ((P.length : Int) + (Y.length : Int)) = y := by
      rw [e1]; exact nth_mid (by simp only [List.length_append]; omega)
    simp only [slices_insertionSortCmpFunc_api_Message.l14b]
    rw [if_pos (by simp only [List.length_append, List.length_cons, List.length_nil]; omega), hj, if_pos (by rw [hl1]; simp only [List.length_append, List.length_cons, List.length_nil]; omega), if_pos (by rw [hl1]; omega), n1, n2]
    obtain ⟨v, ev, hv⟩ := order_eq x y
    rw [show event_order.f (⟨x.Key, x.To, x.Value, x.Uid, x.Anti⟩ : api_Message) (⟨y.Key, y.To, y.Value, y.Uid, y.Anti⟩ : api_Message) = some v from ev]
    simp only [Option.bind_some]
    by_cases hb : bef x y = true
    · rw [if_pos (hv.2 hb), if_pos (by rw [setL_len, hl1]; omega)]
      obtain ⟨hs1, hs2, hs3⟩ := List.pairwise_append.1 hs
      obtain ⟨W, w1, w2, w3⟩ := ins_inner hi ha (T := T) (x := x) n Y (y :: Z2) (by omega) (by simpa using hs) (fun z hz => by
        rcases List.mem_cons.1 hz with rfl | hz
        · exact leM_of_bef hb
        · exact hx z hz) (by simp only [List.length_append, List.length_cons]; omega)
      refine ⟨W, w1, w2.trans (by simp only [List.append_assoc, List.singleton_append]; exact List.Perm.append_left _ (List.Perm.swap _ _ _)), ?_⟩
      have hsw : setL (setL (P ++ ((Y ++ [y]) ++ x :: (Z2 ++ T))) ((P.length : Int) + ((Y ++ [y]).length : Int)) y) ((P.length : Int) + (Y.length : Int)) x = P ++ (Y ++ x :: ((y :: Z2) ++ T)) := by
        have := swp_back (P := P ++ Y) (M := []) (S := Z2 ++ T) (x := y) (y := x) (i := (P.length : Int) + (Y.length : Int)) (j := (P.length : Int) + ((Y ++ [y]).length : Int)) (by simp only [List.length_append]; omega) (by simp only [List.length_append, List.length_cons, List.length_nil]; omega)
        unfold swp at this
        rw [← e1, n1, n2] at this
        rw [this]; simp
      show loopR _ (setL (setL (P ++ ((Y ++ [y]) ++ x :: (Z2 ++ T))) ((P.length : Int) + ((Y ++ [y]).length : Int)) y) ((P.length : Int) + (Y.length : Int)) x, (P.length : Int) + (Y.length : Int)) = _
      rw [hsw]
      exact w3
    · rw [if_neg (fun h => hb (hv.1 h)), w64 (x := i + 1) (by omega) (by omega)]
      have hle : leM y x := leM_of_not hb
      refine ⟨(Y ++ [y]) ++ x :: Z2, srt_put hs (fun a ha => ?_) hx, List.Perm.refl _, by simp⟩
      rcases List.mem_append.1 ha with ha | ha
      · have := (List.pairwise_append.1 (List.pairwise_append.1 hs).1).2.2 a ha y (List.mem_singleton.2 rfl)
        exact leM_trans this hle
      · rw [List.mem_singleton.1 ha]; exact hle
theorem ins_outer {d0 : List api_Message} {a b : Int} (hd : d0.length ≤ 1099511627776) {P S : List api_Message} (ha : a = (P.length : Int)) : ∀ (n : Nat) (Z R : List api_Message), R.length = n → SrtM Z → b = (P.length : Int) + Z.length + R.length → (P ++ (Z ++ (R ++ S))).length = d0.length →
    ∃ W, SrtM W ∧ W.Perm (Z ++ R) ∧ loopR (slices_insertionSortCmpFunc_api_Message.l12b d0 a b) (P ++ (Z ++ (R ++ S)), (P.length : Int) + (Z.length : Int)) = some (P ++ (W ++ S))
  | 0, Z, R, hn, hs, hb, hl => by
    have : R = [] := List.length_eq_zero_iff.1 hn
    subst this
    refine ⟨Z, hs, by simp, ?_⟩
    rw [loopR_eq]
    simp only [slices_insertionSortCmpFunc_api_Message.l12b]
    rw [if_neg (by simp only [List.length_nil] at hb; omega), if_pos hl]
    simp
  | n + 1, Z, R, hn, hs, hb, hl => by
    cases R with
    | nil => simp at hn
    | cons x R =>
      simp only [List.length_cons] at hn hb
      have hl' := hl
      simp only [List.length_append, List.length_cons] at hl'
      rw [loopR_eq]
      simp only [slices_insertionSortCmpFunc_api_Message.l12b]
      rw [if_pos (by omega)]
      obtain ⟨W, w1, w2, w3⟩ := ins_inner (a := a) (i := (P.length : Int) + (Z.length : Int)) (by omega) (P := P) ha (T := R ++ S) (x := x) Z.length Z [] rfl (by simpa using hs) (fun z hz => by cases hz) (by simp only [List.length_append, List.length_cons, List.nil_append]; omega)
      unfold slices_insertionSortCmpFunc_api_Message.l14
      rw [show P ++ (Z ++ ((x :: R) ++ S)) = P ++ (Z ++ x :: ([] ++ (R ++ S))) by simp, w3]
      simp only [Option.bind_some]
      have hwl : W.length = Z.length + 1 := by have := w2.length_eq; simpa using this
      obtain ⟨W', q1, q2, q3⟩ := ins_outer (b := b) hd (P := P) (S := S) ha n W R (by omega) w1 (by omega) (by simp only [List.length_append]; omega)
      refine ⟨W', q1, q2.trans ?_, ?_⟩
      · refine (List.Perm.append_right R w2).trans ?_
        simp
      · show loopR _ (P ++ (W ++ (R ++ S)), (P.length : Int) + (Z.length : Int) + 1) = _
        rw [show (P.length : Int) + (Z.length : Int) + 1 = (P.length : Int) + (W.length : Int) by omega]
        exact q3
theorem insertion_eq (P X S : List api_Message) {a b : Int} (ha : a = (P.length : Int)) (hb : b = (P.length : Int) + X.length) (hs : (P ++ (X ++ S)).length ≤ 1099511627776) :
    ∃ W, SrtM W ∧ W.Perm X ∧ slices_insertionSortCmpFunc_api_Message.f (P ++ (X ++ S)) a b = some (P ++ (W ++ S)) := by
  have hl' := hs
  simp only [List.length_append] at hl'
  unfold slices_insertionSortCmpFunc_api_Message.f slices_insertionSortCmpFunc_api_Message.l12
  rw [w64 (x := a + 1) (by omega) (by omega)]
  cases X with
  | nil =>
    refine ⟨[], List.Pairwise.nil, List.Perm.refl _, ?_⟩
    rw [loopR_eq]
    simp only [slices_insertionSortCmpFunc_api_Message.l12b]
    rw [if_neg (by simp only [List.length_nil] at hb; omega), if_pos trivial]
    rfl
  | cons x R =>
    simp only [List.length_cons] at hb
    obtain ⟨W, w1, w2, w3⟩ := ins_outer (d0 := P ++ (x :: R ++ S)) (a := a) (b := b) hs (P := P) (S := S) ha R.length [x] R rfl (List.pairwise_singleton _ _) (by simp only [List.length_singleton]; omega) (by simp)
    refine ⟨W, w1, by simpa using w2, ?_⟩
    simp only [List.length_singleton] at w3
    rw [show a + 1 = (P.length : Int) + ((1 : Nat) : Int) by omega]
    exact w3
end
section
open Go.Sl
set_option linter.unusedVariables false
set_option linter.unusedSimpArgs false
theorem mid_eq {x : Int} (h0 : 0 ≤ x) (h1 : x ≤ 1125899906842624) : IntKind.i64.wrap (Int.fdiv (IntKind.u64.wrap (IntKind.i64.wrap x)) (2 ^ (min (1 : Int).toNat IntKind.u64.bits))) = x / 2 := by
  have e2 : (2 : Int) ^ (min (1 : Int).toNat IntKind.u64.bits) = 2 := by decide
  have eu : IntKind.u64.wrap x = x := by
    show x % (2 ^ 64) = x
    exact Int.emod_eq_of_lt h0 (by omega)
  rw [w64 (x := x) (by omega) (by omega), eu, e2, Int.fdiv_eq_ediv_of_nonneg _ (by decide), w64 (by omega) (by omega)]
theorem cA2 {α β γ : Type} (f : α → β → γ) {a b : α} {c d : β} (h1 : a = b) (h2 : c = d) : f a c = f b d := by rw [h1, h2]
theorem search {R : Type} {body : Int × Int → Option ((Int × Int) ⊕ R)} {p : Int → Bool} {g : Int → Option R} {lo hi : Int}
    (h : ∀ i j, lo ≤ i → i < j → j ≤ hi → body (i, j) = some (.inl (if p ((i + j) / 2) = true then ((i + j) / 2 + 1, j) else (i, (i + j) / 2))))
    (he : ∀ i, lo ≤ i → i ≤ hi → body (i, i) = Option.map Sum.inr (g i)) : ∀ (n : Nat) (i j : Int), (j - i).toNat ≤ n → lo ≤ i → i ≤ j → j ≤ hi → ∃ k, i ≤ k ∧ k ≤ j ∧ (k = i ∨ p (k - 1) = true) ∧ (k = j ∨ p k = false) ∧ loopR body (i, j) = g k
  | 0, i, j, hn, h1, h2, h3 => by
    obtain rfl : i = j := by omega
    exact ⟨i, by omega, by omega, .inl rfl, .inl rfl, by rw [loopR_eq, he i h1 h3, inr_bind]⟩
  | n + 1, i, j, hn, h1, h2, h3 => by
    by_cases e : i = j
    · subst e
      exact ⟨i, by omega, by omega, .inl rfl, .inl rfl, by rw [loopR_eq, he i h1 h3, inr_bind]⟩
    · rw [loopR_eq, h i j h1 (by omega) h3]
      by_cases hp : p ((i + j) / 2) = true
      · rw [if_pos hp]
        obtain ⟨k, k1, k2, k3, k4, k5⟩ := search h he n ((i + j) / 2 + 1) j (by omega) (by omega) (by omega) h3
        refine ⟨k, by omega, k2, .inr ?_, k4, k5⟩
        rcases k3 with rfl | k3
        · rw [show (i + j) / 2 + 1 - 1 = (i + j) / 2 by omega]; exact hp
        · exact k3
      · rw [if_neg hp]
        obtain ⟨k, k1, k2, k3, k4, k5⟩ := search h he n i ((i + j) / 2) (by omega) h1 (by omega) (by omega)
        refine ⟨k, k1, by omega, k3, .inr ?_, k5⟩
        rcases k4 with rfl | k4
        · simpa using hp
        · exact k4
theorem nth_app {α : Type} [Inhabited α] {P X S : List α} {k : Nat} (hk : k < X.length) {i : Int} (hi : i = (P.length : Int) + (k : Int)) : nth (P ++ (X ++ S)) i = nth X (k : Int) := by
  subst hi
  have e : (P.length : Int) + (k : Int) = ((P.length + k : Nat) : Int) := by omega
  rw [e, nth_nat (by simp only [List.length_append]; omega), nth_nat hk, List.getElem_append_right (by omega), List.getElem_append_left (by omega)]
  congr 1; omega
theorem put_fwd {d0 : List api_Message} (hd : d0.length ≤ 1099511627776) (P Y1 Y2 : List api_Message) (x : api_Message) {i a : Int} (ha : a = (P.length : Int)) (hi : i = (P.length : Int) + 1 + Y1.length) (hl : (P ++ (x :: (Y1 ++ Y2))).length = d0.length) :
    slices_symMergeCmpFunc_api_Message.l23 d0 i (P ++ (x :: (Y1 ++ Y2)), a) = some (P ++ (Y1 ++ (x :: Y2))) := by
  subst ha hi
  have hl' := hl
  simp only [List.length_append, List.length_cons] at hl'
  unfold slices_symMergeCmpFunc_api_Message.l23
  have hst : ∀ k : Nat, (P ++ (Y1.take k ++ (x :: (Y1.drop k ++ Y2)))).length = d0.length := fun k => by
    simp only [List.length_append, List.length_take, List.length_drop, List.length_cons]; omega
  refine (show loopR _ ((fun k : Nat => (P ++ (Y1.take k ++ (x :: (Y1.drop k ++ Y2))), (P.length : Int) + (k : Int))) 0) = _ from loopR_steps (fun k : Nat => (P ++ (Y1.take k ++ (x :: (Y1.drop k ++ Y2))), (P.length : Int) + (k : Int))) Y1.length (fun k hk => ?_) ?_)
  · have hl1 := hst k
    simp only [slices_symMergeCmpFunc_api_Message.l23b]
    rw [w64 (x := (P.length : Int) + 1 + Y1.length - 1) (by omega) (by omega), if_pos (by omega), w64 (x := (P.length : Int) + (k : Int) + 1) (by omega) (by omega), if_pos (by rw [hl1]; omega), if_pos (by rw [hl1]; omega), if_pos (by rw [setL_len, hl1]; omega)]
    have e1 : P ++ (Y1.take k ++ (x :: (Y1.drop k ++ Y2))) = (P ++ Y1.take k) ++ x :: ([] ++ Y1[k] :: (Y1.drop (k + 1) ++ Y2)) := by
      rw [List.drop_eq_getElem_cons hk]; simp only [List.append_assoc, List.cons_append, List.nil_append]
    have e2 : P ++ (Y1.take (k + 1) ++ (x :: (Y1.drop (k + 1) ++ Y2))) = (P ++ Y1.take k) ++ Y1[k] :: ([] ++ x :: (Y1.drop (k + 1) ++ Y2)) := by
      rw [List.take_succ_eq_append_getElem hk]; simp only [List.append_assoc, List.cons_append, List.nil_append]
    rw [e1, e2]
    refine cA2 (fun x y => some (Sum.inl (x, y))) ?_ (by omega)
    exact swp_far (by simp only [List.length_append, List.length_take]; omega) (by simp only [List.length_append, List.length_take, List.length_nil]; omega)
  · have hl1 := hst Y1.length
    simp only [slices_symMergeCmpFunc_api_Message.l23b]
    rw [w64 (x := (P.length : Int) + 1 + Y1.length - 1) (by omega) (by omega), if_neg (by omega), if_pos hl1, List.take_length, List.drop_length]
    rfl
theorem put_bwd {d0 : List api_Message} (hd : d0.length ≤ 1099511627776) (P X2 S : List api_Message) (y : api_Message) {i m : Int} (hi : i = (P.length : Int)) (hm : m = (P.length : Int) + X2.length) (hl : (P ++ (X2 ++ (y :: S))).length = d0.length) :
    slices_symMergeCmpFunc_api_Message.l29 d0 i (P ++ (X2 ++ (y :: S)), m) = some (P ++ (y :: (X2 ++ S))) := by
  subst hi hm
  have hl' := hl
  simp only [List.length_append, List.length_cons] at hl'
  unfold slices_symMergeCmpFunc_api_Message.l29
  have hst : ∀ k : Nat, (P ++ (X2.take k ++ (y :: (X2.drop k ++ S)))).length = d0.length := fun k => by
    simp only [List.length_append, List.length_take, List.length_drop, List.length_cons]; omega
  have e0 : (P ++ (X2 ++ (y :: S)), (P.length : Int) + X2.length) = (fun k : Nat => (P ++ (X2.take (X2.length - k) ++ (y :: (X2.drop (X2.length - k) ++ S))), (P.length : Int) + ((X2.length - k : Nat) : Int))) 0 := by simp
  rw [e0]
  refine loopR_steps (fun k : Nat => (P ++ (X2.take (X2.length - k) ++ (y :: (X2.drop (X2.length - k) ++ S))), (P.length : Int) + ((X2.length - k : Nat) : Int))) X2.length (fun k hk => ?_) ?_
  · have hl1 := hst (X2.length - k)
    obtain ⟨q, hq⟩ : ∃ q, X2.length - k = q + 1 := ⟨X2.length - k - 1, by omega⟩
    have hq2 : X2.length - (k + 1) = q := by omega
    have hq3 : q < X2.length := by omega
    rw [hq] at hl1
    simp only [hq, hq2, slices_symMergeCmpFunc_api_Message.l29b]
    rw [if_pos (by omega), w64 (x := (P.length : Int) + ((q + 1 : Nat) : Int) - 1) (by omega) (by omega), if_pos (by rw [hl1]; omega), if_pos (by rw [hl1]; omega), if_pos (by rw [setL_len, hl1]; omega)]
    have e1 : P ++ (X2.take (q + 1) ++ (y :: (X2.drop (q + 1) ++ S))) = (P ++ X2.take q) ++ X2[q] :: ([] ++ y :: (X2.drop (q + 1) ++ S)) := by
      rw [List.take_succ_eq_append_getElem hq3]; simp only [List.append_assoc, List.cons_append, List.nil_append]
    have e2 : P ++ (X2.take q ++ (y :: (X2.drop q ++ S))) = (P ++ X2.take q) ++ y :: ([] ++ X2[q] :: (X2.drop (q + 1) ++ S)) := by
      rw [List.drop_eq_getElem_cons hq3]; simp only [List.append_assoc, List.cons_append, List.nil_append]
    rw [e1, e2]
    refine cA2 (fun x y => some (Sum.inl (x, y))) ?_ (by omega)
    exact swp_back (by simp only [List.length_append, List.length_take]; omega) (by simp only [List.length_append, List.length_take, List.length_nil]; omega)
  · have hl1 := hst 0
    simp only [Nat.sub_self, slices_symMergeCmpFunc_api_Message.l29b]
    rw [if_neg (by omega), if_pos hl1]
    rfl
theorem sym_one (P Y S : List api_Message) (x : api_Message) (hY : SrtM Y) {a m b : Int} (ha : a = (P.length : Int)) (hm : m = (P.length : Int) + 1) (hb : b = (P.length : Int) + 1 + Y.length) (hs : (P ++ (x :: (Y ++ S))).length ≤ 1099511627776) :
    ∃ Z, SrtM Z ∧ Z.Perm (x :: Y) ∧ slices_symMergeCmpFunc_api_Message.l22 (P ++ (x :: (Y ++ S))) a (m, b) = some (P ++ (Z ++ S)) := by
  have hl' := hs
  simp only [List.length_append, List.length_cons] at hl'
  have hlen : (P ++ (x :: (Y ++ S))).length = P.length + (Y.length + S.length + 1) := by simp only [List.length_append, List.length_cons]
  have e1 : P ++ (x :: (Y ++ S)) = (P ++ [x]) ++ (Y ++ S) := by simp
  have nx : nth (P ++ (x :: (Y ++ S))) a = x := nth_mid ha
  have ny : ∀ q : Nat, q < Y.length → nth (P ++ (x :: (Y ++ S))) (m + (q : Int)) = nth Y (q : Int) := fun q hq => by
    rw [e1]; exact nth_app hq (by simp only [List.length_append, List.length_singleton]; omega)
  unfold slices_symMergeCmpFunc_api_Message.l22
  obtain ⟨k, k1, k2, k3, k4, k5⟩ := search (body := slices_symMergeCmpFunc_api_Message.l22b (P ++ (x :: (Y ++ S))) a) (p := fun h => bef (nth (P ++ (x :: (Y ++ S))) h) x) (g := fun i => slices_symMergeCmpFunc_api_Message.l23 (P ++ (x :: (Y ++ S))) i (P ++ (x :: (Y ++ S)), a)) (lo := m) (hi := b)
    (fun i j h1 h2 h3 => by
      simp only [slices_symMergeCmpFunc_api_Message.l22b]
      rw [if_pos h2, mid_eq (by omega) (by omega), if_pos (by rw [hlen]; omega), if_pos (by rw [hlen]; omega), nx]
      obtain ⟨v, ev, hv⟩ := order_eq (nth (P ++ (x :: (Y ++ S))) ((i + j) / 2)) x
      rw [show event_order.f (⟨(nth (P ++ (x :: (Y ++ S))) ((i + j) / 2)).Key, (nth (P ++ (x :: (Y ++ S))) ((i + j) / 2)).To, (nth (P ++ (x :: (Y ++ S))) ((i + j) / 2)).Value, (nth (P ++ (x :: (Y ++ S))) ((i + j) / 2)).Uid, (nth (P ++ (x :: (Y ++ S))) ((i + j) / 2)).Anti⟩ : api_Message) (⟨x.Key, x.To, x.Value, x.Uid, x.Anti⟩ : api_Message) = some v from ev]
      simp only [Option.bind_some]
      by_cases hb' : bef (nth (P ++ (x :: (Y ++ S))) ((i + j) / 2)) x = true
      · rw [if_pos (hv.2 hb'), if_pos hb', w64 (by omega) (by omega)]
      · rw [if_neg (fun h => hb' (hv.1 h)), if_neg hb'])
    (fun i h1 h2 => by
      simp only [slices_symMergeCmpFunc_api_Message.l22b]
      rw [if_neg (by omega)]) _ m b (Nat.le_refl _) (Int.le_refl _) (by omega) (Int.le_refl _)
  obtain ⟨q, hq⟩ : ∃ q : Nat, k = m + (q : Int) := ⟨(k - m).toNat, by omega⟩
  subst hq
  have hqY : q ≤ Y.length := by omega
  have eY : Y = Y.take q ++ Y.drop q := (List.take_append_drop _ _).symm
  have l1 : (Y.take q).length = q := by rw [List.length_take]; omega
  have l2 : (Y.drop q).length = Y.length - q := List.length_drop
  have hs12 : SrtM (Y.take q ++ Y.drop q) := by rw [← eY]; exact hY
  obtain ⟨t1, t2, _⟩ := List.pairwise_append.1 hs12
  refine ⟨Y.take q ++ x :: Y.drop q, srt_put hs12 (fun z hz => srt_lastle t1 hz (fun n hn => ?_)) (fun z hz => srt_firstle t2 hz (fun hp => ?_)), ?_, ?_⟩
  · rcases k3 with k3 | k3
    · omega
    · have := leM_of_bef k3
      rw [show m + (q : Int) - 1 = m + (n : Int) by omega, ny n (by omega)] at this
      rw [show nth (Y.take q) (n : Int) = nth Y (n : Int) by rw [nth_nat (by omega), nth_nat (by omega), List.getElem_take]]
      exact this
  · rcases k4 with k4 | k4
    · omega
    · have k4' : leM x (nth (P ++ (x :: (Y ++ S))) (m + (q : Int))) := k4
      rw [ny q (by omega)] at k4'
      rw [show nth (Y.drop q) 0 = nth Y (q : Int) by
        have : nth (Y.drop q) ((0 : Nat) : Int) = _ := nth_nat (by omega)
        rw [show (0 : Int) = ((0 : Nat) : Int) from rfl, this, nth_nat (by omega), List.getElem_drop]; simp]
      exact k4'
  · conv => rhs; rw [eY]
    exact List.perm_middle
  · rw [k5]
    have e2 : P ++ (x :: (Y ++ S)) = P ++ (x :: (Y.take q ++ (Y.drop q ++ S))) := by rw [← List.append_assoc, List.take_append_drop]
    have := put_fwd (d0 := P ++ (x :: (Y ++ S))) hs P (Y.take q) (Y.drop q ++ S) x (i := m + (q : Int)) ha (by omega) (by rw [← e2])
    rw [← e2] at this
    rw [this]
    simp
theorem sym_oneB (P X S : List api_Message) (y : api_Message) (hX : SrtM X) {a m : Int} (ha : a = (P.length : Int)) (hm : m = (P.length : Int) + X.length) (hs : (P ++ (X ++ (y :: S))).length ≤ 1099511627776) :
    ∃ Z, SrtM Z ∧ Z.Perm (X ++ [y]) ∧ slices_symMergeCmpFunc_api_Message.l28 (P ++ (X ++ (y :: S))) m (a, m) = some (P ++ (Z ++ S)) := by
  have hl' := hs
  simp only [List.length_append, List.length_cons] at hl'
  have hlen : (P ++ (X ++ (y :: S))).length = P.length + (X.length + (S.length + 1)) := by simp only [List.length_append, List.length_cons]
  have e1 : P ++ (X ++ (y :: S)) = (P ++ X) ++ (y :: S) := by simp
  have ny : nth (P ++ (X ++ (y :: S))) m = y := by rw [e1]; exact nth_mid (by simp only [List.length_append]; omega)
  have nx : ∀ q : Nat, q < X.length → nth (P ++ (X ++ (y :: S))) (a + (q : Int)) = nth X (q : Int) := fun q hq => nth_app hq (by omega)
  unfold slices_symMergeCmpFunc_api_Message.l28
  obtain ⟨k, k1, k2, k3, k4, k5⟩ := search (body := slices_symMergeCmpFunc_api_Message.l28b (P ++ (X ++ (y :: S))) m) (p := fun h => !bef y (nth (P ++ (X ++ (y :: S))) h)) (g := fun i => slices_symMergeCmpFunc_api_Message.l29 (P ++ (X ++ (y :: S))) i (P ++ (X ++ (y :: S)), m)) (lo := a) (hi := m)
    (fun i j h1 h2 h3 => by
      simp only [slices_symMergeCmpFunc_api_Message.l28b]
      rw [if_pos h2, mid_eq (by omega) (by omega), if_pos (by rw [hlen]; omega), if_pos (by rw [hlen]; omega), ny]
      obtain ⟨v, ev, hv⟩ := order_eq y (nth (P ++ (X ++ (y :: S))) ((i + j) / 2))
      rw [show event_order.f (⟨y.Key, y.To, y.Value, y.Uid, y.Anti⟩ : api_Message) (⟨(nth (P ++ (X ++ (y :: S))) ((i + j) / 2)).Key, (nth (P ++ (X ++ (y :: S))) ((i + j) / 2)).To, (nth (P ++ (X ++ (y :: S))) ((i + j) / 2)).Value, (nth (P ++ (X ++ (y :: S))) ((i + j) / 2)).Uid, (nth (P ++ (X ++ (y :: S))) ((i + j) / 2)).Anti⟩ : api_Message) = some v from ev]
      simp only [Option.bind_some]
      by_cases hb' : bef y (nth (P ++ (X ++ (y :: S))) ((i + j) / 2)) = true
      · rw [if_pos (hv.2 hb'), if_neg (by rw [hb']; simp)]
      · rw [if_neg (fun h => hb' (hv.1 h)), if_pos (by simpa using hb'), w64 (by omega) (by omega)])
    (fun i h1 h2 => by
      simp only [slices_symMergeCmpFunc_api_Message.l28b]
      rw [if_neg (by omega)]) _ a m (Nat.le_refl _) (Int.le_refl _) (by omega) (Int.le_refl _)
  obtain ⟨q, hq⟩ : ∃ q : Nat, k = a + (q : Int) := ⟨(k - a).toNat, by omega⟩
  subst hq
  have hqX : q ≤ X.length := by omega
  have eX : X = X.take q ++ X.drop q := (List.take_append_drop _ _).symm
  have l1 : (X.take q).length = q := by rw [List.length_take]; omega
  have l2 : (X.drop q).length = X.length - q := List.length_drop
  have hs12 : SrtM (X.take q ++ X.drop q) := by rw [← eX]; exact hX
  obtain ⟨t1, t2, _⟩ := List.pairwise_append.1 hs12
  refine ⟨X.take q ++ y :: X.drop q, srt_put hs12 (fun z hz => srt_lastle t1 hz (fun n hn => ?_)) (fun z hz => srt_firstle t2 hz (fun hp => ?_)), ?_, ?_⟩
  · rcases k3 with k3 | k3
    · omega
    · have k3' : leM (nth (P ++ (X ++ (y :: S))) (a + (q : Int) - 1)) y := by simpa using k3
      rw [show a + (q : Int) - 1 = a + (n : Int) by omega, nx n (by omega)] at k3'
      rw [show nth (X.take q) (n : Int) = nth X (n : Int) by rw [nth_nat (by omega), nth_nat (by omega), List.getElem_take]]
      exact k3'
  · rcases k4 with k4 | k4
    · omega
    · have k4' : bef y (nth (P ++ (X ++ (y :: S))) (a + (q : Int))) = true := by simpa using k4
      rw [nx q (by omega)] at k4'
      rw [show nth (X.drop q) 0 = nth X (q : Int) by
        have : nth (X.drop q) ((0 : Nat) : Int) = _ := nth_nat (by omega)
        rw [show (0 : Int) = ((0 : Nat) : Int) from rfl, this, nth_nat (by omega), List.getElem_drop]; simp]
      exact leM_of_bef k4'
  · refine List.perm_middle.trans ?_
    rw [List.take_append_drop]
    exact (List.perm_append_singleton y X).symm
  · rw [k5]
    have e2 : P ++ (X ++ (y :: S)) = (P ++ X.take q) ++ (X.drop q ++ (y :: S)) := by
      rw [List.append_assoc, ← List.append_assoc (X.take q), List.take_append_drop]
    have := put_bwd (d0 := P ++ (X ++ (y :: S))) hs (P ++ X.take q) (X.drop q) S y (i := a + (q : Int)) (m := m) (by simp only [List.length_append]; omega) (by simp only [List.length_append]; omega) (by rw [← e2])
    rw [← e2] at this
    rw [this]
    simp
def RecOn (rec_ : List api_Message → Int → Int → Int → Option (List api_Message)) (n : Nat) : Prop :=
  ∀ (P X Y S : List api_Message), 0 < X.length → 0 < Y.length → X.length + Y.length ≤ n → SrtM X → SrtM Y → (P ++ (X ++ (Y ++ S))).length ≤ 1099511627776 →
    ∃ Z, SrtM Z ∧ Z.Perm (X ++ Y) ∧ rec_ (P ++ (X ++ (Y ++ S))) (P.length : Int) ((P.length : Int) + X.length) ((P.length : Int) + X.length + Y.length) = some (P ++ (Z ++ S))
theorem sym_j34 {rec_ : List api_Message → Int → Int → Int → Option (List api_Message)} {n : Nat} (hR : RecOn rec_ n) {d0 : List api_Message} (hd : d0.length ≤ 1099511627776) {a m b s : Int} (P X Y S : List api_Message) (hX : SrtM X) (hY : SrtM Y) (hn : X.length + Y.length ≤ n) (h0 : 0 ≤ a + b ∧ a + b ≤ 1125899906842624) (hm : 0 ≤ m ∧ m ≤ 1099511627776) (hs0 : 0 ≤ s ∧ s ≤ 1099511627776)
    (e1 : (a + b) / 2 = (P.length : Int)) (e2 : (a + b) / 2 + m - s = (P.length : Int) + X.length) (e3 : b = (P.length : Int) + X.length + Y.length) (hl : (P ++ (X ++ (Y ++ S))).length = d0.length) :
    ∃ Z, SrtM Z ∧ Z.Perm (X ++ Y) ∧ slices_symMergeCmpFunc_api_Message.j34 rec_ d0 a m b s (P ++ (X ++ (Y ++ S))) = some (P ++ (Z ++ S)) := by
  have hl' := hl
  simp only [List.length_append] at hl'
  unfold slices_symMergeCmpFunc_api_Message.j34
  rw [mid_eq h0.1 h0.2, w64 (x := (a + b) / 2 + m) (by omega) (by omega), w64 (x := (a + b) / 2 + m - s) (by omega) (by omega), e2, e1, e3]
  by_cases c1 : (P.length : Int) < (P.length : Int) + X.length
  · rw [if_pos c1]
    by_cases c2 : (P.length : Int) + X.length < (P.length : Int) + X.length + Y.length
    · rw [if_pos c2]
      obtain ⟨Z, z1, z2, z3⟩ := hR P X Y S (by omega) (by omega) hn hX hY (by omega)
      have hz := z2.length_eq
      simp only [List.length_append] at hz
      rw [z3]
      simp only [Option.bind_some]
      rw [if_pos (by rw [← hl]; simp only [List.length_append]; omega)]
      exact ⟨Z, z1, z2, rfl⟩
    · rw [if_neg c2, if_pos hl]
      have : Y = [] := List.length_eq_zero_iff.1 (by omega)
      subst this
      exact ⟨X, hX, by simp, by simp⟩
  · rw [if_neg c1, if_pos hl]
    have : X = [] := List.length_eq_zero_iff.1 (by omega)
    subst this
    exact ⟨Y, hY, by simp, by simp⟩
theorem sym_j33 {rec_ : List api_Message → Int → Int → Int → Option (List api_Message)} {n : Nat} (hR : RecOn rec_ n) {d0 : List api_Message} (hd : d0.length ≤ 1099511627776) {a m b s : Int} (P X1 Y1 X2 Y2 S : List api_Message) (hX1 : SrtM X1) (hY1 : SrtM Y1) (hX2 : SrtM X2) (hY2 : SrtM Y2) (hn1 : X1.length + Y1.length ≤ n) (hn2 : X2.length + Y2.length ≤ n) (hm : 0 ≤ m ∧ m ≤ 1099511627776)
    (ha : a = (P.length : Int)) (es : s = (P.length : Int) + X1.length) (e1 : (a + b) / 2 = (P.length : Int) + X1.length + Y1.length) (e2 : (a + b) / 2 + m - s = (P.length : Int) + X1.length + Y1.length + X2.length) (e3 : b = (P.length : Int) + X1.length + Y1.length + X2.length + Y2.length) (hl : (P ++ (X1 ++ (Y1 ++ (X2 ++ (Y2 ++ S))))).length = d0.length) :
    ∃ Z1 Z2, SrtM Z1 ∧ Z1.Perm (X1 ++ Y1) ∧ SrtM Z2 ∧ Z2.Perm (X2 ++ Y2) ∧ slices_symMergeCmpFunc_api_Message.j33 rec_ d0 a m b s (P ++ (X1 ++ (Y1 ++ (X2 ++ (Y2 ++ S))))) = some (P ++ (Z1 ++ (Z2 ++ S))) := by
  subst ha; subst es
  have hl' := hl
  simp only [List.length_append] at hl'
  have fin : ∀ Z1 : List api_Message, SrtM Z1 → Z1.Perm (X1 ++ Y1) → ∃ Z2, SrtM Z2 ∧ Z2.Perm (X2 ++ Y2) ∧ slices_symMergeCmpFunc_api_Message.j34 rec_ d0 (P.length : Int) m b ((P.length : Int) + X1.length) (P ++ (Z1 ++ (X2 ++ (Y2 ++ S)))) = some (P ++ (Z1 ++ (Z2 ++ S))) := fun Z1 z1 z2 => by
    have hz := z2.length_eq
    simp only [List.length_append] at hz
    obtain ⟨Z2, w1, w2, w3⟩ := sym_j34 hR hd (a := (P.length : Int)) (m := m) (b := b) (s := (P.length : Int) + X1.length) (P ++ Z1) X2 Y2 S hX2 hY2 hn2 (by omega) hm (by omega) (by simp only [List.length_append]; omega) (by simp only [List.length_append]; omega) (by simp only [List.length_append]; omega) (by simp only [List.length_append]; omega)
    exact ⟨Z2, w1, w2, by simpa using w3⟩
  unfold slices_symMergeCmpFunc_api_Message.j33
  rw [mid_eq (by omega) (by omega), e1]
  by_cases c1 : (P.length : Int) < (P.length : Int) + X1.length
  · rw [if_pos c1]
    by_cases c2 : (P.length : Int) + X1.length < (P.length : Int) + X1.length + Y1.length
    · rw [if_pos c2]
      obtain ⟨Z1, z1, z2, z3⟩ := hR P X1 Y1 (X2 ++ (Y2 ++ S)) (by omega) (by omega) hn1 hX1 hY1 (by simp only [List.length_append]; omega)
      obtain ⟨Z2, w1, w2, w3⟩ := fin Z1 z1 z2
      rw [z3]
      simp only [Option.bind_some]
      exact ⟨Z1, Z2, z1, z2, w1, w2, w3⟩
    · rw [if_neg c2]
      have : Y1 = [] := List.length_eq_zero_iff.1 (by omega)
      subst this
      obtain ⟨Z2, w1, w2, w3⟩ := fin X1 hX1 (by simp)
      exact ⟨X1, Z2, hX1, by simp, w1, w2, by simpa using w3⟩
  · rw [if_neg c1]
    have : X1 = [] := List.length_eq_zero_iff.1 (by omega)
    subst this
    obtain ⟨Z2, w1, w2, w3⟩ := fin Y1 hY1 (by simp)
    exact ⟨Y1, Z2, hY1, by simp, w1, w2, by simpa using w3⟩
theorem sym_cut {rec_ : List api_Message → Int → Int → Int → Option (List api_Message)} {n : Nat} (hR : RecOn rec_ n) (P X Y S : List api_Message) (hX : SrtM X) (hY : SrtM Y) (hn : X.length + Y.length ≤ n + 1) (h1 : 0 < X.length) (h2 : 0 < Y.length) {a m b s0 r0 : Int} (ha : a = (P.length : Int)) (hm : m = (P.length : Int) + X.length) (hb : b = (P.length : Int) + X.length + Y.length)
    (hs : (P ++ (X ++ (Y ++ S))).length ≤ 1099511627776) (hsr : s0 ≤ r0) (hs0 : s0 = a ∨ s0 = (a + b) / 2 + m - b) (hsa : a ≤ s0) (hr0 : r0 = m ∨ r0 = (a + b) / 2) (hrm : r0 ≤ m) (hrr : r0 ≤ (a + b) / 2) (hse : (a + b) / 2 + m - s0 ≤ b) :
    ∃ Z, SrtM Z ∧ Z.Perm (X ++ Y) ∧ slices_symMergeCmpFunc_api_Message.l32 rec_ (P ++ (X ++ (Y ++ S))) a m b (s0, r0) = some (P ++ (Z ++ S)) := by
  have hl' := hs
  simp only [List.length_append] at hl'
  have hlen : (P ++ (X ++ (Y ++ S))).length = P.length + (X.length + (Y.length + S.length)) := by simp only [List.length_append]
  have hM : (a + b) / 2 < b ∧ a < (a + b) / 2 + 1 := by omega
  have nx : ∀ q : Nat, q < X.length → nth (P ++ (X ++ (Y ++ S))) (a + (q : Int)) = nth X (q : Int) := fun q hq => nth_app hq (by omega)
  have ny : ∀ q : Nat, q < Y.length → nth (P ++ (X ++ (Y ++ S))) (m + (q : Int)) = nth Y (q : Int) := fun q hq => by
    rw [show P ++ (X ++ (Y ++ S)) = (P ++ X) ++ (Y ++ S) by simp]; exact nth_app hq (by simp only [List.length_append]; omega)
  generalize hd : P ++ (X ++ (Y ++ S)) = d at hs hlen nx ny
  unfold slices_symMergeCmpFunc_api_Message.l32
  have hmid : IntKind.i64.wrap (Int.fdiv (IntKind.u64.wrap (IntKind.i64.wrap (a + b))) (2 ^ (min (1 : Int).toNat IntKind.u64.bits))) = (a + b) / 2 := mid_eq (by omega) (by omega)
  obtain ⟨k, k1, k2, k3, k4, k5⟩ := search (body := slices_symMergeCmpFunc_api_Message.l32b rec_ d a m b) (p := fun c => !bef (nth d ((a + b) / 2 + m - 1 - c)) (nth d c)) (g := fun i => if i < m then (if m < (a + b) / 2 + m - i then ((slices_rotateCmpFunc_api_Message.f d i m ((a + b) / 2 + m - i)).bind fun t => slices_symMergeCmpFunc_api_Message.j33 rec_ d a m b i t) else slices_symMergeCmpFunc_api_Message.j33 rec_ d a m b i d) else slices_symMergeCmpFunc_api_Message.j33 rec_ d a m b i d) (lo := s0) (hi := r0)
    (fun i j h1 h2 h3 => by
      simp only [slices_symMergeCmpFunc_api_Message.l32b]
      rw [if_pos h2, hmid, mid_eq (x := i + j) (by omega) (by omega), w64 (x := (a + b) / 2 + m) (by omega) (by omega), w64 (x := (a + b) / 2 + m - 1) (by omega) (by omega), w64 (x := (a + b) / 2 + m - 1 - (i + j) / 2) (by omega) (by omega), if_pos (by rw [hlen]; omega), if_pos (by rw [hlen]; omega)]
      obtain ⟨v, ev, hv⟩ := order_eq (nth d ((a + b) / 2 + m - 1 - (i + j) / 2)) (nth d ((i + j) / 2))
      rw [show event_order.f (⟨(nth d ((a + b) / 2 + m - 1 - (i + j) / 2)).Key, (nth d ((a + b) / 2 + m - 1 - (i + j) / 2)).To, (nth d ((a + b) / 2 + m - 1 - (i + j) / 2)).Value, (nth d ((a + b) / 2 + m - 1 - (i + j) / 2)).Uid, (nth d ((a + b) / 2 + m - 1 - (i + j) / 2)).Anti⟩ : api_Message) (⟨(nth d ((i + j) / 2)).Key, (nth d ((i + j) / 2)).To, (nth d ((i + j) / 2)).Value, (nth d ((i + j) / 2)).Uid, (nth d ((i + j) / 2)).Anti⟩ : api_Message) = some v from ev]
      simp only [Option.bind_some]
      by_cases hb' : bef (nth d ((a + b) / 2 + m - 1 - (i + j) / 2)) (nth d ((i + j) / 2)) = true
      · rw [if_pos (hv.2 hb'), if_neg (by rw [hb']; simp)]
      · rw [if_neg (fun h => hb' (hv.1 h)), if_pos (by simpa using hb'), w64 (by omega) (by omega)])
    (fun i h1 h2 => by
      simp only [slices_symMergeCmpFunc_api_Message.l32b]
      rw [if_neg (by omega), hmid, w64 (x := (a + b) / 2 + m) (by omega) (by omega), w64 (x := (a + b) / 2 + m - i) (by omega) (by omega)]) _ s0 r0 (Nat.le_refl _) (Int.le_refl _) hsr (Int.le_refl _)
  rw [k5]
  obtain ⟨q, hq⟩ : ∃ q : Nat, k = a + (q : Int) := ⟨(k - a).toNat, by omega⟩
  obtain ⟨e, he⟩ : ∃ e : Nat, (a + b) / 2 + m - k = m + (e : Int) := ⟨((a + b) / 2 - k).toNat, by omega⟩
  have hqX : q ≤ X.length := by omega
  have heY : e ≤ Y.length := by omega
  have eX : X = X.take q ++ X.drop q := (List.take_append_drop _ _).symm
  have eY : Y = Y.take e ++ Y.drop e := (List.take_append_drop _ _).symm
  have x1 : (X.take q).length = q := by rw [List.length_take]; omega
  have x2 : (X.drop q).length = X.length - q := List.length_drop
  have y1 : (Y.take e).length = e := by rw [List.length_take]; omega
  have y2 : (Y.drop e).length = Y.length - e := List.length_drop
  have hsX : SrtM (X.take q ++ X.drop q) := by rw [← eX]; exact hX
  have hsY : SrtM (Y.take e ++ Y.drop e) := by rw [← eY]; exact hY
  obtain ⟨sx1, sx2, _⟩ := List.pairwise_append.1 hsX
  obtain ⟨sy1, sy2, _⟩ := List.pairwise_append.1 hsY
  have A1B2 : ∀ u ∈ X.take q, ∀ v ∈ Y.drop e, leM u v := fun u hu v hv => by
    refine srt_lastle sx1 hu (fun w hw => ?_)
    refine srt_firstle sy2 hv (fun hp => ?_)
    rcases k3 with k3 | k3
    · rcases hs0 with h | h <;> omega
    · have k3' : leM (nth d (k - 1)) (nth d ((a + b) / 2 + m - 1 - (k - 1))) := by simpa using k3
      rw [show (a + b) / 2 + m - 1 - (k - 1) = m + (e : Int) by omega, show k - 1 = a + (w : Int) by omega, nx w (by omega), ny e (by omega)] at k3'
      rw [show nth (X.take q) (w : Int) = nth X (w : Int) by rw [nth_nat (by omega), nth_nat (by omega), List.getElem_take], show nth (Y.drop e) 0 = nth Y (e : Int) by
        have : nth (Y.drop e) ((0 : Nat) : Int) = _ := nth_nat (by omega)
        rw [show (0 : Int) = ((0 : Nat) : Int) from rfl, this, nth_nat (by omega), List.getElem_drop]; simp]
      exact k3'
  have B1A2 : ∀ u ∈ Y.take e, ∀ v ∈ X.drop q, leM u v := fun u hu v hv => by
    refine srt_lastle sy1 hu (fun w hw => ?_)
    refine srt_firstle sx2 hv (fun hp => ?_)
    rcases k4 with k4 | k4
    · rcases hr0 with h | h <;> omega
    · have k4' : bef (nth d ((a + b) / 2 + m - 1 - k)) (nth d k) = true := by simpa using k4
      rw [show (a + b) / 2 + m - 1 - k = m + (w : Int) by omega, hq, nx q (by omega), ny w (by omega)] at k4'
      rw [show nth (Y.take e) (w : Int) = nth Y (w : Int) by rw [nth_nat (by omega), nth_nat (by omega), List.getElem_take], show nth (X.drop q) 0 = nth X (q : Int) by
        have : nth (X.drop q) ((0 : Nat) : Int) = _ := nth_nat (by omega)
        rw [show (0 : Int) = ((0 : Nat) : Int) from rfl, this, nth_nat (by omega), List.getElem_drop]; simp]
      exact leM_of_bef k4'
  have fin := sym_j33 hR hs (a := a) (m := m) (b := b) (s := k) P (X.take q) (Y.take e) (X.drop q) (Y.drop e) S sx1 sy1 sx2 sy2 (by omega) (by omega) (by omega) ha (by omega) (by omega) (by omega) (by omega) (by rw [hlen]; simp only [List.length_append]; omega)
  obtain ⟨Z1, Z2, z1, z2, z3, z4, z5⟩ := fin
  obtain ⟨g1, g2⟩ := srt_merge hsX hsY A1B2 B1A2 z1 z3 z2 z4
  refine ⟨Z1 ++ Z2, g1, by rw [← eX, ← eY] at g2; exact g2, ?_⟩
  have z5' : slices_symMergeCmpFunc_api_Message.j33 rec_ d a m b k (P ++ (X.take q ++ (Y.take e ++ (X.drop q ++ (Y.drop e ++ S))))) = some (P ++ (Z1 ++ Z2 ++ S)) := by rw [z5]; simp
  have ed : d = (P ++ X.take q) ++ (X.drop q ++ (Y.take e ++ (Y.drop e ++ S))) := by
    rw [← hd]
    conv => lhs; rw [eX, eY]
    simp only [List.append_assoc]
  have ed' : (P ++ X.take q) ++ (Y.take e ++ (X.drop q ++ (Y.drop e ++ S))) = P ++ (X.take q ++ (Y.take e ++ (X.drop q ++ (Y.drop e ++ S)))) := by simp
  show (if k < m then _ else _) = _
  by_cases c1 : k < m
  · rw [if_pos c1]
    by_cases c2 : m < (a + b) / 2 + m - k
    · rw [if_pos c2]
      have := rotate_eq (P ++ X.take q) (X.drop q) (Y.take e) (Y.drop e ++ S) (a := k) (m := m) (b := (a + b) / 2 + m - k) (by omega) (by omega) (by simp only [List.length_append]; omega) (by simp only [List.length_append]; omega) (by simp only [List.length_append]; omega) (by rw [← ed]; exact hs)
      rw [← ed, ed'] at this
      rw [this]
      exact z5'
    · rw [if_neg c2]
      have h0 : Y.take e = [] := List.length_eq_zero_iff.1 (by omega)
      rw [h0] at ed z5'
      have ed2 : d = P ++ (X.take q ++ ([] ++ (X.drop q ++ (Y.drop e ++ S)))) := by rw [ed]; simp only [List.nil_append, List.append_assoc]
      rw [← ed2] at z5'
      exact z5'
  · rw [if_neg c1]
    have h0 : X.drop q = [] := List.length_eq_zero_iff.1 (by omega)
    rw [h0] at ed' ed z5'
    have ed2 : d = P ++ (X.take q ++ (Y.take e ++ ([] ++ (Y.drop e ++ S)))) := by rw [ed]; simp
    rw [← ed2] at z5'
    exact z5'
theorem symF_eq : ∀ n, RecOn (slices_symMergeCmpFunc_api_Message.F (n + 1)) n
  | 0 => fun P X Y S h1 h2 h3 => by omega
  | n + 1 => fun P X Y S h1 h2 h3 hX hY hs => by
    have hR := symF_eq n
    have hl' := hs
    simp only [List.length_append] at hl'
    show ∃ Z, SrtM Z ∧ Z.Perm (X ++ Y) ∧ slices_symMergeCmpFunc_api_Message.f0 (slices_symMergeCmpFunc_api_Message.F (n + 1)) _ _ _ _ = _
    unfold slices_symMergeCmpFunc_api_Message.f0
    generalize ha : (P.length : Int) = a
    generalize hm : a + (X.length : Int) = m
    generalize hb : m + (Y.length : Int) = b
    rw [w64 (x := m - a) (by omega) (by omega), w64 (x := b - m) (by omega) (by omega)]
    by_cases c1 : m - a = 1
    · rw [if_pos c1]
      obtain ⟨x, rfl⟩ : ∃ x, X = [x] := by
        cases X with
        | nil => simp at h1
        | cons x X => cases X with
          | nil => exact ⟨x, rfl⟩
          | cons y X => simp only [List.length_cons] at hm; omega
      obtain ⟨Z, z1, z2, z3⟩ := sym_one P Y S x hY (a := a) (m := m) (b := b) ha.symm (by simp only [List.length_singleton] at hm; omega) (by simp only [List.length_singleton] at hm; omega) (by simpa using hs)
      exact ⟨Z, z1, z2, z3⟩
    · rw [if_neg c1]
      by_cases c2 : b - m = 1
      · rw [if_pos c2]
        obtain ⟨y, rfl⟩ : ∃ y, Y = [y] := by
          cases Y with
          | nil => simp at h2
          | cons x X => cases X with
            | nil => exact ⟨x, rfl⟩
            | cons y X => simp only [List.length_cons] at hb; omega
        obtain ⟨Z, z1, z2, z3⟩ := sym_oneB P X S y hX (a := a) (m := m) ha.symm (by omega) (by simpa using hs)
        exact ⟨Z, z1, z2, z3⟩
      · rw [if_neg c2, mid_eq (by omega) (by omega), w64 (x := (a + b) / 2 + m) (by omega) (by omega), w64 (x := (a + b) / 2 + m - b) (by omega) (by omega)]
        unfold slices_symMergeCmpFunc_api_Message.j30
        by_cases c3 : (a + b) / 2 < m
        · rw [if_pos c3]
          exact sym_cut hR P X Y S hX hY (by omega) h1 h2 ha.symm (by omega) (by omega) hs (by omega) (.inr rfl) (by omega) (.inr rfl) (by omega) (by omega) (by omega)
        · rw [if_neg c3]
          exact sym_cut hR P X Y S hX hY (by omega) h1 h2 ha.symm (by omega) (by omega) hs (by omega) (.inl rfl) (by omega) (.inl rfl) (by omega) (by omega) (by omega)
theorem sym_eq (P X Y S : List api_Message) (hX : SrtM X) (hY : SrtM Y) (h1 : 0 < X.length) (h2 : 0 < Y.length) {a m b : Int} (ha : a = (P.length : Int)) (hm : m = (P.length : Int) + X.length) (hb : b = (P.length : Int) + X.length + Y.length) (hs : (P ++ (X ++ (Y ++ S))).length ≤ 1099511627776) :
    ∃ Z, SrtM Z ∧ Z.Perm (X ++ Y) ∧ slices_symMergeCmpFunc_api_Message.f (P ++ (X ++ (Y ++ S))) a m b = some (P ++ (Z ++ S)) := by
  subst ha hm hb
  unfold slices_symMergeCmpFunc_api_Message.f
  exact symF_eq _ P X Y S h1 h2 (by simp only [List.length_append]; omega) hX hY hs
end
section
open Go.Sl
set_option linter.unusedVariables false
set_option linter.unusedSimpArgs false
inductive Blks (s : Nat) : List api_Message → Prop
  | last {l : List api_Message} : l.length ≤ s → SrtM l → Blks s l
  | cons {x l : List api_Message} : x.length = s → SrtM x → Blks s l → Blks s (x ++ l)
theorem Blks.short {s : Nat} {l : List api_Message} (h : Blks s l) (hl : l.length ≤ s) : SrtM l := by
  cases h with
  | last _ h => exact h
  | @cons x l h1 h2 h3 =>
    simp only [List.length_append] at hl
    have : l = [] := List.length_eq_zero_iff.1 (by omega)
    subst this
    simpa using h2
theorem Blks.split {s : Nat} {l : List api_Message} (h : Blks s l) (hl : s < l.length) : ∃ x r, l = x ++ r ∧ x.length = s ∧ SrtM x ∧ Blks s r := by
  cases h with
  | last h1 _ => omega
  | @cons x l h1 h2 h3 => exact ⟨x, l, rfl, h1, h2, h3⟩
theorem Blks.cut {s : Nat} (hs : 0 < s) {l : List api_Message} (h : Blks s l) (hl : s ≤ l.length) : ∃ x r, l = x ++ r ∧ x.length = s ∧ SrtM x ∧ Blks s r := by
  by_cases e : s < l.length
  · exact h.split e
  · exact ⟨l, [], by simp, by omega, h.short (by omega), .last (by simp) List.Pairwise.nil⟩
theorem blocks_eq {d0 : List api_Message} (hd : d0.length ≤ 1099511627776) : ∀ (n : Nat) (P R : List api_Message), R.length ≤ n → (P ++ R).length = d0.length →
    ∃ W, Blks 20 W ∧ W.Perm R ∧ loopR (slices_stableCmpFunc_api_Message.l14b d0 (d0.length : Int)) (P ++ R, (P.length : Int), (P.length : Int) + 20) = slices_stableCmpFunc_api_Message.l21 d0 (d0.length : Int) (P ++ W, 20)
  | n, P, R, hn, hl => by
    have hl' := hl
    simp only [List.length_append] at hl'
    rw [loopR_eq]
    simp only [slices_stableCmpFunc_api_Message.l14b]
    by_cases c : (P.length : Int) + 20 ≤ (d0.length : Int)
    · rw [if_pos c]
      have eR : R = R.take 20 ++ R.drop 20 := (List.take_append_drop _ _).symm
      have r1 : (R.take 20).length = 20 := by rw [List.length_take]; omega
      have r2 : (R.drop 20).length = R.length - 20 := List.length_drop
      obtain ⟨X, x1, x2, x3⟩ := insertion_eq P (R.take 20) (R.drop 20) (a := (P.length : Int)) (b := (P.length : Int) + 20) rfl (by omega) (by simp only [List.length_append]; omega)
      have hx := x2.length_eq
      rw [r1] at hx
      rw [← eR] at x3
      rw [x3]
      simp only [Option.bind_some]
      rw [w64 (x := (P.length : Int) + 20 + 20) (by omega) (by omega)]
      match n, hn with
      | 0, hn => omega
      | n + 1, hn =>
        obtain ⟨W, w1, w2, w3⟩ := blocks_eq hd n (P ++ X) (R.drop 20) (by omega) (by simp only [List.length_append]; omega)
        refine ⟨X ++ W, .cons hx x1 w1, ?_, ?_⟩
        · conv => rhs; rw [eR]
          exact x2.append w2
        · simp only [List.length_append, hx] at w3
          show loopR _ (P ++ (X ++ R.drop 20), (P.length : Int) + 20, (P.length : Int) + 20 + 20) = _
          rw [show P ++ (X ++ R.drop 20) = (P ++ X) ++ R.drop 20 by simp, show (P.length : Int) + 20 = ((P.length + 20 : Nat) : Int) by omega, w3]
          simp
    · rw [if_neg c, inr_bind]
      obtain ⟨W, w1, w2, w3⟩ := insertion_eq P R [] (a := (P.length : Int)) (b := (d0.length : Int)) rfl (by omega) (by simp only [List.length_append, List.length_nil]; omega)
      have hw := w2.length_eq
      simp only [List.append_nil] at w3
      rw [w3]
      simp only [Option.bind_some]
      exact ⟨W, .last (by omega) w1, w2, rfl⟩
theorem pass_eq {N : Int} {s : Nat} (hs : 0 < s) (hs2 : (s : Int) ≤ 1099511627776) : ∀ (n : Nat) (P R : List api_Message), R.length ≤ n → Blks s R → N = (P.length : Int) + R.length → N ≤ 1099511627776 →
    ∃ W, Blks (2 * s) W ∧ W.Perm R ∧ loopR (slices_stableCmpFunc_api_Message.l23b N (s : Int)) (P ++ R, (P.length : Int), (P.length : Int) + 2 * (s : Int)) = some (.inl (P ++ W, (s : Int) * 2))
  | n, P, R, hn, hB, hN, hN1 => by
    rw [loopR_eq]
    simp only [slices_stableCmpFunc_api_Message.l23b]
    rw [w64 (x := (P.length : Int) + (s : Int)) (by omega) (by omega), w64 (x := 2 * (s : Int)) (by omega) (by omega)]
    by_cases c : (P.length : Int) + 2 * (s : Int) ≤ N
    · rw [if_pos c, w64 (x := (P.length : Int) + 2 * (s : Int) + 2 * (s : Int)) (by omega) (by omega)]
      obtain ⟨X, R1, rfl, x1, x2, x3⟩ := hB.cut hs (by omega)
      simp only [List.length_append] at hN hn
      obtain ⟨Y, R', rfl, y1, y2, y3⟩ := x3.cut hs (by omega)
      simp only [List.length_append] at hN hn
      obtain ⟨Z, z1, z2, z3⟩ := sym_eq P X Y R' x2 y2 (by omega) (by omega) (a := (P.length : Int)) (m := (P.length : Int) + (s : Int)) (b := (P.length : Int) + 2 * (s : Int)) rfl (by omega) (by omega) (by simp only [List.length_append]; omega)
      have hz := z2.length_eq
      simp only [List.length_append] at hz
      rw [z3]
      simp only [Option.bind_some]
      match n, hn with
      | 0, hn => omega
      | n + 1, hn =>
        obtain ⟨W, w1, w2, w3⟩ := pass_eq hs hs2 n (P ++ Z) R' (by omega) y3 (by simp only [List.length_append]; omega) hN1
        refine ⟨Z ++ W, .cons (by omega) z1 w1, ?_, ?_⟩
        · rw [← List.append_assoc X]; exact z2.append w2
        · show loopR _ (P ++ (Z ++ R'), (P.length : Int) + 2 * (s : Int), (P.length : Int) + 2 * (s : Int) + 2 * (s : Int)) = _
          rw [show P ++ (Z ++ R') = (P ++ Z) ++ R' by simp, show (P.length : Int) + 2 * (s : Int) = ((P ++ Z).length : Int) by simp only [List.length_append]; omega, w3]
          simp
    · rw [if_neg c, inr_bind]
      unfold slices_stableCmpFunc_api_Message.j24
      rw [w64 (x := (s : Int) * 2) (by omega) (by omega)]
      by_cases c2 : (P.length : Int) + (s : Int) < N
      · rw [if_pos c2]
        obtain ⟨X, Y, rfl, x1, x2, x3⟩ := hB.cut hs (by omega)
        simp only [List.length_append] at hN hn
        obtain ⟨Z, z1, z2, z3⟩ := sym_eq P X Y [] x2 (x3.short (by omega)) (by omega) (by omega) (a := (P.length : Int)) (m := (P.length : Int) + (s : Int)) (b := N) rfl (by omega) (by omega) (by simp only [List.length_append, List.length_nil]; omega)
        have hz := z2.length_eq
        simp only [List.length_append] at hz
        simp only [List.append_nil] at z3
        rw [z3]
        exact ⟨Z, .last (by omega) z1, z2, rfl⟩
      · rw [if_neg c2]
        exact ⟨R, .last (by omega) (hB.short (by omega)), List.Perm.refl _, rfl⟩
theorem passes_eq {d0 : List api_Message} (hd : d0.length ≤ 1099511627776) : ∀ (n : Nat) (s : Nat) (R : List api_Message), 0 < s → d0.length - s ≤ n → Blks s R → R.length = d0.length → (s : Int) ≤ 4398046511104 →
    ∃ W, SrtM W ∧ W.Perm R ∧ loopR (slices_stableCmpFunc_api_Message.l21b d0 (d0.length : Int)) (R, (s : Int)) = some W
  | n, s, R, hs, hn, hB, hl, hs2 => by
    rw [loopR_eq]
    simp only [slices_stableCmpFunc_api_Message.l21b]
    by_cases c : (s : Int) < (d0.length : Int)
    · rw [if_pos c, w64 (x := 2 * (s : Int)) (by omega) (by omega)]
      unfold slices_stableCmpFunc_api_Message.l23
      obtain ⟨W, w1, w2, w3⟩ := pass_eq hs (by omega) _ [] R (Nat.le_refl _) hB (N := (d0.length : Int)) (by simp only [List.length_nil]; omega) (by omega)
      have hw := w2.length_eq
      simp only [List.nil_append, List.length_nil] at w3
      rw [show (0 : Int) = ((0 : Nat) : Int) from rfl, show 2 * (s : Int) = ((0 : Nat) : Int) + 2 * (s : Int) by omega, w3]
      match n, hn with
      | 0, hn => omega
      | n + 1, hn =>
        obtain ⟨V, v1, v2, v3⟩ := passes_eq hd n (2 * s) W (by omega) (by omega) w1 (by omega) (by omega)
        refine ⟨V, v1, v2.trans w2, ?_⟩
        show loopR _ (W, (s : Int) * 2) = _
        rw [show (s : Int) * 2 = ((2 * s : Nat) : Int) by omega]
        exact v3
    · rw [if_neg c, if_pos hl]
      exact ⟨R, hB.short (by omega), List.Perm.refl _, rfl⟩
theorem stable_eq (l : List api_Message) (hl : l.length ≤ 1099511627776) : ∃ W, SrtM W ∧ W.Perm l ∧ slices_stableCmpFunc_api_Message.f l (l.length : Int) = some W := by
  unfold slices_stableCmpFunc_api_Message.f slices_stableCmpFunc_api_Message.l14
  obtain ⟨W, w1, w2, w3⟩ := blocks_eq hl _ [] l (Nat.le_refl _) (by simp)
  simp only [List.nil_append, List.length_nil] at w3
  have w3' : loopR (slices_stableCmpFunc_api_Message.l14b l (l.length : Int)) (l, 0, 20) = slices_stableCmpFunc_api_Message.l21 l (l.length : Int) (W, 20) := w3
  rw [w3']
  unfold slices_stableCmpFunc_api_Message.l21
  obtain ⟨V, v1, v2, v3⟩ := passes_eq hl _ 20 W (by decide) (Nat.le_refl _) w1 w2.length_eq (by decide)
  exact ⟨V, v1, v2.trans w2, v3⟩
theorem Sorted_eq (l : List api_Message) (hl : l.length ≤ 1000000) : ∃ W, SrtM W ∧ W.Perm l ∧ event_Sorted.f l = some W := by
  obtain ⟨W, w1, w2, w3⟩ := stable_eq l (by omega)
  refine ⟨W, w1, w2, ?_⟩
  unfold event_Sorted.f event_sorted_api_Message.f slices_Clone_api_Message_api_Message.f slices_Clone_api_Message_api_Message_3.f slices_SortStableFunc_api_Message_api_Message.f
  rw [if_pos (by simp only [List.length_nil]; omega)]
  simp only [List.nil_append, Option.bind_some]
  rw [w3]
  simp only [Option.bind_some]
  rw [if_pos w2.length_eq]
  rfl
end
section
open Go.Sl
set_option linter.unusedVariables false
set_option linter.unusedSimpArgs false
def snd (m : api_Message) : Int × Int := (m.Key.From, m.Uid)
structure QOK (l : List api_Message) : Prop where
  heap : HpL l
  nodup : (l.map snd).Nodup
  small : l.length ≤ 16384
theorem QOK.nil : QOK [] := ⟨HpL.nil, List.nodup_nil, Nat.zero_le _⟩
def qof (l : List api_Message) : pend_Pend := ⟨.c0 ⟨l⟩⟩
theorem push_q (l : List api_Message) (m : api_Message) : pend_Pend_Push.f (qof l) m = ((heap_Heap_Push.f ⟨l⟩ m).bind fun (y, z) => some (y, (⟨.c0 z⟩ : pend_Pend))) := rfl
theorem qPush_eq {l : List api_Message} {m : api_Message} (h : QOK l) :
    (snd m ∈ l.map snd ∧ pend_Pend_Push.f (qof l) m = some (8, qof l)) ∨ (snd m ∉ l.map snd ∧ l.length = 16384 ∧ pend_Pend_Push.f (qof l) m = some (9, qof l)) ∨
    (snd m ∉ l.map snd ∧ l.length < 16384 ∧ ∃ W, pend_Pend_Push.f (qof l) m = some (0, qof W) ∧ W.Perm (m :: l) ∧ QOK W) := by
  have hs := h.small
  obtain ⟨v, e, hv⟩ := find_eq ⟨l⟩ m.Key.From m.Uid (by show l.length ≤ _; omega)
  have hm : snd m ∈ l.map snd ↔ 0 ≤ v := by
    rcases hv with ⟨ev, hv⟩ | ⟨k, hk, ev, h1, h2⟩
    · refine ⟨fun hc => ?_, fun hc => by omega⟩
      obtain ⟨x, hx, ex⟩ := List.mem_map.1 hc
      refine absurd ?_ (hv x hx)
      simp only [snd, Prod.mk.injEq] at ex; exact ex
    · refine ⟨fun _ => by omega, fun _ => List.mem_map.2 ⟨_, at_mem hk, ?_⟩⟩
      simp only [snd, Prod.mk.injEq]; exact ⟨h1, h2⟩
  rw [push_q]
  unfold heap_Heap_Push.f heap_Heap_none.f
  simp only [Option.bind_some]
  show _ ∧ Option.bind (Option.bind (heap_Heap_find.f ⟨l⟩ _ _) _) _ = _ ∨ _ ∧ _ ∧ Option.bind (Option.bind (heap_Heap_find.f ⟨l⟩ _ _) _) _ = _ ∨ _ ∧ _ ∧ ∃ W, Option.bind (Option.bind (heap_Heap_find.f ⟨l⟩ _ _) _) _ = _ ∧ _
  rw [e]
  simp only [Option.bind_some]
  by_cases h0 : 0 ≤ v
  · exact .inl ⟨hm.2 h0, by rw [if_pos h0]; rfl⟩
  rw [if_neg h0]
  by_cases hf : 16384 ≤ l.length
  · refine .inr (.inl ⟨fun hc => h0 (hm.1 hc), by omega, ?_⟩)
    rw [if_pos (show (16384 : Int) ≤ ((⟨l⟩ : heap_Heap).p_l.length : Int) by show (16384 : Int) ≤ (l.length : Int); omega)]; rfl
  · refine .inr (.inr ⟨fun hc => h0 (hm.1 hc), by omega, ?_⟩)
    rw [if_neg (show ¬ (16384 : Int) ≤ ((⟨l⟩ : heap_Heap).p_l.length : Int) by show ¬ (16384 : Int) ≤ (l.length : Int); omega)]
    obtain ⟨W, eW, p, q⟩ := push_eq (l := l) (m := m) (by omega) h.heap
    refine ⟨W, ?_, p, q, ?_, by rw [p.length_eq]; simp only [List.length_cons]; omega⟩
    · show Option.bind (Option.bind (heap_pile_api_Message_push.f l m) _) _ = _
      rw [eW]; rfl
    · rw [(p.map snd).nodup_iff, List.map_cons, List.nodup_cons]
      exact ⟨fun hc => h0 (hm.1 hc), h.nodup⟩
theorem qFirst_nil : pend_Pend_First.f (qof []) = some ((⟨(⟨0, 0, 0⟩ : api_Key), 0, 0, 0, false⟩ : api_Message), 6) := rfl
theorem hAll_eq {l : List api_Message} (h : l.length ≤ 1000000) : ∃ W, heap_Heap_All.f ⟨l⟩ = some W ∧ SrtM W ∧ W.Perm l := by
  obtain ⟨W, s, p, e⟩ := Sorted_eq l h
  refine ⟨W, ?_, s, p⟩
  unfold heap_Heap_All.f heap_Heap_none.f
  simp only [Option.bind_some]
  show Option.bind (event_Sorted.f l) _ = _
  rw [e]; rfl
end
section
open Go.Sl
set_option linter.unusedVariables false
def shapeOf (op : Int) : ByteArray := nth ([lit_2d2d2d, lit_726e2d, lit_72722d, lit_rrr, lit_rrr, lit_rrr, lit_rrr, lit_rrr, lit_rrr, lit_rrr, lit_702d2d, lit_72702d, lit_rrr, lit_72722d, lit_722d2d, lit_722d2d, lit_722d2d] : List ByteArray) op
theorem ops17 {p : Int → Prop} (op : Int) (h0 : 0 ≤ op) (h1 : op < 17) (h : ∀ k : Fin 17, p (k.val : Int)) : p op := by
  have := h ⟨op.toNat, by omega⟩
  have e : ((op.toNat : Nat) : Int) = op := Int.toNat_of_nonneg h0
  exact e ▸ this
theorem op_facts (op : Int) (h0 : 0 ≤ op) (h1 : op < 17) : (shapeOf op).size = 3 ∧ True ∧ True ∧ True ∧ True :=
  ops17 (p := fun op => (shapeOf op).size = 3 ∧ True ∧ True ∧ True ∧ True) op h0 h1 (by decide)
def rightB (n kind many : Int) : Bool := if kind = 110 then decide (-2147483648 ≤ n ∧ n ≤ 2147483647) else if kind = 112 then decide (0 ≤ n ∧ n ≤ many) else if kind = 114 then decide (0 ≤ n ∧ n ≤ 15) else decide (0 ≤ n ∧ n ≤ 0)
theorem code_right_eq (n kind many : Int) : code_right.f n kind many = some (rightB n kind many) := by
  unfold code_right.f rightB code_right.j2
  split
  · split <;> simp_all <;> omega
  · split
    · split <;> simp_all <;> omega
    · split
      · split <;> simp_all <;> omega
      · split <;> simp_all <;> omega
def mayB (i : api_Instr) (n : Int) : Bool := if 0 ≤ i.Op ∧ i.Op < 17 then rightB i.A (bt (shapeOf i.Op) 0) n && (rightB i.B (bt (shapeOf i.Op) 1) n && rightB i.C (bt (shapeOf i.Op) 2) n) else false
theorem code_may_eq (i : api_Instr) (n : Int) : code_may.f i n = some (mayB i n) := by
  unfold code_may.f mayB
  by_cases h0 : i.Op < 0
  · rw [if_pos h0, if_neg (by omega)]
  · by_cases h1 : 17 ≤ i.Op
    · rw [if_neg h0, if_pos h1, if_neg (by omega)]
    · obtain ⟨f1, -, -, -, -⟩ := op_facts i.Op (by omega) (by omega)
      have hsh : nth ([lit_2d2d2d, lit_726e2d, lit_72722d, lit_rrr, lit_rrr, lit_rrr, lit_rrr, lit_rrr, lit_rrr, lit_rrr, lit_702d2d, lit_72702d, lit_rrr, lit_72722d, lit_722d2d, lit_722d2d, lit_722d2d] : List ByteArray) i.Op = shapeOf i.Op := rfl
      rw [if_neg h0, if_neg h1]
      simp only [code_shapes.f, Option.bind_some, hsh, code_right_eq]
      have hp : 0 ≤ i.Op ∧ i.Op < 17 := by omega
      rw [if_pos hp, if_pos hp, if_pos (by omega)]
      by_cases a1 : rightB i.A (bt (shapeOf i.Op) 0) n = true
      · rw [if_pos a1, if_pos (by omega)]
        by_cases a2 : rightB i.B (bt (shapeOf i.Op) 1) n = true
        · rw [if_pos a2, if_pos (by omega)]
          simp [a1, a2]
        · rw [if_neg a2]
          simp [a2]
      · rw [if_neg a1]
        simp [a1]
def chk (l : List api_Instr) : Int := if 256 < (l.length : Int) then 2 else match (List.range l.length).find? (fun k : Nat => !mayB (nth l (k : Int)) (l.length : Int)) with | some _ => 130 | none => 0
theorem code_check_eq (l : List api_Instr) : code_Check.f l = some (chk l) := by
  unfold code_Check.f code_check.f chk
  by_cases h : 256 < (l.length : Int)
  · rw [if_pos h, if_pos h]; rfl
  · rw [if_neg h, if_neg h]
    unfold code_check.l2
    rw [loopR_find (fun k : Nat => !mayB (nth l (k : Int)) (l.length : Int)) (fun k => .inr (.inl ((k : Int), 130))) (.inr (.inr ())) l.length (fun k hk => by
      simp only [code_check.l2b, code_may_eq, Option.bind_some]
      rw [if_pos (by omega), if_pos (by omega), w64 (by omega) (by omega)]
      by_cases hm : mayB (nth l (k : Int)) (l.length : Int) = true
      · rw [if_pos hm]; simp [hm]
      · rw [if_neg hm]; simp [hm]) (by simp only [code_check.l2b]; rw [if_neg (by omega)])]
    cases (List.range l.length).find? (fun k : Nat => !mayB (nth l (k : Int)) (l.length : Int)) with
    | none => rfl
    | some k => rfl
end
section
open Go.Sl
set_option linter.unusedVariables false
set_option linter.unusedSimpArgs false
def timeB (n : Int) : Bool := decide (0 ≤ n ∧ n ≤ 4611686018427387903)
theorem valid_eq (n : Int) : vtime_Valid.f n = some (timeB n) := by
  unfold vtime_Valid.f timeB
  by_cases h : 0 ≤ n <;> simp [h]
def laneB (m : api_Model) (n : Int) : Bool := decide (0 ≤ n ∧ n < (m.Progs.length : Int))
theorem lane_eq (m : api_Model) (n : Int) : model_lane.f m n = some (laneB m n) := by
  unfold model_lane.f laneB
  by_cases h : 0 ≤ n <;> simp [h]
def sizesB (m : api_Model) : Bool := decide (1 ≤ m.Progs.length ∧ m.Progs.length ≤ 16) && timeB m.End && decide (0 ≤ m.Budget ∧ m.Budget ≤ 4096)
theorem sizes_eq (m : api_Model) : model_sizes.f m = some (if sizesB m then .inr () else .inl 1) := by
  unfold model_sizes.f sizesB
  rw [valid_eq]
  by_cases h1 : (m.Progs.length : Int) < 1
  · rw [if_pos h1]; simp [show ¬ (1 ≤ m.Progs.length) by omega]
  rw [if_neg h1]
  by_cases h2 : 16 < (m.Progs.length : Int)
  · rw [if_pos h2]; simp [show ¬ (m.Progs.length ≤ 16) by omega]
  rw [if_neg h2]
  simp only [Option.bind_some]
  cases h3 : timeB m.End with
  | false => simp
  | true =>
    rw [if_pos rfl]
    have h12 : (1 ≤ m.Progs.length ∧ m.Progs.length ≤ 16) := by omega
    by_cases h4 : m.Budget < 0
    · rw [if_pos h4]; simp [show ¬ (0 ≤ m.Budget) by omega]
    rw [if_neg h4]
    by_cases h5 : 4096 < m.Budget
    · rw [if_pos h5]; simp [show ¬ (m.Budget ≤ 4096) by omega]
    rw [if_neg h5]
    simp [h12, show 0 ≤ m.Budget by omega, show m.Budget ≤ 4096 by omega]
def progBad (m : api_Model) (k : Nat) : Bool := !decide (chk (nth m.Progs (k : Int)) = 0)
theorem join_eq (a : model_flaw) (e : Int) : errors_Join.f a e = some (a, e) := by
  unfold errors_Join.f
  rfl
theorem programs_eq (m : api_Model) (hp : m.Progs.length ≤ 16) : model_programs.f m = some (match (List.range m.Progs.length).find? (progBad m) with | some k => .inl (⟨(k : Int), 130⟩, chk (nth m.Progs (k : Int))) | none => .inr ()) := by
  unfold model_programs.f model_programs.l2
  refine (loopR_findS (fun k => ((k : Nat) : Int)) (progBad m) (fun k => .inl (⟨(k : Int), 130⟩, chk (nth m.Progs (k : Int)))) (.inr ()) m.Progs.length (fun k hk _ => ?_) (fun _ => ?_)).trans (by cases (List.range m.Progs.length).find? (progBad m) <;> rfl)
  · simp only [model_programs.l2b, code_check_eq, Option.bind_some, join_eq]
    rw [if_pos (by omega), if_pos (by omega), w64 (by omega) (by omega)]
    unfold progBad
    by_cases h : chk (nth m.Progs (k : Int)) = 0 <;> simp [h]
  · simp only [model_programs.l2b]
    rw [if_neg (by omega)]
def linkOK (m : api_Model) (l : api_Link) : Bool := laneB m l.From && laneB m l.To && decide (1 ≤ l.Look ∧ l.Look ≤ 4611686018427387903)
def same2 (a b : api_Link) : Bool := decide (a.From = b.From ∧ a.To = b.To)
def linkBad (m : api_Model) (k : Nat) : Bool := !linkOK m (nth m.Links (k : Int)) || (List.range k).any (fun j => same2 (nth m.Links (j : Int)) (nth m.Links (k : Int)))
def adr (l : api_Link) : Nat := l.From.toNat * 16 + l.To.toNat * 1
def seen (m : api_Model) : Nat → Nat → Bool
  | 0 => fun _ => false
  | k + 1 => upd (seen m k) (adr (nth m.Links (k : Int))) true
theorem seen_eq (m : api_Model) (a : Nat) : ∀ k, seen m k a = (List.range k).any (fun j => decide (adr (nth m.Links (j : Int)) = a))
  | 0 => rfl
  | k + 1 => by
    rw [List.range_succ, List.any_append, ← seen_eq m a k]
    show upd (seen m k) (adr (nth m.Links (k : Int))) true a = _
    unfold upd
    by_cases h : a = adr (nth m.Links (k : Int))
    · rw [if_pos h]; simp [h]
    · rw [if_neg h]; simp [Ne.symm h]
theorem linkOK_of {m : api_Model} {l : api_Link} (h : linkOK m l = true) : (0 ≤ l.From ∧ l.From < (m.Progs.length : Int)) ∧ (0 ≤ l.To ∧ l.To < (m.Progs.length : Int)) ∧ 1 ≤ l.Look ∧ l.Look ≤ 4611686018427387903 := by
  simpa [linkOK, laneB, and_assoc] using h
theorem links_eq (m : api_Model) (hp : m.Progs.length ≤ 16) : model_links.f m = some (if 1024 < (m.Links.length : Int) then .inl 131 else match (List.range m.Links.length).find? (linkBad m) with | some k => .inr (.inl ⟨(k : Int), 131⟩) | none => .inr (.inr ())) := by
  unfold model_links.f
  by_cases h : 1024 < (m.Links.length : Int)
  · rw [if_pos h, if_pos h]
  rw [if_neg h, if_neg h]
  unfold model_links.l2
  refine (loopR_findS (fun k => (seen m k, ((k : Nat) : Int))) (linkBad m) (fun k => .inr (.inl ⟨(k : Int), 131⟩)) (.inr (.inr ())) m.Links.length (fun k hk hb => ?_) (fun _ => ?_)).trans (by cases (List.range m.Links.length).find? (linkBad m) <;> rfl)
  · simp only [model_links.l2b, lane_eq, Option.bind_some]
    rw [if_pos (by omega), if_pos (by omega)]
    generalize hl : nth m.Links (k : Int) = l
    have hbad : linkBad m k = (!linkOK m l || (List.range k).any (fun j => same2 (nth m.Links (j : Int)) l)) := by rw [← hl]; rfl
    rw [hbad]
    by_cases h1 : laneB m l.From = true
    · rw [if_pos h1]
      by_cases h2 : laneB m l.To = true
      · rw [if_pos h2]
        by_cases h3 : l.Look < 1
        · rw [if_pos h3]; simp [linkOK, show ¬ (1 ≤ l.Look) by omega]
        rw [if_neg h3]
        by_cases h4 : 4611686018427387903 < l.Look
        · rw [if_pos h4]; simp [linkOK, show ¬ (l.Look ≤ 4611686018427387903) by omega]
        rw [if_neg h4]
        have hok : linkOK m l = true := by simp [linkOK, h1, h2, show 1 ≤ l.Look by omega, show l.Look ≤ 4611686018427387903 by omega]
        obtain ⟨⟨f0, f1⟩, ⟨t0, t1⟩, _⟩ := linkOK_of hok
        rw [if_pos (by omega), if_pos (by omega)]
        have hseen : seen m k (l.From.toNat * 16 + l.To.toNat * 1) = (List.range k).any (fun j => same2 (nth m.Links (j : Int)) l) := by
          rw [seen_eq]
          apply Bool.eq_iff_iff.2
          simp only [List.any_eq_true, List.mem_range, decide_eq_true_eq, same2]
          refine exists_congr fun j => and_congr_right fun hj => ?_
          have hjb := hb j hj
          have hjo : linkOK m (nth m.Links (j : Int)) = true := by
            unfold linkBad at hjb
            simp only [Bool.or_eq_false_iff, Bool.not_eq_false'] at hjb
            exact hjb.1
          obtain ⟨⟨g0, g1⟩, ⟨u0, u1⟩, _⟩ := linkOK_of hjo
          unfold adr
          constructor
          · intro e; constructor <;> omega
          · rintro ⟨e1, e2⟩; rw [e1, e2]
        rw [hseen, hok]
        by_cases h5 : (List.range k).any (fun j => same2 (nth m.Links (j : Int)) l) = true
        · rw [if_pos h5, h5]; rfl
        · rw [if_neg h5]
          simp only [Bool.not_eq_true] at h5
          rw [h5, w64 (by omega) (by omega)]
          show some (Sum.inl (upd (seen m k) _ true, (k : Int) + 1)) = some (Sum.inl (upd (seen m k) (adr (nth m.Links (k : Int))) true, _))
          rw [hl]; rfl
      · rw [if_neg h2]; simp [linkOK, h2]
    · rw [if_neg h1]; simp [linkOK, h1]
  · simp only [model_links.l2b]
    rw [if_neg (by omega)]
def startOK (m : api_Model) (s : api_Start) : Bool := laneB m s.To && timeB s.Time
def startBad (m : api_Model) (k : Nat) : Bool := !startOK m (nth m.Starts (k : Int))
theorem starts_eq (m : api_Model) : model_starts.f m = some (if 4096 < (m.Starts.length : Int) then .inl 132 else match (List.range m.Starts.length).find? (startBad m) with | some k => .inr (.inl ⟨(k : Int), 132⟩) | none => .inr (.inr ())) := by
  unfold model_starts.f
  by_cases h : 4096 < (m.Starts.length : Int)
  · rw [if_pos h, if_pos h]
  rw [if_neg h, if_neg h]
  unfold model_starts.l2
  refine (loopR_findS (fun k => ((k : Nat) : Int)) (startBad m) (fun k => .inr (.inl ⟨(k : Int), 132⟩)) (.inr (.inr ())) m.Starts.length (fun k hk hb => ?_) (fun _ => ?_)).trans (by cases (List.range m.Starts.length).find? (startBad m) <;> rfl)
  · simp only [model_starts.l2b, lane_eq, valid_eq, Option.bind_some]
    rw [if_pos (by omega), if_pos (by omega), w64 (by omega) (by omega)]
    unfold startBad startOK
    cases laneB m (nth m.Starts (k : Int)).To <;> cases timeB (nth m.Starts (k : Int)).Time <;> rfl
  · simp only [model_starts.l2b]
    rw [if_neg (by omega)]
def chkM (m : api_Model) : Int :=
  if sizesB m then if (List.range m.Progs.length).any (progBad m) then 130 else if 1024 < (m.Links.length : Int) then 131 else if (List.range m.Links.length).any (linkBad m) then 131
    else if 4096 < (m.Starts.length : Int) then 132 else if (List.range m.Starts.length).any (startBad m) then 132 else 0
  else 1
theorem model_check_eq (m : api_Model) : model_Check.f m = some (chkM m) := by
  unfold model_Check.f chkM
  simp only [model_rules.f, sizes_eq, Option.bind_some]
  cases hs : sizesB m with
  | false => rfl
  | true =>
    have hp : m.Progs.length ≤ 16 := by
      simp only [sizesB, Bool.and_eq_true, decide_eq_true_eq] at hs
      exact hs.1.1.2
    simp only [if_pos, programs_eq m hp, Option.bind_some]
    rw [← find_any (progBad m) m.Progs.length (130 : Int)]
    cases (List.range m.Progs.length).find? (progBad m) with
    | some k => rfl
    | none =>
      simp only [links_eq m hp, Option.bind_some]
      by_cases h : 1024 < (m.Links.length : Int)
      · rw [if_pos h, if_pos h]; rfl
      rw [if_neg h, if_neg h, ← find_any (linkBad m) m.Links.length (131 : Int)]
      cases (List.range m.Links.length).find? (linkBad m) with
      | some k => rfl
      | none =>
        simp only [starts_eq m, Option.bind_some]
        by_cases h : 4096 < (m.Starts.length : Int)
        · rw [if_pos h, if_pos h]; rfl
        rw [if_neg h, if_neg h, ← find_any (startBad m) m.Starts.length (132 : Int)]
        cases (List.range m.Starts.length).find? (startBad m) <;> rfl
end
section
open Go.Sl
set_option linter.unusedVariables false
set_option linter.unusedSimpArgs false
def idxs (p : Nat → Bool) (n : Nat) : List Int := ((List.range n).filter p).map (fun k : Nat => (k : Int))
theorem idxs_succ (p : Nat → Bool) (k : Nat) : idxs p (k + 1) = if p k then idxs p k ++ [(k : Int)] else idxs p k := by
  unfold idxs
  rw [List.range_succ, List.filter_append, List.map_append]
  cases h : p k <;> simp [h]
theorem idxs_len (p : Nat → Bool) (n : Nat) : (idxs p n).length ≤ n := by
  unfold idxs
  rw [List.length_map]
  exact Nat.le_trans (List.length_filter_le _ _) (by simp)
theorem idxs_get (p : Nat → Bool) (n i : Nat) (h : i < (idxs p n).length) : ∃ k : Nat, nth (idxs p n) (i : Int) = (k : Int) ∧ k < n ∧ p k = true := by
  rw [nth_nat h]
  have hm := List.getElem_mem h
  obtain ⟨k, hk, e⟩ := List.mem_map.1 hm
  obtain ⟨h1, h2⟩ := List.mem_filter.1 hk
  exact ⟨k, e.symm, List.mem_range.1 h1, h2⟩
theorem loop_idxs {R : Type} {body : List Int × Int → Option ((List Int × Int) ⊕ R)} (p : Nat → Bool) (n : Nat) {r : R} (h : ∀ k, k < n → ∀ l : List Int, l.length ≤ k → body (l, (k : Int)) = some (.inl (if p k then l ++ [(k : Int)] else l, ((k + 1 : Nat) : Int)))) (he : body (idxs p n, (n : Int)) = some (.inr r)) : loopR body ([], 0) = some r :=
  loopR_steps (fun k => (idxs p k, (k : Int))) n (fun k hk => by rw [h k hk _ (idxs_len p k), ← idxs_succ]) he
theorem loop_map {α R : Type} {body : List α × Int → Option ((List α × Int) ⊕ R)} (g : Nat → α) (n : Nat) {r : R} (h : ∀ k, k < n → ∀ l : List α, l.length = k → body (l, (k : Int)) = some (.inl (l ++ [g k], ((k + 1 : Nat) : Int)))) (he : body ((List.range n).map g, (n : Int)) = some (.inr r)) : loopR body ([], 0) = some r :=
  loopR_steps (fun k => ((List.range k).map g, (k : Int))) n (fun k hk => by rw [h k hk _ (by simp), List.range_succ, List.map_append]; rfl) he
def fromB (m : api_Model) (n : Int) (k : Nat) : Bool := decide ((nth m.Links (k : Int)).From = n)
def toB (m : api_Model) (n : Int) (k : Nat) : Bool := decide ((nth m.Links (k : Int)).To = n)
def ways (m : api_Model) (n : Int) : List Int := idxs (fromB m n) m.Links.length
def into (m : api_Model) (n : Int) : List Int := idxs (toB m n) m.Links.length
theorem links_bound {m : api_Model} (h : ok_api_Model m) : m.Links.length * 32 ≤ 140737488351232 := by
  have := h.2.1.2
  simpa [reachBytes] using this
theorem ways_eq {m : api_Model} (h : ok_api_Model m) (n : Int) : model_Ways.f m n = some (ways m n) := by
  have hb := links_bound h
  unfold model_Ways.f model_places.f model_places.l7
  rw [loop_idxs (r := ways m n) (fromB m n) m.Links.length (fun k hk l hl => by
    simp only [model_places.l7b, model_Ways_1.f, model_places.j8, Option.bind_some]
    rw [if_pos (by omega), if_pos (by omega), w64 (by omega) (by omega)]
    unfold fromB
    by_cases e : (nth m.Links (k : Int)).From = n
    · rw [if_pos (by simp [e]), if_pos (by omega), if_pos (by simp [e])]; rfl
    · rw [if_neg (by simp [e]), if_neg (by simp [e])]; rfl) (by simp only [model_places.l7b]; rw [if_neg (by omega)]; rfl)]
  rfl
theorem into_eq {m : api_Model} (h : ok_api_Model m) (n : Int) : model_Into.f m n = some (into m n) := by
  have hb := links_bound h
  unfold model_Into.f model_places_2.f model_places_2.l7
  rw [loop_idxs (r := into m n) (toB m n) m.Links.length (fun k hk l hl => by
    simp only [model_places_2.l7b, model_Into_1.f, model_places_2.j8, Option.bind_some]
    rw [if_pos (by omega), if_pos (by omega), w64 (by omega) (by omega)]
    unfold toB
    by_cases e : (nth m.Links (k : Int)).To = n
    · rw [if_pos (by simp [e]), if_pos (by omega), if_pos (by simp [e])]; rfl
    · rw [if_neg (by simp [e]), if_neg (by simp [e])]; rfl) (by simp only [model_places_2.l7b]; rw [if_neg (by omega)]; rfl)]
  rfl
def wlinks (m : api_Model) (n : Int) : List api_Link := (List.range (ways m n).length).map fun k : Nat => nth m.Links (nth (ways m n) (k : Int))
def wldP (m : api_Model) (n : Int) : api_World × Int :=
  if chkM m = 0 then if laneB m n then (⟨nth m.Progs n, n, wlinks m n, m.Seed⟩, 0) else (⟨[], 0, [], 0⟩, 1) else (⟨[], 0, [], 0⟩, chkM m)
theorem world_eq {m : api_Model} (h : ok_api_Model m) (n : Int) : model_World.f m n = some (wldP m n) := by
  have hb := links_bound h
  unfold model_World.f wldP
  rw [model_check_eq]
  simp only [Option.bind_some, lane_eq]
  by_cases hc : chkM m = 0
  · rw [if_pos hc, if_pos hc]
    by_cases hl : laneB m n = true
    · rw [if_pos hl, if_pos hl]
      have hr : 0 ≤ n ∧ n < (m.Progs.length : Int) := by simpa [laneB] using hl
      have hq : (nth m.Progs n).length * 32 ≤ 140737488351232 := by
        have := (h.1.1 _ (nth_mem hr.1 hr.2)).2
        simpa [reachBytes] using this
      rw [if_pos hr, if_pos (by simp only [List.length_nil]; omega)]
      unfold model_World.j4
      rw [ways_eq h]
      simp only [Option.bind_some, List.nil_append]
      unfold model_World.l6
      have hw : (ways m n).length ≤ m.Links.length := idxs_len _ _
      refine loop_map (fun k : Nat => nth m.Links (nth (ways m n) (k : Int))) (ways m n).length (fun k hk l hl => ?_) ?_
      · obtain ⟨j, e1, e2, _⟩ := idxs_get (fromB m n) m.Links.length k hk
        simp only [model_World.l6b]
        rw [if_pos (by omega), if_pos (by omega), if_pos (by rw [show nth (ways m n) (k : Int) = (j : Int) from e1]; omega), if_pos (by omega), w64 (by omega) (by omega)]
        rfl
      · simp only [model_World.l6b]
        rw [if_neg (by omega)]
        rfl
    · rw [if_neg hl, if_neg hl]
  · rw [if_neg hc, if_neg hc]
theorem chkM_zero {m : api_Model} (h : chkM m = 0) : sizesB m = true ∧ (List.range m.Progs.length).any (progBad m) = false ∧ m.Links.length ≤ 1024 ∧ (List.range m.Links.length).any (linkBad m) = false ∧ m.Starts.length ≤ 4096 ∧ (List.range m.Starts.length).any (startBad m) = false := by
  unfold chkM at h
  split at h
  · rename_i h1
    split at h
    · cases h
    · rename_i h2
      split at h
      · cases h
      · rename_i h3
        split at h
        · cases h
        · rename_i h4
          split at h
          · cases h
          · rename_i h5
            split at h
            · cases h
            · rename_i h6
              refine ⟨h1, ?_, ?_, ?_, ?_, ?_⟩ <;> first | omega | simp_all
  · cases h
end
section
open Go.Sl
set_option linter.unusedVariables false
def msg (m : api_Model) (k : Nat) : api_Message := ⟨⟨(nth m.Starts (k : Int)).Time, -1, (k : Int)⟩, (nth m.Starts (k : Int)).To, (nth m.Starts (k : Int)).Value, (k : Int), false⟩
theorem starts_list {m : api_Model} (l : m.Starts.length ≤ 1048576) : model_Starts.f m = some ((List.range m.Starts.length).map (msg m)) := by
  unfold model_Starts.f model_Starts.l2
  refine loop_map (msg m) m.Starts.length (fun k hk l hl => ?_) ?_
  · simp only [model_Starts.l2b]
    rw [if_pos (by omega), if_pos (by omega), if_pos (by omega), w64 (by omega) (by omega)]
    rfl
  · simp only [model_Starts.l2b]
    rw [if_neg (by omega)]
end
section
open Go.Sl
set_option linter.unusedVariables false
set_option linter.unusedSimpArgs false
def laneW (n : Int) : Bool := decide (0 ≤ n ∧ n < 16)
theorem vm_lane_eq (n : Int) : vm_lane.f n = some (laneW n) := by
  unfold vm_lane.f laneW
  by_cases h : 0 ≤ n <;> simp [h]
def linkBadW (w : api_World) (k : Nat) : Bool := !(laneW (nth w.Links (k : Int)).To && decide (1 ≤ (nth w.Links (k : Int)).Look ∧ (nth w.Links (k : Int)).Look ≤ 4611686018427387903))
def chkW (w : api_World) : Int :=
  if chk w.Prog = 0 then if laneW w.Self then if 1024 < (w.Links.length : Int) then 1 else if (List.range w.Links.length).any (linkBadW w) then 1 else 0 else 1 else chk w.Prog
theorem vm_check_eq (w : api_World) : vm_Check.f w = some (chkW w) := by
  unfold vm_Check.f chkW
  simp only [code_check_eq, vm_lane_eq, Option.bind_some]
  by_cases h : chk w.Prog = 0
  · rw [if_pos h, if_pos h]
    cases laneW w.Self with
    | false => rfl
    | true =>
      rw [if_pos rfl, if_pos rfl]
      by_cases h2 : 1024 < (w.Links.length : Int)
      · rw [if_pos h2, if_pos h2]
      rw [if_neg h2, if_neg h2]
      unfold vm_Check.l2
      rw [loopR_any (linkBadW w) (1 : Int) 0 w.Links.length (fun k hk => by
        simp only [vm_Check.l2b, vm_lane_eq, valid_eq, Option.bind_some]
        rw [if_pos (by omega), if_pos (by omega), w64 (by omega) (by omega)]
        unfold linkBadW
        cases laneW (nth w.Links (k : Int)).To with
        | false => rfl
        | true =>
          rw [if_pos rfl]
          by_cases h3 : (nth w.Links (k : Int)).Look < 1
          · rw [if_pos h3]; simp [show ¬ (1 ≤ (nth w.Links (k : Int)).Look) by omega]
          rw [if_neg h3]
          unfold timeB
          by_cases h4 : (nth w.Links (k : Int)).Look ≤ 4611686018427387903
          · rw [decide_eq_true (show 0 ≤ (nth w.Links (k : Int)).Look ∧ (nth w.Links (k : Int)).Look ≤ 4611686018427387903 by omega), decide_eq_true (show 1 ≤ (nth w.Links (k : Int)).Look ∧ (nth w.Links (k : Int)).Look ≤ 4611686018427387903 by omega)]; rfl
          · rw [decide_eq_false (show ¬ (0 ≤ (nth w.Links (k : Int)).Look ∧ (nth w.Links (k : Int)).Look ≤ 4611686018427387903) by omega), decide_eq_false (show ¬ (1 ≤ (nth w.Links (k : Int)).Look ∧ (nth w.Links (k : Int)).Look ≤ 4611686018427387903) by omega)]; rfl)
        (by simp only [vm_Check.l2b]; rw [if_neg (by omega)])]
  · rw [if_neg h, if_neg h]
def evB (m : api_Message) : Bool := timeB m.Key.Time && decide (-1 ≤ m.Key.From ∧ m.Key.From < 16) && laneW m.To && decide (0 ≤ m.Key.Seq ∧ 0 ≤ m.Uid)
abbrev Rg := Nat → Int
def upR (f : Rg) (i v : Int) : Rg := upd f (i.toNat * 1) v
def Rin (f : Rg) : Prop := ∀ j, -9223372036854775808 ≤ f j ∧ f j ≤ 9223372036854775807
theorem Rin.up {f : Rg} (h : Rin f) {i v : Int} (hv : -9223372036854775808 ≤ v ∧ v ≤ 9223372036854775807) : Rin (upR f i v) := fun j => by
  unfold upR upd
  split
  · exact hv
  · exact h j
structure Fine (w : api_World) (m : api_Message) : Prop where
  may : ∀ k : Nat, k < w.Prog.length → mayB (nth w.Prog (k : Int)) (w.Prog.length : Int) = true
  many : (w.Prog.length : Int) ≤ 256
  links : (w.Links.length : Int) ≤ 1024
  look : ∀ k : Nat, k < w.Links.length → 1 ≤ (nth w.Links (k : Int)).Look
  self : 0 ≤ w.Self ∧ w.Self < 16
  time : 0 ≤ m.Key.Time ∧ m.Key.Time ≤ 4611686018427387903
  value : -9223372036854775808 ≤ m.Value ∧ m.Value ≤ 9223372036854775807
def zst : api_State := ⟨⟨0, 0, 0, 0, 0, 0, 0, 0⟩, 0, 0⟩
theorem chk_zero {l : List api_Instr} (h : chk l = 0) : (l.length : Int) ≤ 256 ∧ ∀ k : Nat, k < l.length → mayB (nth l (k : Int)) (l.length : Int) = true := by
  unfold chk at h
  split at h
  · cases h
  · rename_i h1
    refine ⟨by omega, fun k hk => ?_⟩
    cases hf : (List.range l.length).find? (fun k : Nat => !mayB (nth l (k : Int)) (l.length : Int)) with
    | some j => rw [hf] at h; cases h
    | none =>
      have := List.find?_eq_none.1 hf k (List.mem_range.2 hk)
      simpa using this
theorem fine_of {w : api_World} {m : api_Message} (hw : chkW w = 0) (hm : evB m = true) (hv : -9223372036854775808 ≤ m.Value ∧ m.Value ≤ 9223372036854775807) : Fine w m := by
  unfold chkW at hw
  split at hw
  · rename_i h1
    split at hw
    · rename_i h2
      split at hw
      · cases hw
      · rename_i h3
        split at hw
        · cases hw
        · rename_i h4
          obtain ⟨p1, p2⟩ := chk_zero h1
          simp only [evB, Bool.and_eq_true] at hm
          refine ⟨p2, p1, by omega, fun k hk => ?_, by simpa [laneW] using h2, by simpa [timeB] using hm.1.1.1, hv⟩
          simp only [Bool.not_eq_true] at h4
          have := List.any_eq_false.1 h4 k (List.mem_range.2 hk)
          simp only [linkBadW, Bool.not_eq_true, Bool.not_eq_false', Bool.and_eq_true, decide_eq_true_eq] at this
          exact this.2.1
    · cases hw
  · rename_i h1
    exact absurd hw h1
end
section
open Go.Sl
set_option linter.unusedVariables false
set_option linter.unusedSimpArgs false
def zmsg : api_Message := ⟨⟨0, 0, 0⟩, 0, 0, 0, false⟩
theorem new_eq (w : api_World) (e : Int) (he : 1 ≤ e ∧ e ≤ 1024) : log_New.f w zst e = some (if chkW w = 0 then .inr (⟨w, true, zst, e, [], false⟩, 0) else .inl (chkW w)) := by
  unfold log_New.f
  rw [vm_check_eq]
  simp only [Option.bind_some]
  by_cases h : chkW w = 0
  · have hF := fine_of (m := zmsg) h (by decide) (by decide)
    have h1 := hF.many
    have h2 := hF.links
    rw [if_pos h, if_pos h, if_neg (by decide), if_neg (by decide), if_neg (by omega), if_neg (by omega), if_pos (by simp only [List.length_nil]; omega), if_pos (by simp only [List.length_nil]; omega), List.nil_append, List.nil_append]
  · rw [if_neg h, if_neg h]
end
section
open Go.Sl
set_option linter.unusedVariables false
set_option linter.unusedSimpArgs false
def wldN (m : api_Model) (n : Int) : api_World := ⟨nth m.Progs n, n, wlinks m n, m.Seed⟩
theorem sizes_progs {m : api_Model} (hC : chkM m = 0) : 1 ≤ m.Progs.length ∧ m.Progs.length ≤ 16 := by
  have h1 := (chkM_zero hC).1
  unfold sizesB at h1
  simp only [Bool.and_eq_true, decide_eq_true_eq] at h1; exact h1.1.1
theorem wldN_eq {m : api_Model} (hC : chkM m = 0) {n : Int} (h0 : 0 ≤ n) (h1 : n < (m.Progs.length : Int)) : wldP m n = (wldN m n, 0) := by
  have hb : laneB m n = true := by
    simp only [laneB, decide_eq_true_eq]; omega
  unfold wldP
  rw [if_pos hC, if_pos hb]; rfl
theorem wldN_chk {m : api_Model} (hC : chkM m = 0) {n : Int} (h0 : 0 ≤ n) (h1 : n < (m.Progs.length : Int)) : chkW (wldN m n) = 0 := by
  obtain ⟨_, h2, h3, h4, _⟩ := chkM_zero hC
  have hp := sizes_progs hC
  have hpb := List.any_eq_false.1 h2 n.toNat (List.mem_range.2 (by omega))
  have en : ((n.toNat : Nat) : Int) = n := by omega
  have hpc : chk (nth m.Progs n) = 0 := by
    unfold progBad at hpb
    rw [en] at hpb
    simpa using hpb
  have hl : (wlinks m n).length ≤ 1024 := by
    unfold wlinks
    rw [List.length_map, List.length_range]
    exact Nat.le_trans (idxs_len _ _) h3
  unfold chkW
  rw [show (wldN m n).Prog = nth m.Progs n from rfl, if_pos hpc, show (wldN m n).Self = n from rfl, if_pos (by simp [laneW]; omega), show (wldN m n).Links = wlinks m n from rfl, if_neg (by omega)]
  rw [if_neg]
  rw [Bool.not_eq_true, List.any_eq_false]
  intro k hk
  have hk := List.mem_range.1 hk
  have hk' : k < (ways m n).length := by simpa [wlinks] using hk
  obtain ⟨j, ej, hj, hf⟩ := idxs_get (fromB m n) m.Links.length k hk'
  have ej' : nth (ways m n) (k : Int) = (j : Int) := ej
  have e : nth (wlinks m n) (k : Int) = nth m.Links (j : Int) := by
    rw [nth_nat hk]
    simp only [wlinks, List.getElem_map, List.getElem_range, ej']
  have hb := List.any_eq_false.1 h4 j (List.mem_range.2 hj)
  simp only [linkBad, Bool.or_eq_true, Bool.not_eq_true', not_or, Bool.not_eq_false] at hb
  obtain ⟨⟨_, _⟩, ⟨t0, t1⟩, l0, l1⟩ := linkOK_of hb.1
  have hf' : (nth m.Links (j : Int)).From = n := by simpa [fromB] using hf
  unfold linkBadW
  rw [show (wldN m n).Links = wlinks m n from rfl, e]
  simp only [laneW, Bool.not_eq_true', Bool.not_eq_false', Bool.and_eq_true, decide_eq_true_eq, Bool.not_eq_true, Bool.not_eq_false]
  omega
def frsN (m : api_Model) (n : Int) (k : Nat) : List api_Message := ((List.range k).map (msg m)).filter fun x => decide (x.To = n)
theorem frsN_succ (m : api_Model) (n : Int) (k : Nat) : frsN m n (k + 1) = if (msg m k).To = n then frsN m n k ++ [msg m k] else frsN m n k := by
  unfold frsN
  rw [List.range_succ, List.map_append, List.filter_append]
  by_cases h : (msg m k).To = n
  · simp [h]
  · simp [h]
theorem frsN_mem {m : api_Model} {n : Int} {k : Nat} {x : api_Message} (h : x ∈ frsN m n k) : ∃ j, j < k ∧ x = msg m j ∧ x.To = n := by
  unfold frsN at h
  obtain ⟨h1, h2⟩ := List.mem_filter.1 h
  obtain ⟨j, hj, e⟩ := List.mem_map.1 h1
  exact ⟨j, List.mem_range.1 hj, e.symm, by simpa using h2⟩
theorem frsN_len (m : api_Model) (n : Int) (k : Nat) : (frsN m n k).length ≤ k := by
  unfold frsN
  exact Nat.le_trans (List.length_filter_le _ _) (by simp)
def laneN (m : api_Model) (c : api_Caps) (n : Int) : lane_Lane := ⟨m, n, c, ways m n, ⟨wldN m n, true, zst, 4, [], false⟩, qof [], [], [], [], [], 0, ⟨2, 4, 0, 1000, 0⟩, ⟨0, 0, 0, 0⟩⟩
def lnN (x : lane_Lane) (W : List api_Message) (hd : List (lane_sending × Bool)) : lane_Lane := { x with wait := qof W, held := hd }
theorem hold_freshN {x : lane_Lane} {l : List api_Message} {y : api_Message} (hw : x.wait = qof l) (hq : QOK l) (hn : snd y ∉ l.map snd) (hl : l.length < 16384) :
    ∃ W, lane_Lane_hold.f x y = some { x with wait := qof W, held := mset x.held ⟨y.Key.From, y.Uid⟩ true } ∧ W.Perm (y :: l) ∧ QOK W := by
  rcases qPush_eq (m := y) hq with ⟨h, _⟩ | ⟨_, h, _⟩ | ⟨_, _, W, e, p, q⟩
  · exact absurd h hn
  · omega
  · refine ⟨W, ?_, p, q⟩
    unfold lane_Lane_hold.f
    rw [hw, e]
    simp only [Option.bind_some, if_true]
    unfold lane_of.f
    rfl
theorem hold_loopN {m : api_Model} (t : Int) {n : Nat} (hn : n ≤ 4096) : ∀ (d k : Nat) (x : lane_Lane) (l : List api_Message), d + k = n → x.wait = qof l → QOK l → l.Perm (frsN m t k) →
    ∃ W hd, loopR (lane_New.l8b t ((List.range n).map (msg m))) (x, (k : Int)) = some (.inr ({ x with wait := qof W, held := hd }, 0)) ∧ QOK W ∧ W.Perm (frsN m t n)
  | 0, k, x, l, e, hw, hq, hp => by
    have : k = n := by omega
    subst this
    refine ⟨l, x.held, ?_, hq, hp⟩
    rw [loopR_eq]
    simp only [lane_New.l8b]
    rw [if_neg (by simp), ← hw]
    rfl
  | d + 1, k, x, l, e, hw, hq, hp => by
    rw [loopR_eq]
    simp only [lane_New.l8b]
    have hk : k < ((List.range n).map (msg m)).length := by simp; omega
    have ek : nth ((List.range n).map (msg m)) (k : Int) = msg m k := by
      rw [nth_nat hk]; simp
    rw [if_pos (by simp; omega), if_pos (by omega), ek]
    by_cases ht : (msg m k).To = t
    · have hfr : snd (msg m k) ∉ l.map snd := fun hc => by
        obtain ⟨z, hz, ez⟩ := List.mem_map.1 hc
        obtain ⟨j, hj, rfl, _⟩ := frsN_mem (hp.mem_iff.1 hz)
        simp only [snd, msg, Prod.mk.injEq] at ez; omega
      have hll : l.length ≤ k := by rw [hp.length_eq]; exact frsN_len m t k
      obtain ⟨W, eh, p, q⟩ := hold_freshN hw hq hfr (by omega)
      rw [if_pos ht, eh]
      simp only [Option.bind_some]
      rw [w64 (by omega) (by omega)]
      obtain ⟨W', hd', el, q', p'⟩ := hold_loopN t hn d (k + 1) { x with wait := qof W, held := mset x.held ⟨(msg m k).Key.From, (msg m k).Uid⟩ true } W (by omega) rfl q (by
        rw [frsN_succ, if_pos ht]
        exact p.trans ((hp.cons _).trans (List.perm_append_comm (l₁ := [msg m k]) (l₂ := frsN m t k))))
      exact ⟨W', hd', el, q', p'⟩
    · rw [if_neg ht]
      rw [w64 (by omega) (by omega)]
      exact hold_loopN t hn d (k + 1) x l (by omega) hw hq (by rw [frsN_succ, if_neg ht]; exact hp)
def capsB (c : api_Caps) : Bool := decide (1 ≤ c.Link ∧ c.Link ≤ 1024 ∧ 1 ≤ c.Wait ∧ c.Wait ≤ 4096 ∧ 1 ≤ c.Log ∧ c.Log ≤ 4096)
theorem NewN_bad {m : api_Model} (h : ok_api_Model m) (hC : chkM m = 0) {n : Int} (h0 : 0 ≤ n) (h1 : n < (m.Progs.length : Int)) {c : api_Caps} (hc : capsB c = false) : lane_New.f m n c = some (.inl 1) := by
  have hc' : ¬ (1 ≤ c.Link ∧ c.Link ≤ 1024 ∧ 1 ≤ c.Wait ∧ c.Wait ≤ 4096 ∧ 1 ≤ c.Log ∧ c.Log ≤ 4096) := by
    unfold capsB at hc; exact of_decide_eq_false hc
  unfold lane_New.f
  rw [world_eq h, wldN_eq hC h0 h1]
  simp only [Option.bind_some, if_true]
  by_cases a : c.Link < 1
  · rw [if_pos a]
  rw [if_neg a]
  by_cases b : 1024 < c.Link
  · rw [if_pos b]
  rw [if_neg b]
  by_cases d : (if c.Log < c.Wait then c.Log else c.Wait) < 1
  · rw [if_pos d]
  rw [if_neg d]
  by_cases e : 4096 < (if c.Wait < c.Log then c.Log else c.Wait)
  · rw [if_pos e]
  exfalso
  apply hc'
  split at d <;> split at e <;> omega
theorem NewN_eq {m : api_Model} (h : ok_api_Model m) (hC : chkM m = 0) {n : Int} (h0 : 0 ≤ n) (h1 : n < (m.Progs.length : Int)) {c : api_Caps} (hc : capsB c = true) :
    ∃ W hd, lane_New.f m n c = some (.inr (lnN (laneN m c n) W hd, 0)) ∧ QOK W ∧ W.Perm (frsN m n m.Starts.length) := by
  have hc : 1 ≤ c.Link ∧ c.Link ≤ 1024 ∧ 1 ≤ c.Wait ∧ c.Wait ≤ 4096 ∧ 1 ≤ c.Log ∧ c.Log ≤ 4096 := by
    unfold capsB at hc; exact of_decide_eq_true hc
  obtain ⟨_, _, h3, _, h5, _⟩ := chkM_zero hC
  obtain ⟨W, hd, el, q, p⟩ := hold_loopN n h5 m.Starts.length 0 (laneN m c n) [] (by omega) rfl QOK.nil (by unfold frsN; exact List.Perm.refl _)
  refine ⟨W, hd, ?_, q, p⟩
  unfold lane_New.f
  rw [world_eq h, wldN_eq hC h0 h1]
  simp only [Option.bind_some, if_true]
  rw [if_neg (by omega), if_neg (by omega), if_neg (by split <;> omega), if_neg (by split <;> omega), ways_eq h]
  simp only [Option.bind_some]
  unfold tune_First.f lane_New.j6
  simp only [Option.bind_some]
  rw [if_pos (by simp only [List.length_nil]; omega), show (⟨(⟨0, 0, 0, 0, 0, 0, 0, 0⟩ : Arr8xInti64), 0, 0⟩ : api_State) = zst from rfl, new_eq (wldN m n) 4 (by omega), if_pos (wldN_chk hC h0 h1)]
  simp only [Option.bind_some]
  rw [starts_list (by omega)]
  unfold pend_New.f pend_fresh.f heap_New.f lane_New.l8
  simp only [Option.bind_some]
  exact el
theorem least_nil : vtime_Least.f [] = some 4611686018427387904 := by
  unfold vtime_Least.f vtime_Least.l2
  rw [loopR_eq]
  simp [vtime_Least.l2b]
theorem local_nilN {x : lane_Lane} (hw : x.wait = qof []) (ho : x.open_ = []) : lane_Lane_Local.f x = some 4611686018427387904 := by
  unfold lane_Lane_Local.f lane_Lane_none.f
  rw [least_nil, hw, qFirst_nil]
  simp only [Option.bind_some]
  rw [if_neg (by decide)]
  unfold lane_Lane_Local.j3 lane_Lane_Local.l4
  rw [loopR_eq]
  simp [lane_Lane_Local.l4b, ho]
end
section
open Go.Sl
set_option linter.unusedVariables false
set_option linter.unusedSimpArgs false
section
variable {κ ν : Type} [DecidableEq κ]
theorem findE_shift (k : κ) : ∀ (es : List (κ × ν)) (i : Nat), findE es k (i + 1) = (findE es k i).map (fun r => (r.1 + 1, r.2))
  | [], _ => rfl
  | e :: es, i => by
    unfold findE
    by_cases h : e.1 = k
    · rw [if_pos h, if_pos h]; rfl
    · rw [if_neg h, if_neg h]; exact findE_shift k es (i + 1)
theorem mget_nil (k : κ) : mget ([] : List (κ × ν)) k = none := rfl
theorem mget_cons (e : κ × ν) (es : List (κ × ν)) (k : κ) : mget (e :: es) k = if e.1 = k then some e.2 else mget es k := by
  unfold mget
  rw [findE]
  by_cases h : e.1 = k
  · rw [if_pos h, if_pos h]; rfl
  · rw [if_neg h, if_neg h, findE_shift, Option.map_map]; rfl
theorem mset_cons (e : κ × ν) (es : List (κ × ν)) (k : κ) (v : ν) : mset (e :: es) k v = if e.1 = k then (k, v) :: es else e :: mset es k v := by
  unfold mset
  rw [findE]
  by_cases h : e.1 = k
  · rw [if_pos h, if_pos h]; rfl
  · rw [if_neg h, if_neg h, findE_shift]
    cases findE es k 0 <;> rfl
end
end
section
open Go.Sl
set_option linter.unusedVariables false
set_option linter.unusedSimpArgs false
theorem mset_len {κ ν : Type} [DecidableEq κ] (k : κ) (v : ν) : ∀ es : List (κ × ν), (mset es k v).length ≤ es.length + 1
  | [] => Nat.le_refl 1
  | e :: es => by
    have := mset_len k v es
    rw [mset_cons]
    split <;> simp <;> omega
def intoM (t : List Int) : Nat → List (Int × Int)
  | 0 => []
  | k + 1 => mset (intoM t k) (nth t (k : Int)) (k : Int)
theorem intoM_len (t : List Int) : ∀ k, (intoM t k).length ≤ k
  | 0 => Nat.le_refl _
  | k + 1 => by
    have := intoM_len t k
    have h := mset_len (nth t (k : Int)) (k : Int) (intoM t k)
    show (mset _ _ _).length ≤ _
    omega
def tal0 : colour_Tally := ⟨true, 0, (⟨0, 0⟩ : Arr2xInti64), 4611686018427387904⟩
structure Pl0 (m : api_Model) (c : api_Caps) (n : Int) (p : kernel_place) : Prop where
  ln : ∃ W hd, p.Lane = lnN (laneN m c n) W hd ∧ QOK W ∧ W.Perm (frsN m n m.Starts.length)
  ta : p.tally = tal0
  cl : p.clocks = ⟨true, List.replicate p.into.length 0⟩
  wa : p.ways = ways m n
  it : p.into = intoM (into m n) (into m n).length
def way0 (m : api_Model) (c : api_Caps) (k : Nat) : link_Way := ⟨nth m.Links (k : Int), c.Link, []⟩
def ker0 (m : api_Model) (c : api_Caps) (ps : List kernel_place) : kernel_Kernel := ⟨m, ps, (List.range m.Links.length).map (way0 m c), ⟨(m.Progs.length : Int), 0, false, 0, 4611686018427387904⟩, 0, 64, 64, [], 0⟩
theorem into_len {m : api_Model} (hC : chkM m = 0) (n : Int) : (into m n).length ≤ 1024 := by
  obtain ⟨_, _, h3, _⟩ := chkM_zero hC
  exact Nat.le_trans (idxs_len _ _) h3
theorem place_eq {m : api_Model} (h : ok_api_Model m) (hC : chkM m = 0) {ps : List kernel_place} (hps : ps.length < 16) {n : Int} (h0 : 0 ≤ n) (h1 : n < 16) (y : lane_Lane) (t : colour_Tally) (ws : List Int) :
    kernel_New.j132 m ps n y t ws = some (.inl (ps ++ [⟨y, t, ⟨true, List.replicate (intoM (into m n) (into m n).length).length 0⟩, ws, intoM (into m n) (into m n).length⟩], n + 1)) := by
  have hl := into_len hC n
  have hm := intoM_len (into m n) (into m n).length
  unfold kernel_New.j132
  rw [into_eq h]
  simp only [Option.bind_some]
  unfold kernel_New.l134
  refine (show loopR _ ((fun k : Nat => (intoM (into m n) k, (k : Int))) 0) = _ from loopR_steps (fun k : Nat => (intoM (into m n) k, (k : Int))) (into m n).length (fun k hk => ?_) ?_)
  · simp only [kernel_New.l134b]
    rw [if_pos (by omega), if_pos (by omega), w64 (by omega) (by omega)]
    rfl
  · simp only [kernel_New.l134b]
    rw [if_neg (by omega)]
    unfold clock_New.f
    rw [if_neg (by omega), if_neg (by omega), if_pos (by omega)]
    simp only [Option.bind_some]
    rw [if_pos (by omega), w64 (by omega) (by omega)]
    simp
theorem way_ok {m : api_Model} (hC : chkM m = 0) {c : api_Caps} (hc : capsB c = true) {k : Nat} (hk : k < m.Links.length) : link_New.f (nth m.Links (k : Int)) c.Link = some (.inr (way0 m c k, 0)) := by
  have hc : 1 ≤ c.Link ∧ c.Link ≤ 1024 ∧ 1 ≤ c.Wait ∧ c.Wait ≤ 4096 ∧ 1 ≤ c.Log ∧ c.Log ≤ 4096 := by
    unfold capsB at hc; exact of_decide_eq_true hc
  obtain ⟨_, _, _, h4, _⟩ := chkM_zero hC
  have hp := sizes_progs hC
  have hb := List.any_eq_false.1 h4 k (List.mem_range.2 hk)
  simp only [linkBad, Bool.or_eq_true, Bool.not_eq_true', not_or, Bool.not_eq_false] at hb
  obtain ⟨⟨f0, f1⟩, ⟨t0, t1⟩, _⟩ := linkOK_of hb.1
  unfold link_New.f link_lane.f
  rw [if_pos f0]
  simp only [Option.bind_some]
  rw [if_pos (by simp; omega), if_pos t0]
  simp only [Option.bind_some]
  rw [if_pos (by simp; omega), if_neg (by omega), if_neg (by omega)]
  rfl
theorem ways_made {m : api_Model} (hC : chkM m = 0) {c : api_Caps} (hc : capsB c = true) (ps : List kernel_place) : kernel_New.l136 m c ps ([], 0) = some (.inr (ker0 m c ps, 0)) := by
  obtain ⟨_, _, h3, _⟩ := chkM_zero hC
  have hp := sizes_progs hC
  unfold kernel_New.l136
  refine loop_map (way0 m c) m.Links.length (fun k hk l hl => ?_) ?_
  · simp only [kernel_New.l136b]
    rw [if_pos (by omega), if_pos (by omega), way_ok hC hc hk]
    simp only [Option.bind_some]
    rw [if_pos (by omega), w64 (by omega) (by omega)]
    rfl
  · simp only [kernel_New.l136b]
    rw [if_neg (by omega)]
    unfold colour_NewToken.f
    rw [if_neg (by omega), if_neg (by omega)]
    rfl
theorem places_made {m : api_Model} (h : ok_api_Model m) (hC : chkM m = 0) {c : api_Caps} (hc : capsB c = true) : ∀ (d k : Nat) (ps : List kernel_place), d + k = m.Progs.length → ps.length = k → (∀ i : Nat, i < k → Pl0 m c (i : Int) (nth ps (i : Int))) →
    ∃ qs, loopR (kernel_New.l126b m c) (ps, (k : Int)) = some (.inr (ker0 m c qs, 0)) ∧ qs.length = m.Progs.length ∧ ∀ i : Nat, i < m.Progs.length → Pl0 m c (i : Int) (nth qs (i : Int))
  | 0, k, ps, e, hl, hp => by
    have : k = m.Progs.length := by omega
    subst this
    refine ⟨ps, ?_, hl, hp⟩
    rw [loopR_eq]
    simp only [kernel_New.l126b]
    rw [if_neg (by omega), ways_made hC hc]
    rfl
  | d + 1, k, ps, e, hl, hp => by
    have h16 := sizes_progs hC
    obtain ⟨W, hd, eN, hq, hw⟩ := NewN_eq h hC (n := (k : Int)) (by omega) (by omega) hc
    rw [loopR_eq]
    simp only [kernel_New.l126b]
    rw [if_pos (by omega), eN]
    simp only [Option.bind_some, if_true]
    unfold colour_New.f
    simp only [Option.bind_some]
    rw [ways_eq h]
    simp only [Option.bind_some]
    rw [place_eq h hC (by omega) (by omega) (by omega)]
    refine places_made h hC hc d (k + 1) _ (by omega) (by simp [hl]) fun i hi => ?_
    by_cases hik : i < k
    · rw [nth_nat (by simp; omega), List.getElem_append_left (by omega), ← nth_nat]
      exact hp i hik
    · have : i = k := by omega
      subst this
      rw [nth_nat (by simp; omega), List.getElem_append_right (by omega)]
      simp only [hl, Nat.sub_self, List.getElem_cons_zero]
      exact ⟨⟨W, hd, rfl, hq, hw⟩, rfl, rfl, rfl, rfl⟩
theorem kNew_eq {m : api_Model} (h : ok_api_Model m) (hC : chkM m = 0) {c : api_Caps} (hc : capsB c = true) :
    ∃ ps, kernel_New.f m c = some (.inr (ker0 m c ps, 0)) ∧ ps.length = m.Progs.length ∧ ∀ i : Nat, i < m.Progs.length → Pl0 m c (i : Int) (nth ps (i : Int)) := by
  obtain ⟨ps, e, hl, hp⟩ := places_made h hC hc m.Progs.length 0 [] (by omega) rfl (fun i hi => by omega)
  refine ⟨ps, ?_, hl, hp⟩
  have hb := links_bound h
  unfold kernel_New.f
  rw [model_check_eq]
  simp only [Option.bind_some]
  rw [if_pos hC, if_pos (by simp only [List.length_nil]; omega)]
  exact e
theorem kNew_chk {m : api_Model} (hC : chkM m ≠ 0) (c : api_Caps) : kernel_New.f m c = some (.inl (chkM m)) := by
  unfold kernel_New.f
  rw [model_check_eq]
  simp only [Option.bind_some]
  rw [if_neg hC]
theorem kNew_caps {m : api_Model} (h : ok_api_Model m) (hC : chkM m = 0) {c : api_Caps} (hc : capsB c = false) : kernel_New.f m c = some (.inl 1) := by
  have hb := links_bound h
  have h16 := sizes_progs hC
  unfold kernel_New.f
  rw [model_check_eq]
  simp only [Option.bind_some]
  rw [if_pos hC, if_pos (by simp only [List.length_nil]; omega)]
  unfold kernel_New.l126
  rw [loopR_eq]
  simp only [kernel_New.l126b]
  rw [if_pos (by omega), NewN_bad h hC (by omega) (by omega) hc]
  rfl
end
section
open Go.Sl
set_option linter.unusedVariables false
set_option linter.unusedSimpArgs false
def mNon : api_Model := ⟨[([] : List api_Instr)], [], [], 0, 0, 0⟩
theorem mNon_ok : ok_api_Model mNon := by
  refine ⟨⟨fun x hx => ?_, by decide⟩, ⟨fun x hx => (by cases hx), by decide⟩, ⟨fun x hx => (by cases hx), by decide⟩, by decide, by decide, by decide⟩
  obtain rfl := List.mem_singleton.1 hx
  exact ⟨fun y hy => (by cases hy), by decide⟩
theorem mNon_chk : chkM mNon = 0 := rfl
theorem drop_nil {x : lane_Lane} (hl : x.log.l = []) (hm : x.log.made = true) (t : Int) : lane_Lane_Drop.f x t = some ([], x) := by
  unfold lane_Lane_Drop.f lane_Lane_none.f log_Log_Drop.f log_Log_none.f
  simp only [Option.bind_some, hm, Bool.not_true, Bool.false_eq_true, if_false]
  unfold log_Log_Drop.l6
  rw [loopR_eq]
  simp only [log_Log_Drop.l6b, hl]
  rw [if_neg (by simp), inr_bind]
  unfold log_Log_Drop.j5 log_Log_states.f log_Log_states_1.f log_Log_states_1.l16
  simp only [Option.bind_some]
  rw [loopR_eq]
  simp only [log_Log_states_1.l16b]
  rw [if_neg (by omega), inr_bind]
  unfold log_Log_states_1.j10 log_Log_states_1.l13
  rw [loopR_eq]
  simp only [log_Log_states_1.l13b, hl]
  rw [if_neg (by simp)]
  simp only [Option.bind_some, Sum.elim_inr]
  rw [if_pos (by simp), if_pos (by simp [subL])]
  have e : ([] : List log_done) ++ subL ([] : List log_done) 0 ((([] : List log_done).length : Nat) : Int) = x.log.l := by rw [hl]; rfl
  rw [e]
  rfl
theorem sort_nil : slices_SortStableFunc_api_Entry_api_Entry.f [] = some () := by
  have hi : ∀ a : Int, 0 ≤ a → slices_insertionSortCmpFunc_api_Entry.f [] 0 0 = some () := fun a _ => by
    unfold slices_insertionSortCmpFunc_api_Entry.f slices_insertionSortCmpFunc_api_Entry.l12
    rw [loopR_eq, w64 (by omega) (by omega)]
    simp only [slices_insertionSortCmpFunc_api_Entry.l12b]
    rw [if_neg (by omega)]
    rfl
  unfold slices_SortStableFunc_api_Entry_api_Entry.f slices_stableCmpFunc_api_Entry.f slices_stableCmpFunc_api_Entry.l9
  rw [loopR_eq]
  simp only [slices_stableCmpFunc_api_Entry.l9b]
  rw [if_neg (by simp), inr_bind, show ((([] : List api_Entry).length : Nat) : Int) = 0 from rfl, hi 0 (by omega)]
  simp only [Option.bind_some]
  unfold slices_stableCmpFunc_api_Entry.l12
  rw [loopR_eq]
  simp only [slices_stableCmpFunc_api_Entry.l12b]
  rw [if_neg (by omega)]
  rfl
theorem do_visit {k : kernel_Kernel} (hs : k.stop = 0) {p : api_Pick} (hw : p.What = 2) : kernel_Kernel_Do.f k p = kernel_Kernel_visit.f k p := by
  unfold kernel_Kernel_Do.f kernel_Kernel_none.f kernel_Kernel_picks.f
  simp only [Option.bind_some]
  rw [if_pos hs, if_neg (by omega), if_neg (by omega), if_pos hw]
  cases kernel_Kernel_visit.f k p <;> rfl
theorem nth_one {α : Type} [Inhabited α] (y : α) : nth [y] (0 : Int) = y := rfl
theorem set_one {α : Type} (x y : α) : setL [x] (0 : Int) y = [y] := rfl
section
variable {k k' : kernel_Kernel} {p : api_Pick} {ln : lane_Lane} {ta ta' : colour_Tally} {cl : clock_Clocks} {wa : List Int} {it : List (Int × Int)} {tk tk' : colour_Token} {t n e s : Int}
theorem visit_no (ha : k.at_ = [⟨ln, ta, cl, wa, it⟩]) (ht : k.token = tk) (hA : colour_Token_At.f tk = some 0) (hl : lane_Lane_Local.f ln = some n) (hV : colour_Token_Visit.f tk ta n = some (t, false, e, tk', ta')) :
    kernel_Kernel_visit.f k p = some (0, { k with at_ := [⟨ln, ta', cl, wa, it⟩], token := tk' }) := by
  unfold kernel_Kernel_visit.f
  rw [ht, hA]
  simp only [Option.bind_some]
  rw [ha, if_pos (by simp)]
  simp only [nth_one, set_one]
  rw [hl]
  simp only [Option.bind_some]
  rw [hV]
  simp only [Option.bind_some, Bool.false_eq_true, if_false]
theorem visit_over (ha : k.at_ = [⟨ln, ta, cl, wa, it⟩]) (ht : k.token = tk) (hA : colour_Token_At.f tk = some 0) (hl : lane_Lane_Local.f ln = some n) (hV : colour_Token_Visit.f tk ta n = some (t, true, e, tk', ta')) {q : Int}
    (hc : kernel_Kernel_commit.f { k with at_ := [⟨ln, ta', cl, wa, it⟩], token := tk', global := if k.global < t then t else k.global } = some (.inl (⟨s, q⟩, k'))) : kernel_Kernel_visit.f k p = some (0, { k' with stop := s }) := by
  unfold kernel_Kernel_visit.f
  rw [ht, hA]
  simp only [Option.bind_some]
  rw [ha, if_pos (by simp)]
  simp only [nth_one, set_one]
  rw [hl]
  simp only [Option.bind_some]
  rw [hV]
  simp only [Option.bind_some, if_true]
  rw [hc]
  rfl
theorem commit_nil (ha : k.at_ = [⟨ln, ta, cl, wa, it⟩]) (hd : lane_Lane_Drop.f ln k.global = some ([], ln)) (hE : k.m.End < k.global) : kernel_Kernel_commit.f k = some (.inl (⟨1, 6⟩, k)) := by
  unfold kernel_Kernel_commit.f kernel_Kernel_commit.l6
  rw [ha, loopR_eq]
  simp only [kernel_Kernel_commit.l6b, ha]
  rw [if_pos (by simp), if_pos (by omega)]
  simp only [nth_one, set_one]
  rw [hd]
  simp only [Option.bind_some]
  rw [if_pos (by simp), w64 (by omega) (by omega)]
  simp only [Option.bind_some, Sum.elim_inl]
  rw [loopR_eq]
  simp only [kernel_Kernel_commit.l6b, ha, List.append_nil]
  rw [if_neg (by simp), inr_bind, sort_nil]
  simp only [Option.bind_some]
  have ek : ({ k with at_ := [⟨ln, ta, cl, wa, it⟩] } : kernel_Kernel) = k := by rw [← ha]
  rw [ek]
  unfold kernel_Kernel_commit.l8
  rw [loopR_eq]
  simp only [kernel_Kernel_commit.l8b]
  rw [if_neg (by simp), inr_bind, if_pos hE]
end
def tal1 : colour_Tally := ⟨true, 1, (⟨0, 0⟩ : Arr2xInti64), 4611686018427387904⟩
theorem tok_at (b : Bool) : colour_Token_At.f ⟨1, 0, b, 0, 4611686018427387904⟩ = some 0 := rfl
theorem tok_turn : colour_Token_Visit.f ⟨1, 0, false, 0, 4611686018427387904⟩ tal0 4611686018427387904 = some (0, false, 0, ⟨1, 0, true, 0, 4611686018427387904⟩, tal1) := by
  have hx : IntKind.i64.wrap (BitVec.ofInt IntKind.i64.bits 0 ^^^ BitVec.ofInt IntKind.i64.bits 1).toNat = 1 := by decide
  unfold colour_Token_Visit.f colour_Token_none.f colour_Tally_none.f colour_Token_turn.f colour_Tally_Flip.f colour_Tally_none.f tal0
  simp only [Option.bind_some, hx]
  rfl
theorem tok_count : colour_Token_Visit.f ⟨1, 0, true, 0, 4611686018427387904⟩ tal1 4611686018427387904 = some (4611686018427387904, true, 0, ⟨1, 0, false, 0, 4611686018427387904⟩, tal1) := by
  have hy : IntKind.i64.wrap (BitVec.ofInt IntKind.i64.bits 1 ^^^ BitVec.ofInt IntKind.i64.bits 1).toNat = 0 := by decide
  have hl3 : vtime_Least.f [4611686018427387904, 4611686018427387904, 4611686018427387904] = some 4611686018427387904 := by
    unfold vtime_Least.f vtime_Least.l2
    exact (show loopR _ ((fun k : Nat => ((4611686018427387904 : Int), (k : Int))) 0) = _ from loopR_steps (fun k : Nat => ((4611686018427387904 : Int), (k : Int))) 3 (fun k hk => by
      simp only [vtime_Least.l2b]
      have : k = 0 ∨ k = 1 ∨ k = 2 := by omega
      rcases this with rfl | rfl | rfl <;> rfl) (by simp only [vtime_Least.l2b]; rfl))
  unfold colour_Token_Visit.f colour_Token_none.f colour_Tally_none.f colour_Token_count.f tal1
  simp only [Option.bind_some, hy, hl3]
  rfl
theorem awake_ker : isochronlaw18vawake.f = some true := by
  obtain ⟨ps, e, hl, hp⟩ := kNew_eq mNon_ok mNon_chk (c := ⟨1, 1, 1⟩) (by decide)
  have h0 := hp 0 (by decide)
  obtain ⟨W, hd, eL, hq, hw⟩ := h0.ln
  have hW : W = [] := by
    have := hw.length_eq
    have h0 := frsN_len mNon ((0 : Nat) : Int) mNon.Starts.length
    exact List.length_eq_zero_iff.1 (by have : mNon.Starts.length = 0 := rfl; omega)
  subst hW
  have hlen : ps.length = 1 := hl
  obtain ⟨p, rfl⟩ := List.length_eq_one_iff.1 hlen
  have ep : nth [p] ((0 : Nat) : Int) = p := rfl
  rw [ep] at h0 eL
  obtain ⟨ln, ta, cl, wa, it⟩ := p
  have hta : ta = tal0 := h0.ta
  subst hta
  have eL : ln = lnN (laneN mNon ⟨1, 1, 1⟩ 0) [] hd := eL
  have hloc : lane_Lane_Local.f ln = some 4611686018427387904 := local_nilN (by rw [eL]; rfl) (by rw [eL]; rfl)
  have hdrop : lane_Lane_Drop.f ln 4611686018427387904 = some ([], ln) := drop_nil (by rw [eL]; rfl) (by rw [eL]; rfl) _
  have v1 : kernel_Kernel_Do.f (ker0 mNon ⟨1, 1, 1⟩ [⟨ln, tal0, cl, wa, it⟩]) ⟨2, 0, 0⟩ = some (0, ⟨mNon, [⟨ln, tal1, cl, wa, it⟩], [], ⟨1, 0, true, 0, 4611686018427387904⟩, 0, 64, 64, [], 0⟩) := by
    rw [do_visit (k := ker0 mNon ⟨1, 1, 1⟩ [⟨ln, tal0, cl, wa, it⟩]) rfl rfl]
    exact visit_no (k := ker0 mNon ⟨1, 1, 1⟩ [⟨ln, tal0, cl, wa, it⟩]) rfl rfl (tok_at false) hloc tok_turn
  have c2 : kernel_Kernel_commit.f ⟨mNon, [⟨ln, tal1, cl, wa, it⟩], [], ⟨1, 0, false, 0, 4611686018427387904⟩, 4611686018427387904, 64, 64, [], 0⟩ = some (.inl (⟨1, 6⟩, ⟨mNon, [⟨ln, tal1, cl, wa, it⟩], [], ⟨1, 0, false, 0, 4611686018427387904⟩, 4611686018427387904, 64, 64, [], 0⟩)) :=
    commit_nil (k := ⟨mNon, [⟨ln, tal1, cl, wa, it⟩], [], ⟨1, 0, false, 0, 4611686018427387904⟩, 4611686018427387904, 64, 64, [], 0⟩) rfl hdrop (by show (0 : Int) < 4611686018427387904; omega)
  have v2 : kernel_Kernel_Do.f ⟨mNon, [⟨ln, tal1, cl, wa, it⟩], [], ⟨1, 0, true, 0, 4611686018427387904⟩, 0, 64, 64, [], 0⟩ ⟨2, 0, 0⟩ = some (0, ⟨mNon, [⟨ln, tal1, cl, wa, it⟩], [], ⟨1, 0, false, 0, 4611686018427387904⟩, 4611686018427387904, 64, 64, [], 1⟩) := by
    rw [do_visit (k := ⟨mNon, [⟨ln, tal1, cl, wa, it⟩], [], ⟨1, 0, true, 0, 4611686018427387904⟩, 0, 64, 64, [], 0⟩) rfl rfl]
    refine visit_over (k := ⟨mNon, [⟨ln, tal1, cl, wa, it⟩], [], ⟨1, 0, true, 0, 4611686018427387904⟩, 0, 64, 64, [], 0⟩) (q := 6) (k' := ⟨mNon, [⟨ln, tal1, cl, wa, it⟩], [], ⟨1, 0, false, 0, 4611686018427387904⟩, 4611686018427387904, 64, 64, [], 0⟩) rfl rfl (tok_at true) hloc tok_count ?_
    rw [show (if (⟨mNon, [⟨ln, tal1, cl, wa, it⟩], [], ⟨1, 0, true, 0, 4611686018427387904⟩, 0, 64, 64, [], 0⟩ : kernel_Kernel).global < 4611686018427387904 then (4611686018427387904 : Int) else (⟨mNon, [⟨ln, tal1, cl, wa, it⟩], [], ⟨1, 0, true, 0, 4611686018427387904⟩, 0, 64, 64, [], 0⟩ : kernel_Kernel).global) = 4611686018427387904 from if_pos (by show (0 : Int) < _; omega)]
    exact c2
  unfold isochronlaw18vawake.f
  rw [show kernel_New.f (⟨[([] : List api_Instr)], [], [], 0, 0, 0⟩ : api_Model) (⟨1, 1, 1⟩ : api_Caps) = _ from e]
  simp only [Option.bind_some, if_true]
  rw [v1]
  simp only [Option.bind_some]
  rw [v2]
  rfl
end
section
open Go.Sl
set_option linter.unusedVariables false
set_option linter.unusedSimpArgs false
theorem loopR_tot {S R : Type} {body : S → Option (S ⊕ R)} (Iv : S → Prop) (μ : S → Nat) (P : R → Prop)
    (h : ∀ s, Iv s → (∃ r, body s = some (.inr r) ∧ P r) ∨ (∃ s', body s = some (.inl s') ∧ Iv s' ∧ μ s' < μ s)) : ∀ (n : Nat) (s : S), μ s ≤ n → Iv s → ∃ r, loopR body s = some r ∧ P r := by
  intro n
  induction n with
  | zero =>
    intro s hn hi
    rcases h s hi with ⟨r, e, p⟩ | ⟨s', e, _, hl⟩
    · exact ⟨r, by rw [loopR_eq, e]; rfl, p⟩
    · omega
  | succ n ih =>
    intro s hn hi
    rcases h s hi with ⟨r, e, p⟩ | ⟨s', e, hi', hl⟩
    · exact ⟨r, by rw [loopR_eq, e]; rfl, p⟩
    · obtain ⟨r, er, p⟩ := ih s' (by omega) hi'
      exact ⟨r, by rw [loopR_eq, e]; exact er, p⟩
structure LadOK (c : ladder_Ladder) (k : Nat) : Prop where
  most : c.most = 32
  bot : c.bottom.l.length ≤ k
  cnt : c.rungs.length ≤ k
  rung : ∀ r ∈ c.rungs, r.length ≤ k
theorem find1_tot (x : api_Message) (a b : Int) : ∃ v, ladder_Ladder_find_1.f x a b = some v := by
  unfold ladder_Ladder_find_1.f
  split
  · exact ⟨_, rfl⟩
  · exact ⟨_, rfl⟩
theorem lad_find {c : ladder_Ladder} {k : Nat} (h : LadOK c k) (hk : k ≤ 20000) (a b : Int) : ∃ r, ladder_Ladder_find.f c a b = some r := by
  have h34 : ∀ i : Int, 0 ≤ i → i < (c.rungs.length : Int) → ∃ r, ladder_Ladder_find.l34 c a b i 0 = some r ∧ (r = .inl (i + 1) ∨ ∃ z, r = .inr z) := fun i i0 i1 => by
    have hr := h.rung _ (nth_mem i0 i1)
    have hc := h.cnt
    unfold ladder_Ladder_find.l34
    refine loopR_tot (fun x : Int => 0 ≤ x ∧ x ≤ ((nth c.rungs i).length : Int)) (fun x => ((nth c.rungs i).length - x.toNat)) _ (fun x hx => ?_) _ 0 (Nat.le_refl _) (by omega)
    simp only [ladder_Ladder_find.l34b]
    by_cases hl : x < ((nth c.rungs i).length : Int)
    · obtain ⟨v, ev⟩ := find1_tot (nth (nth c.rungs i) x) a b
      rw [if_pos hl, if_pos hx.1, ev]
      simp only [Option.bind_some]
      by_cases hv : v = true
      · rw [if_pos hv]
        exact .inl ⟨_, rfl, .inr ⟨_, rfl⟩⟩
      · rw [if_neg hv, w64 (by omega) (by omega)]
        exact .inr ⟨_, rfl, by omega, by omega⟩
    · rw [if_neg hl, w64 (by omega) (by omega)]
      exact .inl ⟨_, rfl, .inl rfl⟩
  have hc := h.cnt
  have h32 : ∃ r, ladder_Ladder_find.l32 c a b 0 = some r ∧ True := by
    unfold ladder_Ladder_find.l32
    refine loopR_tot (fun x : Int => 0 ≤ x ∧ x ≤ (c.rungs.length : Int)) (fun x => (c.rungs.length - x.toNat)) _ (fun x hx => ?_) _ 0 (Nat.le_refl _) (by omega)
    simp only [ladder_Ladder_find.l32b]
    by_cases hl : x < (c.rungs.length : Int)
    · obtain ⟨r, er, hr⟩ := h34 x hx.1 hl
      rw [if_pos hl, if_pos hx.1, er]
      rcases hr with rfl | ⟨z, rfl⟩
      · exact .inr ⟨_, rfl, by omega, by omega⟩
      · exact .inl ⟨_, rfl, trivial⟩
    · rw [if_neg hl]
      exact .inl ⟨_, rfl, trivial⟩
  obtain ⟨r0, e0, _⟩ := h32
  have hb := h.bot
  unfold ladder_Ladder_find.f ladder_Ladder_find.l19
  obtain ⟨r, e, _⟩ := loopR_tot (body := ladder_Ladder_find.l19b c a b) (fun x : Int => 0 ≤ x ∧ x ≤ (c.bottom.l.length : Int)) (fun x => (c.bottom.l.length - x.toNat)) (fun _ => True) (fun x hx => by
    simp only [ladder_Ladder_find.l19b]
    by_cases hl : x < (c.bottom.l.length : Int)
    · obtain ⟨v, ev⟩ := find1_tot (nth c.bottom.l x) a b
      rw [if_pos hl, if_pos hx.1, ev]
      simp only [Option.bind_some]
      by_cases hv : v = true
      · rw [if_pos hv]
        exact .inl ⟨_, rfl, trivial⟩
      · rw [if_neg hv, w64 (by omega) (by omega)]
        exact .inr ⟨_, rfl, by omega, by omega⟩
    · rw [if_neg hl, e0]
      exact .inl ⟨_, rfl, trivial⟩) _ 0 (Nat.le_refl _) (by omega)
  exact ⟨r, e⟩
theorem lad_none {c : ladder_Ladder} {k : Nat} (h : LadOK c k) : ladder_Ladder_none.f c = some false := by
  unfold ladder_Ladder_none.f
  rw [h.most]; rfl
theorem lad_len {c : ladder_Ladder} {k : Nat} (h : LadOK c k) (hk : k ≤ 20000) : ∃ r, ladder_Ladder_Len.f c = some r := by
  have hc := h.cnt
  unfold ladder_Ladder_Len.f
  rw [lad_none h]
  simp only [Option.bind_some]
  rw [if_neg (by decide)]
  unfold ladder_Ladder_Len.l2
  obtain ⟨r, e, _⟩ := loopR_tot (body := ladder_Ladder_Len.l2b c) (fun x : Int × Int => 0 ≤ x.2 ∧ x.2 ≤ (c.rungs.length : Int)) (fun x => (c.rungs.length - x.2.toNat)) (fun _ => True) (fun x hx => by
    obtain ⟨y, x⟩ := x
    simp only [ladder_Ladder_Len.l2b]
    have hx : 0 ≤ x ∧ x ≤ (c.rungs.length : Int) := hx
    by_cases hl : x < (c.rungs.length : Int)
    · rw [if_pos hl, if_pos hx.1, w64 (x := x + 1) (by omega) (by omega)]
      refine .inr ⟨_, rfl, ?_, ?_⟩
      · show 0 ≤ x + 1 ∧ x + 1 ≤ _; omega
      · show _ - (x + 1).toNat < _ - x.toNat; omega
    · rw [if_neg hl]
      exact .inl ⟨_, rfl, trivial⟩) _ ((c.bottom.l.length : Int), 0) (Nat.le_refl _) (by show (0 : Int) ≤ 0 ∧ (0 : Int) ≤ _; omega)
  exact ⟨r, e⟩
theorem above_tot {l : List api_Message} (hl : l.length ≤ 20000) (m : api_Message) : ∃ r, ladder_above.f l m = some r := by
  unfold ladder_above.f ladder_above.l2
  obtain ⟨r, e, _⟩ := loopR_tot (body := ladder_above.l2b l m) (fun x : Int => 0 ≤ x ∧ x ≤ (l.length : Int)) (fun x => (l.length - x.toNat)) (fun _ => True) (fun x hx => by
    simp only [ladder_above.l2b]
    by_cases hx1 : x < (l.length : Int)
    · rw [if_pos hx1, if_pos hx.1, before_eq]
      simp only [Option.bind_some]
      by_cases hv : bef m (nth l x) = true
      · rw [if_pos hv, w64 (by omega) (by omega)]
        exact .inr ⟨_, rfl, by omega, by omega⟩
      · rw [if_neg hv]
        exact .inl ⟨_, rfl, trivial⟩
    · rw [if_neg hx1]
      exact .inl ⟨_, rfl, trivial⟩) _ 0 (Nat.le_refl _) (by omega)
  exact ⟨r, e⟩
theorem behind_tot {l : List api_Message} (hl : l.length ≤ 20000) (m : api_Message) : ∃ r, ladder_behind.f l m = some r := by
  unfold ladder_behind.f
  by_cases h0 : (l.length : Int) = 0
  · rw [if_pos h0]; exact ⟨_, rfl⟩
  · rw [if_neg h0, w64 (by omega) (by omega), if_pos (by omega), before_eq]
    exact ⟨_, rfl⟩
theorem insert_tot {c : ladder_Ladder} {k : Nat} (h : LadOK c k) (hk : k ≤ 20000) (m : api_Message) : ∃ l, ladder_bottom_insert.f c m = some l ∧ l.length = c.bottom.l.length + 1 := by
  have hb := h.bot
  have hj : ∀ x : Int, 0 ≤ x → x ≤ (c.bottom.l.length : Int) → ∃ l, ladder_bottom_insert.j5 c m x = some l ∧ l.length = c.bottom.l.length + 1 := fun x x0 x1 => by
    unfold ladder_bottom_insert.j5
    have hlen : ∀ z : api_Message, (c.bottom.l ++ [z]).length = c.bottom.l.length + 1 := fun z => by simp
    have hmov : ∀ z : api_Message, (movL (c.bottom.l ++ [z]) (x + 1).toNat x.toNat (min ((c.bottom.l ++ [z]).length - x.toNat) ((c.bottom.l ++ [z]).length - (x + 1).toNat))).length = c.bottom.l.length + 1 := fun z => by
      rw [movL_len (by rw [hlen]; omega) (by rw [hlen]; omega), hlen]
    rw [w64 (by omega) (by omega), if_pos (by omega), if_pos (by rw [hlen]; omega), if_pos (by rw [hlen]; omega), if_pos (by rw [hmov]; omega)]
    refine ⟨_, rfl, ?_⟩
    unfold setL
    rw [List.length_set, hmov]
  unfold ladder_bottom_insert.f ladder_bottom_insert.l6
  refine loopR_tot (fun x : Int => 0 ≤ x ∧ x ≤ (c.bottom.l.length : Int)) (fun x => x.toNat) _ (fun x hx => ?_) _ _ (Nat.le_refl _) (by omega)
  simp only [ladder_bottom_insert.l6b]
  obtain ⟨l, el, hl⟩ := hj x hx.1 hx.2
  rw [el]
  by_cases h0 : 0 < x
  · rw [if_pos h0, w64 (by omega) (by omega), if_pos (by omega), before_eq]
    simp only [Option.bind_some]
    by_cases hv : bef m (nth c.bottom.l (x - 1)) = true
    · rw [if_pos hv]
      exact .inr ⟨_, rfl, by omega, by omega⟩
    · rw [if_neg hv]
      exact .inl ⟨_, rfl, hl⟩
  · rw [if_neg h0]
    exact .inl ⟨_, rfl, hl⟩
theorem spill_tot {c : ladder_Ladder} {k : Nat} (h : LadOK c k) (hc : c.rungs.length < k) (hk : k ≤ 20000) : ∃ d, ladder_Ladder_spill.f c = some d ∧ LadOK d k := by
  have hb := h.bot
  unfold ladder_Ladder_spill.f
  rw [h.most, w64 (by omega) (by omega)]
  by_cases hs : (c.bottom.l.length : Int) ≤ 2 * 32
  · rw [if_pos hs]; exact ⟨c, rfl, h⟩
  · have ht : Int.tdiv (c.bottom.l.length : Int) 2 = ((c.bottom.l.length / 2 : Nat) : Int) := by
      rw [Int.tdiv_eq_ediv_of_nonneg (by omega)]; omega
    rw [if_neg hs, ht, w64 (by omega) (by omega), if_pos (by omega)]
    have hl1 : (subL c.bottom.l ((c.bottom.l.length / 2 : Nat) : Int) (c.bottom.l.length : Int)).length ≤ k := by
      rw [subL_len (by omega) (by omega) (by omega)]; omega
    have hl2 : (subL c.bottom.l 0 ((c.bottom.l.length / 2 : Nat) : Int)).length ≤ k := by
      rw [subL_len (by omega) (by omega) (by omega)]; omega
    rw [if_pos (by simp only [List.length_nil]; omega), if_pos (by omega)]
    refine ⟨_, rfl, ⟨rfl, hl2, ?_, fun r hr => ?_⟩⟩
    · show (c.rungs ++ [_]).length ≤ k
      simp only [List.length_append, List.length_cons, List.length_nil]; omega
    · rcases List.mem_append.1 (show r ∈ c.rungs ++ [_] from hr) with hr | hr
      · exact h.rung r hr
      · rw [List.mem_singleton.1 hr]; exact hl1
theorem LadOK.up {c : ladder_Ladder} {k : Nat} (h : LadOK c k) : LadOK c (k + 1) := ⟨h.most, Nat.le_succ_of_le h.bot, Nat.le_succ_of_le h.cnt, fun r hr => Nat.le_succ_of_le (h.rung r hr)⟩
theorem lad_push {c : ladder_Ladder} {k : Nat} (h : LadOK c k) (hk : k < 20000) (m : api_Message) : ∃ e d, ladder_Ladder_Push.f c m = some (e, d) ∧ LadOK d (k + 1) := by
  have hb := h.bot
  have hc := h.cnt
  have h7 : ∀ (x : Int) (q : Bool), 0 ≤ x → x ≤ (c.rungs.length : Int) → ∃ r, ladder_Ladder_Push.j7 c m x q = some r ∧ LadOK r.2 (k + 1) := fun x q x0 x1 => by
    unfold ladder_Ladder_Push.j7
    by_cases hq : q = true
    · obtain ⟨l, el, hl⟩ := insert_tot h (by omega) m
      obtain ⟨d, ed, hd⟩ := spill_tot (c := { c with bottom := ⟨l⟩ }) (k := k + 1) ⟨h.most, by show l.length ≤ _; omega, by show c.rungs.length ≤ _; omega, fun r hr => Nat.le_succ_of_le (h.rung r hr)⟩ (by show c.rungs.length < _; omega) (by omega)
      rw [if_pos hq, el]
      simp only [Option.bind_some]
      rw [ed]
      exact ⟨_, rfl, hd⟩
    · rw [if_neg hq]
      by_cases hx : x = (c.rungs.length : Int)
      · rw [if_pos hx, if_pos (by omega)]
        refine ⟨_, rfl, ⟨h.most, Nat.le_succ_of_le hb, ?_, fun r hr => ?_⟩⟩
        · show (c.rungs ++ [_]).length ≤ k + 1
          simp only [List.length_append, List.length_cons, List.length_nil]; omega
        · rcases List.mem_append.1 (show r ∈ c.rungs ++ [_] from hr) with hr | hr
          · exact Nat.le_succ_of_le (h.rung r hr)
          · rw [List.mem_singleton.1 hr]; simp
      · have hn := h.rung _ (nth_mem x0 (show x < (c.rungs.length : Int) by omega))
        rw [if_neg hx, if_pos (by omega), if_pos (by omega)]
        refine ⟨_, rfl, ⟨h.most, Nat.le_succ_of_le hb, ?_, fun r hr => ?_⟩⟩
        · show (setL c.rungs x _).length ≤ k + 1
          unfold setL
          rw [List.length_set]; omega
        · have hr : r ∈ setL c.rungs x _ := hr
          unfold setL at hr
          rcases List.mem_or_eq_of_mem_set hr with hr | hr
          · exact Nat.le_succ_of_le (h.rung r hr)
          · rw [hr]
            simp only [List.length_append, List.length_cons, List.length_nil]; omega
  have h6 : ∀ x : Int, 0 ≤ x → x ≤ (c.rungs.length : Int) → ∃ r, ladder_Ladder_Push.j6 c m x = some r ∧ LadOK r.2 (k + 1) := fun x x0 x1 => by
    unfold ladder_Ladder_Push.j6
    by_cases hx : x = (c.rungs.length : Int)
    · rw [if_pos hx]
      by_cases hm : (c.bottom.l.length : Int) < c.most
      · rw [if_pos hm]; exact h7 x true x0 x1
      · obtain ⟨r, er⟩ := behind_tot (l := c.bottom.l) (by omega) m
        rw [if_neg hm, er]
        simp only [Option.bind_some]
        exact h7 x (!r) x0 x1
    · rw [if_neg hx]; exact h7 x false x0 x1
  obtain ⟨⟨f1, f2, f3⟩, ef⟩ := lad_find h (by omega) m.Key.From m.Uid
  obtain ⟨n, en⟩ := lad_len h (by omega)
  unfold ladder_Ladder_Push.f
  rw [lad_none h]
  simp only [Option.bind_some]
  rw [if_neg (by decide), ef]
  simp only [Option.bind_some]
  by_cases hf : f3 = true
  · rw [if_pos hf]; exact ⟨_, _, rfl, h.up⟩
  rw [if_neg hf, en]
  simp only [Option.bind_some]
  by_cases hn : 16384 ≤ n
  · rw [if_pos hn]; exact ⟨_, _, rfl, h.up⟩
  rw [if_neg hn]
  unfold ladder_Ladder_Push.l8
  obtain ⟨r, er, hr⟩ := loopR_tot (body := ladder_Ladder_Push.l8b c m) (fun x : Int => 0 ≤ x ∧ x ≤ (c.rungs.length : Int)) (fun x => x.toNat) (fun r => LadOK r.2 (k + 1)) (fun x hx => by
    simp only [ladder_Ladder_Push.l8b]
    obtain ⟨z, ez, hz⟩ := h6 x hx.1 hx.2
    rw [ez]
    by_cases h0 : 0 < x
    · have hr := h.rung _ (nth_mem (i := x - 1) (by omega) (by omega))
      obtain ⟨v, ev⟩ := above_tot (l := nth c.rungs (x - 1)) (by omega) m
      rw [if_pos h0, w64 (by omega) (by omega), if_pos (by omega), ev]
      simp only [Option.bind_some]
      by_cases hv : v = true
      · rw [if_pos hv]; exact .inl ⟨_, rfl, hz⟩
      · rw [if_neg hv]; exact .inr ⟨_, rfl, by omega, by omega⟩
    · rw [if_neg h0]; exact .inl ⟨_, rfl, hz⟩) _ (c.rungs.length : Int) (Nat.le_refl _) (by omega)
  exact ⟨r.1, r.2, er, hr⟩
structure CalOK (c : calendar_Calendar) (S : List (Int × Int)) : Prop where
  width : c.width = 16
  day : ∀ e ∈ c.days, (∀ y ∈ e.2, snd y ∈ S) ∧ e.2.length ≤ S.length
theorem cal_find {c : calendar_Calendar} {S : List (Int × Int)} (h : CalOK c S) (hS : S.length ≤ 20000) {fr uid : Int} (hn : (fr, uid) ∉ S) : calendar_Calendar_find.f c fr uid = some (0, 0, false) := by
  unfold calendar_Calendar_find.f calendar_Calendar_find.l11
  rw [rangeM_iff]
  intro l hl
  have hd : ∀ e ∈ l, (∀ y ∈ e.2, snd y ∈ S) ∧ e.2.length ≤ S.length := fun e he => h.day e (hl.mem_iff.1 he)
  clear hl
  induction l with
  | nil => rfl
  | cons e l ih =>
    obtain ⟨h1, h2⟩ := hd e (List.mem_cons_self ..)
    have he : calendar_Calendar_find.l12 fr uid e 0 = some (.inl ()) := by
      unfold calendar_Calendar_find.l12
      obtain ⟨r, er, hr⟩ := loopR_tot (body := calendar_Calendar_find.l12b fr uid e) (fun x : Int => 0 ≤ x ∧ x ≤ (e.2.length : Int)) (fun x => (e.2.length - x.toNat)) (fun r => r = .inl ()) (fun x hx => by
        simp only [calendar_Calendar_find.l12b]
        by_cases hx1 : x < (e.2.length : Int)
        · have hm := h1 _ (nth_mem hx.1 hx1)
          rw [if_pos hx1, if_pos hx.1, w64 (by omega) (by omega)]
          by_cases ha : (nth e.2 x).Key.From = fr
          · by_cases hb : (nth e.2 x).Uid = uid
            · exfalso; apply hn
              rw [← ha, ← hb]; exact hm
            · rw [if_pos ha, if_neg hb]
              exact .inr ⟨_, rfl, by omega, by omega⟩
          · rw [if_neg ha]
            exact .inr ⟨_, rfl, by omega, by omega⟩
        · rw [if_neg hx1]
          exact .inl ⟨_, rfl, rfl⟩) _ 0 (Nat.le_refl _) (by omega)
      rw [er, hr]
    rw [loopL]
    simp only [calendar_Calendar_find.l11b]
    rw [he]
    exact ih fun e he => hd e (List.mem_cons_of_mem _ he)
theorem cal_day {c : calendar_Calendar} (h : c.width = 16) (t : Int) : ∃ d, calendar_Calendar_day.f c t = some d := by
  unfold calendar_Calendar_day.f
  rw [h, if_pos (by decide)]
  split
  · exact ⟨_, rfl⟩
  · exact ⟨_, rfl⟩
theorem place_tot {l : List api_Message} (hl : l.length ≤ 20000) (m : api_Message) : ∃ r, event_Place.f l m = some r ∧ 0 ≤ r ∧ r ≤ (l.length : Int) := by
  have : ∃ r, event_count_api_Message.f l m = some r ∧ (0 ≤ r ∧ r ≤ (l.length : Int)) := by
    unfold event_count_api_Message.f event_count_api_Message.l7
    refine loopR_tot (fun x : Int × Int => 0 ≤ x.1 ∧ x.1 ≤ x.2 ∧ x.2 ≤ (l.length : Int)) (fun x => (l.length - x.2.toNat)) _ (fun x hx => ?_) _ (0, 0) (Nat.le_refl _) (by show (0 : Int) ≤ 0 ∧ (0 : Int) ≤ 0 ∧ (0 : Int) ≤ _; omega)
    obtain ⟨y, x⟩ := x
    have hx : 0 ≤ y ∧ y ≤ x ∧ x ≤ (l.length : Int) := hx
    simp only [event_count_api_Message.l7b]
    by_cases hx1 : x < (l.length : Int)
    · rw [if_pos hx1, if_pos (by omega)]
      unfold event_Place_1.f
      rw [before_eq]
      simp only [Option.bind_some]
      unfold event_count_api_Message.j8
      rw [w64 (x := x + 1) (by omega) (by omega), w64 (x := y + 1) (by omega) (by omega)]
      split
      · refine .inr ⟨_, rfl, ?_, ?_⟩
        · show 0 ≤ y + 1 ∧ y + 1 ≤ x + 1 ∧ x + 1 ≤ _; omega
        · show _ - (x + 1).toNat < _ - x.toNat; omega
      · refine .inr ⟨_, rfl, ?_, ?_⟩
        · show 0 ≤ y ∧ y ≤ x + 1 ∧ x + 1 ≤ _; omega
        · show _ - (x + 1).toNat < _ - x.toNat; omega
    · rw [if_neg hx1]
      exact .inl ⟨_, rfl, by omega⟩
  obtain ⟨r, er, hr⟩ := this
  refine ⟨r, ?_, hr⟩
  unfold event_Place.f
  rw [er]; rfl
theorem mget_mem {κ ν : Type} [DecidableEq κ] (k : κ) : ∀ es : List (κ × ν), ∀ v, mget es k = some v → ∃ e ∈ es, e.2 = v
  | [], v, h => by rw [mget_nil] at h; cases h
  | e :: es, v, h => by
    rw [mget_cons] at h
    split at h
    · exact ⟨e, List.mem_cons_self .., by cases h; rfl⟩
    · obtain ⟨e', he, ev⟩ := mget_mem k es v h
      exact ⟨e', List.mem_cons_of_mem _ he, ev⟩
theorem mset_mem {κ ν : Type} [DecidableEq κ] (k : κ) (v : ν) : ∀ es : List (κ × ν), ∀ e ∈ mset es k v, e ∈ es ∨ e = (k, v)
  | [], e, h => .inr (List.mem_singleton.1 (show e ∈ [(k, v)] from h))
  | x :: es, e, h => by
    rw [mset_cons] at h
    split at h
    · rcases List.mem_cons.1 h with h | h
      · exact .inr h
      · exact .inl (List.mem_cons_of_mem _ h)
    · rcases List.mem_cons.1 h with h | h
      · exact .inl (by rw [h]; exact List.mem_cons_self ..)
      · rcases mset_mem k v es e h with h | h
        · exact .inl (List.mem_cons_of_mem _ h)
        · exact .inr h
theorem put_in {L : List api_Message} {x : Int} (h0 : 0 ≤ x) (h1 : x ≤ (L.length : Int)) (z m : api_Message) :
    cpyL (setL (cpyL (List.replicate (L.length + 1) z) 0 (subL L 0 x)) x m) (x + 1).toNat (subL L x (L.length : Int)) = L.take x.toNat ++ m :: L.drop x.toNat := by
  obtain ⟨k, rfl⟩ : ∃ k : Nat, x = (k : Int) := ⟨x.toNat, by omega⟩
  have hk : k ≤ L.length := by omega
  have e1 : subL L 0 (k : Int) = L.take k := by simp [subL]
  have e2 : subL L (k : Int) (L.length : Int) = L.drop k := by
    unfold subL
    simp only [Int.toNat_natCast]
    rw [List.take_of_length_le (by simp)]
  have hA : cpyL (List.replicate (L.length + 1) z) 0 (L.take k) = L.take k ++ z :: List.replicate (L.length - k) z := by
    unfold cpyL
    have : min (L.take k).length ((List.replicate (L.length + 1) z).length - 0) = k := by simp; omega
    rw [this, List.take_take, Nat.min_self, List.take_zero, List.nil_append, List.drop_replicate, show L.length + 1 - (0 + k) = (L.length - k) + 1 by omega, List.replicate_succ]
  have hl : (L.take k).length = k := by simp; omega
  have hB : setL (L.take k ++ z :: List.replicate (L.length - k) z) (k : Int) m = L.take k ++ m :: List.replicate (L.length - k) z := by
    unfold setL
    rw [Int.toNat_natCast, List.set_append_right _ _ (by omega), hl, Nat.sub_self]
    rfl
  rw [e1, e2, hA, hB]
  have ek : ((k : Int) + 1).toNat = k + 1 := by omega
  rw [ek]
  unfold cpyL
  have hlen : (L.take k ++ m :: List.replicate (L.length - k) z).length = L.length + 1 := by simp; omega
  have : min (L.drop k).length ((L.take k ++ m :: List.replicate (L.length - k) z).length - (k + 1)) = L.length - k := by rw [hlen]; simp
  have f1 : (L.take k ++ m :: List.replicate (L.length - k) z).drop (k + 1 + (L.length - k)) = [] := List.drop_of_length_le (by rw [hlen]; omega)
  have f2 : (L.drop k).take (L.length - k) = L.drop k := List.take_of_length_le (by simp)
  have f3 : (L.take k ++ m :: List.replicate (L.length - k) z).take (k + 1) = L.take k ++ [m] := by
    rw [List.take_append, hl, show k + 1 - k = 1 by omega, List.take_of_length_le (by omega)]; rfl
  rw [this, f1, f2, f3, List.append_nil, List.append_assoc]
  rfl
theorem cal_push {c : calendar_Calendar} {S : List (Int × Int)} (h : CalOK c S) (hS : S.length < 20000) {m : api_Message} (hn : snd m ∉ S) : ∃ e d, calendar_Calendar_Push.f c m = some (e, d) ∧ CalOK d (snd m :: S) := by
  have hup : CalOK c (snd m :: S) := ⟨h.width, fun e he => ⟨fun y hy => List.mem_cons_of_mem _ ((h.day e he).1 y hy), Nat.le_succ_of_le (h.day e he).2⟩⟩
  obtain ⟨d, ed⟩ := cal_day h.width m.Key.Time
  unfold calendar_Calendar_Push.f calendar_Calendar_none.f
  simp only [Option.bind_some]
  rw [cal_find h (by omega) hn]
  simp only [Option.bind_some]
  rw [if_neg (by decide)]
  by_cases hf : 16384 ≤ c.n
  · rw [if_pos hf]; exact ⟨_, _, rfl, hup⟩
  rw [if_neg hf, ed]
  simp only [Option.bind_some]
  have hL : (∀ y ∈ (mget c.days d).getD [], snd y ∈ S) ∧ ((mget c.days d).getD []).length ≤ S.length := by
    cases hg : mget c.days d with
    | none => exact ⟨fun y hy => absurd hy (List.not_mem_nil), Nat.zero_le _⟩
    | some v =>
      obtain ⟨e, he, rfl⟩ := mget_mem d c.days v hg
      exact h.day e he
  obtain ⟨hL1, hL2⟩ := hL
  obtain ⟨p, ep, hp0, hp1⟩ := place_tot (l := (mget c.days d).getD []) (by omega) m
  rw [ep]
  simp only [Option.bind_some]
  have hj : ∀ x : Int, 0 ≤ x → x ≤ (((mget c.days d).getD []).length : Int) → ∃ r, calendar_Calendar_Push.j5 c m d x = some r ∧ CalOK r.2 (snd m :: S) := fun x x0 x1 => by
    unfold calendar_Calendar_Push.j5
    have t1 : (((((mget c.days d).getD []).length : Int) + 1) : Int).toNat = ((mget c.days d).getD []).length + 1 := by omega
    rw [w64 (x := (((mget c.days d).getD []).length : Int) + 1) (by omega) (by omega), w64 (x := x + 1) (by omega) (by omega), t1]
    have l1 : ∀ z, (cpyL (List.replicate (((mget c.days d).getD []).length + 1) z) 0 (subL ((mget c.days d).getD []) 0 x)).length = ((mget c.days d).getD []).length + 1 := fun z => by
      rw [cpyL_len (Nat.zero_le _), List.length_replicate]
    rw [if_pos (by omega), if_pos (by omega), if_pos (by rw [l1]; omega), if_pos (by unfold setL; rw [List.length_set, l1]; omega), put_in x0 x1]
    refine ⟨_, rfl, h.width, fun e he => ?_⟩
    rcases mset_mem _ _ _ e (show e ∈ mset c.days d _ from he) with he | he
    · exact hup.day e he
    · subst he
      refine ⟨fun y hy => ?_, ?_⟩
      · rcases List.mem_append.1 hy with hy | hy
        · exact List.mem_cons_of_mem _ (hL1 y (List.mem_of_mem_take hy))
        · rcases List.mem_cons.1 hy with hy | hy
          · rw [hy]; exact List.mem_cons_self ..
          · exact List.mem_cons_of_mem _ (hL1 y (List.mem_of_mem_drop hy))
      · simp only [List.length_append, List.length_cons, List.length_take, List.length_drop]; omega
  unfold calendar_Calendar_Push.l6
  obtain ⟨r, er, hr⟩ := loopR_tot (body := calendar_Calendar_Push.l6b c m d) (fun x : Int => 0 ≤ x ∧ x ≤ (((mget c.days d).getD []).length : Int)) (fun x => (((mget c.days d).getD []).length - x.toNat)) (fun r => CalOK r.2 (snd m :: S)) (fun x hx => by
    simp only [calendar_Calendar_Push.l6b]
    obtain ⟨z, ez, hz⟩ := hj x hx.1 hx.2
    rw [ez]
    by_cases hx1 : x < (((mget c.days d).getD []).length : Int)
    · rw [if_pos hx1, if_pos hx.1, before_eq]
      simp only [Option.bind_some]
      by_cases hv : bef m (nth ((mget c.days d).getD []) x) = true
      · rw [if_pos hv]; exact .inl ⟨_, rfl, hz⟩
      · rw [if_neg hv, w64 (by omega) (by omega)]; exact .inr ⟨_, rfl, by omega, by omega⟩
    · rw [if_neg hx1]; exact .inl ⟨_, rfl, hz⟩) _ p (Nat.le_refl _) ⟨hp0, hp1⟩
  exact ⟨r.1, r.2, er, hr⟩
theorem turn_same (l : List api_Message) : pend_Pend_Turn.f (qof l) 0 = some (0, qof l) := rfl
theorem turn_cal {l : List api_Message} (h : QOK l) : ∃ e q, pend_Pend_Turn.f (qof l) 1 = some (e, q) := by
  obtain ⟨W, eW, _, p⟩ := hAll_eq (l := l) (by have := h.small; omega)
  have hs := h.small
  have hl := p.length_eq
  have hnd : (W.map snd).Nodup := (p.map snd).nodup_iff.2 h.nodup
  have e : pend_Pend_Turn.f (qof l) 1 = ((heap_Heap_All.f ⟨l⟩).bind fun t => pend_Pend_Turn.l10 t (⟨16, [], 0⟩, 0)) := rfl
  rw [e, eW]
  simp only [Option.bind_some]
  unfold pend_Pend_Turn.l10
  obtain ⟨r, er, _⟩ := loopR_tot (body := pend_Pend_Turn.l10b W) (fun s : calendar_Calendar × Int => 0 ≤ s.2 ∧ s.2 ≤ (W.length : Int) ∧ CalOK s.1 ((W.take s.2.toNat).map snd).reverse) (fun s => (W.length - s.2.toNat)) (fun _ => True) (fun s hs' => by
    obtain ⟨c, x⟩ := s
    obtain ⟨x0, x1, hc⟩ := hs'
    have x0 : 0 ≤ x := x0
    have x1 : x ≤ (W.length : Int) := x1
    simp only [pend_Pend_Turn.l10b]
    by_cases hx : x < (W.length : Int)
    · obtain ⟨k, rfl⟩ : ∃ k : Nat, x = (k : Int) := ⟨x.toNat, by omega⟩
      have hk : k < W.length := by omega
      have hc : CalOK c ((W.take k).map snd).reverse := hc
      have et : (W.take (k + 1)).map snd = (W.take k).map snd ++ [snd W[k]] := by
        rw [List.take_succ_eq_append_getElem hk, List.map_append]; rfl
      have hn : snd W[k] ∉ ((W.take k).map snd).reverse := by
        rw [List.mem_reverse]
        have h2 : ((W.take (k + 1)).map snd).Nodup := hnd.sublist ((List.take_sublist _ _).map snd)
        rw [et, List.nodup_append] at h2
        intro hc'
        exact h2.2.2 _ hc' _ (List.mem_singleton.2 rfl) rfl
      obtain ⟨e', d, ed, hd⟩ := cal_push hc (by simp; omega) hn
      rw [if_pos hx, if_pos x0, nth_nat hk, ed]
      simp only [Option.bind_some]
      rw [w64 (by omega) (by omega)]
      refine .inr ⟨_, rfl, ⟨?_, ?_, ?_⟩, ?_⟩
      · show (0 : Int) ≤ (k : Int) + 1; omega
      · show (k : Int) + 1 ≤ _; omega
      · show CalOK d ((W.take ((k : Int) + 1).toNat).map snd).reverse
        rw [show ((k : Int) + 1).toNat = k + 1 by omega, et, List.reverse_append]
        exact hd
      · show _ - ((k : Int) + 1).toNat < _ - (k : Int).toNat; omega
    · rw [if_neg hx]; exact .inl ⟨_, rfl, trivial⟩) _ (⟨16, [], 0⟩, 0) (Nat.le_refl _) ⟨Int.le_refl 0, by show (0 : Int) ≤ _; omega, ⟨rfl, fun e he => absurd he (List.not_mem_nil)⟩⟩
  exact ⟨r.1, r.2, er⟩
theorem turn_lad {l : List api_Message} (h : QOK l) : ∃ e q, pend_Pend_Turn.f (qof l) 2 = some (e, q) := by
  obtain ⟨W, eW, _, p⟩ := hAll_eq (l := l) (by have := h.small; omega)
  have hs := h.small
  have hl := p.length_eq
  have e : pend_Pend_Turn.f (qof l) 2 = ((heap_Heap_All.f ⟨l⟩).bind fun t => pend_Pend_Turn.l12 t (⟨⟨[]⟩, 32, []⟩, 0)) := rfl
  rw [e, eW]
  simp only [Option.bind_some]
  unfold pend_Pend_Turn.l12
  obtain ⟨r, er, _⟩ := loopR_tot (body := pend_Pend_Turn.l12b W) (fun s : ladder_Ladder × Int => 0 ≤ s.2 ∧ s.2 ≤ (W.length : Int) ∧ LadOK s.1 s.2.toNat) (fun s => (W.length - s.2.toNat)) (fun _ => True) (fun s hs' => by
    obtain ⟨c, x⟩ := s
    obtain ⟨x0, x1, hc⟩ := hs'
    have x0 : 0 ≤ x := x0
    have x1 : x ≤ (W.length : Int) := x1
    simp only [pend_Pend_Turn.l12b]
    by_cases hx : x < (W.length : Int)
    · have hc : LadOK c x.toNat := hc
      obtain ⟨e', d, ed, hd⟩ := lad_push hc (by omega) (nth W x)
      rw [if_pos hx, if_pos x0, ed]
      simp only [Option.bind_some]
      rw [w64 (by omega) (by omega)]
      refine .inr ⟨_, rfl, ⟨?_, ?_, ?_⟩, ?_⟩
      · show (0 : Int) ≤ x + 1; omega
      · show x + 1 ≤ _; omega
      · show LadOK d (x + 1).toNat
        rw [show (x + 1).toNat = x.toNat + 1 by omega]; exact hd
      · show _ - (x + 1).toNat < _ - x.toNat; omega
    · rw [if_neg hx]; exact .inl ⟨_, rfl, trivial⟩) _ (⟨⟨[]⟩, 32, []⟩, 0) (Nat.le_refl _) ⟨Int.le_refl 0, by show (0 : Int) ≤ _; omega, ⟨rfl, Nat.le_refl _, Nat.le_refl _, fun e he => absurd he (List.not_mem_nil)⟩⟩
  exact ⟨r.1, r.2, er⟩
theorem turn_tot {l : List api_Message} (h : QOK l) {k : Int} (h0 : 0 ≤ k) (h2 : k ≤ 2) : ∃ e q, pend_Pend_Turn.f (qof l) k = some (e, q) := by
  rcases (show k = 0 ∨ k = 1 ∨ k = 2 by omega) with rfl | rfl | rfl
  · exact ⟨_, _, turn_same l⟩
  · exact turn_cal h
  · exact turn_lad h
end
section
open Go.Sl
set_option linter.unusedVariables false
set_option linter.unusedSimpArgs false
def cl (lo hi n : Int) : Int := if hi < (if n < lo then lo else n) then hi else (if n < lo then lo else n)
theorem cl_in {lo hi : Int} (h : lo ≤ hi) (n : Int) : lo ≤ cl lo hi n ∧ cl lo hi n ≤ hi := by
  unfold cl
  split <;> split <;> omega
theorem cl_id {lo hi n : Int} (h0 : lo ≤ n) (h1 : n ≤ hi) : cl lo hi n = n := by
  unfold cl
  rw [if_neg (show ¬ n < lo by omega), if_neg (by omega)]
def clampS (s : api_Setting) : api_Setting := ⟨cl 0 2 s.Mode, cl 1 64 s.Every, cl 0 1 s.Cancel, cl 1 1048576 s.Reach, cl 0 2 s.Queue⟩
theorem clamp_eq (s : api_Setting) : tune_Clamp.f s = some (clampS s) := rfl
structure InR (s : api_Setting) : Prop where
  mo : 0 ≤ s.Mode ∧ s.Mode ≤ 2
  ev : 1 ≤ s.Every ∧ s.Every ≤ 64
  ca : 0 ≤ s.Cancel ∧ s.Cancel ≤ 1
  re : 1 ≤ s.Reach ∧ s.Reach ≤ 1048576
  qu : 0 ≤ s.Queue ∧ s.Queue ≤ 2
theorem clampS_in (s : api_Setting) : InR (clampS s) := ⟨cl_in (by omega) _, cl_in (by omega) _, cl_in (by omega) _, cl_in (by omega) _, cl_in (by omega) _⟩
theorem clampS_mk {a b c d e : Int} : clampS ⟨a, b, c, d, e⟩ = ⟨cl 0 2 a, cl 1 64 b, cl 0 1 c, cl 1 1048576 d, cl 0 2 e⟩ := rfl
theorem laneSet_eq {x : lane_Lane} {l : List api_Message} (hw : x.wait = qof l) (hq : QOK l) (s : api_Setting) :
    ∃ g p, lane_Lane_Set.f x s = some (0, { x with log := g, wait := p, setting := clampS s }) ∧ ((clampS s).Queue = 0 → p = qof l) := by
  have hg : ∃ e g, log_Log_Every.f x.log (clampS s).Every = some (e, g) := by
    unfold log_Log_Every.f log_Log_none.f
    simp only [Option.bind_some]
    split
    · exact ⟨_, _, rfl⟩
    · split
      · exact ⟨_, _, rfl⟩
      · split
        · exact ⟨_, _, rfl⟩
        · exact ⟨_, _, rfl⟩
  obtain ⟨e, g, eg⟩ := hg
  have hqu := (clampS_in s).qu
  have hp : ∃ e p, pend_Pend_Turn.f (qof l) (clampS s).Queue = some (e, p) ∧ ((clampS s).Queue = 0 → p = qof l) := by
    by_cases h0 : (clampS s).Queue = 0
    · exact ⟨0, qof l, by rw [h0]; exact turn_same l, fun _ => rfl⟩
    · obtain ⟨e, p, ep⟩ := turn_tot hq hqu.1 hqu.2
      exact ⟨e, p, ep, fun h => absurd h h0⟩
  obtain ⟨e', p, ep, hp⟩ := hp
  refine ⟨g, p, ?_, hp⟩
  unfold lane_Lane_Set.f lane_Lane_none.f
  simp only [Option.bind_some]
  rw [clamp_eq]
  simp only [Option.bind_some]
  rw [eg]
  simp only [Option.bind_some]
  rw [hw, ep]
  rfl
def kS (k : kernel_Kernel) (i : Int) (y : lane_Lane) : kernel_Kernel := { k with at_ := setL k.at_ i (⟨y, (nth k.at_ i).tally, (nth k.at_ i).clocks, (nth k.at_ i).ways, (nth k.at_ i).into⟩ : kernel_place) }
theorem kS_nth {k : kernel_Kernel} {i : Int} (h0 : 0 ≤ i) (h1 : i < (k.at_.length : Int)) (y : lane_Lane) : (nth (kS k i y).at_ i).Lane = y := by
  obtain ⟨n, rfl⟩ : ∃ n : Nat, i = (n : Int) := ⟨i.toNat, by omega⟩
  have hn : n < (kS k (n : Int) y).at_.length := by
    show n < (setL _ _ _).length
    unfold setL
    rw [List.length_set]; omega
  rw [nth_nat hn]
  simp only [kS, setL, Int.toNat_natCast, List.getElem_set_self]
theorem kS_len (k : kernel_Kernel) (i : Int) (y : lane_Lane) : (kS k i y).at_.length = k.at_.length := by
  show (setL _ _ _).length = _
  unfold setL
  rw [List.length_set]
def ask (what b : Int) (s : api_Setting) : api_Setting := if what = 5 then { s with Mode := b } else if what = 6 then { s with Every := b } else if what = 7 then { s with Cancel := b } else if what = 8 then { s with Reach := b } else { s with Queue := b }
theorem who_ok {k : kernel_Kernel} {i : Int} (h0 : 0 ≤ i) (h1 : i < (k.at_.length : Int)) : kernel_Kernel_who.f k.m.Progs k.m.Links k.m.Starts k.m.Seed k.m.End k.m.Budget k.at_ k.ways k.token k.global k.window k.width k.history k.stop i = some (.inr (i, 0)) := by
  unfold kernel_Kernel_who.f
  rw [if_neg (by omega), if_neg (by omega), if_pos ⟨h0, h1⟩]
theorem set_do {k : kernel_Kernel} {i b : Int} {what : Int} {e : Int} {y : lane_Lane} (hs : k.stop = 0) (hw : 5 ≤ what ∧ what ≤ 9) (h0 : 0 ≤ i) (h1 : i < (k.at_.length : Int)) (h : lane_Lane_Set.f (nth k.at_ i).Lane (ask what b (nth k.at_ i).Lane.setting) = some (e, y)) :
    kernel_Kernel_Do.f k ⟨what, i, b⟩ = some (e, kS k i y) := by
  have es : kernel_Kernel_set.f k ⟨what, i, b⟩ = some (e, kS k i y) := by
    unfold kernel_Kernel_set.f
    rw [who_ok h0 h1]
    simp only [Option.bind_some]
    unfold lane_Lane_Setting.f lane_Lane_none.f
    simp only [Option.bind_some]
    rcases (show what = 5 ∨ what = 6 ∨ what = 7 ∨ what = 8 ∨ what = 9 by omega) with rfl | rfl | rfl | rfl | rfl <;> simp [ask] at h <;> simp [h, kS]
  unfold kernel_Kernel_Do.f kernel_Kernel_none.f kernel_Kernel_picks.f
  simp only [Option.bind_some]
  rw [if_pos hs, es]
  rcases (show what = 5 ∨ what = 6 ∨ what = 7 ∨ what = 8 ∨ what = 9 by omega) with rfl | rfl | rfl | rfl | rfl <;> rfl
structure KSt (n : Nat) (i : Int) (k : kernel_Kernel) (s : api_Setting) : Prop where
  stop : k.stop = 0
  len : k.at_.length = n
  win : k.window = 64
  glo : k.global = 0
  set : (nth k.at_ i).Lane.setting = s
theorem set_step {n : Nat} {i : Int} {k : kernel_Kernel} {s : api_Setting} {l : List api_Message} (h : KSt n i k s) (h0 : 0 ≤ i) (h1 : i < (n : Int)) (hw : (nth k.at_ i).Lane.wait = qof l) (hq : QOK l) {what : Int} (ht : 5 ≤ what ∧ what ≤ 9) (b : Int) :
    ∃ e k', kernel_Kernel_Do.f k ⟨what, i, b⟩ = some (e, k') ∧ KSt n i k' (clampS (ask what b s)) ∧ ((clampS (ask what b s)).Queue = 0 → (nth k'.at_ i).Lane.wait = qof l) := by
  have h1' : i < (k.at_.length : Int) := by rw [h.len]; exact h1
  obtain ⟨g, p, e, hp⟩ := laneSet_eq hw hq (ask what b s)
  refine ⟨0, _, set_do h.stop ht h0 h1' (by rw [h.set]; exact e), ⟨h.stop, by rw [kS_len]; exact h.len, h.win, h.glo, ?_⟩, fun hz => ?_⟩
  · rw [kS_nth h0 h1']
  · rw [kS_nth h0 h1']; exact hp hz
theorem setting_of {n : Nat} {i : Int} {k : kernel_Kernel} {s : api_Setting} (h : KSt n i k s) (h0 : 0 ≤ i) (h1 : i < (n : Int)) : kernel_Kernel_Setting.f k i = some s := by
  have h1' : i < (k.at_.length : Int) := by rw [h.len]; exact h1
  unfold kernel_Kernel_Setting.f kernel_Kernel_of.f kernel_Kernel_none_2.f
  simp only [Option.bind_some]
  rw [if_neg (by omega), if_neg (by omega), if_pos ⟨h0, h1'⟩]
  simp only [Option.bind_some]
  unfold lane_Lane_Setting.f lane_Lane_none.f
  simp only [Option.bind_some]
  rw [h.set]
theorem five {n : Nat} {i : Int} {k : kernel_Kernel} {l : List api_Message} (h : KSt n i k ⟨2, 4, 0, 1000, 0⟩) (h0 : 0 ≤ i) (h1 : i < (n : Int)) (hw : (nth k.at_ i).Lane.wait = qof l) (hq : QOK l) (b : Int) :
    ∃ e1 k1 e2 k2 e3 k3 e4 k4 e5 k5, kernel_Kernel_Do.f k ⟨5, i, b⟩ = some (e1, k1) ∧ kernel_Kernel_Do.f k1 ⟨6, i, b⟩ = some (e2, k2) ∧ kernel_Kernel_Do.f k2 ⟨7, i, b⟩ = some (e3, k3) ∧ kernel_Kernel_Do.f k3 ⟨8, i, b⟩ = some (e4, k4) ∧ kernel_Kernel_Do.f k4 ⟨9, i, b⟩ = some (e5, k5) ∧
      KSt n i k5 ⟨cl 0 2 b, cl 1 64 b, cl 0 1 b, cl 1 1048576 b, cl 0 2 b⟩ := by
  have m2 := cl_in (show (0 : Int) ≤ 2 by omega) b
  have m64 := cl_in (show (1 : Int) ≤ 64 by omega) b
  have m1 := cl_in (show (0 : Int) ≤ 1 by omega) b
  have mr := cl_in (show (1 : Int) ≤ 1048576 by omega) b
  obtain ⟨e1, k1, d1, s1, w1⟩ := set_step h h0 h1 hw hq (what := 5) (by omega) b
  have q1 : clampS (ask 5 b ⟨2, 4, 0, 1000, 0⟩) = ⟨cl 0 2 b, 4, 0, 1000, 0⟩ := rfl
  rw [q1] at s1 w1
  obtain ⟨e2, k2, d2, s2, w2⟩ := set_step s1 h0 h1 (w1 rfl) hq (what := 6) (by omega) b
  have q2 : clampS (ask 6 b ⟨cl 0 2 b, 4, 0, 1000, 0⟩) = ⟨cl 0 2 b, cl 1 64 b, 0, 1000, 0⟩ := by
    show clampS ⟨cl 0 2 b, b, 0, 1000, 0⟩ = _
    rw [clampS_mk, cl_id m2.1 m2.2]; rfl
  rw [q2] at s2 w2
  obtain ⟨e3, k3, d3, s3, w3⟩ := set_step s2 h0 h1 (w2 rfl) hq (what := 7) (by omega) b
  have q3 : clampS (ask 7 b ⟨cl 0 2 b, cl 1 64 b, 0, 1000, 0⟩) = ⟨cl 0 2 b, cl 1 64 b, cl 0 1 b, 1000, 0⟩ := by
    show clampS ⟨cl 0 2 b, cl 1 64 b, b, 1000, 0⟩ = _
    rw [clampS_mk, cl_id m2.1 m2.2, cl_id m64.1 m64.2]; rfl
  rw [q3] at s3 w3
  obtain ⟨e4, k4, d4, s4, w4⟩ := set_step s3 h0 h1 (w3 rfl) hq (what := 8) (by omega) b
  have q4 : clampS (ask 8 b ⟨cl 0 2 b, cl 1 64 b, cl 0 1 b, 1000, 0⟩) = ⟨cl 0 2 b, cl 1 64 b, cl 0 1 b, cl 1 1048576 b, 0⟩ := by
    show clampS ⟨cl 0 2 b, cl 1 64 b, cl 0 1 b, b, 0⟩ = _
    rw [clampS_mk, cl_id m2.1 m2.2, cl_id m64.1 m64.2, cl_id m1.1 m1.2]; rfl
  rw [q4] at s4 w4
  obtain ⟨e5, k5, d5, s5, w5⟩ := set_step s4 h0 h1 (w4 rfl) hq (what := 9) (by omega) b
  have q5 : clampS (ask 9 b ⟨cl 0 2 b, cl 1 64 b, cl 0 1 b, cl 1 1048576 b, 0⟩) = ⟨cl 0 2 b, cl 1 64 b, cl 0 1 b, cl 1 1048576 b, cl 0 2 b⟩ := by
    show clampS ⟨cl 0 2 b, cl 1 64 b, cl 0 1 b, cl 1 1048576 b, b⟩ = _
    rw [clampS_mk, cl_id m2.1 m2.2, cl_id m64.1 m64.2, cl_id m1.1 m1.2, cl_id mr.1 mr.2]
  rw [q5] at s5
  exact ⟨e1, k1, e2, k2, e3, k3, e4, k4, e5, k5, d1, d2, d3, d4, d5, s5⟩
theorem do_widen {k : kernel_Kernel} (hs : k.stop = 0) (w : Int) : kernel_Kernel_Do.f k ⟨10, w, 0⟩ = some (0, { k with width := cl 1 1048576 w }) := by
  unfold kernel_Kernel_Do.f kernel_Kernel_none.f kernel_Kernel_picks.f
  simp only [Option.bind_some]
  rw [if_pos hs]; rfl
theorem do_round {k : kernel_Kernel} (hs : k.stop = 0) (hg : k.global = 0) (h0 : 1 ≤ k.width) (h1 : k.width ≤ 1048576) : kernel_Kernel_Do.f k ⟨4, 0, 0⟩ = some (0, { k with window := k.width }) := by
  have er : kernel_Kernel_round.f k ⟨4, 0, 0⟩ = some (0, { k with window := k.width }) := by
    unfold kernel_Kernel_round.f vtime_Reach.f
    have e0 : (if (4611686018427387904 : Int) < (if (0 : Int) < 0 then (0 : Int) else 0) then (4611686018427387904 : Int) else (if (0 : Int) < 0 then (0 : Int) else 0)) = 0 := by decide
    rw [hg, e0, w64 (x := 4611686018427387904 - 0) (by omega) (by omega), if_neg (show ¬ k.width < 0 by omega), if_neg (show ¬ (4611686018427387904 - 0 : Int) < k.width by omega), w64 (x := 0 + k.width) (by omega) (by omega), Int.zero_add]
    simp only [Option.bind_some]
  unfold kernel_Kernel_Do.f kernel_Kernel_none.f kernel_Kernel_picks.f
  simp only [Option.bind_some]
  rw [if_pos hs, er]; rfl
theorem at_range {n : Nat} (h : 1 ≤ n ∧ n ≤ 16) (a : Int) : 0 ≤ Int.tmod (IntKind.i64.wrap ((Int.tmod a (n : Int)) + (n : Int))) (n : Int) ∧ Int.tmod (IntKind.i64.wrap ((Int.tmod a (n : Int)) + (n : Int))) (n : Int) < (n : Int) := by
  have h1 := Int.tmod_lt_of_pos a (show (0 : Int) < n by omega)
  have h2 : -(n : Int) < Int.tmod a (n : Int) := by
    by_cases ha : 0 ≤ a
    · have := Int.tmod_nonneg (n : Int) ha; omega
    · have e : Int.tmod a (n : Int) = - Int.tmod (-a) (n : Int) := by rw [Int.neg_tmod]; omega
      have := Int.tmod_lt_of_pos (-a) (show (0 : Int) < n by omega)
      omega
  rw [w64 (by omega) (by omega)]
  exact ⟨Int.tmod_nonneg _ (by omega), Int.tmod_lt_of_pos _ (by omega)⟩
theorem Pure.kernelSettings (x0 : api_Model) (h0 : ok_api_Model x0) (x1 : api_Caps) (h1 : ok_api_Caps x1) (x2 : Int) (h2 : (fun n => (Lit.int .i64 n).wf = true) x2) (x3 : Int) (h3 : (fun n => (Lit.int .i64 n).wf = true) x3) (x4 : Int) (h4 : (fun n => (Lit.int .i64 n).wf = true) x4) : isochronlaw18vKernelSettings.f x0 x1 x2 x3 x4 = some true := by
  unfold isochronlaw18vKernelSettings.f
  by_cases hC : chkM x0 = 0
  · cases hc : capsB x1 with
    | true =>
      obtain ⟨ps, e, hl, hp⟩ := kNew_eq h0 hC hc
      have hn := sizes_progs hC
      have hat := at_range hn x2
      rw [e]
      simp only [Option.bind_some, if_true]
      rw [if_pos (show ¬ (x0.Progs.length : Int) = 0 by omega)]
      generalize Int.tmod (IntKind.i64.wrap ((Int.tmod x2 (x0.Progs.length : Int)) + (x0.Progs.length : Int))) (x0.Progs.length : Int) = i at hat ⊢
      obtain ⟨i0, i1⟩ := hat
      obtain ⟨j, rfl⟩ : ∃ j : Nat, i = (j : Int) := ⟨i.toNat, by omega⟩
      obtain ⟨W, hd, eL, hq, _⟩ := (hp j (by omega)).ln
      have hk : KSt x0.Progs.length (j : Int) (ker0 x0 x1 ps) ⟨2, 4, 0, 1000, 0⟩ := ⟨rfl, hl, rfl, rfl, by
        show (nth ps (j : Int)).Lane.setting = _
        rw [eL]; rfl⟩
      obtain ⟨e1, k1, e2, k2, e3, k3, e4, k4, e5, k5, d1, d2, d3, d4, d5, s5⟩ := five hk i0 i1 (l := W) (by
        show (nth ps (j : Int)).Lane.wait = _
        rw [eL]; rfl) hq x3
      rw [setting_of hk i0 i1]
      simp only [Option.bind_some]
      rw [d1]
      simp only [Option.bind_some]
      rw [d2]
      simp only [Option.bind_some]
      rw [d3]
      simp only [Option.bind_some]
      rw [d4]
      simp only [Option.bind_some]
      rw [d5]
      simp only [Option.bind_some]
      rw [setting_of s5 i0 i1]
      simp only [Option.bind_some]
      have hw : kernel_Kernel_Window.f k5 = some 64 := by
        unfold kernel_Kernel_Window.f kernel_Kernel_none.f
        simp only [Option.bind_some]
        rw [s5.win]
      have hw2 : kernel_Kernel_Window.f { k5 with width := cl 1 1048576 x4 } = some 64 := by
        unfold kernel_Kernel_Window.f kernel_Kernel_none.f
        simp only [Option.bind_some]
        rw [s5.win]
      have m := cl_in (show (1 : Int) ≤ 1048576 by omega) x4
      have hr := do_round (k := { k5 with width := cl 1 1048576 x4 }) s5.stop s5.glo m.1 m.2
      refine Eq.trans (if_pos rfl) ?_
      rw [hw]
      simp only [Option.bind_some, if_true]
      rw [do_widen s5.stop]
      simp only [Option.bind_some, if_true]
      rw [hw2]
      simp only [Option.bind_some, if_true]
      rw [hr]
      simp only [Option.bind_some, if_true]
      unfold kernel_Kernel_Window.f kernel_Kernel_Global.f kernel_Kernel_none.f
      simp only [Option.bind_some]
      refine Eq.trans (if_pos rfl) ?_
      show some (decide (k5.global = 0)) = _
      rw [s5.glo]
      rfl
    | false =>
      rw [kNew_caps h0 hC hc]
      simp only [Option.bind_some]
      rw [if_neg (by omega), awake_ker]
      rfl
  · rw [kNew_chk hC]
    simp only [Option.bind_some]
    rw [if_neg hC, awake_ker]
    rfl
end
end Go.Proofs.Gx
