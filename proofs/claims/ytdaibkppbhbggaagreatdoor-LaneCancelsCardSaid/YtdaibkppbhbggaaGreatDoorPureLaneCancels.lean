/-
 The plain law LaneCancels, and what it rests on.
-/
import Derived.Test.YtdaibkppbhbggaaGreatDoorOpen
import Derived.Test.YtdaibkppbhbggaaGreatDoorW1
import Derived.Test.YtdaibkppbhbggaaGreatDoorW2
import Derived.Test.YtdaibkppbhbggaaGreatDoorW3
import Derived.Test.YtdaibkppbhbggaaGreatDoorW4
namespace Go.Proofs.Gx
open Go.Sl
set_option linter.unusedSimpArgs false
set_option linter.unusedVariables false
section
theorem loopR_findS {S R : Type} {body : S → Option (S ⊕ R)} (st : Nat → S) (p : Nat → Bool) (g : Nat → R) (e : R) (n : Nat) (h : ∀ k, k < n → (∀ j, j < k → p j = false) → body (st k) = some (if p k then .inr (g k) else .inl (st (k + 1)))) (he : (∀ j, j < n → p j = false) → body (st n) = some (.inr e)) :
  loopR body (st 0) = some (match (List.range n).find? p with | some k => g k | none => e) := by
 cases hf : (List.range n).find? p with
 | none =>
  have hn : ∀ k, k < n → p k = false := fun k hk => by
   have := List.find?_eq_none.1 hf k (List.mem_range.2 hk)
   simpa using this
  exact loopR_steps st n (fun k hk => by rw [h k hk (fun j hj => hn j (by omega)), hn k hk]; rfl) (he hn)
 | some k =>
  obtain ⟨hp, hm⟩ := List.find?_range_eq_some.1 hf
  obtain ⟨hk, hbef⟩ := hm
  have hb : ∀ j, j < k → p j = false := fun j hj => by
   have := hbef j hj
   simpa using this
  have hkn := List.mem_range.1 hk
  exact loopR_steps st k (fun j hj => by rw [h j (by omega) (fun i hi => hb i (by omega)), hb j hj]; rfl) (by rw [h k hkn hb, hp]; rfl)
theorem find_any (p : Nat → Bool) (n : Nat) {R : Type} (a b : R) : (match (List.range n).find? p with | some _ => a | none => b) = if (List.range n).any p then a else b := by
 cases hf : (List.range n).find? p with
 | none =>
  have : (List.range n).any p = false := by
   rw [List.any_eq_false]
   exact fun x hx => List.find?_eq_none.1 hf x hx
  rw [this]; rfl
 | some k =>
  have h1 := List.find?_some hf
  have h2 := List.mem_of_find?_eq_some hf
  have : (List.range n).any p = true := List.any_eq_true.2 ⟨k, h2, h1⟩
  rw [this]; rfl
theorem loopR_any {R : Type} {body : Int → Option (Int ⊕ R)} (p : Nat → Bool) (a e : R) (n : Nat) (h : ∀ k, k < n → body (k : Int) = some (if p k then .inr a else .inl ((k + 1 : Nat) : Int))) (he : body (n : Int) = some (.inr e)) :
  loopR body 0 = some (if (List.range n).any p then a else e) := (loopR_find p (fun _ => a) e n h he).trans (congrArg some (find_any p n a e))
theorem nth_nat {α : Type} [Inhabited α] {xs : List α} {k : Nat} (h : k < xs.length) : nth xs (k : Int) = xs[k] := by
 simp [nth, List.getD_eq_getElem?_getD, h]
theorem nth_mem {α : Type} [Inhabited α] {xs : List α} {i : Int} (h0 : 0 ≤ i) (h1 : i < xs.length) : nth xs i ∈ xs := by
 obtain ⟨h, e⟩ := nth_eq h0 h1
 rw [e]; exact List.getElem_mem h
end
section
def sgn (a b : Int) : Int := if a < b then -1 else if b < a then 1 else 0
def cmpK (a b : api_Key) : Int := if sgn a.Time b.Time ≠ 0 then sgn a.Time b.Time else if sgn a.From b.From ≠ 0 then sgn a.From b.From else sgn a.Seq b.Seq
def bef (a b : api_Message) : Bool := decide (cmpK a.Key b.Key < 0 ∨ cmpK a.Key b.Key = 0 ∧ a.Uid < b.Uid)
theorem cmp64 (a b : Int) : cmp_Compare_int64.f a b = some (sgn a b) := by
 unfold cmp_Compare_int64.f cmp_isNaN_int64.f sgn
 simp only [decide_true, Bool.not_true, Option.bind_some, Bool.false_eq_true, if_false]
 split
 ·rfl
 ·split <;> rfl
theorem cmpI (a b : Int) : cmp_Compare_int.f a b = some (sgn a b) := by
 unfold cmp_Compare_int.f cmp_isNaN_int.f sgn
 simp only [decide_true, Bool.not_true, Option.bind_some, Bool.false_eq_true, if_false]
 split
 ·rfl
 ·split <;> rfl
theorem or_first (l : List Int) (k : Nat) (hk : k < l.length) (hl : l.length < 1000) (h0 : ∀ j, j < k → nth l (j : Int) = 0) (h : nth l (k : Int) ≠ 0) : cmp_Or_int.f l = some (nth l (k : Int)) := by
 unfold cmp_Or_int.f cmp_Or_int.l2
 refine loopR_steps (fun k => ((k : Nat) : Int)) k (fun j hj => ?_) ?_
 ·simp only [cmp_Or_int.l2b]
  rw [if_pos (by omega), if_pos (by omega), if_pos (h0 j hj), w64 (by omega) (by omega)]
  rfl
 ·simp only [cmp_Or_int.l2b]
  rw [if_pos (by omega), if_pos (by omega), if_neg h]
theorem or_none (l : List Int) (hl : l.length < 1000) (h0 : ∀ j, j < l.length → nth l (j : Int) = 0) : cmp_Or_int.f l = some 0 := by
 unfold cmp_Or_int.f cmp_Or_int.l2
 refine loopR_steps (fun k => ((k : Nat) : Int)) l.length (fun j hj => ?_) ?_
 ·simp only [cmp_Or_int.l2b]
  rw [if_pos (by omega), if_pos (by omega), if_pos (h0 j hj), w64 (by omega) (by omega)]
  rfl
 ·simp only [cmp_Or_int.l2b]
  rw [if_neg (by omega)]
theorem or3 (a b c : Int) : cmp_Or_int.f ([a, b, c] : List Int) = some (if a ≠ 0 then a else if b ≠ 0 then b else c) := by
 by_cases ha : a = 0
 ·by_cases hb : b = 0
  ·by_cases hc : c = 0
   ·subst ha; subst hb; subst hc
    exact or_none _ (by decide) (fun j hj => by
     have : j = 0 ∨ j = 1 ∨ j = 2 := by simp at hj; omega
     rcases this with rfl | rfl | rfl <;> rfl)
   ·rw [if_neg (by simpa using ha), if_neg (by simpa using hb)]
    exact or_first [a, b, c] 2 (by simp) (by simp) (fun j hj => by
     have : j = 0 ∨ j = 1 := by omega
     rcases this with rfl | rfl
     ·exact ha
     ·exact hb) hc
  ·rw [if_neg (by simpa using ha), if_pos hb]
   exact or_first [a, b, c] 1 (by simp) (by simp) (fun j hj => by
     obtain rfl : j = 0 := by omega
     exact ha) hb
 ·rw [if_pos ha]
  exact or_first [a, b, c] 0 (by simp) (by simp) (fun j hj => by omega) ha
theorem or2 (a b : Int) : cmp_Or_int.f ([a, b] : List Int) = some (if a ≠ 0 then a else b) := by
 by_cases ha : a = 0
 ·rw [if_neg (by simpa using ha)]
  by_cases hb : b = 0
  ·subst ha; subst hb
   exact or_none _ (by decide) (fun j hj => by
     have : j = 0 ∨ j = 1 := by simp at hj; omega
     rcases this with rfl | rfl <;> rfl)
  ·exact or_first [a, b] 1 (by simp) (by simp) (fun j hj => by
     obtain rfl : j = 0 := by omega
     exact ha) hb
 ·rw [if_pos ha]
  exact or_first [a, b] 0 (by simp) (by simp) (fun j hj => by omega) ha
theorem sgn_self (a : Int) : sgn a a = 0 := by unfold sgn; rw [if_neg (by omega), if_neg (by omega)]
theorem cmpK_self (a : api_Key) : cmpK a a = 0 := by simp [cmpK, sgn_self]
theorem compare_eq (a b : api_Key) : event_Compare.f a b = some (cmpK a b) := by
 unfold event_Compare.f
 by_cases h : a = b
 ·subst h; rw [if_pos rfl, cmpK_self]
 ·rw [if_neg h, cmp64]
  simp only [Option.bind_some, cmpI, or3]
  rfl
theorem before_eq (a b : api_Message) : event_Before.f a b = some (bef a b) := by
 unfold event_Before.f event_order.f
 simp only [compare_eq, cmpI, Option.bind_some, or2, bef]
 congr 1
 rw [decide_eq_decide]
 by_cases h : cmpK a.Key b.Key = 0
 ·rw [if_neg (by simpa using h), h]
  unfold sgn
  constructor
  ·intro h1
   refine .inr ⟨rfl, ?_⟩
   split at h1
   ·assumption
   ·split at h1 <;> omega
  ·rintro (h1 | ⟨_, h1⟩)
   ·omega
   ·rw [if_pos h1]; omega
 ·rw [if_pos h]
  constructor
  ·exact .inl
  ·rintro (h1 | ⟨h1, _⟩)
   ·exact h1
   ·exact absurd h1 h
theorem inr_bind {S R : Type} {f : S → Option R} (o : Option R) : (Option.map (Sum.inr : R → S ⊕ R) o).bind (Sum.elim f some) = o := by cases o <;> rfl
end
section
theorem bef_iff {a b : api_Message} : bef a b = true ↔ a.Key.Time < b.Key.Time ∨ a.Key.Time = b.Key.Time ∧ (a.Key.From < b.Key.From ∨ a.Key.From = b.Key.From ∧ (a.Key.Seq < b.Key.Seq ∨ a.Key.Seq = b.Key.Seq ∧ a.Uid < b.Uid)) := by
 have hs : ∀ x y : Int, (sgn x y = -1 ∧ x < y) ∨ (sgn x y = 1 ∧ y < x) ∨ (sgn x y = 0 ∧ x = y) := fun x y => by
  unfold sgn
  by_cases h1 : x < y
  ·rw [if_pos h1]; exact .inl ⟨rfl, h1⟩
  ·by_cases h2 : y < x
   ·rw [if_neg h1, if_pos h2]; exact .inr (.inl ⟨rfl, h2⟩)
   ·rw [if_neg h1, if_neg h2]; exact .inr (.inr ⟨rfl, by omega⟩)
 simp only [bef, decide_eq_true_eq]
 unfold cmpK
 rcases hs a.Key.Time b.Key.Time with ⟨e, h⟩ | ⟨e, h⟩ | ⟨e, h⟩
 ·rw [e, if_pos (by decide)]
  exact ⟨fun _ => .inl h, fun _ => .inl (by decide)⟩
 ·rw [e, if_pos (by decide)]
  constructor
  ·rintro (h1 | ⟨h1, _⟩)
   ·exact absurd h1 (by decide)
   ·exact absurd h1 (by decide)
  ·rintro (h1 | ⟨h1, _⟩) <;> omega
 ·rw [e, if_neg (by decide)]
  rcases hs a.Key.From b.Key.From with ⟨e2, h2⟩ | ⟨e2, h2⟩ | ⟨e2, h2⟩
  ·rw [e2, if_pos (by decide)]
   exact ⟨fun _ => .inr ⟨h, .inl h2⟩, fun _ => .inl (by decide)⟩
  ·rw [e2, if_pos (by decide)]
   constructor
   ·rintro (h1 | ⟨h1, _⟩)
    ·exact absurd h1 (by decide)
    ·exact absurd h1 (by decide)
   ·rintro (h1 | ⟨_, h1 | ⟨h1, _⟩⟩) <;> omega
  ·rw [e2, if_neg (by decide)]
   rcases hs a.Key.Seq b.Key.Seq with ⟨e3, h3⟩ | ⟨e3, h3⟩ | ⟨e3, h3⟩
   ·rw [e3]
    exact ⟨fun _ => .inr ⟨h, .inr ⟨h2, .inl h3⟩⟩, fun _ => .inl (by decide)⟩
   ·rw [e3]
    constructor
    ·rintro (h1 | ⟨h1, _⟩)
     ·exact absurd h1 (by decide)
     ·exact absurd h1 (by decide)
    ·rintro (h1 | ⟨_, h1 | ⟨_, h1 | ⟨h1, _⟩⟩⟩) <;> omega
   ·rw [e3]
    constructor
    ·rintro (h1 | ⟨_, h1⟩)
     ·exact absurd h1 (by decide)
     ·exact .inr ⟨h, .inr ⟨h2, .inr ⟨h3, h1⟩⟩⟩
    ·rintro (h1 | ⟨_, h1 | ⟨_, h1 | ⟨_, h1⟩⟩⟩)
     ·omega
     ·omega
     ·omega
     ·exact .inr ⟨rfl, h1⟩
abbrev leM (a b : api_Message) : Prop := bef b a = false
theorem leM_iff {a b : api_Message} : leM a b ↔ ¬ (b.Key.Time < a.Key.Time ∨ b.Key.Time = a.Key.Time ∧ (b.Key.From < a.Key.From ∨ b.Key.From = a.Key.From ∧ (b.Key.Seq < a.Key.Seq ∨ b.Key.Seq = a.Key.Seq ∧ b.Uid < a.Uid))) := by
 show bef b a = false ↔ _
 rw [← bef_iff, Bool.not_eq_true]
theorem leM_trans {a b c : api_Message} (h1 : leM a b) (h2 : leM b c) : leM a c := by
 rw [leM_iff] at *; omega
theorem leM_of_bef {a b : api_Message} (h : bef a b = true) : leM a b := by
 rw [leM_iff]; rw [bef_iff] at h; omega
theorem leM_refl (a : api_Message) : leM a a := by rw [leM_iff]; omega
theorem leM_of_not {a b : api_Message} (h : ¬ bef a b = true) : leM b a := by simpa using h
def SrtM (l : List api_Message) : Prop := l.Pairwise leM
theorem order_eq (a b : api_Message) : ∃ v, event_order.f a b = some v ∧ (v < 0 ↔ bef a b = true) := by
 have h := before_eq a b
 unfold event_Before.f at h
 cases hv : event_order.f a b with
 | none => rw [hv] at h; cases h
 | some v =>
  rw [hv] at h
  refine ⟨v, rfl, ?_⟩
  have : decide (v < 0) = bef a b := by simpa using h
  rw [← this, decide_eq_true_eq]
section
variable {α : Type} [Inhabited α]
theorem nth_mid {P S : List α} {x : α} {i : Int} (h : i = (P.length : Int)) : nth (P ++ x :: S) i = x := by
 subst h
 rw [nth_nat (by simp)]
 simp
omit [Inhabited α] in
theorem set_mid {P S : List α} {x y : α} {i : Int} (h : i = (P.length : Int)) : setL (P ++ x :: S) i y = P ++ y :: S := by
 subst h
 simp [setL]
def swp (l : List α) (i j : Int) : List α := setL (setL l i (nth l j)) j (nth l i)
theorem swp_far {P M S : List α} {x y : α} {i j : Int} (hi : i = (P.length : Int)) (hj : j = (P.length : Int) + 1 + (M.length : Int)) : swp (P ++ x :: (M ++ y :: S)) i j = P ++ y :: (M ++ x :: S) := by
 unfold swp
 have e : ∀ z : α, P ++ z :: (M ++ y :: S) = (P ++ z :: M) ++ y :: S := fun z => by simp
 rw [nth_mid hi]
 have e1 : nth (P ++ x :: (M ++ y :: S)) j = y := by
  rw [e]; exact nth_mid (by simp only [List.length_append, List.length_cons]; omega)
 rw [e1, set_mid hi, e, set_mid (by simp only [List.length_append, List.length_cons]; omega)]
 simp
theorem swp_back {P M S : List α} {x y : α} {i j : Int} (hi : i = (P.length : Int)) (hj : j = (P.length : Int) + 1 + (M.length : Int)) : swp (P ++ x :: (M ++ y :: S)) j i = P ++ y :: (M ++ x :: S) := by
 unfold swp
 have e : ∀ z : α, P ++ z :: (M ++ y :: S) = (P ++ z :: M) ++ y :: S := fun z => by simp
 have e' : ∀ z : α, P ++ z :: (M ++ x :: S) = (P ++ z :: M) ++ x :: S := fun z => by simp
 rw [nth_mid hi]
 have e1 : nth (P ++ x :: (M ++ y :: S)) j = y := by
  rw [e]; exact nth_mid (by simp only [List.length_append, List.length_cons]; omega)
 rw [e1]
 have e2 : setL (P ++ x :: (M ++ y :: S)) j x = P ++ x :: (M ++ x :: S) := by
  rw [e, set_mid (by simp only [List.length_append, List.length_cons]; omega), e']
 rw [e2, set_mid hi]
end
theorem srt_merge {A1 A2 B1 B2 Z1 Z2 : List api_Message} (hA : SrtM (A1 ++ A2)) (hB : SrtM (B1 ++ B2)) (h1 : ∀ a ∈ A1, ∀ b ∈ B2, leM a b) (h2 : ∀ b ∈ B1, ∀ a ∈ A2, leM b a)
  (s1 : SrtM Z1) (s2 : SrtM Z2) (p1 : Z1.Perm (A1 ++ B1)) (p2 : Z2.Perm (A2 ++ B2)) : SrtM (Z1 ++ Z2) ∧ (Z1 ++ Z2).Perm ((A1 ++ A2) ++ (B1 ++ B2)) := by
 constructor
 ·refine List.pairwise_append.2 ⟨s1, s2, fun x hx y hy => ?_⟩
  rcases List.mem_append.1 (p1.mem_iff.1 hx) with hx | hx <;> rcases List.mem_append.1 (p2.mem_iff.1 hy) with hy | hy
  ·exact (List.pairwise_append.1 hA).2.2 x hx y hy
  ·exact h1 x hx y hy
  ·exact h2 x hx y hy
  ·exact (List.pairwise_append.1 hB).2.2 x hx y hy
 ·refine (p1.append p2).trans ?_
  have : (A1 ++ B1 ++ (A2 ++ B2)).Perm (A1 ++ (B1 ++ (A2 ++ B2))) := by rw [List.append_assoc]
  refine this.trans ?_
  rw [List.append_assoc]
  refine List.Perm.append_left _ ?_
  rw [← List.append_assoc, ← List.append_assoc]
  exact List.Perm.append_right _ List.perm_append_comm
theorem srt_lastle {A : List api_Message} (h : SrtM A) {x b : api_Message} (hx : x ∈ A) (hl : ∀ n : Nat, n + 1 = A.length → leM (nth A (n : Int)) b) : leM x b := by
 obtain ⟨i, hi, rfl⟩ := List.getElem_of_mem hx
 have hl' := hl (A.length - 1) (by omega)
 rw [nth_nat (by omega)] at hl'
 by_cases e : i = A.length - 1
 ·subst e; exact hl'
 ·exact leM_trans (List.pairwise_iff_getElem.1 h i (A.length - 1) hi (by omega) (by omega)) hl'
theorem srt_firstle {A : List api_Message} (h : SrtM A) {x b : api_Message} (hx : x ∈ A) (hl : 0 < A.length → leM b (nth A 0)) : leM b x := by
 obtain ⟨i, hi, rfl⟩ := List.getElem_of_mem hx
 have hl' := hl (by omega)
 have e0 : nth A 0 = A[0] := nth_nat (k := 0) (by omega)
 rw [e0] at hl'
 by_cases e : i = 0
 ·subst e; exact hl'
 ·exact leM_trans hl' (List.pairwise_iff_getElem.1 h 0 i (by omega) hi (by omega))
theorem srt_put {X1 X2 : List api_Message} {x : api_Message} (h : SrtM (X1 ++ X2)) (h1 : ∀ a ∈ X1, leM a x) (h2 : ∀ b ∈ X2, leM x b) : SrtM (X1 ++ x :: X2) := by
 obtain ⟨a, b, c⟩ := List.pairwise_append.1 h
 refine List.pairwise_append.2 ⟨a, List.pairwise_cons.2 ⟨h2, b⟩, fun y hy z hz => ?_⟩
 rcases List.mem_cons.1 hz with rfl | hz
 ·exact h1 y hy
 ·exact c y hy z hz
end
section
def par (i : Nat) : Nat := (i - 1) / 2
def HpF (f : Nat → api_Message) (n : Nat) : Prop := ∀ j, 0 < j → j < n → leM (f (par j)) (f j)
def Up2 (f : Nat → api_Message) (n i : Nat) : Prop := ∀ j, 0 < j → j < n → par j = i → 0 < i → leM (f (par i)) (f j)
def UpF (f : Nat → api_Message) (n i : Nat) : Prop := (∀ j, 0 < j → j < n → j ≠ i → leM (f (par j)) (f j)) ∧ Up2 f n i
def DuF (f : Nat → api_Message) (n i : Nat) : Prop := (∀ j, 0 < j → j < n → j ≠ i → par j ≠ i → leM (f (par j)) (f j)) ∧ Up2 f n i
def DnF (f : Nat → api_Message) (n i : Nat) : Prop := (∀ j, 0 < j → j < n → par j ≠ i → leM (f (par j)) (f j)) ∧ Up2 f n i
def sw (f : Nat → api_Message) (i j k : Nat) : api_Message := if k = j then f i else if k = i then f j else f k
theorem sw_j {f : Nat → api_Message} {i j : Nat} : sw f i j j = f i := by simp [sw]
theorem sw_i {f : Nat → api_Message} {i j : Nat} : sw f i j i = f j := by unfold sw; split <;> simp_all
theorem sw_o {f : Nat → api_Message} {i j k : Nat} (h1 : k ≠ i) (h2 : k ≠ j) : sw f i j k = f k := by simp [sw, h1, h2]
theorem par_lt {j : Nat} (h : 0 < j) : par j < j := by unfold par; omega
theorem HpF.up {f : Nat → api_Message} {n i : Nat} (h : HpF f n) (hi : i < n) : UpF f n i := ⟨fun j h0 h1 _ => h j h0 h1, fun j h0 h1 e hi0 => by
 have := h i hi0 hi
 exact leM_trans this (by rw [← e]; exact h j h0 h1)⟩
theorem up_done {f : Nat → api_Message} {n i : Nat} (h : UpF f n i) (hd : i = 0 ∨ leM (f (par i)) (f i)) : HpF f n := fun j h0 h1 => by
 by_cases e : j = i
 ·subst e
  rcases hd with hd | hd
  ·omega
  ·exact hd
 ·exact h.1 j h0 h1 e
theorem up_step {f : Nat → api_Message} {n i : Nat} (h : UpF f n i) (hi : 0 < i) (hn : i < n) (hb : leM (f i) (f (par i))) : UpF (sw f i (par i)) n (par i) := by
 have hp := par_lt hi
 refine ⟨fun j h0 h1 hj => ?_, fun j h0 h1 e hp0 => ?_⟩
 ·have hjp := par_lt h0
  by_cases e1 : j = i
  ·subst e1; rw [sw_j, sw_i]; exact hb
  by_cases e2 : par j = i
  ·rw [e2, sw_i, sw_o e1 hj]; exact h.2 j h0 h1 e2 hi
  by_cases e3 : par j = par i
  ·rw [e3, sw_j, sw_o e1 hj]; exact leM_trans hb (by rw [← e3]; exact h.1 j h0 h1 e1)
  ·rw [sw_o e2 e3, sw_o e1 hj]; exact h.1 j h0 h1 e1
 ·have hpp := par_lt hp0
  rw [sw_o (by omega) (by omega)]
  have h3 := h.1 (par i) hp0 (by omega) (by omega)
  by_cases e1 : j = i
  ·subst e1; rw [sw_i]; exact h3
  ·have := par_lt h0
   rw [sw_o e1 (by omega)]
   exact leM_trans h3 (by rw [← e]; exact h.1 j h0 h1 e1)
theorem DnF.du {f : Nat → api_Message} {n i : Nat} (h : DnF f n i) : DuF f n i := ⟨fun j h0 h1 _ h2 => h.1 j h0 h1 h2, h.2⟩
theorem du_done {f : Nat → api_Message} {n i : Nat} (h : DuF f n i) (hc : ∀ j, 0 < j → j < n → par j = i → leM (f i) (f j)) : UpF f n i := ⟨fun j h0 h1 hj => by
 by_cases e : par j = i
 ·rw [e]; exact hc j h0 h1 e
 ·exact h.1 j h0 h1 hj e, h.2⟩
theorem dn_done {f : Nat → api_Message} {n i : Nat} (h : DnF f n i) (hc : ∀ j, 0 < j → j < n → par j = i → leM (f i) (f j)) : HpF f n := fun j h0 h1 => by
 by_cases e : par j = i
 ·rw [e]; exact hc j h0 h1 e
 ·exact h.1 j h0 h1 e
theorem du_step {f : Nat → api_Message} {n i c : Nat} (h : DuF f n i) (hc0 : 0 < c) (hcn : c < n) (hp : par c = i) (hb : leM (f c) (f i)) (hm : ∀ j, 0 < j → j < n → par j = i → leM (f c) (f j)) : DnF (sw f i c) n c := by
 have hlt := par_lt hc0
 refine ⟨fun j h0 h1 hj => ?_, fun j h0 h1 e _ => ?_⟩
 ·have hjp := par_lt h0
  by_cases e1 : j = c
  ·subst e1; rw [hp, sw_i, sw_j]; exact hb
  by_cases e2 : j = i
  ·subst e2; rw [sw_i, sw_o (by omega) hj]; exact h.2 c hc0 hcn hp h0
  by_cases e3 : par j = i
  ·rw [e3, sw_i, sw_o e2 e1]; exact hm j h0 h1 e3
  ·rw [sw_o e3 hj, sw_o e2 e1]; exact h.1 j h0 h1 e2 e3
 ·have hjp := par_lt h0
  rw [hp, sw_i, sw_o (by omega) (by omega)]
  have := h.1 j h0 h1 (by omega) (by omega)
  rw [e] at this; exact this
theorem hp_root {f : Nat → api_Message} {n : Nat} (h : HpF f n) : ∀ (k j : Nat), j ≤ k → j < n → leM (f 0) (f j)
 | 0, j, hk, hj => by rw [show j = 0 by omega]; exact leM_refl _
 | k + 1, j, hk, hj => by
  by_cases e : j = 0
  ·rw [e]; exact leM_refl _
  ·have := par_lt (j := j) (by omega)
   exact leM_trans (hp_root h k (par j) (by omega) (by omega)) (h j (by omega) hj)
section
variable {l : List api_Message}
def at_ (l : List api_Message) (k : Nat) : api_Message := nth l (k : Int)
theorem at_set {i k : Nat} {x : api_Message} (hi : i < l.length) : at_ (setL l (i : Int) x) k = if k = i then x else at_ l k := by
 unfold at_ nth setL
 simp only [Int.toNat_natCast, List.getD_eq_getElem?_getD, List.getElem?_set]
 by_cases e : i = k
 ·subst e; simp [hi]
 ·rw [if_neg e, if_neg (by omega)]
theorem at_swp {i j : Nat} (hi : i < l.length) (hj : j < l.length) : at_ (swp l (i : Int) (j : Int)) = sw (at_ l) i j := by
 funext k
 unfold swp sw
 rw [at_set (by rw [setL_len]; exact hj), at_set hi]; rfl
theorem swp_len {i j : Int} : (swp l i j).length = l.length := by unfold swp; rw [setL_len, setL_len]
theorem swp_perm {i j : Nat} (hi : i < l.length) (hj : j < l.length) : (swp l (i : Int) (j : Int)).Perm l := by
 unfold swp setL
 rw [nth_nat hi, nth_nat hj]
 simp only [Int.toNat_natCast]
 exact List.set_set_perm hi hj
end
end
section
theorem up_step_eq {l : List api_Message} {i : Nat} (hi : i < l.length) (hl : l.length ≤ 1099511627776) :
  heap_pile_api_Message_up.l2b (l, (i : Int)) = some (if 0 < i ∧ bef (at_ l i) (at_ l (par i)) = true then .inl (swp l (i : Int) (par i : Int), (par i : Int)) else .inr l) := by
 simp only [heap_pile_api_Message_up.l2b]
 by_cases h0 : 0 < i
 ·have hp := par_lt h0
  have e : IntKind.i64.wrap (Int.tdiv (IntKind.i64.wrap ((i : Int) - 1)) 2) = (par i : Int) := by
   rw [w64 (x := (i : Int) - 1) (by omega) (by omega), tdiv_pos' (by omega) 2, w64 (by omega) (by omega)]
   unfold par; omega
  rw [if_pos (by omega), if_pos (by omega), e, if_pos (by omega), before_eq]
  simp only [Option.bind_some]
  by_cases hb : bef (at_ l i) (at_ l (par i)) = true
  ·have hb' : bef (nth l (i : Int)) (nth l (par i : Int)) = true := hb
   rw [if_pos hb', if_pos (by rw [setL_len]; omega), if_pos ⟨h0, hb⟩]; rfl
  ·have hb' : ¬ bef (nth l (i : Int)) (nth l (par i : Int)) = true := hb
   rw [if_neg hb', if_neg (fun h => hb h.2)]
 ·rw [if_neg (by omega), if_neg (fun h => h0 h.1)]
theorem up_loop : ∀ (k i : Nat) (l : List api_Message), i ≤ k → i < l.length → l.length ≤ 1099511627776 → UpF (at_ l) l.length i →
  ∃ W, loopR heap_pile_api_Message_up.l2b (l, (i : Int)) = some W ∧ W.Perm l ∧ HpF (at_ W) l.length
 | k, i, l, hk, hi, hl, h => by
  rw [loopR_eq, up_step_eq hi hl]
  by_cases hc : 0 < i ∧ bef (at_ l i) (at_ l (par i)) = true
  ·rw [if_pos hc]
   have hp := par_lt hc.1
   have hs := up_step h hc.1 hi (leM_of_bef hc.2)
   rw [← at_swp hi (by omega)] at hs
   cases k with
   | zero => omega
   | succ k =>
    obtain ⟨W, e, p, q⟩ := up_loop k (par i) (swp l (i : Int) (par i : Int)) (by omega) (by rw [swp_len]; omega) (by rw [swp_len]; exact hl) (by rw [swp_len]; exact hs)
    exact ⟨W, e, p.trans (swp_perm hi (by omega)), by rw [swp_len] at q; exact q⟩
  ·rw [if_neg hc]
   refine ⟨l, rfl, List.Perm.refl _, up_done h ?_⟩
   by_cases h0 : i = 0
   ·exact .inl h0
   ·exact .inr (leM_of_not fun hb => hc ⟨by omega, hb⟩)
def best (l : List api_Message) (i : Nat) : Nat := if 2 * i + 2 < l.length ∧ bef (at_ l (2 * i + 2)) (at_ l (2 * i + 1)) = true then 2 * i + 2 else 2 * i + 1
theorem best_spec {l : List api_Message} {i : Nat} (h : 2 * i + 1 < l.length) : 0 < best l i ∧ best l i < l.length ∧ par (best l i) = i ∧ ∀ j, 0 < j → j < l.length → par j = i → leM (at_ l (best l i)) (at_ l j) := by
 unfold best
 by_cases c : 2 * i + 2 < l.length ∧ bef (at_ l (2 * i + 2)) (at_ l (2 * i + 1)) = true
 ·rw [if_pos c]
  refine ⟨by omega, c.1, by unfold par; omega, fun j h0 h1 e => ?_⟩
  have : j = 2 * i + 1 ∨ j = 2 * i + 2 := by unfold par at e; omega
  rcases this with rfl | rfl
  ·exact leM_of_bef c.2
  ·exact leM_refl _
 ·rw [if_neg c]
  refine ⟨by omega, h, by unfold par; omega, fun j h0 h1 e => ?_⟩
  have : j = 2 * i + 1 ∨ j = 2 * i + 2 := by unfold par at e; omega
  rcases this with rfl | rfl
  ·exact leM_refl _
  ·exact leM_of_not fun hb => c ⟨h1, hb⟩
theorem down_step_eq {l : List api_Message} {i : Nat} (hi : i < l.length) (hl : l.length ≤ 1099511627776) :
  heap_pile_api_Message_down.l2b (l, (i : Int)) = some (if l.length ≤ 2 * i + 1 then .inr l else if bef (at_ l (best l i)) (at_ l i) = true then .inl (swp l (i : Int) (best l i : Int), (best l i : Int)) else .inr l) := by
 simp only [heap_pile_api_Message_down.l2b]
 have e1 : IntKind.i64.wrap (IntKind.i64.wrap (2 * (i : Int)) + 1) = ((2 * i + 1 : Nat) : Int) := by
  rw [w64 (x := 2 * (i : Int)) (by omega) (by omega), w64 (by omega) (by omega)]; omega
 have e2 : IntKind.i64.wrap (((2 * i + 1 : Nat) : Int) + 1) = ((2 * i + 2 : Nat) : Int) := by
  rw [w64 (by omega) (by omega)]; omega
 rw [e1]
 by_cases h1 : l.length ≤ 2 * i + 1
 ·rw [if_pos (by omega), if_pos h1]
 rw [if_neg (by omega), if_neg h1]
 rw [e2]
 by_cases h2 : 2 * i + 2 < l.length
 ·rw [if_pos (by omega), if_pos (by omega), if_pos (by omega), before_eq]
  simp only [Option.bind_some]
  by_cases hb : bef (at_ l (2 * i + 2)) (at_ l (2 * i + 1)) = true
  ·have hb' : bef (nth l ((2 * i + 2 : Nat) : Int)) (nth l ((2 * i + 1 : Nat) : Int)) = true := hb
   have eb : best l i = 2 * i + 2 := if_pos ⟨h2, hb⟩
   rw [if_pos hb', if_pos (by omega), before_eq, eb]
   simp only [Option.bind_some]
   by_cases hc : bef (at_ l (2 * i + 2)) (at_ l i) = true
   ·have hc' : bef (nth l ((2 * i + 2 : Nat) : Int)) (nth l (i : Int)) = true := hc
    rw [if_pos hc', if_pos (by rw [setL_len]; omega), if_pos hc]; rfl
   ·have hc' : ¬ bef (nth l ((2 * i + 2 : Nat) : Int)) (nth l (i : Int)) = true := hc
    rw [if_neg hc', if_neg hc]
  ·have hb' : ¬ bef (nth l ((2 * i + 2 : Nat) : Int)) (nth l ((2 * i + 1 : Nat) : Int)) = true := hb
   have eb : best l i = 2 * i + 1 := if_neg (fun h => hb h.2)
   rw [if_neg hb', if_pos (by omega), before_eq, eb]
   simp only [Option.bind_some]
   by_cases hc : bef (at_ l (2 * i + 1)) (at_ l i) = true
   ·have hc' : bef (nth l ((2 * i + 1 : Nat) : Int)) (nth l (i : Int)) = true := hc
    rw [if_pos hc', if_pos (by rw [setL_len]; omega), if_pos hc]; rfl
   ·have hc' : ¬ bef (nth l ((2 * i + 1 : Nat) : Int)) (nth l (i : Int)) = true := hc
    rw [if_neg hc', if_neg hc]
 ·have eb : best l i = 2 * i + 1 := if_neg (fun h => h2 h.1)
  rw [if_neg (by omega), if_pos (by omega), if_pos (by omega), before_eq, eb]
  simp only [Option.bind_some]
  by_cases hc : bef (at_ l (2 * i + 1)) (at_ l i) = true
  ·have hc' : bef (nth l ((2 * i + 1 : Nat) : Int)) (nth l (i : Int)) = true := hc
   rw [if_pos hc', if_pos (by rw [setL_len]; omega), if_pos hc]; rfl
  ·have hc' : ¬ bef (nth l ((2 * i + 1 : Nat) : Int)) (nth l (i : Int)) = true := hc
   rw [if_neg hc', if_neg hc]
theorem kids {l : List api_Message} {i : Nat} (h : l.length ≤ 2 * i + 1 ∨ 2 * i + 1 < l.length ∧ ¬ bef (at_ l (best l i)) (at_ l i) = true) : ∀ j, 0 < j → j < l.length → par j = i → leM (at_ l i) (at_ l j) := fun j h0 h1 e => by
 rcases h with h | ⟨h, hb⟩
 ·unfold par at e; omega
 ·exact leM_trans (leM_of_not hb) ((best_spec h).2.2.2 j h0 h1 e)
theorem down_dn : ∀ (k i : Nat) (l : List api_Message), l.length - i ≤ k → i < l.length → l.length ≤ 1099511627776 → DnF (at_ l) l.length i →
  ∃ W, loopR heap_pile_api_Message_down.l2b (l, (i : Int)) = some W ∧ W.Perm l ∧ HpF (at_ W) l.length
 | 0, i, l, hk, hi, hl, h => by omega
 | k + 1, i, l, hk, hi, hl, h => by
  rw [loopR_eq, down_step_eq hi hl]
  by_cases h1 : l.length ≤ 2 * i + 1
  ·rw [if_pos h1]; exact ⟨l, rfl, List.Perm.refl _, dn_done h (kids (.inl h1))⟩
  rw [if_neg h1]
  by_cases hb : bef (at_ l (best l i)) (at_ l i) = true
  ·rw [if_pos hb]
   obtain ⟨b0, b1, b2, b3⟩ := best_spec (l := l) (i := i) (by omega)
   have hs := du_step h.du b0 b1 b2 (leM_of_bef hb) b3
   rw [← at_swp hi b1] at hs
   have hlt := par_lt b0
   obtain ⟨W, e, p, q⟩ := down_dn k (best l i) (swp l (i : Int) (best l i : Int)) (by rw [swp_len]; omega) (by rw [swp_len]; exact b1) (by rw [swp_len]; exact hl) (by rw [swp_len]; exact hs)
   exact ⟨W, e, p.trans (swp_perm hi b1), by rw [swp_len] at q; exact q⟩
  ·rw [if_neg hb]; exact ⟨l, rfl, List.Perm.refl _, dn_done h (kids (.inr ⟨by omega, hb⟩))⟩
theorem down_du {l : List api_Message} {i : Nat} (hi : i < l.length) (hl : l.length ≤ 1099511627776) (h : DuF (at_ l) l.length i) :
  ∃ W, loopR heap_pile_api_Message_down.l2b (l, (i : Int)) = some W ∧ W.Perm l ∧ UpF (at_ W) l.length i := by
 rw [loopR_eq, down_step_eq hi hl]
 by_cases h1 : l.length ≤ 2 * i + 1
 ·rw [if_pos h1]; exact ⟨l, rfl, List.Perm.refl _, du_done h (kids (.inl h1))⟩
 rw [if_neg h1]
 by_cases hb : bef (at_ l (best l i)) (at_ l i) = true
 ·rw [if_pos hb]
  obtain ⟨b0, b1, b2, b3⟩ := best_spec (l := l) (i := i) (by omega)
  have hs := du_step h b0 b1 b2 (leM_of_bef hb) b3
  rw [← at_swp hi b1] at hs
  obtain ⟨W, e, p, q⟩ := down_dn _ (best l i) (swp l (i : Int) (best l i : Int)) (Nat.le_refl _) (by rw [swp_len]; exact b1) (by rw [swp_len]; exact hl) (by rw [swp_len]; exact hs)
  rw [swp_len] at q
  exact ⟨W, e, p.trans (swp_perm hi b1), q.up hi⟩
 ·rw [if_neg hb]; exact ⟨l, rfl, List.Perm.refl _, du_done h (kids (.inr ⟨by omega, hb⟩))⟩
end
section
theorem at_app_l {l r : List api_Message} {k : Nat} (h : k < l.length) : at_ (l ++ r) k = at_ l k := by
 unfold at_
 rw [nth_nat (by rw [List.length_append]; omega), nth_nat h, List.getElem_append_left h]
theorem at_mem {l : List api_Message} {k : Nat} (h : k < l.length) : at_ l k ∈ l := by
 unfold at_; rw [nth_nat h]; exact List.getElem_mem h
theorem mem_at {l : List api_Message} {x : api_Message} (h : x ∈ l) : ∃ k, k < l.length ∧ at_ l k = x := by
 obtain ⟨k, hk, e⟩ := List.getElem_of_mem h
 exact ⟨k, hk, by unfold at_; rw [nth_nat hk]; exact e⟩
def HpL (l : List api_Message) : Prop := HpF (at_ l) l.length
theorem HpL.root {l : List api_Message} (h : HpL l) {x : api_Message} (hx : x ∈ l) : leM (at_ l 0) x := by
 obtain ⟨k, hk, e⟩ := mem_at hx
 rw [← e]; exact hp_root h k k (Nat.le_refl _) hk
theorem HpL.nil : HpL [] := fun j _ h => by simp at h
theorem push_eq {l : List api_Message} {m : api_Message} (hl : l.length ≤ 1000000) (h : HpL l) : ∃ W, heap_pile_api_Message_push.f l m = some W ∧ W.Perm (m :: l) ∧ HpL W := by
 unfold heap_pile_api_Message_push.f
 have hlen : (l ++ [m]).length = l.length + 1 := by simp
 rw [if_pos (by omega), hlen, w64 (by omega) (by omega), show ((l.length + 1 : Nat) : Int) - 1 = (l.length : Int) by omega]
 obtain ⟨W, e, p, q⟩ := up_loop l.length l.length (l ++ [m]) (Nat.le_refl _) (by omega) (by omega) (by
  rw [hlen]
  refine ⟨fun j h0 h1 hj => ?_, fun j h0 h1 ej _ => ?_⟩
  ·have := par_lt h0
   rw [at_app_l (by omega), at_app_l (by omega)]; exact h j h0 (by omega)
  ·have := par_lt h0; omega)
 unfold heap_pile_api_Message_up.f heap_pile_api_Message_up.l2
 rw [e]
 refine ⟨W, rfl, p.trans (List.perm_append_comm (l₁ := l) (l₂ := [m])), ?_⟩
 have : W.length = (l ++ [m]).length := p.length_eq
 unfold HpL; rw [this]; exact q
theorem cut_eq {l : List api_Message} {i : Nat} (hi : i < l.length) (hl : l.length ≤ 1000000) (h : HpL l) : ∃ W, heap_pile_api_Message_cut.f l (i : Int) = some (at_ l i, W) ∧ (at_ l i :: W).Perm l ∧ HpL W := by
 unfold heap_pile_api_Message_cut.f
 have en : IntKind.i64.wrap ((l.length : Int) - 1) = ((l.length - 1 : Nat) : Int) := by rw [w64 (by omega) (by omega)]; omega
 rw [en, if_pos (by omega), if_pos (by omega), if_pos (by rw [setL_len]; omega)]
 generalize hn : l.length - 1 = n
 have es : subL (setL l (i : Int) (nth l (n : Int))) 0 (n : Int) = (l.set i (at_ l n)).take n := by
  simp [subL, setL, at_]
 have hlen : ((l.set i (at_ l n)).take n).length = n := by rw [List.length_take, List.length_set]; omega
 have hat : ∀ k, k < n → at_ ((l.set i (at_ l n)).take n) k = if k = i then at_ l n else at_ l k := fun k hk => by
  have e1 : at_ ((l.set i (at_ l n)).take n) k = at_ (setL l (i : Int) (at_ l n)) k := by
   unfold at_ nth setL; simp [List.getD_eq_getElem?_getD, hk]
  rw [e1, at_set hi]
 have hperm : (at_ l i :: (l.set i (at_ l n)).take n).Perm l := by
  have h1 := swp_perm (l := l) hi (show n < l.length by omega)
  have e1 : swp l (i : Int) (n : Int) = (l.set i (at_ l n)).take n ++ [at_ l i] := by
   have e0 : swp l (i : Int) (n : Int) = (l.set i (at_ l n)).set n (at_ l i) := by simp [swp, setL, at_]
   rw [e0]
   apply List.ext_getElem
   ·simp only [List.length_set, List.length_append, List.length_take, List.length_cons, List.length_nil]; omega
   ·intro k h1 h2
    simp only [List.length_set] at h1
    by_cases ek : k = n
    ·subst ek
     rw [List.getElem_set_self, List.getElem_append_right (by rw [hlen]; exact Nat.le_refl _)]
     simp [hlen]
    ·rw [List.getElem_set_ne (by omega), List.getElem_append_left (by rw [hlen]; omega), List.getElem_take]
  rw [e1] at h1
  exact (List.perm_append_comm (l₁ := [at_ l i])).trans h1
 rw [es]
 by_cases hc : i < n
 ·rw [if_pos (by omega)]
  have hdu : DuF (at_ ((l.set i (at_ l n)).take n)) ((l.set i (at_ l n)).take n).length i := by
   rw [hlen]
   refine ⟨fun j h0 h1 hj hp => ?_, fun j h0 h1 ep hi0 => ?_⟩
   ·have := par_lt h0
    rw [hat _ (by omega), hat _ h1, if_neg hp, if_neg hj]; exact h j h0 (by omega)
   ·have := par_lt h0
    have := par_lt hi0
    rw [hat _ (by omega), hat _ h1, if_neg (by omega), if_neg (by omega)]
    exact (HpF.up h hi).2 j h0 (by omega) ep hi0
  obtain ⟨W1, e1, p1, q1⟩ := down_du (by rw [hlen]; exact hc) (by rw [hlen]; omega) hdu
  have hl1 : W1.length = n := by rw [p1.length_eq, hlen]
  rw [hlen] at q1
  obtain ⟨W2, e2, p2, q2⟩ := up_loop i i W1 (Nat.le_refl _) (by omega) (by omega) (by rw [hl1]; exact q1)
  unfold heap_pile_api_Message_down.f heap_pile_api_Message_down.l2
  rw [e1]
  simp only [Option.bind_some]
  unfold heap_pile_api_Message_up.f heap_pile_api_Message_up.l2
  rw [e2]
  refine ⟨W2, rfl, ((p2.trans p1).cons _).trans hperm, ?_⟩
  unfold HpL; rw [p2.length_eq]; exact q2
 ·rw [if_neg (by omega)]
  refine ⟨_, rfl, hperm, fun j h0 h1 => ?_⟩
  rw [hlen] at h1
  have := par_lt h0
  rw [hat _ (by omega), hat _ h1, if_neg (by omega), if_neg (by omega)]; exact h j h0 (by omega)
theorem find_eq (q : heap_Heap) (fr uid : Int) (hl : q.p_l.length ≤ 1000000) : ∃ v, heap_Heap_find.f q fr uid = some v ∧
  ((v = -1 ∧ ∀ x ∈ q.p_l, ¬ (x.Key.From = fr ∧ x.Uid = uid)) ∨ ∃ k, k < q.p_l.length ∧ v = (k : Int) ∧ (at_ q.p_l k).Key.From = fr ∧ (at_ q.p_l k).Uid = uid) := by
 unfold heap_Heap_find.f heap_pile_api_Message_each.f
 simp only [Option.bind_some]
 have e : heap_pile_api_Message_each_1.f fr uid 0 q.p_l = some (match (List.range q.p_l.length).find? (fun k => decide ((at_ q.p_l k).Key.From = fr ∧ (at_ q.p_l k).Uid = uid)) with | some k => (Sum.inl (k : Int) : Int ⊕ Unit) | none => .inr ()) := by
  unfold heap_pile_api_Message_each_1.f heap_pile_api_Message_each_1.l2
  refine loopR_find (fun k => decide ((at_ q.p_l k).Key.From = fr ∧ (at_ q.p_l k).Uid = uid)) (fun k => (Sum.inl (k : Int) : Int ⊕ Unit)) (Sum.inr ()) q.p_l.length (fun k hk => ?_) ?_
  ·simp only [heap_pile_api_Message_each_1.l2b]
   rw [if_pos (by omega), if_pos (by omega), w64 (by omega) (by omega)]
   unfold heap_Heap_find_round0.f
   by_cases h1 : (nth q.p_l (k : Int)).Key.From = fr
   ·by_cases h2 : (nth q.p_l (k : Int)).Uid = uid
    ·simp [at_, h1, h2]
    ·simp [at_, h1, h2]
   ·simp [at_, h1]
  ·simp only [heap_pile_api_Message_each_1.l2b]
   rw [if_neg (by omega)]
 rw [e]
 cases hf : (List.range q.p_l.length).find? (fun k => decide ((at_ q.p_l k).Key.From = fr ∧ (at_ q.p_l k).Uid = uid)) with
 | none =>
  refine ⟨-1, rfl, .inl ⟨rfl, fun x hx hc => ?_⟩⟩
  obtain ⟨k, hk, ek⟩ := mem_at hx
  have := List.find?_eq_none.1 hf k (List.mem_range.2 hk)
  rw [ek] at this
  simp [hc] at this
 | some k =>
  have h1 := List.find?_some hf
  have h2 := List.mem_range.1 (List.mem_of_find?_eq_some hf)
  have h3 := of_decide_eq_true h1
  exact ⟨k, rfl, .inr ⟨k, h2, rfl, h3⟩⟩
end
section
theorem swapR_eq (P U M V S : List api_Message) {a b n : Int} (hUV : U.length = V.length) (ha : a = (P.length : Int)) (hb : b = (P.length : Int) + U.length + M.length) (hn : n = (U.length : Int)) (hs : (P ++ (U ++ (M ++ (V ++ S)))).length ≤ 1099511627776) :
  slices_swapRangeCmpFunc_api_Message.f (P ++ (U ++ (M ++ (V ++ S)))) a b n = some (P ++ (V ++ (M ++ (U ++ S)))) := by
 subst ha hb hn
 have hl0 : (P ++ (U ++ (M ++ (V ++ S)))).length = P.length + (U.length + (M.length + (V.length + S.length))) := by simp
 rw [hl0] at hs
 unfold slices_swapRangeCmpFunc_api_Message.f slices_swapRangeCmpFunc_api_Message.l2
 have hst : ∀ k : Nat, k ≤ U.length → (P ++ (V.take k ++ (U.drop k ++ (M ++ (U.take k ++ (V.drop k ++ S)))))).length = P.length + (U.length + (M.length + (V.length + S.length))) := fun k hk => by
  simp only [List.length_append, List.length_take, List.length_drop]; omega
 refine (show loopR _ ((fun k : Nat => (P ++ (V.take k ++ (U.drop k ++ (M ++ (U.take k ++ (V.drop k ++ S))))), (k : Int))) 0) = _ from loopR_steps (fun k : Nat => (P ++ (V.take k ++ (U.drop k ++ (M ++ (U.take k ++ (V.drop k ++ S))))), (k : Int))) U.length (fun k hk => ?_) ?_)
 ·have hk' : k < V.length := by omega
  have hl := hst k (by omega)
  simp only [slices_swapRangeCmpFunc_api_Message.l2b]
  rw [if_pos (by omega), w64 (x := (P.length : Int) + U.length + M.length + (k : Int)) (by omega) (by omega), w64 (x := (P.length : Int) + (k : Int)) (by omega) (by omega), w64 (x := (k : Int) + 1) (by omega) (by omega), if_pos (by rw [hl]; omega), if_pos (by rw [hl]; omega), if_pos (by rw [setL_len, hl]; omega)]
  have e1 : P ++ (V.take k ++ (U.drop k ++ (M ++ (U.take k ++ (V.drop k ++ S))))) = (P ++ V.take k) ++ U[k] :: ((U.drop (k + 1) ++ (M ++ U.take k)) ++ V[k] :: (V.drop (k + 1) ++ S)) := by
   rw [List.drop_eq_getElem_cons hk, List.drop_eq_getElem_cons hk']; simp only [List.append_assoc, List.cons_append]
  have e2 : P ++ (V.take (k + 1) ++ (U.drop (k + 1) ++ (M ++ (U.take (k + 1) ++ (V.drop (k + 1) ++ S))))) = (P ++ V.take k) ++ V[k] :: ((U.drop (k + 1) ++ (M ++ U.take k)) ++ U[k] :: (V.drop (k + 1) ++ S)) := by
   rw [List.take_succ_eq_append_getElem hk, List.take_succ_eq_append_getElem hk']; simp only [List.append_assoc, List.cons_append, List.nil_append]
  rw [e1, e2]
  refine congrArg (fun x => some (Sum.inl (x, (k : Int) + 1))) ?_
  exact swp_far (by simp only [List.length_append, List.length_take]; omega) (by simp only [List.length_append, List.length_take, List.length_drop]; omega)
 ·have hl := hst U.length (Nat.le_refl _)
  simp only [slices_swapRangeCmpFunc_api_Message.l2b]
  rw [if_neg (by omega), if_pos (by rw [hl, hl0])]
  rw [List.take_of_length_le (l := V) (by omega), List.drop_of_length_le (l := U) (Nat.le_refl _), List.take_length, List.drop_of_length_le (l := V) (by omega)]
  simp
theorem rot_loop {d0 : List api_Message} {m : Int} (hd : d0.length ≤ 1099511627776) : ∀ (n : Nat) (P U V S : List api_Message), U.length + V.length ≤ n → 0 < U.length → 0 < V.length → m = (P.length : Int) + U.length → (P ++ (U ++ (V ++ S))).length = d0.length →
  loopR (slices_rotateCmpFunc_api_Message.l4b d0 m) (P ++ (U ++ (V ++ S)), (U.length : Int), (V.length : Int)) = some (P ++ (V ++ (U ++ S)))
 | 0, P, U, V, S, h, h1, h2, _, _ => by omega
 | n + 1, P, U, V, S, h, h1, h2, hm, hl => by
  have hl' := hl
  simp only [List.length_append] at hl'
  rw [loopR_eq]
  simp only [slices_rotateCmpFunc_api_Message.l4b]
  rw [w64 (x := m - (U.length : Int)) (by omega) (by omega), show m - (U.length : Int) = (P.length : Int) by omega]
  by_cases e : (U.length : Int) = (V.length : Int)
  ·rw [if_pos e]
   have := swapR_eq P U [] V S (b := m) (n := (U.length : Int)) (by omega) rfl (by simp only [List.length_nil]; omega) rfl (by simp only [List.nil_append]; omega)
   simp only [List.nil_append] at this
   rw [this]
   simp only [Option.bind_some]
   rw [if_pos (by rw [← hl]; simp only [List.length_append]; omega)]
   rfl
  ·rw [if_neg e]
   by_cases hlt : (V.length : Int) < (U.length : Int)
   ·rw [if_pos hlt]
    have eU : U = U.take V.length ++ U.drop V.length := (List.take_append_drop _ _).symm
    generalize h3 : U.take V.length = U1 at eU
    generalize h4 : U.drop V.length = U2 at eU
    have l1 : U1.length = V.length := by rw [← h3, List.length_take]; omega
    have l2 : U2.length = U.length - V.length := by rw [← h4, List.length_drop]
    have hs1 : (P ++ (U1 ++ (U2 ++ (V ++ S)))).length ≤ 1099511627776 := by simp only [List.length_append]; omega
    have := swapR_eq P U1 U2 V S (b := m) (n := (V.length : Int)) l1 rfl (by omega) (by omega) hs1
    have e5 : P ++ (U ++ (V ++ S)) = P ++ (U1 ++ (U2 ++ (V ++ S))) := by rw [eU]; simp
    rw [e5, this]
    simp only [Option.bind_some]
    rw [w64 (x := (U.length : Int) - (V.length : Int)) (by omega) (by omega)]
    have ih := rot_loop (m := m) hd n (P ++ V) U2 U1 S (by omega) (by omega) (by omega) (by simp only [List.length_append]; omega) (by simp only [List.length_append]; omega)
    show loopR _ (P ++ (V ++ (U2 ++ (U1 ++ S))), (U.length : Int) - (V.length : Int), (V.length : Int)) = _
    rw [show (U.length : Int) - (V.length : Int) = (U2.length : Int) by omega, show (V.length : Int) = (U1.length : Int) by omega, show P ++ (V ++ (U2 ++ (U1 ++ S))) = (P ++ V) ++ (U2 ++ (U1 ++ S)) by simp, ih, eU]
    simp
   ·rw [if_neg hlt]
    have eV : V = V.take (V.length - U.length) ++ V.drop (V.length - U.length) := (List.take_append_drop _ _).symm
    generalize h3 : V.take (V.length - U.length) = V1 at eV
    generalize h4 : V.drop (V.length - U.length) = V2 at eV
    have l1 : V1.length = V.length - U.length := by rw [← h3, List.length_take]; omega
    have l2 : V2.length = U.length := by rw [← h4, List.length_drop]; omega
    have hs1 : (P ++ (U ++ (V1 ++ (V2 ++ S)))).length ≤ 1099511627776 := by simp only [List.length_append]; omega
    have := swapR_eq P U V1 V2 S (b := m + (V.length : Int) - (U.length : Int)) (n := (U.length : Int)) l2.symm rfl (by omega) rfl hs1
    have e5 : P ++ (U ++ (V ++ S)) = P ++ (U ++ (V1 ++ (V2 ++ S))) := by rw [eV]; simp
    rw [e5, w64 (x := m + (V.length : Int)) (by omega) (by omega), w64 (x := m + (V.length : Int) - (U.length : Int)) (by omega) (by omega), this]
    simp only [Option.bind_some]
    rw [w64 (x := (V.length : Int) - (U.length : Int)) (by omega) (by omega)]
    have ih := rot_loop (m := m) hd n P V2 V1 (U ++ S) (by omega) (by omega) (by omega) (by omega) (by simp only [List.length_append]; omega)
    show loopR _ (P ++ (V2 ++ (V1 ++ (U ++ S))), (U.length : Int), (V.length : Int) - (U.length : Int)) = _
    rw [show (V.length : Int) - (U.length : Int) = (V1.length : Int) by omega, show (U.length : Int) = (V2.length : Int) by omega, ih, eV]
    simp
theorem rotate_eq (P U V S : List api_Message) {a m b : Int} (hU : 0 < U.length) (hV : 0 < V.length) (ha : a = (P.length : Int)) (hm : m = (P.length : Int) + U.length) (hb : b = (P.length : Int) + U.length + V.length) (hs : (P ++ (U ++ (V ++ S))).length ≤ 1099511627776) :
  slices_rotateCmpFunc_api_Message.f (P ++ (U ++ (V ++ S))) a m b = some (P ++ (V ++ (U ++ S))) := by
 have hl' := hs
 simp only [List.length_append] at hl'
 unfold slices_rotateCmpFunc_api_Message.f slices_rotateCmpFunc_api_Message.l4
 rw [w64 (x := m - a) (by omega) (by omega), w64 (x := b - m) (by omega) (by omega), show m - a = (U.length : Int) by omega, show b - m = (V.length : Int) by omega]
 exact rot_loop hs _ P U V S (Nat.le_refl _) hU hV hm rfl
theorem ins_inner {a : Int} {i : Int} (hi : 0 ≤ i ∧ i ≤ 1099511627776) {P : List api_Message} (ha : a = (P.length : Int)) {T : List api_Message} {x : api_Message} : ∀ (n : Nat) (Z1 Z2 : List api_Message), Z1.length = n → SrtM (Z1 ++ Z2) → (∀ z ∈ Z2, leM x z) → (P ++ (Z1 ++ x :: (Z2 ++ T))).length ≤ 1099511627776 →
  ∃ W, SrtM W ∧ W.Perm (Z1 ++ x :: Z2) ∧ loopR (slices_insertionSortCmpFunc_api_Message.l14b a i) (P ++ (Z1 ++ x :: (Z2 ++ T)), (P.length : Int) + (Z1.length : Int)) = some (.inl (P ++ (W ++ T), i + 1))
 | 0, Z1, Z2, hn, hs, hx, hl => by
  have : Z1 = [] := List.length_eq_zero_iff.1 hn
  subst this
  refine ⟨x :: Z2, List.pairwise_cons.2 ⟨hx, hs⟩, List.Perm.refl _, ?_⟩
  rw [loopR_eq]
  simp only [slices_insertionSortCmpFunc_api_Message.l14b, List.length_nil]
  rw [if_neg (by omega), w64 (x := i + 1) (by omega) (by omega)]
  simp
 | n + 1, Z1, Z2, hn, hs, hx, hl => by
  have hne : Z1 ≠ [] := fun h => by rw [h] at hn; simp at hn
  obtain ⟨Y, y, rfl⟩ : ∃ Y y, Z1 = Y ++ [y] := ⟨Z1.dropLast, Z1.getLast hne, (List.dropLast_concat_getLast hne).symm⟩
  simp only [List.length_append, List.length_cons, List.length_nil] at hn hl
  rw [loopR_eq]
  have e1 : P ++ ((Y ++ [y]) ++ x :: (Z2 ++ T)) = (P ++ Y) ++ y :: ([] ++ x :: (Z2 ++ T)) := by simp
  have e2 : P ++ ((Y ++ [y]) ++ x :: (Z2 ++ T)) = (P ++ (Y ++ [y])) ++ x :: (Z2 ++ T) := by simp
  have hl1 : (P ++ ((Y ++ [y]) ++ x :: (Z2 ++ T))).length = P.length + (Y.length + 1 + (Z2.length + T.length + 1)) := by simp only [List.length_append, List.length_cons, List.length_nil]
  have hj : IntKind.i64.wrap ((P.length : Int) + ((Y ++ [y]).length : Int) - 1) = (P.length : Int) + (Y.length : Int) := by
   simp only [List.length_append, List.length_cons, List.length_nil]
   rw [w64 (by omega) (by omega)]; omega
  have n1 : nth (P ++ ((Y ++ [y]) ++ x :: (Z2 ++ T))) ((P.length : Int) + ((Y ++ [y]).length : Int)) = x := by
   rw [e2]; exact nth_mid (by simp only [List.length_append]; omega)
  have n2 : nth (P ++ ((Y ++ [y]) ++ x :: (Z2 ++ T))) ((P.length : Int) + (Y.length : Int)) = y := by
   rw [e1]; exact nth_mid (by simp only [List.length_append]; omega)
  simp only [slices_insertionSortCmpFunc_api_Message.l14b]
  rw [if_pos (by simp only [List.length_append, List.length_cons, List.length_nil]; omega), hj, if_pos (by rw [hl1]; simp only [List.length_append, List.length_cons, List.length_nil]; omega), if_pos (by rw [hl1]; omega), n1, n2]
  obtain ⟨v, ev, hv⟩ := order_eq x y
  rw [show event_order.f (⟨x.Key, x.To, x.Value, x.Uid, x.Anti⟩ : api_Message) (⟨y.Key, y.To, y.Value, y.Uid, y.Anti⟩ : api_Message) = some v from ev]
  simp only [Option.bind_some]
  by_cases hb : bef x y = true
  ·rw [if_pos (hv.2 hb), if_pos (by rw [setL_len, hl1]; omega)]
   obtain ⟨hs1, hs2, hs3⟩ := List.pairwise_append.1 hs
   obtain ⟨W, w1, w2, w3⟩ := ins_inner hi ha (T := T) (x := x) n Y (y :: Z2) (by omega) (by simpa using hs) (fun z hz => by
    rcases List.mem_cons.1 hz with rfl | hz
    ·exact leM_of_bef hb
    ·exact hx z hz) (by simp only [List.length_append, List.length_cons]; omega)
   refine ⟨W, w1, w2.trans (by simp only [List.append_assoc, List.singleton_append]; exact List.Perm.append_left _ (List.Perm.swap _ _ _)), ?_⟩
   have hsw : setL (setL (P ++ ((Y ++ [y]) ++ x :: (Z2 ++ T))) ((P.length : Int) + ((Y ++ [y]).length : Int)) y) ((P.length : Int) + (Y.length : Int)) x = P ++ (Y ++ x :: ((y :: Z2) ++ T)) := by
    have := swp_back (P := P ++ Y) (M := []) (S := Z2 ++ T) (x := y) (y := x) (i := (P.length : Int) + (Y.length : Int)) (j := (P.length : Int) + ((Y ++ [y]).length : Int)) (by simp only [List.length_append]; omega) (by simp only [List.length_append, List.length_cons, List.length_nil]; omega)
    unfold swp at this
    rw [← e1, n1, n2] at this
    rw [this]; simp
   show loopR _ (setL (setL (P ++ ((Y ++ [y]) ++ x :: (Z2 ++ T))) ((P.length : Int) + ((Y ++ [y]).length : Int)) y) ((P.length : Int) + (Y.length : Int)) x, (P.length : Int) + (Y.length : Int)) = _
   rw [hsw]
   exact w3
  ·rw [if_neg (fun h => hb (hv.1 h)), w64 (x := i + 1) (by omega) (by omega)]
   have hle : leM y x := leM_of_not hb
   refine ⟨(Y ++ [y]) ++ x :: Z2, srt_put hs (fun a ha => ?_) hx, List.Perm.refl _, by simp⟩
   rcases List.mem_append.1 ha with ha | ha
   ·have := (List.pairwise_append.1 (List.pairwise_append.1 hs).1).2.2 a ha y (List.mem_singleton.2 rfl)
    exact leM_trans this hle
   ·rw [List.mem_singleton.1 ha]; exact hle
theorem ins_outer {d0 : List api_Message} {a b : Int} (hd : d0.length ≤ 1099511627776) {P S : List api_Message} (ha : a = (P.length : Int)) : ∀ (n : Nat) (Z R : List api_Message), R.length = n → SrtM Z → b = (P.length : Int) + Z.length + R.length → (P ++ (Z ++ (R ++ S))).length = d0.length →
  ∃ W, SrtM W ∧ W.Perm (Z ++ R) ∧ loopR (slices_insertionSortCmpFunc_api_Message.l12b d0 a b) (P ++ (Z ++ (R ++ S)), (P.length : Int) + (Z.length : Int)) = some (P ++ (W ++ S))
 | 0, Z, R, hn, hs, hb, hl => by
  have : R = [] := List.length_eq_zero_iff.1 hn
  subst this
  refine ⟨Z, hs, by simp, ?_⟩
  rw [loopR_eq]
  simp only [slices_insertionSortCmpFunc_api_Message.l12b]
  rw [if_neg (by simp only [List.length_nil] at hb; omega), if_pos hl]
  simp
 | n + 1, Z, R, hn, hs, hb, hl => by
  cases R with
  | nil => simp at hn
  | cons x R =>
   simp only [List.length_cons] at hn hb
   have hl' := hl
   simp only [List.length_append, List.length_cons] at hl'
   rw [loopR_eq]
   simp only [slices_insertionSortCmpFunc_api_Message.l12b]
   rw [if_pos (by omega)]
   obtain ⟨W, w1, w2, w3⟩ := ins_inner (a := a) (i := (P.length : Int) + (Z.length : Int)) (by omega) (P := P) ha (T := R ++ S) (x := x) Z.length Z [] rfl (by simpa using hs) (fun z hz => by cases hz) (by simp only [List.length_append, List.length_cons, List.nil_append]; omega)
   unfold slices_insertionSortCmpFunc_api_Message.l14
   rw [show P ++ (Z ++ ((x :: R) ++ S)) = P ++ (Z ++ x :: ([] ++ (R ++ S))) by simp, w3]
   simp only [Option.bind_some]
   have hwl : W.length = Z.length + 1 := by have := w2.length_eq; simpa using this
   obtain ⟨W', q1, q2, q3⟩ := ins_outer (b := b) hd (P := P) (S := S) ha n W R (by omega) w1 (by omega) (by simp only [List.length_append]; omega)
   refine ⟨W', q1, q2.trans ?_, ?_⟩
   ·refine (List.Perm.append_right R w2).trans ?_
    simp
   ·show loopR _ (P ++ (W ++ (R ++ S)), (P.length : Int) + (Z.length : Int) + 1) = _
    rw [show (P.length : Int) + (Z.length : Int) + 1 = (P.length : Int) + (W.length : Int) by omega]
    exact q3
theorem insertion_eq (P X S : List api_Message) {a b : Int} (ha : a = (P.length : Int)) (hb : b = (P.length : Int) + X.length) (hs : (P ++ (X ++ S)).length ≤ 1099511627776) :
  ∃ W, SrtM W ∧ W.Perm X ∧ slices_insertionSortCmpFunc_api_Message.f (P ++ (X ++ S)) a b = some (P ++ (W ++ S)) := by
 have hl' := hs
 simp only [List.length_append] at hl'
 unfold slices_insertionSortCmpFunc_api_Message.f slices_insertionSortCmpFunc_api_Message.l12
 rw [w64 (x := a + 1) (by omega) (by omega)]
 cases X with
 | nil =>
  refine ⟨[], List.Pairwise.nil, List.Perm.refl _, ?_⟩
  rw [loopR_eq]
  simp only [slices_insertionSortCmpFunc_api_Message.l12b]
  rw [if_neg (by simp only [List.length_nil] at hb; omega), if_pos trivial]
  rfl
 | cons x R =>
  simp only [List.length_cons] at hb
  obtain ⟨W, w1, w2, w3⟩ := ins_outer (d0 := P ++ (x :: R ++ S)) (a := a) (b := b) hs (P := P) (S := S) ha R.length [x] R rfl (List.pairwise_singleton _ _) (by simp only [List.length_singleton]; omega) (by simp)
  refine ⟨W, w1, by simpa using w2, ?_⟩
  simp only [List.length_singleton] at w3
  rw [show a + 1 = (P.length : Int) + ((1 : Nat) : Int) by omega]
  exact w3
end
section
theorem mid_eq {x : Int} (h0 : 0 ≤ x) (h1 : x ≤ 1125899906842624) : IntKind.i64.wrap (Int.fdiv (IntKind.u64.wrap (IntKind.i64.wrap x)) (2 ^ (min (1 : Int).toNat IntKind.u64.bits))) = x / 2 := by
 have e2 : (2 : Int) ^ (min (1 : Int).toNat IntKind.u64.bits) = 2 := by decide
 have eu : IntKind.u64.wrap x = x := by
  show x % (2 ^ 64) = x
  exact Int.emod_eq_of_lt h0 (by omega)
 rw [w64 (x := x) (by omega) (by omega), eu, e2, Int.fdiv_eq_ediv_of_nonneg _ (by decide), w64 (by omega) (by omega)]
theorem cA2 {α β γ : Type} (f : α → β → γ) {a b : α} {c d : β} (h1 : a = b) (h2 : c = d) : f a c = f b d := by rw [h1, h2]
theorem search {R : Type} {body : Int × Int → Option ((Int × Int) ⊕ R)} {p : Int → Bool} {g : Int → Option R} {lo hi : Int}
  (h : ∀ i j, lo ≤ i → i < j → j ≤ hi → body (i, j) = some (.inl (if p ((i + j) / 2) = true then ((i + j) / 2 + 1, j) else (i, (i + j) / 2))))
  (he : ∀ i, lo ≤ i → i ≤ hi → body (i, i) = Option.map Sum.inr (g i)) : ∀ (n : Nat) (i j : Int), (j - i).toNat ≤ n → lo ≤ i → i ≤ j → j ≤ hi → ∃ k, i ≤ k ∧ k ≤ j ∧ (k = i ∨ p (k - 1) = true) ∧ (k = j ∨ p k = false) ∧ loopR body (i, j) = g k
 | 0, i, j, hn, h1, h2, h3 => by
  obtain rfl : i = j := by omega
  exact ⟨i, by omega, by omega, .inl rfl, .inl rfl, by rw [loopR_eq, he i h1 h3, inr_bind]⟩
 | n + 1, i, j, hn, h1, h2, h3 => by
  by_cases e : i = j
  ·subst e
   exact ⟨i, by omega, by omega, .inl rfl, .inl rfl, by rw [loopR_eq, he i h1 h3, inr_bind]⟩
  ·rw [loopR_eq, h i j h1 (by omega) h3]
   by_cases hp : p ((i + j) / 2) = true
   ·rw [if_pos hp]
    obtain ⟨k, k1, k2, k3, k4, k5⟩ := search h he n ((i + j) / 2 + 1) j (by omega) (by omega) (by omega) h3
    refine ⟨k, by omega, k2, .inr ?_, k4, k5⟩
    rcases k3 with rfl | k3
    ·rw [show (i + j) / 2 + 1 - 1 = (i + j) / 2 by omega]; exact hp
    ·exact k3
   ·rw [if_neg hp]
    obtain ⟨k, k1, k2, k3, k4, k5⟩ := search h he n i ((i + j) / 2) (by omega) h1 (by omega) (by omega)
    refine ⟨k, k1, by omega, k3, .inr ?_, k5⟩
    rcases k4 with rfl | k4
    ·simpa using hp
    ·exact k4
theorem nth_app {α : Type} [Inhabited α] {P X S : List α} {k : Nat} (hk : k < X.length) {i : Int} (hi : i = (P.length : Int) + (k : Int)) : nth (P ++ (X ++ S)) i = nth X (k : Int) := by
 subst hi
 have e : (P.length : Int) + (k : Int) = ((P.length + k : Nat) : Int) := by omega
 rw [e, nth_nat (by simp only [List.length_append]; omega), nth_nat hk, List.getElem_append_right (by omega), List.getElem_append_left (by omega)]
 congr 1; omega
theorem put_fwd {d0 : List api_Message} (hd : d0.length ≤ 1099511627776) (P Y1 Y2 : List api_Message) (x : api_Message) {i a : Int} (ha : a = (P.length : Int)) (hi : i = (P.length : Int) + 1 + Y1.length) (hl : (P ++ (x :: (Y1 ++ Y2))).length = d0.length) :
  slices_symMergeCmpFunc_api_Message.l23 d0 i (P ++ (x :: (Y1 ++ Y2)), a) = some (P ++ (Y1 ++ (x :: Y2))) := by
 subst ha hi
 have hl' := hl
 simp only [List.length_append, List.length_cons] at hl'
 unfold slices_symMergeCmpFunc_api_Message.l23
 have hst : ∀ k : Nat, (P ++ (Y1.take k ++ (x :: (Y1.drop k ++ Y2)))).length = d0.length := fun k => by
  simp only [List.length_append, List.length_take, List.length_drop, List.length_cons]; omega
 refine (show loopR _ ((fun k : Nat => (P ++ (Y1.take k ++ (x :: (Y1.drop k ++ Y2))), (P.length : Int) + (k : Int))) 0) = _ from loopR_steps (fun k : Nat => (P ++ (Y1.take k ++ (x :: (Y1.drop k ++ Y2))), (P.length : Int) + (k : Int))) Y1.length (fun k hk => ?_) ?_)
 ·have hl1 := hst k
  simp only [slices_symMergeCmpFunc_api_Message.l23b]
  rw [w64 (x := (P.length : Int) + 1 + Y1.length - 1) (by omega) (by omega), if_pos (by omega), w64 (x := (P.length : Int) + (k : Int) + 1) (by omega) (by omega), if_pos (by rw [hl1]; omega), if_pos (by rw [hl1]; omega), if_pos (by rw [setL_len, hl1]; omega)]
  have e1 : P ++ (Y1.take k ++ (x :: (Y1.drop k ++ Y2))) = (P ++ Y1.take k) ++ x :: ([] ++ Y1[k] :: (Y1.drop (k + 1) ++ Y2)) := by
   rw [List.drop_eq_getElem_cons hk]; simp only [List.append_assoc, List.cons_append, List.nil_append]
  have e2 : P ++ (Y1.take (k + 1) ++ (x :: (Y1.drop (k + 1) ++ Y2))) = (P ++ Y1.take k) ++ Y1[k] :: ([] ++ x :: (Y1.drop (k + 1) ++ Y2)) := by
   rw [List.take_succ_eq_append_getElem hk]; simp only [List.append_assoc, List.cons_append, List.nil_append]
  rw [e1, e2]
  refine cA2 (fun x y => some (Sum.inl (x, y))) ?_ (by omega)
  exact swp_far (by simp only [List.length_append, List.length_take]; omega) (by simp only [List.length_append, List.length_take, List.length_nil]; omega)
 ·have hl1 := hst Y1.length
  simp only [slices_symMergeCmpFunc_api_Message.l23b]
  rw [w64 (x := (P.length : Int) + 1 + Y1.length - 1) (by omega) (by omega), if_neg (by omega), if_pos hl1, List.take_length, List.drop_length]
  rfl
theorem put_bwd {d0 : List api_Message} (hd : d0.length ≤ 1099511627776) (P X2 S : List api_Message) (y : api_Message) {i m : Int} (hi : i = (P.length : Int)) (hm : m = (P.length : Int) + X2.length) (hl : (P ++ (X2 ++ (y :: S))).length = d0.length) :
  slices_symMergeCmpFunc_api_Message.l29 d0 i (P ++ (X2 ++ (y :: S)), m) = some (P ++ (y :: (X2 ++ S))) := by
 subst hi hm
 have hl' := hl
 simp only [List.length_append, List.length_cons] at hl'
 unfold slices_symMergeCmpFunc_api_Message.l29
 have hst : ∀ k : Nat, (P ++ (X2.take k ++ (y :: (X2.drop k ++ S)))).length = d0.length := fun k => by
  simp only [List.length_append, List.length_take, List.length_drop, List.length_cons]; omega
 have e0 : (P ++ (X2 ++ (y :: S)), (P.length : Int) + X2.length) = (fun k : Nat => (P ++ (X2.take (X2.length - k) ++ (y :: (X2.drop (X2.length - k) ++ S))), (P.length : Int) + ((X2.length - k : Nat) : Int))) 0 := by simp
 rw [e0]
 refine loopR_steps (fun k : Nat => (P ++ (X2.take (X2.length - k) ++ (y :: (X2.drop (X2.length - k) ++ S))), (P.length : Int) + ((X2.length - k : Nat) : Int))) X2.length (fun k hk => ?_) ?_
 ·have hl1 := hst (X2.length - k)
  obtain ⟨q, hq⟩ : ∃ q, X2.length - k = q + 1 := ⟨X2.length - k - 1, by omega⟩
  have hq2 : X2.length - (k + 1) = q := by omega
  have hq3 : q < X2.length := by omega
  rw [hq] at hl1
  simp only [hq, hq2, slices_symMergeCmpFunc_api_Message.l29b]
  rw [if_pos (by omega), w64 (x := (P.length : Int) + ((q + 1 : Nat) : Int) - 1) (by omega) (by omega), if_pos (by rw [hl1]; omega), if_pos (by rw [hl1]; omega), if_pos (by rw [setL_len, hl1]; omega)]
  have e1 : P ++ (X2.take (q + 1) ++ (y :: (X2.drop (q + 1) ++ S))) = (P ++ X2.take q) ++ X2[q] :: ([] ++ y :: (X2.drop (q + 1) ++ S)) := by
   rw [List.take_succ_eq_append_getElem hq3]; simp only [List.append_assoc, List.cons_append, List.nil_append]
  have e2 : P ++ (X2.take q ++ (y :: (X2.drop q ++ S))) = (P ++ X2.take q) ++ y :: ([] ++ X2[q] :: (X2.drop (q + 1) ++ S)) := by
   rw [List.drop_eq_getElem_cons hq3]; simp only [List.append_assoc, List.cons_append, List.nil_append]
  rw [e1, e2]
  refine cA2 (fun x y => some (Sum.inl (x, y))) ?_ (by omega)
  exact swp_back (by simp only [List.length_append, List.length_take]; omega) (by simp only [List.length_append, List.length_take, List.length_nil]; omega)
 ·have hl1 := hst 0
  simp only [Nat.sub_self, slices_symMergeCmpFunc_api_Message.l29b]
  rw [if_neg (by omega), if_pos hl1]
  rfl
theorem sym_one (P Y S : List api_Message) (x : api_Message) (hY : SrtM Y) {a m b : Int} (ha : a = (P.length : Int)) (hm : m = (P.length : Int) + 1) (hb : b = (P.length : Int) + 1 + Y.length) (hs : (P ++ (x :: (Y ++ S))).length ≤ 1099511627776) :
  ∃ Z, SrtM Z ∧ Z.Perm (x :: Y) ∧ slices_symMergeCmpFunc_api_Message.l22 (P ++ (x :: (Y ++ S))) a (m, b) = some (P ++ (Z ++ S)) := by
 have hl' := hs
 simp only [List.length_append, List.length_cons] at hl'
 have hlen : (P ++ (x :: (Y ++ S))).length = P.length + (Y.length + S.length + 1) := by simp only [List.length_append, List.length_cons]
 have e1 : P ++ (x :: (Y ++ S)) = (P ++ [x]) ++ (Y ++ S) := by simp
 have nx : nth (P ++ (x :: (Y ++ S))) a = x := nth_mid ha
 have ny : ∀ q : Nat, q < Y.length → nth (P ++ (x :: (Y ++ S))) (m + (q : Int)) = nth Y (q : Int) := fun q hq => by
  rw [e1]; exact nth_app hq (by simp only [List.length_append, List.length_singleton]; omega)
 unfold slices_symMergeCmpFunc_api_Message.l22
 obtain ⟨k, k1, k2, k3, k4, k5⟩ := search (body := slices_symMergeCmpFunc_api_Message.l22b (P ++ (x :: (Y ++ S))) a) (p := fun h => bef (nth (P ++ (x :: (Y ++ S))) h) x) (g := fun i => slices_symMergeCmpFunc_api_Message.l23 (P ++ (x :: (Y ++ S))) i (P ++ (x :: (Y ++ S)), a)) (lo := m) (hi := b)
  (fun i j h1 h2 h3 => by
   simp only [slices_symMergeCmpFunc_api_Message.l22b]
   rw [if_pos h2, mid_eq (by omega) (by omega), if_pos (by rw [hlen]; omega), if_pos (by rw [hlen]; omega), nx]
   obtain ⟨v, ev, hv⟩ := order_eq (nth (P ++ (x :: (Y ++ S))) ((i + j) / 2)) x
   rw [show event_order.f (⟨(nth (P ++ (x :: (Y ++ S))) ((i + j) / 2)).Key, (nth (P ++ (x :: (Y ++ S))) ((i + j) / 2)).To, (nth (P ++ (x :: (Y ++ S))) ((i + j) / 2)).Value, (nth (P ++ (x :: (Y ++ S))) ((i + j) / 2)).Uid, (nth (P ++ (x :: (Y ++ S))) ((i + j) / 2)).Anti⟩ : api_Message) (⟨x.Key, x.To, x.Value, x.Uid, x.Anti⟩ : api_Message) = some v from ev]
   simp only [Option.bind_some]
   by_cases hb' : bef (nth (P ++ (x :: (Y ++ S))) ((i + j) / 2)) x = true
   ·rw [if_pos (hv.2 hb'), if_pos hb', w64 (by omega) (by omega)]
   ·rw [if_neg (fun h => hb' (hv.1 h)), if_neg hb'])
  (fun i h1 h2 => by
   simp only [slices_symMergeCmpFunc_api_Message.l22b]
   rw [if_neg (by omega)]) _ m b (Nat.le_refl _) (Int.le_refl _) (by omega) (Int.le_refl _)
 obtain ⟨q, hq⟩ : ∃ q : Nat, k = m + (q : Int) := ⟨(k - m).toNat, by omega⟩
 subst hq
 have hqY : q ≤ Y.length := by omega
 have eY : Y = Y.take q ++ Y.drop q := (List.take_append_drop _ _).symm
 have l1 : (Y.take q).length = q := by rw [List.length_take]; omega
 have l2 : (Y.drop q).length = Y.length - q := List.length_drop
 have hs12 : SrtM (Y.take q ++ Y.drop q) := by rw [← eY]; exact hY
 obtain ⟨t1, t2, _⟩ := List.pairwise_append.1 hs12
 refine ⟨Y.take q ++ x :: Y.drop q, srt_put hs12 (fun z hz => srt_lastle t1 hz (fun n hn => ?_)) (fun z hz => srt_firstle t2 hz (fun hp => ?_)), ?_, ?_⟩
 ·rcases k3 with k3 | k3
  ·omega
  ·have := leM_of_bef k3
   rw [show m + (q : Int) - 1 = m + (n : Int) by omega, ny n (by omega)] at this
   rw [show nth (Y.take q) (n : Int) = nth Y (n : Int) by rw [nth_nat (by omega), nth_nat (by omega), List.getElem_take]]
   exact this
 ·rcases k4 with k4 | k4
  ·omega
  ·have k4' : leM x (nth (P ++ (x :: (Y ++ S))) (m + (q : Int))) := k4
   rw [ny q (by omega)] at k4'
   rw [show nth (Y.drop q) 0 = nth Y (q : Int) by
    have : nth (Y.drop q) ((0 : Nat) : Int) = _ := nth_nat (by omega)
    rw [show (0 : Int) = ((0 : Nat) : Int) from rfl, this, nth_nat (by omega), List.getElem_drop]; simp]
   exact k4'
 ·conv => rhs; rw [eY]
  exact List.perm_middle
 ·rw [k5]
  have e2 : P ++ (x :: (Y ++ S)) = P ++ (x :: (Y.take q ++ (Y.drop q ++ S))) := by rw [← List.append_assoc, List.take_append_drop]
  have := put_fwd (d0 := P ++ (x :: (Y ++ S))) hs P (Y.take q) (Y.drop q ++ S) x (i := m + (q : Int)) ha (by omega) (by rw [← e2])
  rw [← e2] at this
  rw [this]
  simp
theorem sym_oneB (P X S : List api_Message) (y : api_Message) (hX : SrtM X) {a m : Int} (ha : a = (P.length : Int)) (hm : m = (P.length : Int) + X.length) (hs : (P ++ (X ++ (y :: S))).length ≤ 1099511627776) :
  ∃ Z, SrtM Z ∧ Z.Perm (X ++ [y]) ∧ slices_symMergeCmpFunc_api_Message.l28 (P ++ (X ++ (y :: S))) m (a, m) = some (P ++ (Z ++ S)) := by
 have hl' := hs
 simp only [List.length_append, List.length_cons] at hl'
 have hlen : (P ++ (X ++ (y :: S))).length = P.length + (X.length + (S.length + 1)) := by simp only [List.length_append, List.length_cons]
 have e1 : P ++ (X ++ (y :: S)) = (P ++ X) ++ (y :: S) := by simp
 have ny : nth (P ++ (X ++ (y :: S))) m = y := by rw [e1]; exact nth_mid (by simp only [List.length_append]; omega)
 have nx : ∀ q : Nat, q < X.length → nth (P ++ (X ++ (y :: S))) (a + (q : Int)) = nth X (q : Int) := fun q hq => nth_app hq (by omega)
 unfold slices_symMergeCmpFunc_api_Message.l28
 obtain ⟨k, k1, k2, k3, k4, k5⟩ := search (body := slices_symMergeCmpFunc_api_Message.l28b (P ++ (X ++ (y :: S))) m) (p := fun h => !bef y (nth (P ++ (X ++ (y :: S))) h)) (g := fun i => slices_symMergeCmpFunc_api_Message.l29 (P ++ (X ++ (y :: S))) i (P ++ (X ++ (y :: S)), m)) (lo := a) (hi := m)
  (fun i j h1 h2 h3 => by
   simp only [slices_symMergeCmpFunc_api_Message.l28b]
   rw [if_pos h2, mid_eq (by omega) (by omega), if_pos (by rw [hlen]; omega), if_pos (by rw [hlen]; omega), ny]
   obtain ⟨v, ev, hv⟩ := order_eq y (nth (P ++ (X ++ (y :: S))) ((i + j) / 2))
   rw [show event_order.f (⟨y.Key, y.To, y.Value, y.Uid, y.Anti⟩ : api_Message) (⟨(nth (P ++ (X ++ (y :: S))) ((i + j) / 2)).Key, (nth (P ++ (X ++ (y :: S))) ((i + j) / 2)).To, (nth (P ++ (X ++ (y :: S))) ((i + j) / 2)).Value, (nth (P ++ (X ++ (y :: S))) ((i + j) / 2)).Uid, (nth (P ++ (X ++ (y :: S))) ((i + j) / 2)).Anti⟩ : api_Message) = some v from ev]
   simp only [Option.bind_some]
   by_cases hb' : bef y (nth (P ++ (X ++ (y :: S))) ((i + j) / 2)) = true
   ·rw [if_pos (hv.2 hb'), if_neg (by rw [hb']; simp)]
   ·rw [if_neg (fun h => hb' (hv.1 h)), if_pos (by simpa using hb'), w64 (by omega) (by omega)])
  (fun i h1 h2 => by
   simp only [slices_symMergeCmpFunc_api_Message.l28b]
   rw [if_neg (by omega)]) _ a m (Nat.le_refl _) (Int.le_refl _) (by omega) (Int.le_refl _)
 obtain ⟨q, hq⟩ : ∃ q : Nat, k = a + (q : Int) := ⟨(k - a).toNat, by omega⟩
 subst hq
 have hqX : q ≤ X.length := by omega
 have eX : X = X.take q ++ X.drop q := (List.take_append_drop _ _).symm
 have l1 : (X.take q).length = q := by rw [List.length_take]; omega
 have l2 : (X.drop q).length = X.length - q := List.length_drop
 have hs12 : SrtM (X.take q ++ X.drop q) := by rw [← eX]; exact hX
 obtain ⟨t1, t2, _⟩ := List.pairwise_append.1 hs12
 refine ⟨X.take q ++ y :: X.drop q, srt_put hs12 (fun z hz => srt_lastle t1 hz (fun n hn => ?_)) (fun z hz => srt_firstle t2 hz (fun hp => ?_)), ?_, ?_⟩
 ·rcases k3 with k3 | k3
  ·omega
  ·have k3' : leM (nth (P ++ (X ++ (y :: S))) (a + (q : Int) - 1)) y := by simpa using k3
   rw [show a + (q : Int) - 1 = a + (n : Int) by omega, nx n (by omega)] at k3'
   rw [show nth (X.take q) (n : Int) = nth X (n : Int) by rw [nth_nat (by omega), nth_nat (by omega), List.getElem_take]]
   exact k3'
 ·rcases k4 with k4 | k4
  ·omega
  ·have k4' : bef y (nth (P ++ (X ++ (y :: S))) (a + (q : Int))) = true := by simpa using k4
   rw [nx q (by omega)] at k4'
   rw [show nth (X.drop q) 0 = nth X (q : Int) by
    have : nth (X.drop q) ((0 : Nat) : Int) = _ := nth_nat (by omega)
    rw [show (0 : Int) = ((0 : Nat) : Int) from rfl, this, nth_nat (by omega), List.getElem_drop]; simp]
   exact leM_of_bef k4'
 ·refine List.perm_middle.trans ?_
  rw [List.take_append_drop]
  exact (List.perm_append_singleton y X).symm
 ·rw [k5]
  have e2 : P ++ (X ++ (y :: S)) = (P ++ X.take q) ++ (X.drop q ++ (y :: S)) := by
   rw [List.append_assoc, ← List.append_assoc (X.take q), List.take_append_drop]
  have := put_bwd (d0 := P ++ (X ++ (y :: S))) hs (P ++ X.take q) (X.drop q) S y (i := a + (q : Int)) (m := m) (by simp only [List.length_append]; omega) (by simp only [List.length_append]; omega) (by rw [← e2])
  rw [← e2] at this
  rw [this]
  simp
def RecOn (rec_ : List api_Message → Int → Int → Int → Option (List api_Message)) (n : Nat) : Prop :=
 ∀ (P X Y S : List api_Message), 0 < X.length → 0 < Y.length → X.length + Y.length ≤ n → SrtM X → SrtM Y → (P ++ (X ++ (Y ++ S))).length ≤ 1099511627776 →
  ∃ Z, SrtM Z ∧ Z.Perm (X ++ Y) ∧ rec_ (P ++ (X ++ (Y ++ S))) (P.length : Int) ((P.length : Int) + X.length) ((P.length : Int) + X.length + Y.length) = some (P ++ (Z ++ S))
theorem sym_j34 {rec_ : List api_Message → Int → Int → Int → Option (List api_Message)} {n : Nat} (hR : RecOn rec_ n) {d0 : List api_Message} (hd : d0.length ≤ 1099511627776) {a m b s : Int} (P X Y S : List api_Message) (hX : SrtM X) (hY : SrtM Y) (hn : X.length + Y.length ≤ n) (h0 : 0 ≤ a + b ∧ a + b ≤ 1125899906842624) (hm : 0 ≤ m ∧ m ≤ 1099511627776) (hs0 : 0 ≤ s ∧ s ≤ 1099511627776)
  (e1 : (a + b) / 2 = (P.length : Int)) (e2 : (a + b) / 2 + m - s = (P.length : Int) + X.length) (e3 : b = (P.length : Int) + X.length + Y.length) (hl : (P ++ (X ++ (Y ++ S))).length = d0.length) :
  ∃ Z, SrtM Z ∧ Z.Perm (X ++ Y) ∧ slices_symMergeCmpFunc_api_Message.j34 rec_ d0 a m b s (P ++ (X ++ (Y ++ S))) = some (P ++ (Z ++ S)) := by
 have hl' := hl
 simp only [List.length_append] at hl'
 unfold slices_symMergeCmpFunc_api_Message.j34
 rw [mid_eq h0.1 h0.2, w64 (x := (a + b) / 2 + m) (by omega) (by omega), w64 (x := (a + b) / 2 + m - s) (by omega) (by omega), e2, e1, e3]
 by_cases c1 : (P.length : Int) < (P.length : Int) + X.length
 ·rw [if_pos c1]
  by_cases c2 : (P.length : Int) + X.length < (P.length : Int) + X.length + Y.length
  ·rw [if_pos c2]
   obtain ⟨Z, z1, z2, z3⟩ := hR P X Y S (by omega) (by omega) hn hX hY (by omega)
   have hz := z2.length_eq
   simp only [List.length_append] at hz
   rw [z3]
   simp only [Option.bind_some]
   rw [if_pos (by rw [← hl]; simp only [List.length_append]; omega)]
   exact ⟨Z, z1, z2, rfl⟩
  ·rw [if_neg c2, if_pos hl]
   have : Y = [] := List.length_eq_zero_iff.1 (by omega)
   subst this
   exact ⟨X, hX, by simp, by simp⟩
 ·rw [if_neg c1, if_pos hl]
  have : X = [] := List.length_eq_zero_iff.1 (by omega)
  subst this
  exact ⟨Y, hY, by simp, by simp⟩
theorem sym_j33 {rec_ : List api_Message → Int → Int → Int → Option (List api_Message)} {n : Nat} (hR : RecOn rec_ n) {d0 : List api_Message} (hd : d0.length ≤ 1099511627776) {a m b s : Int} (P X1 Y1 X2 Y2 S : List api_Message) (hX1 : SrtM X1) (hY1 : SrtM Y1) (hX2 : SrtM X2) (hY2 : SrtM Y2) (hn1 : X1.length + Y1.length ≤ n) (hn2 : X2.length + Y2.length ≤ n) (hm : 0 ≤ m ∧ m ≤ 1099511627776)
  (ha : a = (P.length : Int)) (es : s = (P.length : Int) + X1.length) (e1 : (a + b) / 2 = (P.length : Int) + X1.length + Y1.length) (e2 : (a + b) / 2 + m - s = (P.length : Int) + X1.length + Y1.length + X2.length) (e3 : b = (P.length : Int) + X1.length + Y1.length + X2.length + Y2.length) (hl : (P ++ (X1 ++ (Y1 ++ (X2 ++ (Y2 ++ S))))).length = d0.length) :
  ∃ Z1 Z2, SrtM Z1 ∧ Z1.Perm (X1 ++ Y1) ∧ SrtM Z2 ∧ Z2.Perm (X2 ++ Y2) ∧ slices_symMergeCmpFunc_api_Message.j33 rec_ d0 a m b s (P ++ (X1 ++ (Y1 ++ (X2 ++ (Y2 ++ S))))) = some (P ++ (Z1 ++ (Z2 ++ S))) := by
 subst ha; subst es
 have hl' := hl
 simp only [List.length_append] at hl'
 have fin : ∀ Z1 : List api_Message, SrtM Z1 → Z1.Perm (X1 ++ Y1) → ∃ Z2, SrtM Z2 ∧ Z2.Perm (X2 ++ Y2) ∧ slices_symMergeCmpFunc_api_Message.j34 rec_ d0 (P.length : Int) m b ((P.length : Int) + X1.length) (P ++ (Z1 ++ (X2 ++ (Y2 ++ S)))) = some (P ++ (Z1 ++ (Z2 ++ S))) := fun Z1 z1 z2 => by
  have hz := z2.length_eq
  simp only [List.length_append] at hz
  obtain ⟨Z2, w1, w2, w3⟩ := sym_j34 hR hd (a := (P.length : Int)) (m := m) (b := b) (s := (P.length : Int) + X1.length) (P ++ Z1) X2 Y2 S hX2 hY2 hn2 (by omega) hm (by omega) (by simp only [List.length_append]; omega) (by simp only [List.length_append]; omega) (by simp only [List.length_append]; omega) (by simp only [List.length_append]; omega)
  exact ⟨Z2, w1, w2, by simpa using w3⟩
 unfold slices_symMergeCmpFunc_api_Message.j33
 rw [mid_eq (by omega) (by omega), e1]
 by_cases c1 : (P.length : Int) < (P.length : Int) + X1.length
 ·rw [if_pos c1]
  by_cases c2 : (P.length : Int) + X1.length < (P.length : Int) + X1.length + Y1.length
  ·rw [if_pos c2]
   obtain ⟨Z1, z1, z2, z3⟩ := hR P X1 Y1 (X2 ++ (Y2 ++ S)) (by omega) (by omega) hn1 hX1 hY1 (by simp only [List.length_append]; omega)
   obtain ⟨Z2, w1, w2, w3⟩ := fin Z1 z1 z2
   rw [z3]
   simp only [Option.bind_some]
   exact ⟨Z1, Z2, z1, z2, w1, w2, w3⟩
  ·rw [if_neg c2]
   have : Y1 = [] := List.length_eq_zero_iff.1 (by omega)
   subst this
   obtain ⟨Z2, w1, w2, w3⟩ := fin X1 hX1 (by simp)
   exact ⟨X1, Z2, hX1, by simp, w1, w2, by simpa using w3⟩
 ·rw [if_neg c1]
  have : X1 = [] := List.length_eq_zero_iff.1 (by omega)
  subst this
  obtain ⟨Z2, w1, w2, w3⟩ := fin Y1 hY1 (by simp)
  exact ⟨Y1, Z2, hY1, by simp, w1, w2, by simpa using w3⟩
theorem sym_cut {rec_ : List api_Message → Int → Int → Int → Option (List api_Message)} {n : Nat} (hR : RecOn rec_ n) (P X Y S : List api_Message) (hX : SrtM X) (hY : SrtM Y) (hn : X.length + Y.length ≤ n + 1) (h1 : 0 < X.length) (h2 : 0 < Y.length) {a m b s0 r0 : Int} (ha : a = (P.length : Int)) (hm : m = (P.length : Int) + X.length) (hb : b = (P.length : Int) + X.length + Y.length)
  (hs : (P ++ (X ++ (Y ++ S))).length ≤ 1099511627776) (hsr : s0 ≤ r0) (hs0 : s0 = a ∨ s0 = (a + b) / 2 + m - b) (hsa : a ≤ s0) (hr0 : r0 = m ∨ r0 = (a + b) / 2) (hrm : r0 ≤ m) (hrr : r0 ≤ (a + b) / 2) (hse : (a + b) / 2 + m - s0 ≤ b) :
  ∃ Z, SrtM Z ∧ Z.Perm (X ++ Y) ∧ slices_symMergeCmpFunc_api_Message.l32 rec_ (P ++ (X ++ (Y ++ S))) a m b (s0, r0) = some (P ++ (Z ++ S)) := by
 have hl' := hs
 simp only [List.length_append] at hl'
 have hlen : (P ++ (X ++ (Y ++ S))).length = P.length + (X.length + (Y.length + S.length)) := by simp only [List.length_append]
 have hM : (a + b) / 2 < b ∧ a < (a + b) / 2 + 1 := by omega
 have nx : ∀ q : Nat, q < X.length → nth (P ++ (X ++ (Y ++ S))) (a + (q : Int)) = nth X (q : Int) := fun q hq => nth_app hq (by omega)
 have ny : ∀ q : Nat, q < Y.length → nth (P ++ (X ++ (Y ++ S))) (m + (q : Int)) = nth Y (q : Int) := fun q hq => by
  rw [show P ++ (X ++ (Y ++ S)) = (P ++ X) ++ (Y ++ S) by simp]; exact nth_app hq (by simp only [List.length_append]; omega)
 generalize hd : P ++ (X ++ (Y ++ S)) = d at hs hlen nx ny
 unfold slices_symMergeCmpFunc_api_Message.l32
 have hmid : IntKind.i64.wrap (Int.fdiv (IntKind.u64.wrap (IntKind.i64.wrap (a + b))) (2 ^ (min (1 : Int).toNat IntKind.u64.bits))) = (a + b) / 2 := mid_eq (by omega) (by omega)
 obtain ⟨k, k1, k2, k3, k4, k5⟩ := search (body := slices_symMergeCmpFunc_api_Message.l32b rec_ d a m b) (p := fun c => !bef (nth d ((a + b) / 2 + m - 1 - c)) (nth d c)) (g := fun i => if i < m then (if m < (a + b) / 2 + m - i then ((slices_rotateCmpFunc_api_Message.f d i m ((a + b) / 2 + m - i)).bind fun t => slices_symMergeCmpFunc_api_Message.j33 rec_ d a m b i t) else slices_symMergeCmpFunc_api_Message.j33 rec_ d a m b i d) else slices_symMergeCmpFunc_api_Message.j33 rec_ d a m b i d) (lo := s0) (hi := r0)
  (fun i j h1 h2 h3 => by
   simp only [slices_symMergeCmpFunc_api_Message.l32b]
   rw [if_pos h2, hmid, mid_eq (x := i + j) (by omega) (by omega), w64 (x := (a + b) / 2 + m) (by omega) (by omega), w64 (x := (a + b) / 2 + m - 1) (by omega) (by omega), w64 (x := (a + b) / 2 + m - 1 - (i + j) / 2) (by omega) (by omega), if_pos (by rw [hlen]; omega), if_pos (by rw [hlen]; omega)]
   obtain ⟨v, ev, hv⟩ := order_eq (nth d ((a + b) / 2 + m - 1 - (i + j) / 2)) (nth d ((i + j) / 2))
   rw [show event_order.f (⟨(nth d ((a + b) / 2 + m - 1 - (i + j) / 2)).Key, (nth d ((a + b) / 2 + m - 1 - (i + j) / 2)).To, (nth d ((a + b) / 2 + m - 1 - (i + j) / 2)).Value, (nth d ((a + b) / 2 + m - 1 - (i + j) / 2)).Uid, (nth d ((a + b) / 2 + m - 1 - (i + j) / 2)).Anti⟩ : api_Message) (⟨(nth d ((i + j) / 2)).Key, (nth d ((i + j) / 2)).To, (nth d ((i + j) / 2)).Value, (nth d ((i + j) / 2)).Uid, (nth d ((i + j) / 2)).Anti⟩ : api_Message) = some v from ev]
   simp only [Option.bind_some]
   by_cases hb' : bef (nth d ((a + b) / 2 + m - 1 - (i + j) / 2)) (nth d ((i + j) / 2)) = true
   ·rw [if_pos (hv.2 hb'), if_neg (by rw [hb']; simp)]
   ·rw [if_neg (fun h => hb' (hv.1 h)), if_pos (by simpa using hb'), w64 (by omega) (by omega)])
  (fun i h1 h2 => by
   simp only [slices_symMergeCmpFunc_api_Message.l32b]
   rw [if_neg (by omega), hmid, w64 (x := (a + b) / 2 + m) (by omega) (by omega), w64 (x := (a + b) / 2 + m - i) (by omega) (by omega)]) _ s0 r0 (Nat.le_refl _) (Int.le_refl _) hsr (Int.le_refl _)
 rw [k5]
 obtain ⟨q, hq⟩ : ∃ q : Nat, k = a + (q : Int) := ⟨(k - a).toNat, by omega⟩
 obtain ⟨e, he⟩ : ∃ e : Nat, (a + b) / 2 + m - k = m + (e : Int) := ⟨((a + b) / 2 - k).toNat, by omega⟩
 have hqX : q ≤ X.length := by omega
 have heY : e ≤ Y.length := by omega
 have eX : X = X.take q ++ X.drop q := (List.take_append_drop _ _).symm
 have eY : Y = Y.take e ++ Y.drop e := (List.take_append_drop _ _).symm
 have x1 : (X.take q).length = q := by rw [List.length_take]; omega
 have x2 : (X.drop q).length = X.length - q := List.length_drop
 have y1 : (Y.take e).length = e := by rw [List.length_take]; omega
 have y2 : (Y.drop e).length = Y.length - e := List.length_drop
 have hsX : SrtM (X.take q ++ X.drop q) := by rw [← eX]; exact hX
 have hsY : SrtM (Y.take e ++ Y.drop e) := by rw [← eY]; exact hY
 obtain ⟨sx1, sx2, _⟩ := List.pairwise_append.1 hsX
 obtain ⟨sy1, sy2, _⟩ := List.pairwise_append.1 hsY
 have A1B2 : ∀ u ∈ X.take q, ∀ v ∈ Y.drop e, leM u v := fun u hu v hv => by
  refine srt_lastle sx1 hu (fun w hw => ?_)
  refine srt_firstle sy2 hv (fun hp => ?_)
  rcases k3 with k3 | k3
  ·rcases hs0 with h | h <;> omega
  ·have k3' : leM (nth d (k - 1)) (nth d ((a + b) / 2 + m - 1 - (k - 1))) := by simpa using k3
   rw [show (a + b) / 2 + m - 1 - (k - 1) = m + (e : Int) by omega, show k - 1 = a + (w : Int) by omega, nx w (by omega), ny e (by omega)] at k3'
   rw [show nth (X.take q) (w : Int) = nth X (w : Int) by rw [nth_nat (by omega), nth_nat (by omega), List.getElem_take], show nth (Y.drop e) 0 = nth Y (e : Int) by
    have : nth (Y.drop e) ((0 : Nat) : Int) = _ := nth_nat (by omega)
    rw [show (0 : Int) = ((0 : Nat) : Int) from rfl, this, nth_nat (by omega), List.getElem_drop]; simp]
   exact k3'
 have B1A2 : ∀ u ∈ Y.take e, ∀ v ∈ X.drop q, leM u v := fun u hu v hv => by
  refine srt_lastle sy1 hu (fun w hw => ?_)
  refine srt_firstle sx2 hv (fun hp => ?_)
  rcases k4 with k4 | k4
  ·rcases hr0 with h | h <;> omega
  ·have k4' : bef (nth d ((a + b) / 2 + m - 1 - k)) (nth d k) = true := by simpa using k4
   rw [show (a + b) / 2 + m - 1 - k = m + (w : Int) by omega, hq, nx q (by omega), ny w (by omega)] at k4'
   rw [show nth (Y.take e) (w : Int) = nth Y (w : Int) by rw [nth_nat (by omega), nth_nat (by omega), List.getElem_take], show nth (X.drop q) 0 = nth X (q : Int) by
    have : nth (X.drop q) ((0 : Nat) : Int) = _ := nth_nat (by omega)
    rw [show (0 : Int) = ((0 : Nat) : Int) from rfl, this, nth_nat (by omega), List.getElem_drop]; simp]
   exact leM_of_bef k4'
 have fin := sym_j33 hR hs (a := a) (m := m) (b := b) (s := k) P (X.take q) (Y.take e) (X.drop q) (Y.drop e) S sx1 sy1 sx2 sy2 (by omega) (by omega) (by omega) ha (by omega) (by omega) (by omega) (by omega) (by rw [hlen]; simp only [List.length_append]; omega)
 obtain ⟨Z1, Z2, z1, z2, z3, z4, z5⟩ := fin
 obtain ⟨g1, g2⟩ := srt_merge hsX hsY A1B2 B1A2 z1 z3 z2 z4
 refine ⟨Z1 ++ Z2, g1, by rw [← eX, ← eY] at g2; exact g2, ?_⟩
 have z5' : slices_symMergeCmpFunc_api_Message.j33 rec_ d a m b k (P ++ (X.take q ++ (Y.take e ++ (X.drop q ++ (Y.drop e ++ S))))) = some (P ++ (Z1 ++ Z2 ++ S)) := by rw [z5]; simp
 have ed : d = (P ++ X.take q) ++ (X.drop q ++ (Y.take e ++ (Y.drop e ++ S))) := by
  rw [← hd]
  conv => lhs; rw [eX, eY]
  simp only [List.append_assoc]
 have ed' : (P ++ X.take q) ++ (Y.take e ++ (X.drop q ++ (Y.drop e ++ S))) = P ++ (X.take q ++ (Y.take e ++ (X.drop q ++ (Y.drop e ++ S)))) := by simp
 show (if k < m then _ else _) = _
 by_cases c1 : k < m
 ·rw [if_pos c1]
  by_cases c2 : m < (a + b) / 2 + m - k
  ·rw [if_pos c2]
   have := rotate_eq (P ++ X.take q) (X.drop q) (Y.take e) (Y.drop e ++ S) (a := k) (m := m) (b := (a + b) / 2 + m - k) (by omega) (by omega) (by simp only [List.length_append]; omega) (by simp only [List.length_append]; omega) (by simp only [List.length_append]; omega) (by rw [← ed]; exact hs)
   rw [← ed, ed'] at this
   rw [this]
   exact z5'
  ·rw [if_neg c2]
   have h0 : Y.take e = [] := List.length_eq_zero_iff.1 (by omega)
   rw [h0] at ed z5'
   have ed2 : d = P ++ (X.take q ++ ([] ++ (X.drop q ++ (Y.drop e ++ S)))) := by rw [ed]; simp only [List.nil_append, List.append_assoc]
   rw [← ed2] at z5'
   exact z5'
 ·rw [if_neg c1]
  have h0 : X.drop q = [] := List.length_eq_zero_iff.1 (by omega)
  rw [h0] at ed' ed z5'
  have ed2 : d = P ++ (X.take q ++ (Y.take e ++ ([] ++ (Y.drop e ++ S)))) := by rw [ed]; simp
  rw [← ed2] at z5'
  exact z5'
theorem symF_eq : ∀ n, RecOn (slices_symMergeCmpFunc_api_Message.F (n + 1)) n
 | 0 => fun P X Y S h1 h2 h3 => by omega
 | n + 1 => fun P X Y S h1 h2 h3 hX hY hs => by
  have hR := symF_eq n
  have hl' := hs
  simp only [List.length_append] at hl'
  show ∃ Z, SrtM Z ∧ Z.Perm (X ++ Y) ∧ slices_symMergeCmpFunc_api_Message.f0 (slices_symMergeCmpFunc_api_Message.F (n + 1)) _ _ _ _ = _
  unfold slices_symMergeCmpFunc_api_Message.f0
  generalize ha : (P.length : Int) = a
  generalize hm : a + (X.length : Int) = m
  generalize hb : m + (Y.length : Int) = b
  rw [w64 (x := m - a) (by omega) (by omega), w64 (x := b - m) (by omega) (by omega)]
  by_cases c1 : m - a = 1
  ·rw [if_pos c1]
   obtain ⟨x, rfl⟩ : ∃ x, X = [x] := by
    cases X with
    | nil => simp at h1
    | cons x X => cases X with
     | nil => exact ⟨x, rfl⟩
     | cons y X => simp only [List.length_cons] at hm; omega
   obtain ⟨Z, z1, z2, z3⟩ := sym_one P Y S x hY (a := a) (m := m) (b := b) ha.symm (by simp only [List.length_singleton] at hm; omega) (by simp only [List.length_singleton] at hm; omega) (by simpa using hs)
   exact ⟨Z, z1, z2, z3⟩
  ·rw [if_neg c1]
   by_cases c2 : b - m = 1
   ·rw [if_pos c2]
    obtain ⟨y, rfl⟩ : ∃ y, Y = [y] := by
     cases Y with
     | nil => simp at h2
     | cons x X => cases X with
      | nil => exact ⟨x, rfl⟩
      | cons y X => simp only [List.length_cons] at hb; omega
    obtain ⟨Z, z1, z2, z3⟩ := sym_oneB P X S y hX (a := a) (m := m) ha.symm (by omega) (by simpa using hs)
    exact ⟨Z, z1, z2, z3⟩
   ·rw [if_neg c2, mid_eq (by omega) (by omega), w64 (x := (a + b) / 2 + m) (by omega) (by omega), w64 (x := (a + b) / 2 + m - b) (by omega) (by omega)]
    unfold slices_symMergeCmpFunc_api_Message.j30
    by_cases c3 : (a + b) / 2 < m
    ·rw [if_pos c3]
     exact sym_cut hR P X Y S hX hY (by omega) h1 h2 ha.symm (by omega) (by omega) hs (by omega) (.inr rfl) (by omega) (.inr rfl) (by omega) (by omega) (by omega)
    ·rw [if_neg c3]
     exact sym_cut hR P X Y S hX hY (by omega) h1 h2 ha.symm (by omega) (by omega) hs (by omega) (.inl rfl) (by omega) (.inl rfl) (by omega) (by omega) (by omega)
theorem sym_eq (P X Y S : List api_Message) (hX : SrtM X) (hY : SrtM Y) (h1 : 0 < X.length) (h2 : 0 < Y.length) {a m b : Int} (ha : a = (P.length : Int)) (hm : m = (P.length : Int) + X.length) (hb : b = (P.length : Int) + X.length + Y.length) (hs : (P ++ (X ++ (Y ++ S))).length ≤ 1099511627776) :
  ∃ Z, SrtM Z ∧ Z.Perm (X ++ Y) ∧ slices_symMergeCmpFunc_api_Message.f (P ++ (X ++ (Y ++ S))) a m b = some (P ++ (Z ++ S)) := by
 subst ha hm hb
 unfold slices_symMergeCmpFunc_api_Message.f
 exact symF_eq _ P X Y S h1 h2 (by simp only [List.length_append]; omega) hX hY hs
end
section
inductive Blks (s : Nat) : List api_Message → Prop
 | last {l : List api_Message} : l.length ≤ s → SrtM l → Blks s l
 | cons {x l : List api_Message} : x.length = s → SrtM x → Blks s l → Blks s (x ++ l)
theorem Blks.short {s : Nat} {l : List api_Message} (h : Blks s l) (hl : l.length ≤ s) : SrtM l := by
 cases h with
 | last _ h => exact h
 | @cons x l h1 h2 h3 =>
  simp only [List.length_append] at hl
  have : l = [] := List.length_eq_zero_iff.1 (by omega)
  subst this
  simpa using h2
theorem Blks.split {s : Nat} {l : List api_Message} (h : Blks s l) (hl : s < l.length) : ∃ x r, l = x ++ r ∧ x.length = s ∧ SrtM x ∧ Blks s r := by
 cases h with
 | last h1 _ => omega
 | @cons x l h1 h2 h3 => exact ⟨x, l, rfl, h1, h2, h3⟩
theorem Blks.cut {s : Nat} (hs : 0 < s) {l : List api_Message} (h : Blks s l) (hl : s ≤ l.length) : ∃ x r, l = x ++ r ∧ x.length = s ∧ SrtM x ∧ Blks s r := by
 by_cases e : s < l.length
 ·exact h.split e
 ·exact ⟨l, [], by simp, by omega, h.short (by omega), .last (by simp) List.Pairwise.nil⟩
theorem blocks_eq {d0 : List api_Message} (hd : d0.length ≤ 1099511627776) : ∀ (n : Nat) (P R : List api_Message), R.length ≤ n → (P ++ R).length = d0.length →
  ∃ W, Blks 20 W ∧ W.Perm R ∧ loopR (slices_stableCmpFunc_api_Message.l14b d0 (d0.length : Int)) (P ++ R, (P.length : Int), (P.length : Int) + 20) = slices_stableCmpFunc_api_Message.l21 d0 (d0.length : Int) (P ++ W, 20)
 | n, P, R, hn, hl => by
  have hl' := hl
  simp only [List.length_append] at hl'
  rw [loopR_eq]
  simp only [slices_stableCmpFunc_api_Message.l14b]
  by_cases c : (P.length : Int) + 20 ≤ (d0.length : Int)
  ·rw [if_pos c]
   have eR : R = R.take 20 ++ R.drop 20 := (List.take_append_drop _ _).symm
   have r1 : (R.take 20).length = 20 := by rw [List.length_take]; omega
   have r2 : (R.drop 20).length = R.length - 20 := List.length_drop
   obtain ⟨X, x1, x2, x3⟩ := insertion_eq P (R.take 20) (R.drop 20) (a := (P.length : Int)) (b := (P.length : Int) + 20) rfl (by omega) (by simp only [List.length_append]; omega)
   have hx := x2.length_eq
   rw [r1] at hx
   rw [← eR] at x3
   rw [x3]
   simp only [Option.bind_some]
   rw [w64 (x := (P.length : Int) + 20 + 20) (by omega) (by omega)]
   match n, hn with
   | 0, hn => omega
   | n + 1, hn =>
    obtain ⟨W, w1, w2, w3⟩ := blocks_eq hd n (P ++ X) (R.drop 20) (by omega) (by simp only [List.length_append]; omega)
    refine ⟨X ++ W, .cons hx x1 w1, ?_, ?_⟩
    ·conv => rhs; rw [eR]
     exact x2.append w2
    ·simp only [List.length_append, hx] at w3
     show loopR _ (P ++ (X ++ R.drop 20), (P.length : Int) + 20, (P.length : Int) + 20 + 20) = _
     rw [show P ++ (X ++ R.drop 20) = (P ++ X) ++ R.drop 20 by simp, show (P.length : Int) + 20 = ((P.length + 20 : Nat) : Int) by omega, w3]
     simp
  ·rw [if_neg c, inr_bind]
   obtain ⟨W, w1, w2, w3⟩ := insertion_eq P R [] (a := (P.length : Int)) (b := (d0.length : Int)) rfl (by omega) (by simp only [List.length_append, List.length_nil]; omega)
   have hw := w2.length_eq
   simp only [List.append_nil] at w3
   rw [w3]
   simp only [Option.bind_some]
   exact ⟨W, .last (by omega) w1, w2, rfl⟩
theorem pass_eq {N : Int} {s : Nat} (hs : 0 < s) (hs2 : (s : Int) ≤ 1099511627776) : ∀ (n : Nat) (P R : List api_Message), R.length ≤ n → Blks s R → N = (P.length : Int) + R.length → N ≤ 1099511627776 →
  ∃ W, Blks (2 * s) W ∧ W.Perm R ∧ loopR (slices_stableCmpFunc_api_Message.l23b N (s : Int)) (P ++ R, (P.length : Int), (P.length : Int) + 2 * (s : Int)) = some (.inl (P ++ W, (s : Int) * 2))
 | n, P, R, hn, hB, hN, hN1 => by
  rw [loopR_eq]
  simp only [slices_stableCmpFunc_api_Message.l23b]
  rw [w64 (x := (P.length : Int) + (s : Int)) (by omega) (by omega), w64 (x := 2 * (s : Int)) (by omega) (by omega)]
  by_cases c : (P.length : Int) + 2 * (s : Int) ≤ N
  ·rw [if_pos c, w64 (x := (P.length : Int) + 2 * (s : Int) + 2 * (s : Int)) (by omega) (by omega)]
   obtain ⟨X, R1, rfl, x1, x2, x3⟩ := hB.cut hs (by omega)
   simp only [List.length_append] at hN hn
   obtain ⟨Y, R', rfl, y1, y2, y3⟩ := x3.cut hs (by omega)
   simp only [List.length_append] at hN hn
   obtain ⟨Z, z1, z2, z3⟩ := sym_eq P X Y R' x2 y2 (by omega) (by omega) (a := (P.length : Int)) (m := (P.length : Int) + (s : Int)) (b := (P.length : Int) + 2 * (s : Int)) rfl (by omega) (by omega) (by simp only [List.length_append]; omega)
   have hz := z2.length_eq
   simp only [List.length_append] at hz
   rw [z3]
   simp only [Option.bind_some]
   match n, hn with
   | 0, hn => omega
   | n + 1, hn =>
    obtain ⟨W, w1, w2, w3⟩ := pass_eq hs hs2 n (P ++ Z) R' (by omega) y3 (by simp only [List.length_append]; omega) hN1
    refine ⟨Z ++ W, .cons (by omega) z1 w1, ?_, ?_⟩
    ·rw [← List.append_assoc X]; exact z2.append w2
    ·show loopR _ (P ++ (Z ++ R'), (P.length : Int) + 2 * (s : Int), (P.length : Int) + 2 * (s : Int) + 2 * (s : Int)) = _
     rw [show P ++ (Z ++ R') = (P ++ Z) ++ R' by simp, show (P.length : Int) + 2 * (s : Int) = ((P ++ Z).length : Int) by simp only [List.length_append]; omega, w3]
     simp
  ·rw [if_neg c, inr_bind]
   unfold slices_stableCmpFunc_api_Message.j24
   rw [w64 (x := (s : Int) * 2) (by omega) (by omega)]
   by_cases c2 : (P.length : Int) + (s : Int) < N
   ·rw [if_pos c2]
    obtain ⟨X, Y, rfl, x1, x2, x3⟩ := hB.cut hs (by omega)
    simp only [List.length_append] at hN hn
    obtain ⟨Z, z1, z2, z3⟩ := sym_eq P X Y [] x2 (x3.short (by omega)) (by omega) (by omega) (a := (P.length : Int)) (m := (P.length : Int) + (s : Int)) (b := N) rfl (by omega) (by omega) (by simp only [List.length_append, List.length_nil]; omega)
    have hz := z2.length_eq
    simp only [List.length_append] at hz
    simp only [List.append_nil] at z3
    rw [z3]
    exact ⟨Z, .last (by omega) z1, z2, rfl⟩
   ·rw [if_neg c2]
    exact ⟨R, .last (by omega) (hB.short (by omega)), List.Perm.refl _, rfl⟩
theorem passes_eq {d0 : List api_Message} (hd : d0.length ≤ 1099511627776) : ∀ (n : Nat) (s : Nat) (R : List api_Message), 0 < s → d0.length - s ≤ n → Blks s R → R.length = d0.length → (s : Int) ≤ 4398046511104 →
  ∃ W, SrtM W ∧ W.Perm R ∧ loopR (slices_stableCmpFunc_api_Message.l21b d0 (d0.length : Int)) (R, (s : Int)) = some W
 | n, s, R, hs, hn, hB, hl, hs2 => by
  rw [loopR_eq]
  simp only [slices_stableCmpFunc_api_Message.l21b]
  by_cases c : (s : Int) < (d0.length : Int)
  ·rw [if_pos c, w64 (x := 2 * (s : Int)) (by omega) (by omega)]
   unfold slices_stableCmpFunc_api_Message.l23
   obtain ⟨W, w1, w2, w3⟩ := pass_eq hs (by omega) _ [] R (Nat.le_refl _) hB (N := (d0.length : Int)) (by simp only [List.length_nil]; omega) (by omega)
   have hw := w2.length_eq
   simp only [List.nil_append, List.length_nil] at w3
   rw [show (0 : Int) = ((0 : Nat) : Int) from rfl, show 2 * (s : Int) = ((0 : Nat) : Int) + 2 * (s : Int) by omega, w3]
   match n, hn with
   | 0, hn => omega
   | n + 1, hn =>
    obtain ⟨V, v1, v2, v3⟩ := passes_eq hd n (2 * s) W (by omega) (by omega) w1 (by omega) (by omega)
    refine ⟨V, v1, v2.trans w2, ?_⟩
    show loopR _ (W, (s : Int) * 2) = _
    rw [show (s : Int) * 2 = ((2 * s : Nat) : Int) by omega]
    exact v3
  ·rw [if_neg c, if_pos hl]
   exact ⟨R, hB.short (by omega), List.Perm.refl _, rfl⟩
theorem stable_eq (l : List api_Message) (hl : l.length ≤ 1099511627776) : ∃ W, SrtM W ∧ W.Perm l ∧ slices_stableCmpFunc_api_Message.f l (l.length : Int) = some W := by
 unfold slices_stableCmpFunc_api_Message.f slices_stableCmpFunc_api_Message.l14
 obtain ⟨W, w1, w2, w3⟩ := blocks_eq hl _ [] l (Nat.le_refl _) (by simp)
 simp only [List.nil_append, List.length_nil] at w3
 have w3' : loopR (slices_stableCmpFunc_api_Message.l14b l (l.length : Int)) (l, 0, 20) = slices_stableCmpFunc_api_Message.l21 l (l.length : Int) (W, 20) := w3
 rw [w3']
 unfold slices_stableCmpFunc_api_Message.l21
 obtain ⟨V, v1, v2, v3⟩ := passes_eq hl _ 20 W (by decide) (Nat.le_refl _) w1 w2.length_eq (by decide)
 exact ⟨V, v1, v2.trans w2, v3⟩
theorem Sorted_eq (l : List api_Message) (hl : l.length ≤ 1000000) : ∃ W, SrtM W ∧ W.Perm l ∧ event_Sorted.f l = some W := by
 obtain ⟨W, w1, w2, w3⟩ := stable_eq l (by omega)
 refine ⟨W, w1, w2, ?_⟩
 unfold event_Sorted.f event_sorted_api_Message.f slices_Clone_api_Message_api_Message.f slices_Clone_api_Message_api_Message_3.f slices_SortStableFunc_api_Message_api_Message.f
 rw [if_pos (by simp only [List.length_nil]; omega)]
 simp only [List.nil_append, Option.bind_some]
 rw [w3]
 simp only [Option.bind_some]
 rw [if_pos w2.length_eq]
 rfl
end
section
def snd (m : api_Message) : Int × Int := (m.Key.From, m.Uid)
structure QOK (l : List api_Message) : Prop where
 heap : HpL l
 nodup : (l.map snd).Nodup
 small : l.length ≤ 16384
theorem QOK.nil : QOK [] := ⟨HpL.nil, List.nodup_nil, Nat.zero_le _⟩
def qof (l : List api_Message) : pend_Pend := ⟨⟨l⟩⟩
theorem qPush_eq {l : List api_Message} {m : api_Message} (h : QOK l) :
  (snd m ∈ l.map snd ∧ pend_Pend_Push.f (qof l) m = some (8, qof l)) ∨ (snd m ∉ l.map snd ∧ l.length = 16384 ∧ pend_Pend_Push.f (qof l) m = some (9, qof l)) ∨
  (snd m ∉ l.map snd ∧ l.length < 16384 ∧ ∃ W, pend_Pend_Push.f (qof l) m = some (0, qof W) ∧ W.Perm (m :: l) ∧ QOK W) := by
 have hs := h.small
 obtain ⟨v, e, hv⟩ := find_eq ⟨l⟩ m.Key.From m.Uid (by show l.length ≤ _; omega)
 have hm : snd m ∈ l.map snd ↔ 0 ≤ v := by
  rcases hv with ⟨ev, hv⟩ | ⟨k, hk, ev, h1, h2⟩
  ·refine ⟨fun hc => ?_, fun hc => by omega⟩
   obtain ⟨x, hx, ex⟩ := List.mem_map.1 hc
   refine absurd ?_ (hv x hx)
   simp only [snd, Prod.mk.injEq] at ex; exact ex
  ·refine ⟨fun _ => by omega, fun _ => List.mem_map.2 ⟨_, at_mem hk, ?_⟩⟩
   simp only [snd, Prod.mk.injEq]; exact ⟨h1, h2⟩
 unfold pend_Pend_Push.f pend_Pend_none.f heap_Heap_Push.f heap_Heap_none.f
 simp only [Option.bind_some]
 show _ ∧ Option.bind (Option.bind (heap_Heap_find.f ⟨l⟩ _ _) _) _ = _ ∨ _ ∧ _ ∧ Option.bind (Option.bind (heap_Heap_find.f ⟨l⟩ _ _) _) _ = _ ∨ _ ∧ _ ∧ ∃ W, Option.bind (Option.bind (heap_Heap_find.f ⟨l⟩ _ _) _) _ = _ ∧ _
 rw [e]
 simp only [Option.bind_some]
 by_cases h0 : 0 ≤ v
 ·exact .inl ⟨hm.2 h0, by rw [if_pos h0]; rfl⟩
 rw [if_neg h0]
 by_cases hf : 16384 ≤ l.length
 ·refine .inr (.inl ⟨fun hc => h0 (hm.1 hc), by omega, ?_⟩)
  rw [if_pos (show (16384 : Int) ≤ ((qof l).q.p_l.length : Int) by show (16384 : Int) ≤ (l.length : Int); omega)]; rfl
 ·refine .inr (.inr ⟨fun hc => h0 (hm.1 hc), by omega, ?_⟩)
  rw [if_neg (show ¬ (16384 : Int) ≤ ((qof l).q.p_l.length : Int) by show ¬ (16384 : Int) ≤ (l.length : Int); omega)]
  obtain ⟨W, eW, p, q⟩ := push_eq (l := l) (m := m) (by omega) h.heap
  refine ⟨W, ?_, p, q, ?_, by rw [p.length_eq]; simp only [List.length_cons]; omega⟩
  ·show Option.bind (Option.bind (heap_pile_api_Message_push.f l m) _) _ = _
   rw [eW]; rfl
  ·rw [(p.map snd).nodup_iff, List.map_cons, List.nodup_cons]
   exact ⟨fun hc => h0 (hm.1 hc), h.nodup⟩
theorem qFirst_nil : pend_Pend_First.f (qof []) = some ((⟨(⟨0, 0, 0⟩ : api_Key), 0, 0, 0, false⟩ : api_Message), 6) := rfl
theorem qFirst_eq {l : List api_Message} (h : 0 < l.length) : pend_Pend_First.f (qof l) = some (at_ l 0, 0) := by
 unfold pend_Pend_First.f pend_Pend_none.f heap_Heap_First.f heap_Heap_none.f
 simp only [Option.bind_some]
 rw [if_neg (show ¬ ((qof l).q.p_l.length : Int) = 0 by show ¬ (l.length : Int) = 0; omega), if_pos (show (0 : Int) < ((qof l).q.p_l.length : Int) by show (0 : Int) < (l.length : Int); omega)]
 rfl
theorem qCut_eq {l : List api_Message} (h : QOK l) (fr uid : Int) :
  ((fr, uid) ∉ l.map snd ∧ pend_Pend_Cut.f (qof l) fr uid = some ((⟨(⟨0, 0, 0⟩ : api_Key), 0, 0, 0, false⟩ : api_Message), 6, qof l)) ∨
  (∃ m W, m ∈ l ∧ snd m = (fr, uid) ∧ pend_Pend_Cut.f (qof l) fr uid = some (m, 0, qof W) ∧ (m :: W).Perm l ∧ QOK W) := by
 have hs := h.small
 obtain ⟨v, e, hv⟩ := find_eq ⟨l⟩ fr uid (by show l.length ≤ _; omega)
 unfold pend_Pend_Cut.f pend_Pend_none.f heap_Heap_Cut.f heap_Heap_none.f
 simp only [Option.bind_some]
 show _ ∧ Option.bind (Option.bind (heap_Heap_find.f ⟨l⟩ _ _) _) _ = _ ∨ ∃ m W, _ ∧ _ ∧ Option.bind (Option.bind (heap_Heap_find.f ⟨l⟩ _ _) _) _ = _ ∧ _
 rw [e]
 simp only [Option.bind_some]
 rcases hv with ⟨ev, hv⟩ | ⟨k, hk, ev, h1, h2⟩
 ·refine .inl ⟨fun hc => ?_, by rw [if_pos (by omega)]; rfl⟩
  obtain ⟨x, hx, ex⟩ := List.mem_map.1 hc
  refine absurd ?_ (hv x hx)
  simp only [snd, Prod.mk.injEq] at ex; exact ex
 ·have hk' : k < l.length := hk
  obtain ⟨W, eW, p, q⟩ := cut_eq hk' (by omega) h.heap
  have hl := p.length_eq
  simp only [List.length_cons] at hl
  refine .inr ⟨at_ l k, W, at_mem hk', ?_, ?_, p, q, ?_, by omega⟩
  ·show (_, _) = _; rw [show (at_ l k).Key.From = fr from h1, show (at_ l k).Uid = uid from h2]
  ·rw [if_neg (by omega), ev]
   show Option.bind (Option.bind (heap_pile_api_Message_cut.f l (k : Int)) _) _ = _
   rw [eW]; rfl
  ·have := (p.map snd).nodup_iff.2 h.nodup
   rw [List.map_cons, List.nodup_cons] at this
   exact this.2
theorem qAll_eq {l : List api_Message} (h : l.length ≤ 1000000) : ∃ W, pend_Pend_All.f (qof l) = some W ∧ SrtM W ∧ W.Perm l := by
 obtain ⟨W, s, p, e⟩ := Sorted_eq l h
 refine ⟨W, ?_, s, p⟩
 unfold pend_Pend_All.f pend_Pend_none.f heap_Heap_All.f heap_Heap_none.f
 simp only [Option.bind_some]
 show Option.bind (Option.bind (event_Sorted.f l) _) _ = _
 rw [e]; rfl
end
section
section
variable {κ ν : Type} [DecidableEq κ]
theorem findE_shift (k : κ) : ∀ (es : List (κ × ν)) (i : Nat), findE es k (i + 1) = (findE es k i).map (fun r => (r.1 + 1, r.2))
 | [], _ => rfl
 | e :: es, i => by
  unfold findE
  by_cases h : e.1 = k
  ·rw [if_pos h, if_pos h]; rfl
  ·rw [if_neg h, if_neg h]; exact findE_shift k es (i + 1)
theorem mget_nil (k : κ) : mget ([] : List (κ × ν)) k = none := rfl
theorem mget_cons (e : κ × ν) (es : List (κ × ν)) (k : κ) : mget (e :: es) k = if e.1 = k then some e.2 else mget es k := by
 unfold mget
 rw [findE]
 by_cases h : e.1 = k
 ·rw [if_pos h, if_pos h]; rfl
 ·rw [if_neg h, if_neg h, findE_shift, Option.map_map]; rfl
theorem mset_cons (e : κ × ν) (es : List (κ × ν)) (k : κ) (v : ν) : mset (e :: es) k v = if e.1 = k then (k, v) :: es else e :: mset es k v := by
 unfold mset
 rw [findE]
 by_cases h : e.1 = k
 ·rw [if_pos h, if_pos h]; rfl
 ·rw [if_neg h, if_neg h, findE_shift]
  cases findE es k 0 <;> rfl
theorem mdel_cons (e : κ × ν) (es : List (κ × ν)) (k : κ) : mdel (e :: es) k = if e.1 = k then es else e :: mdel es k := by
 unfold mdel
 rw [findE]
 by_cases h : e.1 = k
 ·rw [if_pos h, if_pos h]; rfl
 ·rw [if_neg h, if_neg h, findE_shift]
  cases findE es k 0 <;> rfl
theorem mget_mset (k k' : κ) (v : ν) : ∀ es : List (κ × ν), mget (mset es k v) k' = if k = k' then some v else mget es k'
 | [] => by
  show mget [(k, v)] k' = _
  rw [mget_cons]
 | e :: es => by
  rw [mset_cons]
  by_cases h : e.1 = k
  ·rw [if_pos h, mget_cons, mget_cons]
   by_cases h' : k = k'
   ·rw [if_pos h', if_pos h']
   ·rw [if_neg h', if_neg h', if_neg (by rw [h]; exact h')]
  ·rw [if_neg h, mget_cons, mget_cons, mget_mset k k' v es]
   by_cases h1 : e.1 = k'
   ·rw [if_pos h1, if_pos h1, if_neg (fun h2 => h (h1.trans h2.symm))]
   ·rw [if_neg h1, if_neg h1]
def keysL (es : List (κ × ν)) : List κ := es.map (·.1)
theorem mem_keys_mset (k k' : κ) (v : ν) : ∀ es : List (κ × ν), k' ∈ keysL (mset es k v) ↔ k' = k ∨ k' ∈ keysL es
 | [] => by show k' ∈ [k] ↔ _; simp [keysL]
 | e :: es => by
  rw [mset_cons]
  by_cases h : e.1 = k
  ·rw [if_pos h]; simp [keysL, h]
  ·rw [if_neg h]
   have ih := mem_keys_mset k k' v es
   simp only [keysL, List.map_cons, List.mem_cons] at ih ⊢
   rw [ih]
   constructor
   ·rintro (h1 | h1 | h1)
    ·exact .inr (.inl h1)
    ·exact .inl h1
    ·exact .inr (.inr h1)
   ·rintro (h1 | h1 | h1)
    ·exact .inr (.inl h1)
    ·exact .inl h1
    ·exact .inr (.inr h1)
theorem mset_nodup (k : κ) (v : ν) : ∀ es : List (κ × ν), (keysL es).Nodup → (keysL (mset es k v)).Nodup
 | [], _ => by show [k].Nodup; simp
 | e :: es, h => by
  rw [mset_cons]
  simp only [keysL, List.map_cons, List.nodup_cons] at h
  by_cases h' : e.1 = k
  ·rw [if_pos h']
   simp only [keysL, List.map_cons, List.nodup_cons]
   rw [← h']; exact h
  ·rw [if_neg h']
   have ih := mset_nodup k v es h.2
   simp only [keysL, List.map_cons, List.nodup_cons] at ih ⊢
   refine ⟨fun hc => ?_, ih⟩
   rcases (mem_keys_mset k e.1 v es).1 hc with h1 | h1
   ·exact h' h1
   ·exact h.1 h1
theorem mem_keys_mdel (k k' : κ) : ∀ es : List (κ × ν), k' ∈ keysL (mdel es k) → k' ∈ keysL es
 | [], h => by cases h
 | e :: es, h => by
  rw [mdel_cons] at h
  by_cases h' : e.1 = k
  ·rw [if_pos h'] at h; exact List.mem_cons_of_mem _ h
  ·rw [if_neg h'] at h
   simp only [keysL, List.map_cons, List.mem_cons] at h ⊢
   exact h.imp id (mem_keys_mdel k k' es)
theorem mdel_nodup (k : κ) : ∀ es : List (κ × ν), (keysL es).Nodup → (keysL (mdel es k)).Nodup
 | [], h => h
 | e :: es, h => by
  rw [mdel_cons]
  simp only [keysL, List.map_cons, List.nodup_cons] at h
  by_cases h' : e.1 = k
  ·rw [if_pos h']; exact h.2
  ·rw [if_neg h']
   have ih := mdel_nodup k es h.2
   simp only [keysL, List.map_cons, List.nodup_cons] at ih ⊢
   exact ⟨fun hc => h.1 (mem_keys_mdel k e.1 es hc), ih⟩
theorem mget_keys (k : κ) : ∀ es : List (κ × ν), k ∉ keysL es → mget es k = none
 | [], _ => rfl
 | e :: es, h => by
  simp only [keysL, List.map_cons, List.mem_cons, not_or] at h
  rw [mget_cons, if_neg (fun e1 => h.1 e1.symm)]
  exact mget_keys k es h.2
theorem mget_mdel (k k' : κ) : ∀ es : List (κ × ν), (keysL es).Nodup → mget (mdel es k) k' = if k = k' then none else mget es k'
 | [], _ => by show mget [] k' = _; rw [mget_nil]; split <;> rfl
 | e :: es, h => by
  rw [mdel_cons]
  simp only [keysL, List.map_cons, List.nodup_cons] at h
  by_cases h' : e.1 = k
  ·rw [if_pos h']
   by_cases h2 : k = k'
   ·rw [if_pos h2]; exact mget_keys k' es (by rw [← h2, ← h']; exact h.1)
   ·rw [if_neg h2, mget_cons, if_neg (by rw [h']; exact h2)]
  ·rw [if_neg h', mget_cons, mget_cons, mget_mdel k k' es h.2]
   by_cases h1 : e.1 = k'
   ·rw [if_pos h1, if_pos h1, if_neg (fun h2 => h' (h1.trans h2.symm))]
   ·rw [if_neg h1, if_neg h1]
end
end
section
def shapeOf (op : Int) : ByteArray := nth ([lit_2d2d2d, lit_726e2d, lit_72722d, lit_rrr, lit_rrr, lit_rrr, lit_rrr, lit_rrr, lit_rrr, lit_rrr, lit_702d2d, lit_72702d, lit_rrr, lit_72722d, lit_722d2d, lit_722d2d, lit_722d2d] : List ByteArray) op
theorem ops17 {p : Int → Prop} (op : Int) (h0 : 0 ≤ op) (h1 : op < 17) (h : ∀ k : Fin 17, p (k.val : Int)) : p op := by
 have := h ⟨op.toNat, by omega⟩
 have e : ((op.toNat : Nat) : Int) = op := Int.toNat_of_nonneg h0
 exact e ▸ this
theorem op_facts (op : Int) (h0 : 0 ≤ op) (h1 : op < 17) : (shapeOf op).size = 3 ∧ True ∧ True ∧ True ∧ True :=
 ops17 (p := fun op => (shapeOf op).size = 3 ∧ True ∧ True ∧ True ∧ True) op h0 h1 (by decide)
def rightB (n kind many : Int) : Bool := if kind = 110 then decide (-2147483648 ≤ n ∧ n ≤ 2147483647) else if kind = 112 then decide (0 ≤ n ∧ n ≤ many) else if kind = 114 then decide (0 ≤ n ∧ n ≤ 15) else decide (0 ≤ n ∧ n ≤ 0)
theorem code_right_eq (n kind many : Int) : code_right.f n kind many = some (rightB n kind many) := by
 unfold code_right.f rightB code_right.j2
 split
 ·split <;> simp_all <;> omega
 ·split
  ·split <;> simp_all <;> omega
  ·split
   ·split <;> simp_all <;> omega
   ·split <;> simp_all <;> omega
def mayB (i : api_Instr) (n : Int) : Bool := if 0 ≤ i.Op ∧ i.Op < 17 then rightB i.A (bt (shapeOf i.Op) 0) n && (rightB i.B (bt (shapeOf i.Op) 1) n && rightB i.C (bt (shapeOf i.Op) 2) n) else false
theorem code_may_eq (i : api_Instr) (n : Int) : code_may.f i n = some (mayB i n) := by
 unfold code_may.f mayB
 by_cases h0 : i.Op < 0
 ·rw [if_pos h0, if_neg (by omega)]
 ·by_cases h1 : 17 ≤ i.Op
  ·rw [if_neg h0, if_pos h1, if_neg (by omega)]
  ·obtain ⟨f1, -, -, -, -⟩ := op_facts i.Op (by omega) (by omega)
   have hsh : nth ([lit_2d2d2d, lit_726e2d, lit_72722d, lit_rrr, lit_rrr, lit_rrr, lit_rrr, lit_rrr, lit_rrr, lit_rrr, lit_702d2d, lit_72702d, lit_rrr, lit_72722d, lit_722d2d, lit_722d2d, lit_722d2d] : List ByteArray) i.Op = shapeOf i.Op := rfl
   rw [if_neg h0, if_neg h1]
   simp only [code_shapes.f, Option.bind_some, hsh, code_right_eq]
   have hp : 0 ≤ i.Op ∧ i.Op < 17 := by omega
   rw [if_pos hp, if_pos hp, if_pos (by omega)]
   by_cases a1 : rightB i.A (bt (shapeOf i.Op) 0) n = true
   ·rw [if_pos a1, if_pos (by omega)]
    by_cases a2 : rightB i.B (bt (shapeOf i.Op) 1) n = true
    ·rw [if_pos a2, if_pos (by omega)]
     simp [a1, a2]
    ·rw [if_neg a2]
     simp [a2]
   ·rw [if_neg a1]
    simp [a1]
theorem op_cases {op : Int} (h0 : 0 ≤ op) (h1 : op < 17) : op = 0 ∨ op = 1 ∨ op = 2 ∨ op = 3 ∨ op = 4 ∨ op = 5 ∨ op = 6 ∨ op = 7 ∨ op = 8 ∨ op = 9 ∨ op = 10 ∨ op = 11 ∨ op = 12 ∨ op = 13 ∨ op = 14 ∨ op = 15 ∨ op = 16 := by omega
def chk (l : List api_Instr) : Int := if 256 < (l.length : Int) then 2 else match (List.range l.length).find? (fun k : Nat => !mayB (nth l (k : Int)) (l.length : Int)) with | some _ => 130 | none => 0
theorem code_check_eq (l : List api_Instr) : code_Check.f l = some (chk l) := by
 unfold code_Check.f code_check.f chk
 by_cases h : 256 < (l.length : Int)
 ·rw [if_pos h, if_pos h]; rfl
 ·rw [if_neg h, if_neg h]
  unfold code_check.l2
  rw [loopR_find (fun k : Nat => !mayB (nth l (k : Int)) (l.length : Int)) (fun k => .inr (.inl ((k : Int), 130))) (.inr (.inr ())) l.length (fun k hk => by
   simp only [code_check.l2b, code_may_eq, Option.bind_some]
   rw [if_pos (by omega), if_pos (by omega), w64 (by omega) (by omega)]
   by_cases hm : mayB (nth l (k : Int)) (l.length : Int) = true
   ·rw [if_pos hm]; simp [hm]
   ·rw [if_neg hm]; simp [hm]) (by simp only [code_check.l2b]; rw [if_neg (by omega)])]
  cases (List.range l.length).find? (fun k : Nat => !mayB (nth l (k : Int)) (l.length : Int)) with
  | none => rfl
  | some k => rfl
end
section
def timeB (n : Int) : Bool := decide (0 ≤ n ∧ n ≤ 4611686018427387903)
theorem valid_eq (n : Int) : vtime_Valid.f n = some (timeB n) := by
 unfold vtime_Valid.f timeB
 by_cases h : 0 ≤ n <;> simp [h]
def laneB (m : api_Model) (n : Int) : Bool := decide (0 ≤ n ∧ n < (m.Progs.length : Int))
theorem lane_eq (m : api_Model) (n : Int) : model_lane.f m n = some (laneB m n) := by
 unfold model_lane.f laneB
 by_cases h : 0 ≤ n <;> simp [h]
def sizesB (m : api_Model) : Bool := decide (1 ≤ m.Progs.length ∧ m.Progs.length ≤ 16) && timeB m.End && decide (0 ≤ m.Budget ∧ m.Budget ≤ 4096)
theorem sizes_eq (m : api_Model) : model_sizes.f m = some (if sizesB m then .inr () else .inl 1) := by
 unfold model_sizes.f sizesB
 rw [valid_eq]
 by_cases h1 : (m.Progs.length : Int) < 1
 ·rw [if_pos h1]; simp [show ¬ (1 ≤ m.Progs.length) by omega]
 rw [if_neg h1]
 by_cases h2 : 16 < (m.Progs.length : Int)
 ·rw [if_pos h2]; simp [show ¬ (m.Progs.length ≤ 16) by omega]
 rw [if_neg h2]
 simp only [Option.bind_some]
 cases h3 : timeB m.End with
 | false => simp
 | true =>
  rw [if_pos rfl]
  have h12 : (1 ≤ m.Progs.length ∧ m.Progs.length ≤ 16) := by omega
  by_cases h4 : m.Budget < 0
  ·rw [if_pos h4]; simp [show ¬ (0 ≤ m.Budget) by omega]
  rw [if_neg h4]
  by_cases h5 : 4096 < m.Budget
  ·rw [if_pos h5]; simp [show ¬ (m.Budget ≤ 4096) by omega]
  rw [if_neg h5]
  simp [h12, show 0 ≤ m.Budget by omega, show m.Budget ≤ 4096 by omega]
def progBad (m : api_Model) (k : Nat) : Bool := !decide (chk (nth m.Progs (k : Int)) = 0)
theorem join_eq (a : model_flaw) (e : Int) : errors_Join.f a e = some (a, e) := by
 unfold errors_Join.f
 rfl
theorem programs_eq (m : api_Model) (hp : m.Progs.length ≤ 16) : model_programs.f m = some (match (List.range m.Progs.length).find? (progBad m) with | some k => .inl (⟨(k : Int), 130⟩, chk (nth m.Progs (k : Int))) | none => .inr ()) := by
 unfold model_programs.f model_programs.l2
 refine (loopR_findS (fun k => ((k : Nat) : Int)) (progBad m) (fun k => .inl (⟨(k : Int), 130⟩, chk (nth m.Progs (k : Int)))) (.inr ()) m.Progs.length (fun k hk _ => ?_) (fun _ => ?_)).trans (by cases (List.range m.Progs.length).find? (progBad m) <;> rfl)
 ·simp only [model_programs.l2b, code_check_eq, Option.bind_some, join_eq]
  rw [if_pos (by omega), if_pos (by omega), w64 (by omega) (by omega)]
  unfold progBad
  by_cases h : chk (nth m.Progs (k : Int)) = 0 <;> simp [h]
 ·simp only [model_programs.l2b]
  rw [if_neg (by omega)]
def linkOK (m : api_Model) (l : api_Link) : Bool := laneB m l.From && laneB m l.To && decide (1 ≤ l.Look ∧ l.Look ≤ 4611686018427387903)
def same2 (a b : api_Link) : Bool := decide (a.From = b.From ∧ a.To = b.To)
def linkBad (m : api_Model) (k : Nat) : Bool := !linkOK m (nth m.Links (k : Int)) || (List.range k).any (fun j => same2 (nth m.Links (j : Int)) (nth m.Links (k : Int)))
def adr (l : api_Link) : Nat := l.From.toNat * 16 + l.To.toNat * 1
def seen (m : api_Model) : Nat → Nat → Bool
 | 0 => fun _ => false
 | k + 1 => upd (seen m k) (adr (nth m.Links (k : Int))) true
theorem seen_eq (m : api_Model) (a : Nat) : ∀ k, seen m k a = (List.range k).any (fun j => decide (adr (nth m.Links (j : Int)) = a))
 | 0 => rfl
 | k + 1 => by
  rw [List.range_succ, List.any_append, ← seen_eq m a k]
  show upd (seen m k) (adr (nth m.Links (k : Int))) true a = _
  unfold upd
  by_cases h : a = adr (nth m.Links (k : Int))
  ·rw [if_pos h]; simp [h]
  ·rw [if_neg h]; simp [Ne.symm h]
theorem linkOK_of {m : api_Model} {l : api_Link} (h : linkOK m l = true) : (0 ≤ l.From ∧ l.From < (m.Progs.length : Int)) ∧ (0 ≤ l.To ∧ l.To < (m.Progs.length : Int)) ∧ 1 ≤ l.Look ∧ l.Look ≤ 4611686018427387903 := by
 simpa [linkOK, laneB, and_assoc] using h
theorem links_eq (m : api_Model) (hp : m.Progs.length ≤ 16) : model_links.f m = some (if 1024 < (m.Links.length : Int) then .inl 131 else match (List.range m.Links.length).find? (linkBad m) with | some k => .inr (.inl ⟨(k : Int), 131⟩) | none => .inr (.inr ())) := by
 unfold model_links.f
 by_cases h : 1024 < (m.Links.length : Int)
 ·rw [if_pos h, if_pos h]
 rw [if_neg h, if_neg h]
 unfold model_links.l2
 refine (loopR_findS (fun k => (seen m k, ((k : Nat) : Int))) (linkBad m) (fun k => .inr (.inl ⟨(k : Int), 131⟩)) (.inr (.inr ())) m.Links.length (fun k hk hb => ?_) (fun _ => ?_)).trans (by cases (List.range m.Links.length).find? (linkBad m) <;> rfl)
 ·simp only [model_links.l2b, lane_eq, Option.bind_some]
  rw [if_pos (by omega), if_pos (by omega)]
  generalize hl : nth m.Links (k : Int) = l
  have hbad : linkBad m k = (!linkOK m l || (List.range k).any (fun j => same2 (nth m.Links (j : Int)) l)) := by rw [← hl]; rfl
  rw [hbad]
  by_cases h1 : laneB m l.From = true
  ·rw [if_pos h1]
   by_cases h2 : laneB m l.To = true
   ·rw [if_pos h2]
    by_cases h3 : l.Look < 1
    ·rw [if_pos h3]; simp [linkOK, show ¬ (1 ≤ l.Look) by omega]
    rw [if_neg h3]
    by_cases h4 : 4611686018427387903 < l.Look
    ·rw [if_pos h4]; simp [linkOK, show ¬ (l.Look ≤ 4611686018427387903) by omega]
    rw [if_neg h4]
    have hok : linkOK m l = true := by simp [linkOK, h1, h2, show 1 ≤ l.Look by omega, show l.Look ≤ 4611686018427387903 by omega]
    obtain ⟨⟨f0, f1⟩, ⟨t0, t1⟩, _⟩ := linkOK_of hok
    rw [if_pos (by omega), if_pos (by omega)]
    have hseen : seen m k (l.From.toNat * 16 + l.To.toNat * 1) = (List.range k).any (fun j => same2 (nth m.Links (j : Int)) l) := by
     rw [seen_eq]
     apply Bool.eq_iff_iff.2
     simp only [List.any_eq_true, List.mem_range, decide_eq_true_eq, same2]
     refine exists_congr fun j => and_congr_right fun hj => ?_
     have hjb := hb j hj
     have hjo : linkOK m (nth m.Links (j : Int)) = true := by
      unfold linkBad at hjb
      simp only [Bool.or_eq_false_iff, Bool.not_eq_false'] at hjb
      exact hjb.1
     obtain ⟨⟨g0, g1⟩, ⟨u0, u1⟩, _⟩ := linkOK_of hjo
     unfold adr
     constructor
     ·intro e; constructor <;> omega
     ·rintro ⟨e1, e2⟩; rw [e1, e2]
    rw [hseen, hok]
    by_cases h5 : (List.range k).any (fun j => same2 (nth m.Links (j : Int)) l) = true
    ·rw [if_pos h5, h5]; rfl
    ·rw [if_neg h5]
     simp only [Bool.not_eq_true] at h5
     rw [h5, w64 (by omega) (by omega)]
     show some (Sum.inl (upd (seen m k) _ true, (k : Int) + 1)) = some (Sum.inl (upd (seen m k) (adr (nth m.Links (k : Int))) true, _))
     rw [hl]; rfl
   ·rw [if_neg h2]; simp [linkOK, h2]
  ·rw [if_neg h1]; simp [linkOK, h1]
 ·simp only [model_links.l2b]
  rw [if_neg (by omega)]
def startOK (m : api_Model) (s : api_Start) : Bool := laneB m s.To && timeB s.Time
def startBad (m : api_Model) (k : Nat) : Bool := !startOK m (nth m.Starts (k : Int))
theorem starts_eq (m : api_Model) : model_starts.f m = some (if 4096 < (m.Starts.length : Int) then .inl 132 else match (List.range m.Starts.length).find? (startBad m) with | some k => .inr (.inl ⟨(k : Int), 132⟩) | none => .inr (.inr ())) := by
 unfold model_starts.f
 by_cases h : 4096 < (m.Starts.length : Int)
 ·rw [if_pos h, if_pos h]
 rw [if_neg h, if_neg h]
 unfold model_starts.l2
 refine (loopR_findS (fun k => ((k : Nat) : Int)) (startBad m) (fun k => .inr (.inl ⟨(k : Int), 132⟩)) (.inr (.inr ())) m.Starts.length (fun k hk hb => ?_) (fun _ => ?_)).trans (by cases (List.range m.Starts.length).find? (startBad m) <;> rfl)
 ·simp only [model_starts.l2b, lane_eq, valid_eq, Option.bind_some]
  rw [if_pos (by omega), if_pos (by omega), w64 (by omega) (by omega)]
  unfold startBad startOK
  cases laneB m (nth m.Starts (k : Int)).To <;> cases timeB (nth m.Starts (k : Int)).Time <;> rfl
 ·simp only [model_starts.l2b]
  rw [if_neg (by omega)]
def chkM (m : api_Model) : Int :=
 if sizesB m then if (List.range m.Progs.length).any (progBad m) then 130 else if 1024 < (m.Links.length : Int) then 131 else if (List.range m.Links.length).any (linkBad m) then 131
  else if 4096 < (m.Starts.length : Int) then 132 else if (List.range m.Starts.length).any (startBad m) then 132 else 0
 else 1
theorem model_check_eq (m : api_Model) : model_Check.f m = some (chkM m) := by
 unfold model_Check.f chkM
 simp only [model_rules.f, sizes_eq, Option.bind_some]
 cases hs : sizesB m with
 | false => rfl
 | true =>
  have hp : m.Progs.length ≤ 16 := by
   simp only [sizesB, Bool.and_eq_true, decide_eq_true_eq] at hs
   exact hs.1.1.2
  simp only [if_pos, programs_eq m hp, Option.bind_some]
  rw [← find_any (progBad m) m.Progs.length (130 : Int)]
  cases (List.range m.Progs.length).find? (progBad m) with
  | some k => rfl
  | none =>
   simp only [links_eq m hp, Option.bind_some]
   by_cases h : 1024 < (m.Links.length : Int)
   ·rw [if_pos h, if_pos h]; rfl
   rw [if_neg h, if_neg h, ← find_any (linkBad m) m.Links.length (131 : Int)]
   cases (List.range m.Links.length).find? (linkBad m) with
   | some k => rfl
   | none =>
    simp only [starts_eq m, Option.bind_some]
    by_cases h : 4096 < (m.Starts.length : Int)
    ·rw [if_pos h, if_pos h]; rfl
    rw [if_neg h, if_neg h, ← find_any (startBad m) m.Starts.length (132 : Int)]
    cases (List.range m.Starts.length).find? (startBad m) <;> rfl
end
section
def idxs (p : Nat → Bool) (n : Nat) : List Int := ((List.range n).filter p).map (fun k : Nat => (k : Int))
theorem idxs_succ (p : Nat → Bool) (k : Nat) : idxs p (k + 1) = if p k then idxs p k ++ [(k : Int)] else idxs p k := by
 unfold idxs
 rw [List.range_succ, List.filter_append, List.map_append]
 cases h : p k <;> simp [h]
theorem idxs_len (p : Nat → Bool) (n : Nat) : (idxs p n).length ≤ n := by
 unfold idxs
 rw [List.length_map]
 exact Nat.le_trans (List.length_filter_le _ _) (by simp)
theorem idxs_get (p : Nat → Bool) (n i : Nat) (h : i < (idxs p n).length) : ∃ k : Nat, nth (idxs p n) (i : Int) = (k : Int) ∧ k < n ∧ p k = true := by
 rw [nth_nat h]
 have hm := List.getElem_mem h
 obtain ⟨k, hk, e⟩ := List.mem_map.1 hm
 obtain ⟨h1, h2⟩ := List.mem_filter.1 hk
 exact ⟨k, e.symm, List.mem_range.1 h1, h2⟩
theorem loop_idxs {R : Type} {body : List Int × Int → Option ((List Int × Int) ⊕ R)} (p : Nat → Bool) (n : Nat) {r : R} (h : ∀ k, k < n → ∀ l : List Int, l.length ≤ k → body (l, (k : Int)) = some (.inl (if p k then l ++ [(k : Int)] else l, ((k + 1 : Nat) : Int)))) (he : body (idxs p n, (n : Int)) = some (.inr r)) : loopR body ([], 0) = some r :=
 loopR_steps (fun k => (idxs p k, (k : Int))) n (fun k hk => by rw [h k hk _ (idxs_len p k), ← idxs_succ]) he
theorem loop_map {α R : Type} {body : List α × Int → Option ((List α × Int) ⊕ R)} (g : Nat → α) (n : Nat) {r : R} (h : ∀ k, k < n → ∀ l : List α, l.length = k → body (l, (k : Int)) = some (.inl (l ++ [g k], ((k + 1 : Nat) : Int)))) (he : body ((List.range n).map g, (n : Int)) = some (.inr r)) : loopR body ([], 0) = some r :=
 loopR_steps (fun k => ((List.range k).map g, (k : Int))) n (fun k hk => by rw [h k hk _ (by simp), List.range_succ, List.map_append]; rfl) he
def fromB (m : api_Model) (n : Int) (k : Nat) : Bool := decide ((nth m.Links (k : Int)).From = n)
def ways (m : api_Model) (n : Int) : List Int := idxs (fromB m n) m.Links.length
theorem links_bound {m : api_Model} (h : ok_api_Model m) : m.Links.length * 32 ≤ 140737488351232 := by
 have := h.2.1.2
 simpa [reachBytes] using this
theorem ways_eq {m : api_Model} (h : ok_api_Model m) (n : Int) : model_Ways.f m n = some (ways m n) := by
 have hb := links_bound h
 unfold model_Ways.f model_places.f model_places.l7
 rw [loop_idxs (r := ways m n) (fromB m n) m.Links.length (fun k hk l hl => by
  simp only [model_places.l7b, model_Ways_1.f, model_places.j8, Option.bind_some]
  rw [if_pos (by omega), if_pos (by omega), w64 (by omega) (by omega)]
  unfold fromB
  by_cases e : (nth m.Links (k : Int)).From = n
  ·rw [if_pos (by simp [e]), if_pos (by omega), if_pos (by simp [e])]; rfl
  ·rw [if_neg (by simp [e]), if_neg (by simp [e])]; rfl) (by simp only [model_places.l7b]; rw [if_neg (by omega)]; rfl)]
 rfl
def wlinks (m : api_Model) (n : Int) : List api_Link := (List.range (ways m n).length).map fun k : Nat => nth m.Links (nth (ways m n) (k : Int))
def wldP (m : api_Model) (n : Int) : api_World × Int :=
 if chkM m = 0 then if laneB m n then (⟨nth m.Progs n, n, wlinks m n, m.Seed⟩, 0) else (⟨[], 0, [], 0⟩, 1) else (⟨[], 0, [], 0⟩, chkM m)
theorem world_eq {m : api_Model} (h : ok_api_Model m) (n : Int) : model_World.f m n = some (wldP m n) := by
 have hb := links_bound h
 unfold model_World.f wldP
 rw [model_check_eq]
 simp only [Option.bind_some, lane_eq]
 by_cases hc : chkM m = 0
 ·rw [if_pos hc, if_pos hc]
  by_cases hl : laneB m n = true
  ·rw [if_pos hl, if_pos hl]
   have hr : 0 ≤ n ∧ n < (m.Progs.length : Int) := by simpa [laneB] using hl
   have hq : (nth m.Progs n).length * 32 ≤ 140737488351232 := by
    have := (h.1.1 _ (nth_mem hr.1 hr.2)).2
    simpa [reachBytes] using this
   rw [if_pos hr, if_pos (by simp only [List.length_nil]; omega)]
   unfold model_World.j4
   rw [ways_eq h]
   simp only [Option.bind_some, List.nil_append]
   unfold model_World.l6
   have hw : (ways m n).length ≤ m.Links.length := idxs_len _ _
   refine loop_map (fun k : Nat => nth m.Links (nth (ways m n) (k : Int))) (ways m n).length (fun k hk l hl => ?_) ?_
   ·obtain ⟨j, e1, e2, _⟩ := idxs_get (fromB m n) m.Links.length k hk
    simp only [model_World.l6b]
    rw [if_pos (by omega), if_pos (by omega), if_pos (by rw [show nth (ways m n) (k : Int) = (j : Int) from e1]; omega), if_pos (by omega), w64 (by omega) (by omega)]
    rfl
   ·simp only [model_World.l6b]
    rw [if_neg (by omega)]
    rfl
  ·rw [if_neg hl, if_neg hl]
 ·rw [if_neg hc, if_neg hc]
theorem chkM_zero {m : api_Model} (h : chkM m = 0) : sizesB m = true ∧ (List.range m.Progs.length).any (progBad m) = false ∧ m.Links.length ≤ 1024 ∧ (List.range m.Links.length).any (linkBad m) = false ∧ m.Starts.length ≤ 4096 ∧ (List.range m.Starts.length).any (startBad m) = false := by
 unfold chkM at h
 split at h
 ·rename_i h1
  split at h
  ·cases h
  ·rename_i h2
   split at h
   ·cases h
   ·rename_i h3
    split at h
    ·cases h
    ·rename_i h4
     split at h
     ·cases h
     ·rename_i h5
      split at h
      ·cases h
      ·rename_i h6
       refine ⟨h1, ?_, ?_, ?_, ?_, ?_⟩ <;> first | omega | simp_all
 ·cases h
end
section
def msg (m : api_Model) (k : Nat) : api_Message := ⟨⟨(nth m.Starts (k : Int)).Time, -1, (k : Int)⟩, (nth m.Starts (k : Int)).To, (nth m.Starts (k : Int)).Value, (k : Int), false⟩
theorem starts_list {m : api_Model} (l : m.Starts.length ≤ 1048576) : model_Starts.f m = some ((List.range m.Starts.length).map (msg m)) := by
 unfold model_Starts.f model_Starts.l2
 refine loop_map (msg m) m.Starts.length (fun k hk l hl => ?_) ?_
 ·simp only [model_Starts.l2b]
  rw [if_pos (by omega), if_pos (by omega), if_pos (by omega), w64 (by omega) (by omega)]
  rfl
 ·simp only [model_Starts.l2b]
  rw [if_neg (by omega)]
end
section
def laneW (n : Int) : Bool := decide (0 ≤ n ∧ n < 16)
theorem vm_lane_eq (n : Int) : vm_lane.f n = some (laneW n) := by
 unfold vm_lane.f laneW
 by_cases h : 0 ≤ n <;> simp [h]
theorem event_lane_eq (n : Int) : event_lane.f n = some (laneW n) := by
 unfold event_lane.f laneW
 by_cases h : 0 ≤ n <;> simp [h]
def linkBadW (w : api_World) (k : Nat) : Bool := !(laneW (nth w.Links (k : Int)).To && decide (1 ≤ (nth w.Links (k : Int)).Look ∧ (nth w.Links (k : Int)).Look ≤ 4611686018427387903))
def chkW (w : api_World) : Int :=
 if chk w.Prog = 0 then if laneW w.Self then if 1024 < (w.Links.length : Int) then 1 else if (List.range w.Links.length).any (linkBadW w) then 1 else 0 else 1 else chk w.Prog
theorem vm_check_eq (w : api_World) : vm_Check.f w = some (chkW w) := by
 unfold vm_Check.f chkW
 simp only [code_check_eq, vm_lane_eq, Option.bind_some]
 by_cases h : chk w.Prog = 0
 ·rw [if_pos h, if_pos h]
  cases laneW w.Self with
  | false => rfl
  | true =>
   rw [if_pos rfl, if_pos rfl]
   by_cases h2 : 1024 < (w.Links.length : Int)
   ·rw [if_pos h2, if_pos h2]
   rw [if_neg h2, if_neg h2]
   unfold vm_Check.l2
   rw [loopR_any (linkBadW w) (1 : Int) 0 w.Links.length (fun k hk => by
    simp only [vm_Check.l2b, vm_lane_eq, valid_eq, Option.bind_some]
    rw [if_pos (by omega), if_pos (by omega), w64 (by omega) (by omega)]
    unfold linkBadW
    cases laneW (nth w.Links (k : Int)).To with
    | false => rfl
    | true =>
     rw [if_pos rfl]
     by_cases h3 : (nth w.Links (k : Int)).Look < 1
     ·rw [if_pos h3]; simp [show ¬ (1 ≤ (nth w.Links (k : Int)).Look) by omega]
     rw [if_neg h3]
     unfold timeB
     by_cases h4 : (nth w.Links (k : Int)).Look ≤ 4611686018427387903
     ·rw [decide_eq_true (show 0 ≤ (nth w.Links (k : Int)).Look ∧ (nth w.Links (k : Int)).Look ≤ 4611686018427387903 by omega), decide_eq_true (show 1 ≤ (nth w.Links (k : Int)).Look ∧ (nth w.Links (k : Int)).Look ≤ 4611686018427387903 by omega)]; rfl
     ·rw [decide_eq_false (show ¬ (0 ≤ (nth w.Links (k : Int)).Look ∧ (nth w.Links (k : Int)).Look ≤ 4611686018427387903) by omega), decide_eq_false (show ¬ (1 ≤ (nth w.Links (k : Int)).Look ∧ (nth w.Links (k : Int)).Look ≤ 4611686018427387903) by omega)]; rfl)
    (by simp only [vm_Check.l2b]; rw [if_neg (by omega)])]
 ·rw [if_neg h, if_neg h]
def evB (m : api_Message) : Bool := timeB m.Key.Time && decide (-1 ≤ m.Key.From ∧ m.Key.From < 16) && laneW m.To && decide (0 ≤ m.Key.Seq ∧ 0 ≤ m.Uid)
theorem event_check_eq (m : api_Message) : event_Check.f m = some (if evB m then 0 else 1) := by
 unfold event_Check.f evB
 simp only [valid_eq, event_lane_eq, Option.bind_some]
 cases timeB m.Key.Time with
 | false => rfl
 | true =>
  rw [if_pos rfl]
  have hs : (0 ≤ (if m.Uid < m.Key.Seq then m.Uid else m.Key.Seq)) ↔ (0 ≤ m.Key.Seq ∧ 0 ≤ m.Uid) := by split <;> omega
  by_cases hl : laneW m.Key.From = true
  ·rw [if_pos hl]
   have h1 : -1 ≤ m.Key.From ∧ m.Key.From < 16 := by simp [laneW] at hl; omega
   cases laneW m.To with
   | false => simp
   | true => simp only [if_true, hs]; by_cases h2 : 0 ≤ m.Key.Seq ∧ 0 ≤ m.Uid <;> simp [h1, h2]
  ·rw [if_neg hl]
   by_cases hf : m.Key.From = -1
   ·rw [if_pos hf]
    have h1 : -1 ≤ m.Key.From ∧ m.Key.From < 16 := by omega
    cases laneW m.To with
    | false => simp
    | true => simp only [if_true, hs]; by_cases h2 : 0 ≤ m.Key.Seq ∧ 0 ≤ m.Uid <;> simp [h1, h2]
   ·rw [if_neg hf]
    have h1 : ¬ (-1 ≤ m.Key.From ∧ m.Key.From < 16) := by simp [laneW] at hl; omega
    simp [h1]
theorem fold_some (x : draw_word) (k : Int) (h : 0 ≤ k) : ∃ v, draw_word_fold.f x k = some v := ⟨_, by unfold draw_word_fold.f; rw [if_pos h]⟩
theorem bind_ex {α β : Type} {o : Option α} {f : α → Option β} (h : ∃ v, o = some v) (hf : ∀ v, ∃ u, f v = some u) : ∃ u, o.bind f = some u := by
 obtain ⟨v, rfl⟩ := h
 exact hf v
theorem times_some (x : draw_mixer) (k c : Int) (h : 0 ≤ k) : ∃ v, draw_mixer_times.f x k c = some v := by
 unfold draw_mixer_times.f
 exact bind_ex (fold_some x.word k h) fun v => ⟨_, rfl⟩
theorem mix_some (x : Int) : ∃ v, draw_Mix.f x = some v := by
 unfold draw_Mix.f
 exact bind_ex (times_some _ _ _ (by decide)) fun v => bind_ex (times_some _ _ _ (by decide)) fun v2 => bind_ex (fold_some _ _ (by decide)) fun v3 => ⟨_, rfl⟩
theorem at_steps (a b c x y z : Int) (h1 : draw_Mix.f a = some x) (h2 : draw_Mix.f (IntKind.u64.wrap (x + IntKind.u64.wrap b)) = some y) (h3 : draw_Mix.f (IntKind.u64.wrap (y + IntKind.u64.wrap c)) = some z) : draw_At.f a b c = some z := by
 unfold draw_At.f
 rw [h1]
 simp only [Option.bind_some]
 unfold draw_At.l2
 refine (show loopR (draw_At.l2b b c) ((fun k : Nat => (match k with | 0 => (x, 0) | 1 => (y, 1) | _ => (z, 2) : Int × Int)) 0) = _ from loopR_steps (fun k : Nat => (match k with | 0 => (x, 0) | 1 => (y, 1) | _ => (z, 2) : Int × Int)) 2 (fun k hk => ?_) ?_)
 ·match k, hk with
  | 0, _ =>
   simp only [draw_At.l2b]
   rw [if_pos (by decide), if_pos (by decide), show nth ([b, c] : List Int) 0 = b from rfl, h2]
   rfl
  | 1, _ =>
   simp only [draw_At.l2b]
   rw [if_pos (by decide), if_pos (by decide), show nth ([b, c] : List Int) 1 = c from rfl, h3]
   rfl
 ·simp only [draw_At.l2b]
  rw [if_neg (by decide)]
noncomputable def below (a b c d : Int) : Int := (draw_Below.f a b c d).getD 0
theorem wu64 {x : Int} (h0 : 0 ≤ x) (h1 : x ≤ 18446744073709551615) : IntKind.u64.wrap x = x := by rw [IntKind.wrap_u64]; omega
theorem below_eq (a b c d : Int) (hd : d ≤ 9223372036854775807) : draw_Below.f a b c d = some (below a b c d) := by
 have : ∃ v, draw_Below.f a b c d = some v := by
  unfold draw_Below.f
  by_cases h : d ≤ 0
  ·rw [if_pos h]; exact ⟨_, rfl⟩
  rw [if_neg h]
  obtain ⟨x, h1⟩ := mix_some a
  obtain ⟨y, h2⟩ := mix_some (IntKind.u64.wrap (x + IntKind.u64.wrap b))
  obtain ⟨z, h3⟩ := mix_some (IntKind.u64.wrap (y + IntKind.u64.wrap c))
  rw [at_steps a b c x y z h1 h2 h3]
  simp only [Option.bind_some]
  rw [if_pos (by rw [wu64 (by omega) (by omega)]; omega)]
  exact ⟨_, rfl⟩
 obtain ⟨v, e⟩ := this
 unfold below
 rw [e]
 rfl
theorem wrap_in (x : Int) : -9223372036854775808 ≤ IntKind.i64.wrap x ∧ IntKind.i64.wrap x ≤ 9223372036854775807 := by rw [IntKind.wrap_i64]; omega
theorem below_in (a b c d : Int) : -9223372036854775808 ≤ below a b c d ∧ below a b c d ≤ 9223372036854775807 := by
 unfold below draw_Below.f
 split
 ·simp
 ·cases draw_At.f a b c with
  | none => simp
  | some t =>
   simp only [Option.bind_some]
   split
   ·exact wrap_in _
   ·simp
abbrev Rg := Nat → Int
def rdR (f : Rg) (i : Int) : Int := f (i.toNat * 1)
def upR (f : Rg) (i v : Int) : Rg := upd f (i.toNat * 1) v
def dv (b c : Int) : Int := if c = 0 then 0 else if c = -1 ∧ b = -9223372036854775808 then b else IntKind.i64.wrap (Int.tdiv b c)
def md (b c : Int) : Int := if c = 0 then 0 else if c = -1 ∧ b = -9223372036854775808 then 0 else Int.tmod b c
theorem quotient_eq (b c : Int) : vm_quotient.f b c = some (dv b c, md b c) := by
 unfold vm_quotient.f vm_quotient.j2 dv md
 by_cases h : c = 0
 ·simp [h]
 ·rw [if_neg h, if_neg h, if_neg h, if_pos h]
  by_cases h1 : c = -1 <;> by_cases h2 : b = -9223372036854775808 <;> simp [h1, h2]
def alu (op b c : Int) : Int := if op = 3 then IntKind.i64.wrap (b + c) else if op = 4 then IntKind.i64.wrap (b - c) else if op = 5 then IntKind.i64.wrap (b * c) else if op = 6 then dv b c else if op = 7 then md b c else if op = 8 then (if b < c then 1 else 0) else (if b = c then 1 else 0)
def lkof (x n : Int) : Int := Int.tmod (IntKind.i64.wrap (Int.tmod x n + n)) n
def sendS (w : api_World) (m : api_Message) (i : api_Instr) (rg : Rg) (outs : List api_Out) : List api_Out ⊕ Int :=
 if (w.Links.length : Int) = 0 then .inl outs else if (outs.length : Int) = 8 then .inl outs else
 if rdR rg i.B < (nth w.Links (lkof (rdR rg i.A) (w.Links.length : Int))).Look then .inr 50 else if 4611686018427387903 - m.Key.Time < rdR rg i.B then .inr 10 else .inl (outs ++ [⟨lkof (rdR rg i.A) (w.Links.length : Int), rdR rg i.B, rdR rg i.C⟩])
abbrev Sv := Rg × Int × List api_Out × Int
noncomputable def stp (w : api_World) (m : api_Message) (i : api_Instr) (rg : Rg) (dr : Int) (outs : List api_Out) (at1 : Int) : Sv ⊕ Int :=
 if i.Op = 0 then .inl (rg, dr, outs, (w.Prog.length : Int)) else
 if i.Op = 1 then .inl (upR rg i.A i.B, dr, outs, at1) else
 if i.Op = 2 then .inl (upR rg i.A (rdR rg i.B), dr, outs, at1) else
 if i.Op < 10 then .inl (upR rg i.A (alu i.Op (rdR rg i.B) (rdR rg i.C)), dr, outs, at1) else
 if i.Op = 10 then .inl (rg, dr, outs, i.A) else
 if i.Op = 11 then .inl (rg, dr, outs, if rdR rg i.A = 0 then i.B else at1) else
 if i.Op = 12 then (match sendS w m i rg outs with | .inl o => .inl (rg, dr, o, at1) | .inr e => .inr e) else
 if i.Op = 13 then .inl (upR rg i.A (below w.Seed w.Self dr (rdR rg i.B)), IntKind.i64.wrap (dr + 1), outs, at1) else
 if i.Op = 14 then .inl (upR rg i.A m.Value, dr, outs, at1) else
 if i.Op = 15 then .inl (upR rg i.A m.Key.Time, dr, outs, at1) else
 .inl (upR rg i.A w.Self, dr, outs, at1)
theorem may_parts {i : api_Instr} {n : Int} (h : mayB i n = true) : (0 ≤ i.Op ∧ i.Op < 17) ∧ rightB i.A (bt (shapeOf i.Op) 0) n = true ∧ rightB i.B (bt (shapeOf i.Op) 1) n = true ∧ rightB i.C (bt (shapeOf i.Op) 2) n = true := by
 unfold mayB at h
 split at h
 ·rename_i h0
  simp only [Bool.and_eq_true] at h
  exact ⟨h0, h.1, h.2.1, h.2.2⟩
 ·cases h
theorem rrg {x n : Int} (h : rightB x 114 n = true) : 0 ≤ x ∧ x < 16 := by
 have h' : decide (0 ≤ x ∧ x ≤ 15) = true := h
 simp only [decide_eq_true_eq] at h'
 omega
theorem rp {x n : Int} (h : rightB x 112 n = true) : 0 ≤ x ∧ x ≤ n := by
 have h' : decide (0 ≤ x ∧ x ≤ n) = true := h
 simpa using h'
theorem rn {x n : Int} (h : rightB x 110 n = true) : -2147483648 ≤ x ∧ x ≤ 2147483647 := by
 have h' : decide (-2147483648 ≤ x ∧ x ≤ 2147483647) = true := h
 simpa using h'
def Rin (f : Rg) : Prop := ∀ j, -9223372036854775808 ≤ f j ∧ f j ≤ 9223372036854775807
theorem Rin.up {f : Rg} (h : Rin f) {i v : Int} (hv : -9223372036854775808 ≤ v ∧ v ≤ 9223372036854775807) : Rin (upR f i v) := fun j => by
 unfold upR upd
 split
 ·exact hv
 ·exact h j
structure Inv (w : api_World) (s : Sv) : Prop where
 rg : Rin s.1
 outs : s.2.2.1.length ≤ 8
 a0 : 0 ≤ s.2.2.2
 a1 : s.2.2.2 ≤ (w.Prog.length : Int)
structure Fine (w : api_World) (m : api_Message) : Prop where
 may : ∀ k : Nat, k < w.Prog.length → mayB (nth w.Prog (k : Int)) (w.Prog.length : Int) = true
 many : (w.Prog.length : Int) ≤ 256
 links : (w.Links.length : Int) ≤ 1024
 look : ∀ k : Nat, k < w.Links.length → 1 ≤ (nth w.Links (k : Int)).Look
 self : 0 ≤ w.Self ∧ w.Self < 16
 time : 0 ≤ m.Key.Time ∧ m.Key.Time ≤ 4611686018427387903
 value : -9223372036854775808 ≤ m.Value ∧ m.Value ≤ 9223372036854775807
theorem tmod_lt (x : Int) {n : Int} (h : 0 < n) : -n < Int.tmod x n ∧ Int.tmod x n < n := by
 constructor
 ·exact Int.lt_tmod_of_pos x h
 ·exact Int.tmod_lt_of_pos x h
theorem lkof_in (x : Int) {n : Int} (h : 0 < n) (h1 : n ≤ 1024) : 0 ≤ lkof x n ∧ lkof x n < n := by
 have := tmod_lt x h
 unfold lkof
 rw [w64 (by omega) (by omega)]
 exact ⟨Int.tmod_nonneg _ (by omega), Int.tmod_lt_of_pos _ h⟩
theorem step_halt {w : api_World} {m : api_Message} (hF : Fine w m) {rg : Rg} {dr : Int} {outs : List api_Out} {at_ : Int} {k : Nat} (hI : Inv w (rg, dr, outs, at_)) (hk : k < 4096) (ha : at_ < (w.Prog.length : Int)) (hop : (nth w.Prog at_).Op = 0) :
  ∃ s', stp w m (nth w.Prog at_) rg dr outs (at_ + 1) = .inl s' ∧ Inv w s' ∧ vm_cpu_run.l17b w.Prog w.Self w.Links w.Seed m.Key.Time m.Key.From m.Key.Seq m.To m.Value m.Uid m.Anti (rg, dr, outs, at_, ((k + 1 : Nat) : Int)) = some (.inl (s'.1, s'.2.1, s'.2.2.1, s'.2.2.2, (k : Int))) := by
 obtain ⟨i1, i2, i3, i4⟩ := hI
 simp only at i1 i2 i3 i4
 have hn := hF.many
 have hp := may_parts (by have := hF.may at_.toNat (by omega); rw [Int.toNat_of_nonneg i3] at this; exact this)
 refine ⟨(rg, dr, outs, (w.Prog.length : Int)), by unfold stp; rw [if_pos hop], ⟨i1, i2, by show (0 : Int) ≤ (w.Prog.length : Int); omega, Int.le_refl _⟩, ?_⟩
 simp only [vm_cpu_run.l17b, vm_cpu_halt.f]
 rw [if_pos (by omega), if_pos (by omega), if_pos (by omega), if_pos hop]
 skip
 simp only [Option.bind_some, vm_cpu_run.j18]
 rw [w64 (x := ((k + 1 : Nat) : Int) - 1) (by omega) (by omega)]
 simp only [show (((k + 1 : Nat) : Int) - 1) = (k : Int) by omega]
 try rfl
theorem step_set {w : api_World} {m : api_Message} (hF : Fine w m) {rg : Rg} {dr : Int} {outs : List api_Out} {at_ : Int} {k : Nat} (hI : Inv w (rg, dr, outs, at_)) (hk : k < 4096) (ha : at_ < (w.Prog.length : Int)) (hop : (nth w.Prog at_).Op = 1) :
  ∃ s', stp w m (nth w.Prog at_) rg dr outs (at_ + 1) = .inl s' ∧ Inv w s' ∧ vm_cpu_run.l17b w.Prog w.Self w.Links w.Seed m.Key.Time m.Key.From m.Key.Seq m.To m.Value m.Uid m.Anti (rg, dr, outs, at_, ((k + 1 : Nat) : Int)) = some (.inl (s'.1, s'.2.1, s'.2.2.1, s'.2.2.2, (k : Int))) := by
 obtain ⟨i1, i2, i3, i4⟩ := hI
 simp only at i1 i2 i3 i4
 have hn := hF.many
 have hp := may_parts (by have := hF.may at_.toNat (by omega); rw [Int.toNat_of_nonneg i3] at this; exact this)
 have hA := rrg (n := (w.Prog.length : Int)) (by have := hp.2.1; rw [hop] at this; exact this)
 have hB := rn (n := (w.Prog.length : Int)) (by have := hp.2.2.1; rw [hop] at this; exact this)
 refine ⟨(upR rg (nth w.Prog at_).A (nth w.Prog at_).B, dr, outs, at_ + 1), by unfold stp; rw [if_neg (by rw [hop]; decide), if_pos hop], ⟨i1.up (by omega), i2, by show (0 : Int) ≤ at_ + 1; omega, by show at_ + 1 ≤ _; omega⟩, ?_⟩
 simp only [vm_cpu_run.l17b, vm_cpu_set.f]
 rw [if_pos (by omega), if_pos (by omega), if_pos (by omega), if_neg (by rw [hop]; decide), if_pos hop]
 rw [if_pos hA, w64 (x := at_ + 1) (by omega) (by omega)]
 simp only [Option.bind_some, vm_cpu_run.j18]
 rw [w64 (x := ((k + 1 : Nat) : Int) - 1) (by omega) (by omega)]
 simp only [show (((k + 1 : Nat) : Int) - 1) = (k : Int) by omega]
 try rfl
theorem step_move {w : api_World} {m : api_Message} (hF : Fine w m) {rg : Rg} {dr : Int} {outs : List api_Out} {at_ : Int} {k : Nat} (hI : Inv w (rg, dr, outs, at_)) (hk : k < 4096) (ha : at_ < (w.Prog.length : Int)) (hop : (nth w.Prog at_).Op = 2) :
  ∃ s', stp w m (nth w.Prog at_) rg dr outs (at_ + 1) = .inl s' ∧ Inv w s' ∧ vm_cpu_run.l17b w.Prog w.Self w.Links w.Seed m.Key.Time m.Key.From m.Key.Seq m.To m.Value m.Uid m.Anti (rg, dr, outs, at_, ((k + 1 : Nat) : Int)) = some (.inl (s'.1, s'.2.1, s'.2.2.1, s'.2.2.2, (k : Int))) := by
 obtain ⟨i1, i2, i3, i4⟩ := hI
 simp only at i1 i2 i3 i4
 have hn := hF.many
 have hp := may_parts (by have := hF.may at_.toNat (by omega); rw [Int.toNat_of_nonneg i3] at this; exact this)
 have hA := rrg (n := (w.Prog.length : Int)) (by have := hp.2.1; rw [hop] at this; exact this)
 have hB := rrg (n := (w.Prog.length : Int)) (by have := hp.2.2.1; rw [hop] at this; exact this)
 refine ⟨(upR rg (nth w.Prog at_).A (rdR rg (nth w.Prog at_).B), dr, outs, at_ + 1), by unfold stp; rw [if_neg (by rw [hop]; decide), if_neg (by rw [hop]; decide), if_pos hop], ⟨i1.up (i1 _), i2, by show (0 : Int) ≤ at_ + 1; omega, by show at_ + 1 ≤ _; omega⟩, ?_⟩
 simp only [vm_cpu_run.l17b, vm_cpu_move.f]
 rw [if_pos (by omega), if_pos (by omega), if_pos (by omega), if_neg (by rw [hop]; decide), if_neg (by rw [hop]; decide), if_pos hop]
 rw [if_pos hB, if_pos hA, w64 (x := at_ + 1) (by omega) (by omega)]
 simp only [Option.bind_some, vm_cpu_run.j18]
 rw [w64 (x := ((k + 1 : Nat) : Int) - 1) (by omega) (by omega)]
 simp only [show (((k + 1 : Nat) : Int) - 1) = (k : Int) by omega]
 try rfl
theorem step_add {w : api_World} {m : api_Message} (hF : Fine w m) {rg : Rg} {dr : Int} {outs : List api_Out} {at_ : Int} {k : Nat} (hI : Inv w (rg, dr, outs, at_)) (hk : k < 4096) (ha : at_ < (w.Prog.length : Int)) (hop : (nth w.Prog at_).Op = 3) :
  ∃ s', stp w m (nth w.Prog at_) rg dr outs (at_ + 1) = .inl s' ∧ Inv w s' ∧ vm_cpu_run.l17b w.Prog w.Self w.Links w.Seed m.Key.Time m.Key.From m.Key.Seq m.To m.Value m.Uid m.Anti (rg, dr, outs, at_, ((k + 1 : Nat) : Int)) = some (.inl (s'.1, s'.2.1, s'.2.2.1, s'.2.2.2, (k : Int))) := by
 obtain ⟨i1, i2, i3, i4⟩ := hI
 simp only at i1 i2 i3 i4
 have hn := hF.many
 have hp := may_parts (by have := hF.may at_.toNat (by omega); rw [Int.toNat_of_nonneg i3] at this; exact this)
 have hA := rrg (n := (w.Prog.length : Int)) (by have := hp.2.1; rw [hop] at this; exact this)
 have hB := rrg (n := (w.Prog.length : Int)) (by have := hp.2.2.1; rw [hop] at this; exact this)
 have hC := rrg (n := (w.Prog.length : Int)) (by have := hp.2.2.2; rw [hop] at this; exact this)
 refine ⟨(upR rg (nth w.Prog at_).A (alu (nth w.Prog at_).Op (rdR rg (nth w.Prog at_).B) (rdR rg (nth w.Prog at_).C)), dr, outs, at_ + 1), by unfold stp; rw [if_neg (by rw [hop]; decide), if_neg (by rw [hop]; decide), if_neg (by rw [hop]; decide), if_pos (by rw [hop]; decide)], ⟨i1.up (by rw [hop]; exact wrap_in _), i2, by show (0 : Int) ≤ at_ + 1; omega, by show at_ + 1 ≤ _; omega⟩, ?_⟩
 simp only [vm_cpu_run.l17b, vm_cpu_add.f]
 rw [if_pos (by omega), if_pos (by omega), if_pos (by omega), if_neg (by rw [hop]; decide), if_neg (by rw [hop]; decide), if_neg (by rw [hop]; decide), if_pos hop]
 rw [if_pos hB, if_pos hC, if_pos hA, w64 (x := at_ + 1) (by omega) (by omega)]
 simp only [Option.bind_some, vm_cpu_run.j18]
 rw [w64 (x := ((k + 1 : Nat) : Int) - 1) (by omega) (by omega)]
 simp only [show (((k + 1 : Nat) : Int) - 1) = (k : Int) by omega]
 rw [hop]
 rfl
theorem step_sub {w : api_World} {m : api_Message} (hF : Fine w m) {rg : Rg} {dr : Int} {outs : List api_Out} {at_ : Int} {k : Nat} (hI : Inv w (rg, dr, outs, at_)) (hk : k < 4096) (ha : at_ < (w.Prog.length : Int)) (hop : (nth w.Prog at_).Op = 4) :
  ∃ s', stp w m (nth w.Prog at_) rg dr outs (at_ + 1) = .inl s' ∧ Inv w s' ∧ vm_cpu_run.l17b w.Prog w.Self w.Links w.Seed m.Key.Time m.Key.From m.Key.Seq m.To m.Value m.Uid m.Anti (rg, dr, outs, at_, ((k + 1 : Nat) : Int)) = some (.inl (s'.1, s'.2.1, s'.2.2.1, s'.2.2.2, (k : Int))) := by
 obtain ⟨i1, i2, i3, i4⟩ := hI
 simp only at i1 i2 i3 i4
 have hn := hF.many
 have hp := may_parts (by have := hF.may at_.toNat (by omega); rw [Int.toNat_of_nonneg i3] at this; exact this)
 have hA := rrg (n := (w.Prog.length : Int)) (by have := hp.2.1; rw [hop] at this; exact this)
 have hB := rrg (n := (w.Prog.length : Int)) (by have := hp.2.2.1; rw [hop] at this; exact this)
 have hC := rrg (n := (w.Prog.length : Int)) (by have := hp.2.2.2; rw [hop] at this; exact this)
 refine ⟨(upR rg (nth w.Prog at_).A (alu (nth w.Prog at_).Op (rdR rg (nth w.Prog at_).B) (rdR rg (nth w.Prog at_).C)), dr, outs, at_ + 1), by unfold stp; rw [if_neg (by rw [hop]; decide), if_neg (by rw [hop]; decide), if_neg (by rw [hop]; decide), if_pos (by rw [hop]; decide)], ⟨i1.up (by rw [hop]; exact wrap_in _), i2, by show (0 : Int) ≤ at_ + 1; omega, by show at_ + 1 ≤ _; omega⟩, ?_⟩
 simp only [vm_cpu_run.l17b, vm_cpu_sub.f]
 rw [if_pos (by omega), if_pos (by omega), if_pos (by omega), if_neg (by rw [hop]; decide), if_neg (by rw [hop]; decide), if_neg (by rw [hop]; decide), if_neg (by rw [hop]; decide), if_pos hop]
 rw [if_pos hB, if_pos hC, if_pos hA, w64 (x := at_ + 1) (by omega) (by omega)]
 simp only [Option.bind_some, vm_cpu_run.j18]
 rw [w64 (x := ((k + 1 : Nat) : Int) - 1) (by omega) (by omega)]
 simp only [show (((k + 1 : Nat) : Int) - 1) = (k : Int) by omega]
 rw [hop]
 rfl
theorem step_mul {w : api_World} {m : api_Message} (hF : Fine w m) {rg : Rg} {dr : Int} {outs : List api_Out} {at_ : Int} {k : Nat} (hI : Inv w (rg, dr, outs, at_)) (hk : k < 4096) (ha : at_ < (w.Prog.length : Int)) (hop : (nth w.Prog at_).Op = 5) :
  ∃ s', stp w m (nth w.Prog at_) rg dr outs (at_ + 1) = .inl s' ∧ Inv w s' ∧ vm_cpu_run.l17b w.Prog w.Self w.Links w.Seed m.Key.Time m.Key.From m.Key.Seq m.To m.Value m.Uid m.Anti (rg, dr, outs, at_, ((k + 1 : Nat) : Int)) = some (.inl (s'.1, s'.2.1, s'.2.2.1, s'.2.2.2, (k : Int))) := by
 obtain ⟨i1, i2, i3, i4⟩ := hI
 simp only at i1 i2 i3 i4
 have hn := hF.many
 have hp := may_parts (by have := hF.may at_.toNat (by omega); rw [Int.toNat_of_nonneg i3] at this; exact this)
 have hA := rrg (n := (w.Prog.length : Int)) (by have := hp.2.1; rw [hop] at this; exact this)
 have hB := rrg (n := (w.Prog.length : Int)) (by have := hp.2.2.1; rw [hop] at this; exact this)
 have hC := rrg (n := (w.Prog.length : Int)) (by have := hp.2.2.2; rw [hop] at this; exact this)
 refine ⟨(upR rg (nth w.Prog at_).A (alu (nth w.Prog at_).Op (rdR rg (nth w.Prog at_).B) (rdR rg (nth w.Prog at_).C)), dr, outs, at_ + 1), by unfold stp; rw [if_neg (by rw [hop]; decide), if_neg (by rw [hop]; decide), if_neg (by rw [hop]; decide), if_pos (by rw [hop]; decide)], ⟨i1.up (by rw [hop]; exact wrap_in _), i2, by show (0 : Int) ≤ at_ + 1; omega, by show at_ + 1 ≤ _; omega⟩, ?_⟩
 simp only [vm_cpu_run.l17b, vm_cpu_mul.f]
 rw [if_pos (by omega), if_pos (by omega), if_pos (by omega), if_neg (by rw [hop]; decide), if_neg (by rw [hop]; decide), if_neg (by rw [hop]; decide), if_neg (by rw [hop]; decide), if_neg (by rw [hop]; decide), if_pos hop]
 rw [if_pos hB, if_pos hC, if_pos hA, w64 (x := at_ + 1) (by omega) (by omega)]
 simp only [Option.bind_some, vm_cpu_run.j18]
 rw [w64 (x := ((k + 1 : Nat) : Int) - 1) (by omega) (by omega)]
 simp only [show (((k + 1 : Nat) : Int) - 1) = (k : Int) by omega]
 rw [hop]
 rfl
theorem dv_in (b c : Int) (hb : -9223372036854775808 ≤ b ∧ b ≤ 9223372036854775807) (hc : -9223372036854775808 ≤ c ∧ c ≤ 9223372036854775807) : -9223372036854775808 ≤ dv b c ∧ dv b c ≤ 9223372036854775807 := by
 unfold dv
 split
 ·decide
 ·split
  ·exact hb
  ·exact wrap_in _
theorem md_in (b c : Int) (hb : -9223372036854775808 ≤ b ∧ b ≤ 9223372036854775807) (hc : -9223372036854775808 ≤ c ∧ c ≤ 9223372036854775807) : -9223372036854775808 ≤ md b c ∧ md b c ≤ 9223372036854775807 := by
 unfold md
 split
 ·decide
 ·split
  ·decide
  ·rename_i h1 h2
   rcases Int.lt_or_le c 0 with h3 | h3
   ·have := tmod_lt b (n := -c) (by omega)
    rw [Int.tmod_neg] at this
    omega
   ·have := tmod_lt b (n := c) (by omega)
    omega
theorem truth_eq (b : Bool) : vm_truth.f b = some (if b = true then 1 else 0) := by unfold vm_truth.f; split <;> rfl
theorem step_div {w : api_World} {m : api_Message} (hF : Fine w m) {rg : Rg} {dr : Int} {outs : List api_Out} {at_ : Int} {k : Nat} (hI : Inv w (rg, dr, outs, at_)) (hk : k < 4096) (ha : at_ < (w.Prog.length : Int)) (hop : (nth w.Prog at_).Op = 6) :
  ∃ s', stp w m (nth w.Prog at_) rg dr outs (at_ + 1) = .inl s' ∧ Inv w s' ∧ vm_cpu_run.l17b w.Prog w.Self w.Links w.Seed m.Key.Time m.Key.From m.Key.Seq m.To m.Value m.Uid m.Anti (rg, dr, outs, at_, ((k + 1 : Nat) : Int)) = some (.inl (s'.1, s'.2.1, s'.2.2.1, s'.2.2.2, (k : Int))) := by
 obtain ⟨i1, i2, i3, i4⟩ := hI
 simp only at i1 i2 i3 i4
 have hn := hF.many
 have hp := may_parts (by have := hF.may at_.toNat (by omega); rw [Int.toNat_of_nonneg i3] at this; exact this)
 have hA := rrg (n := (w.Prog.length : Int)) (by have := hp.2.1; rw [hop] at this; exact this)
 have hB := rrg (n := (w.Prog.length : Int)) (by have := hp.2.2.1; rw [hop] at this; exact this)
 have hC := rrg (n := (w.Prog.length : Int)) (by have := hp.2.2.2; rw [hop] at this; exact this)
 refine ⟨(upR rg (nth w.Prog at_).A (alu (nth w.Prog at_).Op (rdR rg (nth w.Prog at_).B) (rdR rg (nth w.Prog at_).C)), dr, outs, at_ + 1), by unfold stp; rw [if_neg (by rw [hop]; decide), if_neg (by rw [hop]; decide), if_neg (by rw [hop]; decide), if_pos (by rw [hop]; decide)], ⟨i1.up (by rw [hop]; exact dv_in _ _ (i1 _) (i1 _)), i2, by show (0 : Int) ≤ at_ + 1; omega, by show at_ + 1 ≤ _; omega⟩, ?_⟩
 simp only [vm_cpu_run.l17b, vm_cpu_div.f]
 rw [if_pos (by omega), if_pos (by omega), if_pos (by omega), if_neg (by rw [hop]; decide), if_neg (by rw [hop]; decide), if_neg (by rw [hop]; decide), if_neg (by rw [hop]; decide), if_neg (by rw [hop]; decide), if_neg (by rw [hop]; decide), if_pos hop]
 rw [if_pos hB, if_pos hC, quotient_eq]
 simp only [Option.bind_some]
 rw [if_pos hA, w64 (x := at_ + 1) (by omega) (by omega)]
 simp only [Option.bind_some, vm_cpu_run.j18]
 rw [w64 (x := ((k + 1 : Nat) : Int) - 1) (by omega) (by omega)]
 simp only [show (((k + 1 : Nat) : Int) - 1) = (k : Int) by omega]
 rw [hop]
 rfl
theorem step_mod {w : api_World} {m : api_Message} (hF : Fine w m) {rg : Rg} {dr : Int} {outs : List api_Out} {at_ : Int} {k : Nat} (hI : Inv w (rg, dr, outs, at_)) (hk : k < 4096) (ha : at_ < (w.Prog.length : Int)) (hop : (nth w.Prog at_).Op = 7) :
  ∃ s', stp w m (nth w.Prog at_) rg dr outs (at_ + 1) = .inl s' ∧ Inv w s' ∧ vm_cpu_run.l17b w.Prog w.Self w.Links w.Seed m.Key.Time m.Key.From m.Key.Seq m.To m.Value m.Uid m.Anti (rg, dr, outs, at_, ((k + 1 : Nat) : Int)) = some (.inl (s'.1, s'.2.1, s'.2.2.1, s'.2.2.2, (k : Int))) := by
 obtain ⟨i1, i2, i3, i4⟩ := hI
 simp only at i1 i2 i3 i4
 have hn := hF.many
 have hp := may_parts (by have := hF.may at_.toNat (by omega); rw [Int.toNat_of_nonneg i3] at this; exact this)
 have hA := rrg (n := (w.Prog.length : Int)) (by have := hp.2.1; rw [hop] at this; exact this)
 have hB := rrg (n := (w.Prog.length : Int)) (by have := hp.2.2.1; rw [hop] at this; exact this)
 have hC := rrg (n := (w.Prog.length : Int)) (by have := hp.2.2.2; rw [hop] at this; exact this)
 refine ⟨(upR rg (nth w.Prog at_).A (alu (nth w.Prog at_).Op (rdR rg (nth w.Prog at_).B) (rdR rg (nth w.Prog at_).C)), dr, outs, at_ + 1), by unfold stp; rw [if_neg (by rw [hop]; decide), if_neg (by rw [hop]; decide), if_neg (by rw [hop]; decide), if_pos (by rw [hop]; decide)], ⟨i1.up (by rw [hop]; exact md_in _ _ (i1 _) (i1 _)), i2, by show (0 : Int) ≤ at_ + 1; omega, by show at_ + 1 ≤ _; omega⟩, ?_⟩
 simp only [vm_cpu_run.l17b, vm_cpu_mod.f]
 rw [if_pos (by omega), if_pos (by omega), if_pos (by omega), if_neg (by rw [hop]; decide), if_neg (by rw [hop]; decide), if_neg (by rw [hop]; decide), if_neg (by rw [hop]; decide), if_neg (by rw [hop]; decide), if_neg (by rw [hop]; decide), if_neg (by rw [hop]; decide), if_pos hop]
 rw [if_pos hB, if_pos hC, quotient_eq]
 simp only [Option.bind_some]
 rw [if_pos hA, w64 (x := at_ + 1) (by omega) (by omega)]
 simp only [Option.bind_some, vm_cpu_run.j18]
 rw [w64 (x := ((k + 1 : Nat) : Int) - 1) (by omega) (by omega)]
 simp only [show (((k + 1 : Nat) : Int) - 1) = (k : Int) by omega]
 rw [hop]
 rfl
theorem step_less {w : api_World} {m : api_Message} (hF : Fine w m) {rg : Rg} {dr : Int} {outs : List api_Out} {at_ : Int} {k : Nat} (hI : Inv w (rg, dr, outs, at_)) (hk : k < 4096) (ha : at_ < (w.Prog.length : Int)) (hop : (nth w.Prog at_).Op = 8) :
  ∃ s', stp w m (nth w.Prog at_) rg dr outs (at_ + 1) = .inl s' ∧ Inv w s' ∧ vm_cpu_run.l17b w.Prog w.Self w.Links w.Seed m.Key.Time m.Key.From m.Key.Seq m.To m.Value m.Uid m.Anti (rg, dr, outs, at_, ((k + 1 : Nat) : Int)) = some (.inl (s'.1, s'.2.1, s'.2.2.1, s'.2.2.2, (k : Int))) := by
 obtain ⟨i1, i2, i3, i4⟩ := hI
 simp only at i1 i2 i3 i4
 have hn := hF.many
 have hp := may_parts (by have := hF.may at_.toNat (by omega); rw [Int.toNat_of_nonneg i3] at this; exact this)
 have hA := rrg (n := (w.Prog.length : Int)) (by have := hp.2.1; rw [hop] at this; exact this)
 have hB := rrg (n := (w.Prog.length : Int)) (by have := hp.2.2.1; rw [hop] at this; exact this)
 have hC := rrg (n := (w.Prog.length : Int)) (by have := hp.2.2.2; rw [hop] at this; exact this)
 refine ⟨(upR rg (nth w.Prog at_).A (alu (nth w.Prog at_).Op (rdR rg (nth w.Prog at_).B) (rdR rg (nth w.Prog at_).C)), dr, outs, at_ + 1), by unfold stp; rw [if_neg (by rw [hop]; decide), if_neg (by rw [hop]; decide), if_neg (by rw [hop]; decide), if_pos (by rw [hop]; decide)], ⟨i1.up (by rw [hop]; show _ ≤ (if _ then (1 : Int) else 0) ∧ (if _ then (1 : Int) else 0) ≤ _; split <;> decide), i2, by show (0 : Int) ≤ at_ + 1; omega, by show at_ + 1 ≤ _; omega⟩, ?_⟩
 simp only [vm_cpu_run.l17b, vm_cpu_less.f]
 rw [if_pos (by omega), if_pos (by omega), if_pos (by omega), if_neg (by rw [hop]; decide), if_neg (by rw [hop]; decide), if_neg (by rw [hop]; decide), if_neg (by rw [hop]; decide), if_neg (by rw [hop]; decide), if_neg (by rw [hop]; decide), if_neg (by rw [hop]; decide), if_neg (by rw [hop]; decide), if_pos hop]
 rw [if_pos hB, if_pos hC, truth_eq]
 simp only [Option.bind_some]
 rw [if_pos hA, w64 (x := at_ + 1) (by omega) (by omega)]
 simp only [Option.bind_some, vm_cpu_run.j18]
 rw [w64 (x := ((k + 1 : Nat) : Int) - 1) (by omega) (by omega)]
 simp only [show (((k + 1 : Nat) : Int) - 1) = (k : Int) by omega]
 rw [hop]
 simp only [decide_eq_true_eq]
 rfl
theorem step_same {w : api_World} {m : api_Message} (hF : Fine w m) {rg : Rg} {dr : Int} {outs : List api_Out} {at_ : Int} {k : Nat} (hI : Inv w (rg, dr, outs, at_)) (hk : k < 4096) (ha : at_ < (w.Prog.length : Int)) (hop : (nth w.Prog at_).Op = 9) :
  ∃ s', stp w m (nth w.Prog at_) rg dr outs (at_ + 1) = .inl s' ∧ Inv w s' ∧ vm_cpu_run.l17b w.Prog w.Self w.Links w.Seed m.Key.Time m.Key.From m.Key.Seq m.To m.Value m.Uid m.Anti (rg, dr, outs, at_, ((k + 1 : Nat) : Int)) = some (.inl (s'.1, s'.2.1, s'.2.2.1, s'.2.2.2, (k : Int))) := by
 obtain ⟨i1, i2, i3, i4⟩ := hI
 simp only at i1 i2 i3 i4
 have hn := hF.many
 have hp := may_parts (by have := hF.may at_.toNat (by omega); rw [Int.toNat_of_nonneg i3] at this; exact this)
 have hA := rrg (n := (w.Prog.length : Int)) (by have := hp.2.1; rw [hop] at this; exact this)
 have hB := rrg (n := (w.Prog.length : Int)) (by have := hp.2.2.1; rw [hop] at this; exact this)
 have hC := rrg (n := (w.Prog.length : Int)) (by have := hp.2.2.2; rw [hop] at this; exact this)
 refine ⟨(upR rg (nth w.Prog at_).A (alu (nth w.Prog at_).Op (rdR rg (nth w.Prog at_).B) (rdR rg (nth w.Prog at_).C)), dr, outs, at_ + 1), by unfold stp; rw [if_neg (by rw [hop]; decide), if_neg (by rw [hop]; decide), if_neg (by rw [hop]; decide), if_pos (by rw [hop]; decide)], ⟨i1.up (by rw [hop]; show _ ≤ (if _ then (1 : Int) else 0) ∧ (if _ then (1 : Int) else 0) ≤ _; split <;> decide), i2, by show (0 : Int) ≤ at_ + 1; omega, by show at_ + 1 ≤ _; omega⟩, ?_⟩
 simp only [vm_cpu_run.l17b, vm_cpu_same.f]
 rw [if_pos (by omega), if_pos (by omega), if_pos (by omega), if_neg (by rw [hop]; decide), if_neg (by rw [hop]; decide), if_neg (by rw [hop]; decide), if_neg (by rw [hop]; decide), if_neg (by rw [hop]; decide), if_neg (by rw [hop]; decide), if_neg (by rw [hop]; decide), if_neg (by rw [hop]; decide), if_neg (by rw [hop]; decide), if_pos hop]
 rw [if_pos hB, if_pos hC, truth_eq]
 simp only [Option.bind_some]
 rw [if_pos hA, w64 (x := at_ + 1) (by omega) (by omega)]
 simp only [Option.bind_some, vm_cpu_run.j18]
 rw [w64 (x := ((k + 1 : Nat) : Int) - 1) (by omega) (by omega)]
 simp only [show (((k + 1 : Nat) : Int) - 1) = (k : Int) by omega]
 rw [hop]
 simp only [decide_eq_true_eq]
 rfl
theorem step_jump {w : api_World} {m : api_Message} (hF : Fine w m) {rg : Rg} {dr : Int} {outs : List api_Out} {at_ : Int} {k : Nat} (hI : Inv w (rg, dr, outs, at_)) (hk : k < 4096) (ha : at_ < (w.Prog.length : Int)) (hop : (nth w.Prog at_).Op = 10) :
  ∃ s', stp w m (nth w.Prog at_) rg dr outs (at_ + 1) = .inl s' ∧ Inv w s' ∧ vm_cpu_run.l17b w.Prog w.Self w.Links w.Seed m.Key.Time m.Key.From m.Key.Seq m.To m.Value m.Uid m.Anti (rg, dr, outs, at_, ((k + 1 : Nat) : Int)) = some (.inl (s'.1, s'.2.1, s'.2.2.1, s'.2.2.2, (k : Int))) := by
 obtain ⟨i1, i2, i3, i4⟩ := hI
 simp only at i1 i2 i3 i4
 have hn := hF.many
 have hp := may_parts (by have := hF.may at_.toNat (by omega); rw [Int.toNat_of_nonneg i3] at this; exact this)
 have hA := rp (n := (w.Prog.length : Int)) (by have := hp.2.1; rw [hop] at this; exact this)
 refine ⟨(rg, dr, outs, (nth w.Prog at_).A), by unfold stp; rw [if_neg (by rw [hop]; decide), if_neg (by rw [hop]; decide), if_neg (by rw [hop]; decide), if_neg (by rw [hop]; decide), if_pos hop], ⟨i1, i2, hA.1, hA.2⟩, ?_⟩
 simp only [vm_cpu_run.l17b, vm_cpu_jump.f]
 rw [if_pos (by omega), if_pos (by omega), if_pos (by omega), if_neg (by rw [hop]; decide), if_neg (by rw [hop]; decide), if_neg (by rw [hop]; decide), if_neg (by rw [hop]; decide), if_neg (by rw [hop]; decide), if_neg (by rw [hop]; decide), if_neg (by rw [hop]; decide), if_neg (by rw [hop]; decide), if_neg (by rw [hop]; decide), if_neg (by rw [hop]; decide), if_pos hop]
 skip
 simp only [Option.bind_some, vm_cpu_run.j18]
 rw [w64 (x := ((k + 1 : Nat) : Int) - 1) (by omega) (by omega)]
 simp only [show (((k + 1 : Nat) : Int) - 1) = (k : Int) by omega]
 try rfl
theorem step_zero {w : api_World} {m : api_Message} (hF : Fine w m) {rg : Rg} {dr : Int} {outs : List api_Out} {at_ : Int} {k : Nat} (hI : Inv w (rg, dr, outs, at_)) (hk : k < 4096) (ha : at_ < (w.Prog.length : Int)) (hop : (nth w.Prog at_).Op = 11) :
  ∃ s', stp w m (nth w.Prog at_) rg dr outs (at_ + 1) = .inl s' ∧ Inv w s' ∧ vm_cpu_run.l17b w.Prog w.Self w.Links w.Seed m.Key.Time m.Key.From m.Key.Seq m.To m.Value m.Uid m.Anti (rg, dr, outs, at_, ((k + 1 : Nat) : Int)) = some (.inl (s'.1, s'.2.1, s'.2.2.1, s'.2.2.2, (k : Int))) := by
 obtain ⟨i1, i2, i3, i4⟩ := hI
 simp only at i1 i2 i3 i4
 have hn := hF.many
 have hp := may_parts (by have := hF.may at_.toNat (by omega); rw [Int.toNat_of_nonneg i3] at this; exact this)
 have hA := rrg (n := (w.Prog.length : Int)) (by have := hp.2.1; rw [hop] at this; exact this)
 have hB := rp (n := (w.Prog.length : Int)) (by have := hp.2.2.1; rw [hop] at this; exact this)
 refine ⟨(rg, dr, outs, if rdR rg (nth w.Prog at_).A = 0 then (nth w.Prog at_).B else at_ + 1), by unfold stp; rw [if_neg (by rw [hop]; decide), if_neg (by rw [hop]; decide), if_neg (by rw [hop]; decide), if_neg (by rw [hop]; decide), if_neg (by rw [hop]; decide), if_pos hop], ⟨i1, i2, by show (0 : Int) ≤ (if rdR rg (nth w.Prog at_).A = 0 then (nth w.Prog at_).B else at_ + 1); split <;> omega, by show (if rdR rg (nth w.Prog at_).A = 0 then (nth w.Prog at_).B else at_ + 1) ≤ (w.Prog.length : Int); split <;> omega⟩, ?_⟩
 simp only [vm_cpu_run.l17b, vm_cpu_zero.f]
 rw [if_pos (by omega), if_pos (by omega), if_pos (by omega), if_neg (by rw [hop]; decide), if_neg (by rw [hop]; decide), if_neg (by rw [hop]; decide), if_neg (by rw [hop]; decide), if_neg (by rw [hop]; decide), if_neg (by rw [hop]; decide), if_neg (by rw [hop]; decide), if_neg (by rw [hop]; decide), if_neg (by rw [hop]; decide), if_neg (by rw [hop]; decide), if_neg (by rw [hop]; decide), if_pos hop]
 rw [if_pos hA, w64 (x := at_ + 1) (by omega) (by omega)]
 unfold rdR
 by_cases hz : rg ((nth w.Prog at_).A.toNat * 1) = 0
 all_goals simp only [hz, if_true, if_false, Option.bind_some, vm_cpu_run.j18]
 all_goals rw [w64 (x := ((k + 1 : Nat) : Int) - 1) (by omega) (by omega)]
 all_goals simp only [show (((k + 1 : Nat) : Int) - 1) = (k : Int) by omega]
theorem step_send {w : api_World} {m : api_Message} (hF : Fine w m) {rg : Rg} {dr : Int} {outs : List api_Out} {at_ : Int} {k : Nat} (hI : Inv w (rg, dr, outs, at_)) (hk : k < 4096) (ha : at_ < (w.Prog.length : Int)) (hop : (nth w.Prog at_).Op = 12) :
  (∃ s', stp w m (nth w.Prog at_) rg dr outs (at_ + 1) = .inl s' ∧ Inv w s' ∧ vm_cpu_run.l17b w.Prog w.Self w.Links w.Seed m.Key.Time m.Key.From m.Key.Seq m.To m.Value m.Uid m.Anti (rg, dr, outs, at_, ((k + 1 : Nat) : Int)) = some (.inl (s'.1, s'.2.1, s'.2.2.1, s'.2.2.2, (k : Int)))) ∨ (∃ e x, stp w m (nth w.Prog at_) rg dr outs (at_ + 1) = .inr e ∧ x.1.why = e ∧ vm_cpu_run.l17b w.Prog w.Self w.Links w.Seed m.Key.Time m.Key.From m.Key.Seq m.To m.Value m.Uid m.Anti (rg, dr, outs, at_, ((k + 1 : Nat) : Int)) = some (.inr (.inr x))) := by
 obtain ⟨i1, i2, i3, i4⟩ := hI
 simp only at i1 i2 i3 i4
 have hn := hF.many
 have hp := may_parts (by have := hF.may at_.toNat (by omega); rw [Int.toNat_of_nonneg i3] at this; exact this)
 have hA := rrg (n := (w.Prog.length : Int)) (by have := hp.2.1; rw [hop] at this; exact this)
 have hB := rrg (n := (w.Prog.length : Int)) (by have := hp.2.2.1; rw [hop] at this; exact this)
 have hC := rrg (n := (w.Prog.length : Int)) (by have := hp.2.2.2; rw [hop] at this; exact this)
 have hst : stp w m (nth w.Prog at_) rg dr outs (at_ + 1) = (match sendS w m (nth w.Prog at_) rg outs with | .inl o => .inl (rg, dr, o, at_ + 1) | .inr e => .inr e) := by unfold stp; rw [if_neg (by rw [hop]; decide), if_neg (by rw [hop]; decide), if_neg (by rw [hop]; decide), if_neg (by rw [hop]; decide), if_neg (by rw [hop]; decide), if_neg (by rw [hop]; decide), if_pos hop]
 rw [hst]
 have hlb : vm_cpu_run.l17b w.Prog w.Self w.Links w.Seed m.Key.Time m.Key.From m.Key.Seq m.To m.Value m.Uid m.Anti (rg, dr, outs, at_, ((k + 1 : Nat) : Int)) = ((vm_cpu_send.f w.Prog w.Self w.Links w.Seed m.Key.Time m.Key.From m.Key.Seq m.To m.Value m.Uid m.Anti dr outs (at_ + 1) rg (nth w.Prog at_)).bind fun t => match t with | .inl y => some (.inl (rg, dr, y, at_ + 1, (k : Int))) | .inr y => (Option.map Sum.inr ((vm_cpu_run_1v2.f y).bind fun t => some (.inr (t, rg, dr, outs, at_ + 1))))) := by
  simp only [vm_cpu_run.l17b]
  rw [if_pos (by omega), if_pos (by omega), if_pos (by omega), if_neg (by rw [hop]; decide), if_neg (by rw [hop]; decide), if_neg (by rw [hop]; decide), if_neg (by rw [hop]; decide), if_neg (by rw [hop]; decide), if_neg (by rw [hop]; decide), if_neg (by rw [hop]; decide), if_neg (by rw [hop]; decide), if_neg (by rw [hop]; decide), if_neg (by rw [hop]; decide), if_neg (by rw [hop]; decide), if_neg (by rw [hop]; decide), if_pos hop]
  rw [w64 (x := at_ + 1) (by omega) (by omega)]
  simp only [vm_cpu_run.j18]
  rw [w64 (x := ((k + 1 : Nat) : Int) - 1) (by omega) (by omega)]
  simp only [show (((k + 1 : Nat) : Int) - 1) = (k : Int) by omega]
  rfl
 have hjoin : ∀ f : vm_fault, vm_cpu_run_1v2.f f = some f := fun f => rfl
 rw [hlb]
 unfold sendS vm_cpu_send.f
 have hl := hF.links
 by_cases h0 : (w.Links.length : Int) = 0
 ·rw [if_pos h0, if_pos h0]
  exact .inl ⟨_, rfl, ⟨i1, i2, by show (0 : Int) ≤ at_ + 1; omega, by show at_ + 1 ≤ _; omega⟩, rfl⟩
 rw [if_neg h0, if_neg h0]
 by_cases h8 : (outs.length : Int) = 8
 ·rw [if_pos h8, if_pos h8]
  exact .inl ⟨_, rfl, ⟨i1, i2, by show (0 : Int) ≤ at_ + 1; omega, by show at_ + 1 ≤ _; omega⟩, rfl⟩
 have hk2 := lkof_in (rdR rg (nth w.Prog at_).A) (n := (w.Links.length : Int)) (by omega) (by omega)
 rw [if_neg h8, if_neg h8, if_pos hA, if_pos h0, if_pos hB, if_pos hC, if_pos (show 0 ≤ Int.tmod (IntKind.i64.wrap ((Int.tmod (rg ((nth w.Prog at_).A.toNat * 1)) (w.Links.length : Int)) + (w.Links.length : Int))) (w.Links.length : Int) ∧ Int.tmod (IntKind.i64.wrap ((Int.tmod (rg ((nth w.Prog at_).A.toNat * 1)) (w.Links.length : Int)) + (w.Links.length : Int))) (w.Links.length : Int) < (w.Links.length : Int) from hk2)]
 by_cases hd : rdR rg (nth w.Prog at_).B < (nth w.Links (lkof (rdR rg (nth w.Prog at_).A) (w.Links.length : Int))).Look
 ·rw [if_pos hd, if_pos (show rg ((nth w.Prog at_).B.toNat * 1) < (nth w.Links (Int.tmod (IntKind.i64.wrap ((Int.tmod (rg ((nth w.Prog at_).A.toNat * 1)) (w.Links.length : Int)) + (w.Links.length : Int))) (w.Links.length : Int))).Look from hd)]
  exact .inr ⟨50, (⟨at_ + 1, 50⟩, rg, dr, outs, at_ + 1), rfl, rfl, rfl⟩
 rw [if_neg hd, if_neg (show ¬ rg ((nth w.Prog at_).B.toNat * 1) < (nth w.Links (Int.tmod (IntKind.i64.wrap ((Int.tmod (rg ((nth w.Prog at_).A.toNat * 1)) (w.Links.length : Int)) + (w.Links.length : Int))) (w.Links.length : Int))).Look from hd)]
 have hlook : 1 ≤ (nth w.Links (lkof (rdR rg (nth w.Prog at_).A) (w.Links.length : Int))).Look := by
  have := hF.look (lkof (rdR rg (nth w.Prog at_).A) (w.Links.length : Int)).toNat (by omega)
  rwa [Int.toNat_of_nonneg hk2.1] at this
 have hadd : vtime_Add.f m.Key.Time (rdR rg (nth w.Prog at_).B) = some (if 4611686018427387903 - m.Key.Time < rdR rg (nth w.Prog at_).B then (0, 10) else (IntKind.i64.wrap (m.Key.Time + rdR rg (nth w.Prog at_).B), 0)) := by
  have ht := hF.time
  unfold vtime_Add.f
  simp only [valid_eq, Option.bind_some]
  rw [if_pos (by simp only [timeB, decide_eq_true_eq]; omega), if_neg (by omega), w64 (x := 4611686018427387903 - m.Key.Time) (by omega) (by omega)]
  split <;> rfl
 rw [show vtime_Add.f m.Key.Time (rg ((nth w.Prog at_).B.toNat * 1)) = _ from hadd]
 by_cases ht : 4611686018427387903 - m.Key.Time < rdR rg (nth w.Prog at_).B
 ·rw [if_pos ht, if_pos ht]
  exact .inr ⟨10, (⟨at_ + 1, 10⟩, rg, dr, outs, at_ + 1), rfl, rfl, rfl⟩
 ·rw [if_neg ht, if_neg ht]
  simp only [Option.bind_some]
  rw [if_pos trivial, if_pos (by omega)]
  refine .inl ⟨_, rfl, ⟨i1, ?_, by show (0 : Int) ≤ at_ + 1; omega, by show at_ + 1 ≤ _; omega⟩, rfl⟩
  show (outs ++ [_]).length ≤ 8
  rw [List.length_append, List.length_singleton]
  omega
theorem step_draw {w : api_World} {m : api_Message} (hF : Fine w m) {rg : Rg} {dr : Int} {outs : List api_Out} {at_ : Int} {k : Nat} (hI : Inv w (rg, dr, outs, at_)) (hk : k < 4096) (ha : at_ < (w.Prog.length : Int)) (hop : (nth w.Prog at_).Op = 13) :
  ∃ s', stp w m (nth w.Prog at_) rg dr outs (at_ + 1) = .inl s' ∧ Inv w s' ∧ vm_cpu_run.l17b w.Prog w.Self w.Links w.Seed m.Key.Time m.Key.From m.Key.Seq m.To m.Value m.Uid m.Anti (rg, dr, outs, at_, ((k + 1 : Nat) : Int)) = some (.inl (s'.1, s'.2.1, s'.2.2.1, s'.2.2.2, (k : Int))) := by
 obtain ⟨i1, i2, i3, i4⟩ := hI
 simp only at i1 i2 i3 i4
 have hn := hF.many
 have hp := may_parts (by have := hF.may at_.toNat (by omega); rw [Int.toNat_of_nonneg i3] at this; exact this)
 have hA := rrg (n := (w.Prog.length : Int)) (by have := hp.2.1; rw [hop] at this; exact this)
 have hB := rrg (n := (w.Prog.length : Int)) (by have := hp.2.2.1; rw [hop] at this; exact this)
 refine ⟨(upR rg (nth w.Prog at_).A (below w.Seed w.Self dr (rdR rg (nth w.Prog at_).B)), IntKind.i64.wrap (dr + 1), outs, at_ + 1), by unfold stp; rw [if_neg (by rw [hop]; decide), if_neg (by rw [hop]; decide), if_neg (by rw [hop]; decide), if_neg (by rw [hop]; decide), if_neg (by rw [hop]; decide), if_neg (by rw [hop]; decide), if_neg (by rw [hop]; decide), if_pos hop], ⟨i1.up (below_in _ _ _ _), i2, by show (0 : Int) ≤ at_ + 1; omega, by show at_ + 1 ≤ _; omega⟩, ?_⟩
 simp only [vm_cpu_run.l17b, vm_cpu_draw.f]
 rw [if_pos (by omega), if_pos (by omega), if_pos (by omega), if_neg (by rw [hop]; decide), if_neg (by rw [hop]; decide), if_neg (by rw [hop]; decide), if_neg (by rw [hop]; decide), if_neg (by rw [hop]; decide), if_neg (by rw [hop]; decide), if_neg (by rw [hop]; decide), if_neg (by rw [hop]; decide), if_neg (by rw [hop]; decide), if_neg (by rw [hop]; decide), if_neg (by rw [hop]; decide), if_neg (by rw [hop]; decide), if_neg (by rw [hop]; decide), if_pos hop]
 rw [if_pos hB, below_eq _ _ _ _ (i1 _).2]
 simp only [Option.bind_some]
 rw [if_pos hA, w64 (x := at_ + 1) (by omega) (by omega)]
 simp only [Option.bind_some, vm_cpu_run.j18]
 rw [w64 (x := ((k + 1 : Nat) : Int) - 1) (by omega) (by omega)]
 simp only [show (((k + 1 : Nat) : Int) - 1) = (k : Int) by omega]
 try rfl
theorem step_value {w : api_World} {m : api_Message} (hF : Fine w m) {rg : Rg} {dr : Int} {outs : List api_Out} {at_ : Int} {k : Nat} (hI : Inv w (rg, dr, outs, at_)) (hk : k < 4096) (ha : at_ < (w.Prog.length : Int)) (hop : (nth w.Prog at_).Op = 14) :
  ∃ s', stp w m (nth w.Prog at_) rg dr outs (at_ + 1) = .inl s' ∧ Inv w s' ∧ vm_cpu_run.l17b w.Prog w.Self w.Links w.Seed m.Key.Time m.Key.From m.Key.Seq m.To m.Value m.Uid m.Anti (rg, dr, outs, at_, ((k + 1 : Nat) : Int)) = some (.inl (s'.1, s'.2.1, s'.2.2.1, s'.2.2.2, (k : Int))) := by
 obtain ⟨i1, i2, i3, i4⟩ := hI
 simp only at i1 i2 i3 i4
 have hn := hF.many
 have hp := may_parts (by have := hF.may at_.toNat (by omega); rw [Int.toNat_of_nonneg i3] at this; exact this)
 have hA := rrg (n := (w.Prog.length : Int)) (by have := hp.2.1; rw [hop] at this; exact this)
 refine ⟨(upR rg (nth w.Prog at_).A m.Value, dr, outs, at_ + 1), by unfold stp; rw [if_neg (by rw [hop]; decide), if_neg (by rw [hop]; decide), if_neg (by rw [hop]; decide), if_neg (by rw [hop]; decide), if_neg (by rw [hop]; decide), if_neg (by rw [hop]; decide), if_neg (by rw [hop]; decide), if_neg (by rw [hop]; decide), if_pos hop], ⟨i1.up hF.value, i2, by show (0 : Int) ≤ at_ + 1; omega, by show at_ + 1 ≤ _; omega⟩, ?_⟩
 simp only [vm_cpu_run.l17b, vm_cpu_value.f]
 rw [if_pos (by omega), if_pos (by omega), if_pos (by omega), if_neg (by rw [hop]; decide), if_neg (by rw [hop]; decide), if_neg (by rw [hop]; decide), if_neg (by rw [hop]; decide), if_neg (by rw [hop]; decide), if_neg (by rw [hop]; decide), if_neg (by rw [hop]; decide), if_neg (by rw [hop]; decide), if_neg (by rw [hop]; decide), if_neg (by rw [hop]; decide), if_neg (by rw [hop]; decide), if_neg (by rw [hop]; decide), if_neg (by rw [hop]; decide), if_neg (by rw [hop]; decide), if_pos hop]
 rw [if_pos hA, w64 (x := at_ + 1) (by omega) (by omega)]
 simp only [Option.bind_some, vm_cpu_run.j18]
 rw [w64 (x := ((k + 1 : Nat) : Int) - 1) (by omega) (by omega)]
 simp only [show (((k + 1 : Nat) : Int) - 1) = (k : Int) by omega]
 try rfl
theorem step_time {w : api_World} {m : api_Message} (hF : Fine w m) {rg : Rg} {dr : Int} {outs : List api_Out} {at_ : Int} {k : Nat} (hI : Inv w (rg, dr, outs, at_)) (hk : k < 4096) (ha : at_ < (w.Prog.length : Int)) (hop : (nth w.Prog at_).Op = 15) :
  ∃ s', stp w m (nth w.Prog at_) rg dr outs (at_ + 1) = .inl s' ∧ Inv w s' ∧ vm_cpu_run.l17b w.Prog w.Self w.Links w.Seed m.Key.Time m.Key.From m.Key.Seq m.To m.Value m.Uid m.Anti (rg, dr, outs, at_, ((k + 1 : Nat) : Int)) = some (.inl (s'.1, s'.2.1, s'.2.2.1, s'.2.2.2, (k : Int))) := by
 obtain ⟨i1, i2, i3, i4⟩ := hI
 simp only at i1 i2 i3 i4
 have hn := hF.many
 have hp := may_parts (by have := hF.may at_.toNat (by omega); rw [Int.toNat_of_nonneg i3] at this; exact this)
 have hA := rrg (n := (w.Prog.length : Int)) (by have := hp.2.1; rw [hop] at this; exact this)
 refine ⟨(upR rg (nth w.Prog at_).A m.Key.Time, dr, outs, at_ + 1), by unfold stp; rw [if_neg (by rw [hop]; decide), if_neg (by rw [hop]; decide), if_neg (by rw [hop]; decide), if_neg (by rw [hop]; decide), if_neg (by rw [hop]; decide), if_neg (by rw [hop]; decide), if_neg (by rw [hop]; decide), if_neg (by rw [hop]; decide), if_neg (by rw [hop]; decide), if_pos hop], ⟨i1.up (by have := hF.time; omega), i2, by show (0 : Int) ≤ at_ + 1; omega, by show at_ + 1 ≤ _; omega⟩, ?_⟩
 simp only [vm_cpu_run.l17b, vm_cpu_time.f]
 rw [if_pos (by omega), if_pos (by omega), if_pos (by omega), if_neg (by rw [hop]; decide), if_neg (by rw [hop]; decide), if_neg (by rw [hop]; decide), if_neg (by rw [hop]; decide), if_neg (by rw [hop]; decide), if_neg (by rw [hop]; decide), if_neg (by rw [hop]; decide), if_neg (by rw [hop]; decide), if_neg (by rw [hop]; decide), if_neg (by rw [hop]; decide), if_neg (by rw [hop]; decide), if_neg (by rw [hop]; decide), if_neg (by rw [hop]; decide), if_neg (by rw [hop]; decide), if_neg (by rw [hop]; decide), if_pos hop]
 rw [if_pos hA, w64 (x := at_ + 1) (by omega) (by omega)]
 simp only [Option.bind_some, vm_cpu_run.j18]
 rw [w64 (x := ((k + 1 : Nat) : Int) - 1) (by omega) (by omega)]
 simp only [show (((k + 1 : Nat) : Int) - 1) = (k : Int) by omega]
 try rfl
theorem step_self {w : api_World} {m : api_Message} (hF : Fine w m) {rg : Rg} {dr : Int} {outs : List api_Out} {at_ : Int} {k : Nat} (hI : Inv w (rg, dr, outs, at_)) (hk : k < 4096) (ha : at_ < (w.Prog.length : Int)) (hop : (nth w.Prog at_).Op = 16) :
  ∃ s', stp w m (nth w.Prog at_) rg dr outs (at_ + 1) = .inl s' ∧ Inv w s' ∧ vm_cpu_run.l17b w.Prog w.Self w.Links w.Seed m.Key.Time m.Key.From m.Key.Seq m.To m.Value m.Uid m.Anti (rg, dr, outs, at_, ((k + 1 : Nat) : Int)) = some (.inl (s'.1, s'.2.1, s'.2.2.1, s'.2.2.2, (k : Int))) := by
 obtain ⟨i1, i2, i3, i4⟩ := hI
 simp only at i1 i2 i3 i4
 have hn := hF.many
 have hp := may_parts (by have := hF.may at_.toNat (by omega); rw [Int.toNat_of_nonneg i3] at this; exact this)
 have hA := rrg (n := (w.Prog.length : Int)) (by have := hp.2.1; rw [hop] at this; exact this)
 refine ⟨(upR rg (nth w.Prog at_).A w.Self, dr, outs, at_ + 1), by unfold stp; rw [if_neg (by rw [hop]; decide), if_neg (by rw [hop]; decide), if_neg (by rw [hop]; decide), if_neg (by rw [hop]; decide), if_neg (by rw [hop]; decide), if_neg (by rw [hop]; decide), if_neg (by rw [hop]; decide), if_neg (by rw [hop]; decide), if_neg (by rw [hop]; decide), if_neg (by rw [hop]; decide)], ⟨i1.up (by have := hF.self; omega), i2, by show (0 : Int) ≤ at_ + 1; omega, by show at_ + 1 ≤ _; omega⟩, ?_⟩
 simp only [vm_cpu_run.l17b, vm_cpu_self.f]
 rw [if_pos (by omega), if_pos (by omega), if_pos (by omega), if_neg (by rw [hop]; decide), if_neg (by rw [hop]; decide), if_neg (by rw [hop]; decide), if_neg (by rw [hop]; decide), if_neg (by rw [hop]; decide), if_neg (by rw [hop]; decide), if_neg (by rw [hop]; decide), if_neg (by rw [hop]; decide), if_neg (by rw [hop]; decide), if_neg (by rw [hop]; decide), if_neg (by rw [hop]; decide), if_neg (by rw [hop]; decide), if_neg (by rw [hop]; decide), if_neg (by rw [hop]; decide), if_neg (by rw [hop]; decide), if_neg (by rw [hop]; decide), if_pos hop]
 rw [if_pos hA, w64 (x := at_ + 1) (by omega) (by omega)]
 simp only [Option.bind_some, vm_cpu_run.j18]
 rw [w64 (x := ((k + 1 : Nat) : Int) - 1) (by omega) (by omega)]
 simp only [show (((k + 1 : Nat) : Int) - 1) = (k : Int) by omega]
 try rfl
noncomputable def runF (w : api_World) (m : api_Message) : Nat → Sv → Sv ⊕ Int
 | 0, s => .inl s
 | k + 1, s => if s.2.2.2 < (w.Prog.length : Int) then match stp w m (nth w.Prog s.2.2.2) s.1 s.2.1 s.2.2.1 (s.2.2.2 + 1) with | .inl s' => runF w m k s' | .inr e => .inr e else .inl s
def Rel (a : Sv ⊕ Int) (b : Sv ⊕ (vm_fault × Sv)) : Prop := match a, b with
 | .inl x, .inl y => x = y
 | .inr e, .inr y => y.1.why = e
 | _, _ => False
theorem run_loop {w : api_World} {m : api_Message} (hF : Fine w m) : ∀ (k : Nat) (hk : k ≤ 4096) (s : Sv), Inv w s →
  ∃ r, loopR (vm_cpu_run.l17b w.Prog w.Self w.Links w.Seed m.Key.Time m.Key.From m.Key.Seq m.To m.Value m.Uid m.Anti) (s.1, s.2.1, s.2.2.1, s.2.2.2, (k : Int)) = some r ∧ Rel (runF w m k s) r ∧ ∀ s', runF w m k s = .inl s' → Inv w s' := by
 intro k
 induction k with
 | zero =>
  intro _ s hI
  refine ⟨.inl s, ?_, rfl, fun s' e => by cases e; exact hI⟩
  rw [loopR_eq]
  simp only [vm_cpu_run.l17b]
  rw [if_neg (by decide)]
  rfl
 | succ k ih =>
  intro hk s hI
  obtain ⟨rg, dr, outs, at_⟩ := s
  by_cases ha : at_ < (w.Prog.length : Int)
  ·have hp := may_parts (by have := hF.may at_.toNat (by have := hI.a0; simp only at this; omega); rw [Int.toNat_of_nonneg hI.a0] at this; exact this)
   have key : (∃ s', stp w m (nth w.Prog at_) rg dr outs (at_ + 1) = .inl s' ∧ Inv w s' ∧ vm_cpu_run.l17b w.Prog w.Self w.Links w.Seed m.Key.Time m.Key.From m.Key.Seq m.To m.Value m.Uid m.Anti (rg, dr, outs, at_, ((k + 1 : Nat) : Int)) = some (.inl (s'.1, s'.2.1, s'.2.2.1, s'.2.2.2, (k : Int)))) ∨ (∃ e x, stp w m (nth w.Prog at_) rg dr outs (at_ + 1) = .inr e ∧ x.1.why = e ∧ vm_cpu_run.l17b w.Prog w.Self w.Links w.Seed m.Key.Time m.Key.From m.Key.Seq m.To m.Value m.Uid m.Anti (rg, dr, outs, at_, ((k + 1 : Nat) : Int)) = some (.inr (.inr x))) := by
    rcases op_cases hp.1.1 hp.1.2 with h | h | h | h | h | h | h | h | h | h | h | h | h | h | h | h | h
    ·exact .inl (step_halt hF hI (by omega) ha h)
    ·exact .inl (step_set hF hI (by omega) ha h)
    ·exact .inl (step_move hF hI (by omega) ha h)
    ·exact .inl (step_add hF hI (by omega) ha h)
    ·exact .inl (step_sub hF hI (by omega) ha h)
    ·exact .inl (step_mul hF hI (by omega) ha h)
    ·exact .inl (step_div hF hI (by omega) ha h)
    ·exact .inl (step_mod hF hI (by omega) ha h)
    ·exact .inl (step_less hF hI (by omega) ha h)
    ·exact .inl (step_same hF hI (by omega) ha h)
    ·exact .inl (step_jump hF hI (by omega) ha h)
    ·exact .inl (step_zero hF hI (by omega) ha h)
    ·exact (step_send hF hI (by omega) ha h)
    ·exact .inl (step_draw hF hI (by omega) ha h)
    ·exact .inl (step_value hF hI (by omega) ha h)
    ·exact .inl (step_time hF hI (by omega) ha h)
    ·exact .inl (step_self hF hI (by omega) ha h)
   simp only [runF]
   rw [if_pos ha, loopR_eq]
   rcases key with ⟨s', e1, e2, e3⟩ | ⟨e, x, e1, e2, e3⟩
   ·rw [e1, e3]
    exact ih (by omega) s' e2
   ·rw [e1, e3]
    exact ⟨.inr x, rfl, e2, fun s' e => by cases e⟩
  ·simp only [runF]
   rw [if_neg ha]
   refine ⟨.inl (rg, dr, outs, at_), ?_, rfl, fun s' e => by cases e; exact hI⟩
   rw [loopR_eq]
   simp only [vm_cpu_run.l17b]
   rw [if_pos (by omega), if_neg ha]
   rfl
theorem step_inv {w : api_World} {m : api_Message} (hF : Fine w m) {rg : Rg} {dr : Int} {outs : List api_Out} {at_ : Int} {s' : Sv} (hI : Inv w (rg, dr, outs, at_)) (ha : at_ < (w.Prog.length : Int)) (e : stp w m (nth w.Prog at_) rg dr outs (at_ + 1) = .inl s') : Inv w s' := by
 have hp := may_parts (by have := hF.may at_.toNat (by have := hI.a0; simp only at this; omega); rw [Int.toNat_of_nonneg hI.a0] at this; exact this)
 rcases op_cases hp.1.1 hp.1.2 with h | h | h | h | h | h | h | h | h | h | h | h | h | h | h | h | h
 ·obtain ⟨s2, e1, e2, _⟩ := step_halt hF hI (k := 0) (by decide) ha h
  rw [e1] at e
  cases e
  exact e2
 ·obtain ⟨s2, e1, e2, _⟩ := step_set hF hI (k := 0) (by decide) ha h
  rw [e1] at e
  cases e
  exact e2
 ·obtain ⟨s2, e1, e2, _⟩ := step_move hF hI (k := 0) (by decide) ha h
  rw [e1] at e
  cases e
  exact e2
 ·obtain ⟨s2, e1, e2, _⟩ := step_add hF hI (k := 0) (by decide) ha h
  rw [e1] at e
  cases e
  exact e2
 ·obtain ⟨s2, e1, e2, _⟩ := step_sub hF hI (k := 0) (by decide) ha h
  rw [e1] at e
  cases e
  exact e2
 ·obtain ⟨s2, e1, e2, _⟩ := step_mul hF hI (k := 0) (by decide) ha h
  rw [e1] at e
  cases e
  exact e2
 ·obtain ⟨s2, e1, e2, _⟩ := step_div hF hI (k := 0) (by decide) ha h
  rw [e1] at e
  cases e
  exact e2
 ·obtain ⟨s2, e1, e2, _⟩ := step_mod hF hI (k := 0) (by decide) ha h
  rw [e1] at e
  cases e
  exact e2
 ·obtain ⟨s2, e1, e2, _⟩ := step_less hF hI (k := 0) (by decide) ha h
  rw [e1] at e
  cases e
  exact e2
 ·obtain ⟨s2, e1, e2, _⟩ := step_same hF hI (k := 0) (by decide) ha h
  rw [e1] at e
  cases e
  exact e2
 ·obtain ⟨s2, e1, e2, _⟩ := step_jump hF hI (k := 0) (by decide) ha h
  rw [e1] at e
  cases e
  exact e2
 ·obtain ⟨s2, e1, e2, _⟩ := step_zero hF hI (k := 0) (by decide) ha h
  rw [e1] at e
  cases e
  exact e2
 ·rcases step_send hF hI (k := 0) (by decide) ha h with ⟨s2, e1, e2, _⟩ | ⟨e1, x, e2, _⟩
  ·rw [e1] at e
   cases e
   exact e2
  ·rw [e2] at e
   cases e
 ·obtain ⟨s2, e1, e2, _⟩ := step_draw hF hI (k := 0) (by decide) ha h
  rw [e1] at e
  cases e
  exact e2
 ·obtain ⟨s2, e1, e2, _⟩ := step_value hF hI (k := 0) (by decide) ha h
  rw [e1] at e
  cases e
  exact e2
 ·obtain ⟨s2, e1, e2, _⟩ := step_time hF hI (k := 0) (by decide) ha h
  rw [e1] at e
  cases e
  exact e2
 ·obtain ⟨s2, e1, e2, _⟩ := step_self hF hI (k := 0) (by decide) ha h
  rw [e1] at e
  cases e
  exact e2
def stB (s : api_State) : Bool := decide ((0 ≤ s.Draws ∧ s.Draws ≤ 1125899906842624) ∧ 0 ≤ s.Sent ∧ s.Sent ≤ 1125899906842624)
def zst : api_State := ⟨⟨0, 0, 0, 0, 0, 0, 0, 0⟩, 0, 0⟩
def rgs (s : api_State) : Rg := ovl [s.Regs.c0, s.Regs.c1, s.Regs.c2, s.Regs.c3, s.Regs.c4, s.Regs.c5, s.Regs.c6, s.Regs.c7] zfn
def stOf (s : api_State) (f : Rg) (dr : Int) (n : Nat) : api_State := ⟨⟨f 0, f 1, f 2, f 3, f 4, f 5, f 6, f 7⟩, dr, IntKind.i64.wrap (s.Sent + (n : Int))⟩
noncomputable def vmRun (w : api_World) (s : api_State) (m : api_Message) : api_State × List api_Out × Int :=
 if chkW w = 0 then if evB m = true ∧ stB s = true then match runF w m 4096 (rgs s, s.Draws, [], 0) with
  | .inl x => (stOf s x.1 x.2.1 x.2.2.1.length, x.2.2.1, 0)
  | .inr e => (s, [], e)
 else (zst, [], 1) else (zst, [], chkW w)
theorem chk_zero {l : List api_Instr} (h : chk l = 0) : (l.length : Int) ≤ 256 ∧ ∀ k : Nat, k < l.length → mayB (nth l (k : Int)) (l.length : Int) = true := by
 unfold chk at h
 split at h
 ·cases h
 ·rename_i h1
  refine ⟨by omega, fun k hk => ?_⟩
  cases hf : (List.range l.length).find? (fun k : Nat => !mayB (nth l (k : Int)) (l.length : Int)) with
  | some j => rw [hf] at h; cases h
  | none =>
   have := List.find?_eq_none.1 hf k (List.mem_range.2 hk)
   simpa using this
theorem fine_of {w : api_World} {m : api_Message} (hw : chkW w = 0) (hm : evB m = true) (hv : -9223372036854775808 ≤ m.Value ∧ m.Value ≤ 9223372036854775807) : Fine w m := by
 unfold chkW at hw
 split at hw
 ·rename_i h1
  split at hw
  ·rename_i h2
   split at hw
   ·cases hw
   ·rename_i h3
    split at hw
    ·cases hw
    ·rename_i h4
     obtain ⟨p1, p2⟩ := chk_zero h1
     simp only [evB, Bool.and_eq_true] at hm
     refine ⟨p2, p1, by omega, fun k hk => ?_, by simpa [laneW] using h2, by simpa [timeB] using hm.1.1.1, hv⟩
     simp only [Bool.not_eq_true] at h4
     have := List.any_eq_false.1 h4 k (List.mem_range.2 hk)
     simp only [linkBadW, Bool.not_eq_true, Bool.not_eq_false', Bool.and_eq_true, decide_eq_true_eq] at this
     exact this.2.1
  ·cases hw
 ·rename_i h1
  exact absurd hw h1
theorem vm_run_eq (w : api_World) (s : api_State) (m : api_Message) (hs : Rin (rgs s)) (hv : -9223372036854775808 ≤ m.Value ∧ m.Value ≤ 9223372036854775807) : vm_Run.f w s m = some (vmRun w s m) := by
 unfold vm_Run.f vmRun
 simp only [vm_check_eq, event_check_eq, Option.bind_some]
 by_cases hw : chkW w = 0
 ·rw [if_pos hw, if_pos hw]
  by_cases hm : evB m = true
  ·simp only [hm, if_true, true_and]
   by_cases hb : stB s = true
   ·have hb' : (0 ≤ s.Draws ∧ s.Draws ≤ 1125899906842624) ∧ 0 ≤ s.Sent ∧ s.Sent ≤ 1125899906842624 := by simpa [stB] using hb
    rw [if_neg (by split <;> omega), if_neg (by split <;> omega), if_pos hb]
    have hI : Inv w (rgs s, s.Draws, [], 0) := ⟨hs, Nat.zero_le _, Int.le_refl _, by show (0 : Int) ≤ _; omega⟩
    obtain ⟨r, e1, e2, _⟩ := run_loop (fine_of hw hm hv) 4096 (Nat.le_refl _) _ hI
    have e1' : vm_cpu_run.f w.Prog w.Self w.Links w.Seed m.Key.Time m.Key.From m.Key.Seq m.To m.Value m.Uid m.Anti s.Draws ([] : List api_Out) 0 (ovl [s.Regs.c0, s.Regs.c1, s.Regs.c2, s.Regs.c3, s.Regs.c4, s.Regs.c5, s.Regs.c6, s.Regs.c7] zfn) = some r := e1
    rw [e1']
    simp only [Option.bind_some]
    cases hr : runF w m 4096 (rgs s, s.Draws, [], 0) with
    | inl x =>
     rw [hr] at e2
     cases r with
     | inl y => obtain rfl : x = y := e2; rfl
     | inr y => exact e2.elim
    | inr e =>
     rw [hr] at e2
     cases r with
     | inl y => exact e2.elim
     | inr y =>
      obtain ⟨y1, y2, y3, y4, y5⟩ := y
      have e2' : y1.why = e := e2
      subst e2'
      rfl
   ·rw [if_neg hb]
    have hb' : ¬ ((0 ≤ s.Draws ∧ s.Draws ≤ 1125899906842624) ∧ 0 ≤ s.Sent ∧ s.Sent ≤ 1125899906842624) := by simpa [stB] using hb
    by_cases h1 : (if s.Sent < s.Draws then s.Sent else s.Draws) < 0
    ·rw [if_pos h1]; rfl
    rw [if_neg h1]
    by_cases h2 : 1125899906842624 < (if s.Draws < s.Sent then s.Sent else s.Draws)
    ·rw [if_pos h2]; rfl
    exfalso
    apply hb'
    split at h1 <;> split at h2 <;> omega
  ·simp only [Bool.not_eq_true] at hm
   simp [hm, zst]
 ·rw [if_neg hw, if_neg hw]; rfl
end
section
theorem rgs_zst : Rin (rgs zst) := fun j => by
 have : rgs zst j = 0 := by
  match j with
  | 0 => rfl
  | 1 => rfl
  | 2 => rfl
  | 3 => rfl
  | 4 => rfl
  | 5 => rfl
  | 6 => rfl
  | 7 => rfl
  | k + 8 => rfl
 rw [this]
 decide
theorem vmRun_ok {w : api_World} {s : api_State} {m : api_Message} {f : Rg} {dr at_ : Int} {outs : List api_Out} (hw : chkW w = 0) (hm : evB m = true) (hs : stB s = true) (hr : runF w m 4096 (rgs s, s.Draws, [], 0) = .inl (f, dr, outs, at_)) : vmRun w s m = (stOf s f dr outs.length, outs, 0) := by
 unfold vmRun
 rw [if_pos hw, if_pos ⟨hm, hs⟩, hr]
theorem vmRun_err {w : api_World} {s : api_State} {m : api_Message} {e : Int} (hw : chkW w = 0) (hm : evB m = true) (hs : stB s = true) (hr : runF w m 4096 (rgs s, s.Draws, [], 0) = .inr e) : vmRun w s m = (s, [], e) := by
 unfold vmRun
 rw [if_pos hw, if_pos ⟨hm, hs⟩, hr]
end
section
def OutOK (w : api_World) (m : api_Message) (l : List api_Out) : Prop := ∀ o ∈ l, ((0 ≤ o.Link ∧ o.Link < (w.Links.length : Int)) ∧ (nth w.Links o.Link).Look ≤ o.Delay ∧ o.Delay ≤ 4611686018427387903 - m.Key.Time) ∧ -9223372036854775808 ≤ o.Value ∧ o.Value ≤ 9223372036854775807
theorem send_out {w : api_World} {m : api_Message} (hF : Fine w m) {i : api_Instr} {rg : Rg} (hr : Rin rg) {outs o : List api_Out} (ho : OutOK w m outs) (e : sendS w m i rg outs = .inl o) : OutOK w m o := by
 unfold sendS at e
 split at e
 ·cases e; exact ho
 ·rename_i h0
  split at e
  ·cases e; exact ho
  ·split at e
   ·cases e
   ·rename_i h1
    split at e
    ·cases e
    ·rename_i h2
     cases e
     intro x hx
     rcases List.mem_append.1 hx with hx | hx
     ·exact ho x hx
     ·obtain rfl := List.mem_singleton.1 hx
      have := lkof_in (rdR rg i.A) (n := (w.Links.length : Int)) (by omega) hF.links
      exact ⟨⟨this, by show (nth w.Links (lkof (rdR rg i.A) (w.Links.length : Int))).Look ≤ rdR rg i.B; omega, by show rdR rg i.B ≤ _; omega⟩, hr _⟩
theorem stp_out {w : api_World} {m : api_Message} (hF : Fine w m) {i : api_Instr} {rg : Rg} (hr : Rin rg) {dr at1 : Int} {outs : List api_Out} {s' : Sv} (ho : OutOK w m outs) (hd : -9223372036854775808 ≤ dr ∧ dr < 9223372036854775807) (e : stp w m i rg dr outs at1 = .inl s') : OutOK w m s'.2.2.1 ∧ dr ≤ s'.2.1 ∧ s'.2.1 ≤ dr + 1 := by
 unfold stp at e
 split at e
 ·cases e; exact ⟨ho, Int.le_refl _, by show dr ≤ dr + 1; omega⟩
 split at e
 ·cases e; exact ⟨ho, Int.le_refl _, by show dr ≤ dr + 1; omega⟩
 split at e
 ·cases e; exact ⟨ho, Int.le_refl _, by show dr ≤ dr + 1; omega⟩
 split at e
 ·cases e; exact ⟨ho, Int.le_refl _, by show dr ≤ dr + 1; omega⟩
 split at e
 ·cases e; exact ⟨ho, Int.le_refl _, by show dr ≤ dr + 1; omega⟩
 split at e
 ·cases e; exact ⟨ho, Int.le_refl _, by show dr ≤ dr + 1; omega⟩
 split at e
 ·cases hs : sendS w m i rg outs with
  | inl o => rw [hs] at e; cases e; exact ⟨send_out hF hr ho hs, Int.le_refl _, by show dr ≤ dr + 1; omega⟩
  | inr c => rw [hs] at e; cases e
 split at e
 ·cases e
  refine ⟨ho, ?_, ?_⟩
  ·show dr ≤ IntKind.i64.wrap (dr + 1); rw [w64 (by omega) (by omega)]; omega
  ·show IntKind.i64.wrap (dr + 1) ≤ dr + 1; rw [w64 (by omega) (by omega)]; exact Int.le_refl _
 split at e
 ·cases e; exact ⟨ho, Int.le_refl _, by show dr ≤ dr + 1; omega⟩
 split at e
 ·cases e; exact ⟨ho, Int.le_refl _, by show dr ≤ dr + 1; omega⟩
 ·cases e; exact ⟨ho, Int.le_refl _, by show dr ≤ dr + 1; omega⟩
theorem runF_out {w : api_World} {m : api_Message} (hF : Fine w m) : ∀ (k : Nat) (x : Sv), Inv w x → OutOK w m x.2.2.1 → 0 ≤ x.2.1 → x.2.1 + (k : Int) ≤ 4611686018427387904 →
  (∀ y, runF w m k x = .inl y → Inv w y ∧ OutOK w m y.2.2.1 ∧ x.2.1 ≤ y.2.1 ∧ y.2.1 ≤ x.2.1 + (k : Int))
 | 0, x, hI, ho, h0, h1 => fun y e => by cases e; exact ⟨hI, ho, Int.le_refl _, by simp⟩
 | k + 1, (rg, dr, outs, at_), hI, ho, h0, h1 => by
  simp only at h0 h1 ho
  simp only [runF]
  by_cases ha : at_ < (w.Prog.length : Int)
  ·rw [if_pos ha]
   cases hs : stp w m (nth w.Prog at_) rg dr outs (at_ + 1) with
   | inl s' =>
    obtain ⟨a1, a2, a3⟩ := stp_out hF hI.rg ho (by omega) hs
    have ih := runF_out hF k s' (step_inv hF hI ha hs) a1 (by omega) (by omega)
    intro y e
    obtain ⟨b1, b2, b3, b4⟩ := ih y e
    exact ⟨b1, b2, by omega, by omega⟩
   | inr d => exact fun y e => (by cases e)
  ·rw [if_neg ha]
   exact fun y e => (by cases e; exact ⟨hI, ho, Int.le_refl _, by show dr ≤ dr + ((k + 1 : Nat) : Int); omega⟩)
theorem rgs_of {f : Rg} (hf : Rin f) (s : api_State) (dr : Int) (n : Nat) : Rin (rgs (stOf s f dr n)) := fun j => by
 unfold rgs ovl stOf
 rcases j with _ | _ | _ | _ | _ | _ | _ | _ | j
 ·exact hf 0
 ·exact hf 1
 ·exact hf 2
 ·exact hf 3
 ·exact hf 4
 ·exact hf 5
 ·exact hf 6
 ·exact hf 7
 ·show -9223372036854775808 ≤ zfn (j + 8) ∧ zfn (j + 8) ≤ 9223372036854775807
  unfold zfn; omega
end
section
def sendU (w : api_World) (s : api_State) (m : api_Message) (l : List api_Out) (k : Nat) (u : Int) : api_Message := ⟨⟨m.Key.Time + (nth l (k : Int)).Delay, w.Self, s.Sent + (k : Int)⟩, (nth w.Links (nth l (k : Int)).Link).To, (nth l (k : Int)).Value, u, false⟩
def sendsU (w : api_World) (s : api_State) (m : api_Message) (l : List api_Out) : List api_Message := (List.range l.length).map (fun k => sendU w s m l k (k : Int))
theorem sends_eq {w : api_World} {s : api_State} {m : api_Message} {l : List api_Out} (hF : Fine w m) (ho : OutOK w m l) (hl : l.length ≤ 8) (hs : 0 ≤ s.Sent ∧ s.Sent ≤ 1125899906842624) : vm_Sends.f w s m l 0 = some (sendsU w s m l) := by
 have ht := hF.time
 unfold vm_Sends.f vm_Sends.l2
 refine (show loopR (vm_Sends.l2b w s m l 0) ((fun k : Nat => ((List.range k).map (fun k => sendU w s m l k (k : Int)), ((k : Nat) : Int))) 0) = _ from loopR_steps (fun k : Nat => ((List.range k).map (fun k => sendU w s m l k (k : Int)), ((k : Nat) : Int))) l.length (fun k hk => ?_) ?_)
 ·obtain ⟨⟨⟨c1, c2⟩, c3, c4⟩, _⟩ := ho _ (nth_mem (xs := l) (i := (k : Int)) (by omega) (by omega))
  have c5 : 1 ≤ (nth l (k : Int)).Delay := by
   have := hF.look (nth l (k : Int)).Link.toNat (by omega)
   rw [Int.toNat_of_nonneg c1] at this
   omega
  simp only [vm_Sends.l2b]
  rw [if_pos (by omega), if_pos (by omega), if_pos c1, if_pos c2, w64 (x := 4611686018427387903 - m.Key.Time) (by omega) (by omega), if_pos c4, if_pos (by simp only [List.length_map, List.length_range]; omega),
   w64 (x := m.Key.Time + (nth l (k : Int)).Delay) (by omega) (by omega), w64 (x := s.Sent + (k : Int)) (by omega) (by omega), w64 (x := 0 + (k : Int)) (by omega) (by omega), w64 (x := (k : Int) + 1) (by omega) (by omega), List.range_succ, List.map_append, Int.zero_add]
  rfl
 ·simp only [vm_Sends.l2b]
  rw [if_neg (by omega)]
  rfl
structure Sok (s : api_State) (b : Int) : Prop where
 regs : Rin (rgs s)
 draws : 0 ≤ s.Draws ∧ s.Draws ≤ b
 sent : 0 ≤ s.Sent ∧ s.Sent ≤ b
def sameM (x y : api_Message) : Bool := decide (x.Key = y.Key ∧ x.To = y.To ∧ x.Value = y.Value)
def hadS (x : api_Message) (kept : List api_Message) : Int × Bool × List api_Message :=
 match (List.range kept.length).find? (fun k : Nat => sameM x (nth kept (k : Int))) with
 | some k => ((nth kept (k : Int)).Uid, true, subL kept 0 (k : Int) ++ subL kept ((k : Int) + 1) kept.length)
 | none => (0, false, kept)
theorem had_eq (x : api_Message) (kept : List api_Message) (h : kept.length ≤ 1000000) : log_Log_run_1.f x kept = some (hadS x kept) := by
 unfold log_Log_run_1.f log_Log_run_1.l2 hadS
 refine (loopR_findS (fun k : Nat => (k : Int)) (fun k : Nat => sameM x (nth kept (k : Int))) (fun k => ((nth kept (k : Int)).Uid, true, subL kept 0 (k : Int) ++ subL kept ((k : Int) + 1) kept.length)) (0, false, kept) kept.length (fun k hk _ => ?_) (fun _ => ?_)).trans ?_
 ·simp only [log_Log_run_1.l2b]
  have l1 := subL_len (xs := kept) (lo := 0) (hi := (k : Int)) (by omega) (by omega) (by omega)
  have l2 := subL_len (xs := kept) (lo := (k : Int) + 1) (hi := (kept.length : Int)) (by omega) (by omega) (by omega)
  rw [if_pos (by omega), if_pos (by omega), w64 (x := (k : Int) + 1) (by omega) (by omega)]
  unfold sameM
  by_cases h1 : x.Key = (nth kept (k : Int)).Key
  ·by_cases h2 : x.To = (nth kept (k : Int)).To
   ·by_cases h3 : x.Value = (nth kept (k : Int)).Value
    ·rw [if_pos h1, if_pos h2, if_pos h3, if_pos (by omega), if_pos (by omega), if_pos (by omega)]
     simp [h1, h2, h3]
    ·rw [if_pos h1, if_pos h2, if_neg h3]
     simp [h3]
   ·rw [if_pos h1, if_neg h2]
    simp [h2]
  ·rw [if_neg h1]
   simp [h1]
 ·simp only [log_Log_run_1.l2b]
  rw [if_neg (by omega)]
 ·congr 1
structure StepOK (w : api_World) (s : api_State) (m : api_Message) (b : Int) : Prop where
 fine : Fine w m
 outs : OutOK w m (vmRun w s m).2.1
 few : (vmRun w s m).2.1.length ≤ 8
 next : Sok (vmRun w s m).1 (b + 4096)
theorem vm_step {w : api_World} {s : api_State} {m : api_Message} {b : Int} (hw : chkW w = 0) (hm : evB m = true) (hv : -9223372036854775808 ≤ m.Value ∧ m.Value ≤ 9223372036854775807) (hs : Sok s b) (hb : b ≤ 1125899906842624) : StepOK w s m b := by
 have hF := fine_of hw hm hv
 have h1 := hs.draws
 have h2 := hs.sent
 have hst : stB s = true := by simp only [stB, decide_eq_true_eq]; omega
 have hI : Inv w (rgs s, s.Draws, [], 0) := ⟨hs.regs, Nat.zero_le _, Int.le_refl _, by show (0 : Int) ≤ _; omega⟩
 have hO := runF_out hF 4096 (rgs s, s.Draws, [], 0) hI (fun o ho => by cases ho) h1.1 (by show s.Draws + _ ≤ _; omega)
 cases hr : runF w m 4096 (rgs s, s.Draws, [], 0) with
 | inr c =>
  have e := vmRun_err hw hm hst hr
  refine ⟨hF, ?_, ?_, ?_⟩
  ·rw [e]; exact fun o ho => by cases ho
  ·rw [e]; exact Nat.zero_le _
  ·rw [e]; exact ⟨hs.regs, ⟨h1.1, by show s.Draws ≤ _; omega⟩, ⟨h2.1, by show s.Sent ≤ _; omega⟩⟩
 | inl y =>
  obtain ⟨f, dr, outs, at_⟩ := y
  obtain ⟨b1, b2, b3, b4⟩ := hO _ hr
  have e := vmRun_ok hw hm hst hr
  have b5 : outs.length ≤ 8 := b1.outs
  simp only at b3 b4
  refine ⟨hF, by rw [e]; exact b2, by rw [e]; exact b5, ?_⟩
  rw [e]
  refine ⟨rgs_of b1.rg s dr _, ?_, ?_⟩
  ·show 0 ≤ dr ∧ dr ≤ _; omega
  ·show 0 ≤ IntKind.i64.wrap _ ∧ IntKind.i64.wrap _ ≤ _; rw [w64 (by omega) (by omega)]; omega
def setUid (x : api_Message) (u : Int) : api_Message := ⟨x.Key, x.To, x.Value, u, x.Anti⟩
def rnS (u : Int) (l kept : List api_Message) : Nat → Int × List api_Message × List api_Message
 | 0 => (u, l, kept)
 | k + 1 =>
  let s := rnS u l kept k
  let h := hadS (nth l (k : Int)) s.2.2
  (if h.2.1 = true then s.1 else s.1 + 1, setL s.2.1 (k : Int) (setUid (nth s.2.1 (k : Int)) (if h.2.1 = true then h.1 else s.1)), h.2.2)
theorem hadS_len (x : api_Message) (kept : List api_Message) : (hadS x kept).2.2.length ≤ kept.length := by
 unfold hadS
 split
 ·rename_i k hk
  have h := List.find?_some hk
  have hk' := List.mem_range.1 (List.mem_of_find?_eq_some hk)
  have l1 := subL_len (xs := kept) (lo := 0) (hi := (k : Int)) (by omega) (by omega) (by omega)
  have l2 := subL_len (xs := kept) (lo := (k : Int) + 1) (hi := (kept.length : Int)) (by omega) (by omega) (by omega)
  simp only [List.length_append]
  omega
 ·exact Nat.le_refl _
theorem rnS_len (u : Int) (l kept : List api_Message) : ∀ k, (rnS u l kept k).2.1.length = l.length ∧ (rnS u l kept k).2.2.length ≤ kept.length ∧ u ≤ (rnS u l kept k).1 ∧ (rnS u l kept k).1 ≤ u + (k : Int)
 | 0 => ⟨rfl, Nat.le_refl _, Int.le_refl _, by show u ≤ u + _; omega⟩
 | k + 1 => by
  obtain ⟨h1, h2, h3, h4⟩ := rnS_len u l kept k
  refine ⟨?_, ?_, ?_, ?_⟩
  ·show (setL _ _ _).length = _; rw [setL_len]; exact h1
  ·exact Nat.le_trans (hadS_len _ _) h2
  ·show u ≤ ite _ _ _; split <;> omega
  ·show ite _ _ _ ≤ _; split <;> omega
theorem nth_setL_ne {α : Type} [Inhabited α] {xs : List α} {i j : Int} {x : α} (h0 : 0 ≤ i) (h2 : 0 ≤ j) (h : j ≠ i) : nth (setL xs i x) j = nth xs j := by
 by_cases h1 : i < xs.length
 ·rw [nth_setL h0 h1 h2, if_neg h]
 ·unfold setL
  rw [List.set_eq_of_length_le (by omega)]
theorem rnS_at (u : Int) (l kept : List api_Message) : ∀ k, ∀ j : Nat, k ≤ j → nth (rnS u l kept k).2.1 (j : Int) = nth l (j : Int)
 | 0, j, _ => rfl
 | k + 1, j, h => by
  show nth (setL _ _ _) _ = _
  rw [nth_setL_ne (by omega) (by omega) (by omega)]
  exact rnS_at u l kept k j (by omega)
def named (u : Int) (l kept : List api_Message) : List api_Message := (rnS u l kept l.length).2.1
theorem run_eq {a : log_Log} {m : api_Message} {b u : Int} {kept : List api_Message} (hw : chkW a.w = 0) (hm : evB m = true) (hv : -9223372036854775808 ≤ m.Value ∧ m.Value ≤ 9223372036854775807) (hs : Sok a.state b) (hb : b ≤ 1125899906842624)
  (hu : 0 ≤ u ∧ u ≤ 1099511627776) (hk : kept.length ≤ 1000000) :
  log_Log_run.f a m u kept = some ((⟨m, (vmRun a.w a.state m).2.2, named u (sendsU a.w a.state m (vmRun a.w a.state m).2.1) kept, ⟨false, default⟩⟩ : log_done), (vmRun a.w a.state m).1) := by
 have hS := vm_step hw hm hv hs hb
 have h2 := hs.sent
 unfold log_Log_run.f
 rw [vm_run_eq _ _ _ hs.regs hv]
 simp only [Option.bind_some]
 unfold log_Log_run.j19
 rw [sends_eq hS.fine hS.outs hS.few (by omega)]
 simp only [Option.bind_some]
 unfold log_Log_run.j20
 rw [if_pos (by simp only [List.length_nil]; omega), List.nil_append]
 generalize hl : sendsU a.w a.state m (vmRun a.w a.state m).2.1 = l
 have hll : l.length ≤ 8 := by rw [← hl]; simp only [sendsU, List.length_map, List.length_range]; exact hS.few
 unfold log_Log_run.l32
 refine (show loopR _ ((fun k : Nat => ((rnS u l kept k).1, (rnS u l kept k).2.1, (rnS u l kept k).2.2, (k : Int))) 0) = _ from loopR_steps (fun k : Nat => ((rnS u l kept k).1, (rnS u l kept k).2.1, (rnS u l kept k).2.2, (k : Int))) l.length (fun k hk' => ?_) ?_)
 ·obtain ⟨c1, c2, c3, c4⟩ := rnS_len u l kept k
  simp only [log_Log_run.l32b]
  rw [if_pos (by omega), if_pos (by omega), had_eq _ _ (by omega)]
  simp only [Option.bind_some]
  have e := rnS_at u l kept k k (Nat.le_refl k)
  show (if (hadS (nth (rnS u l kept k).2.1 (k : Int)) (rnS u l kept k).2.2).2.1 = true then _ else _) = _
  rw [e]
  have hn : rnS u l kept (k + 1) = (if (hadS (nth l (k : Int)) (rnS u l kept k).2.2).2.1 = true then (rnS u l kept k).1 else (rnS u l kept k).1 + 1, setL (rnS u l kept k).2.1 (k : Int) (setUid (nth (rnS u l kept k).2.1 (k : Int)) (if (hadS (nth l (k : Int)) (rnS u l kept k).2.2).2.1 = true then (hadS (nth l (k : Int)) (rnS u l kept k).2.2).1 else (rnS u l kept k).1)), (hadS (nth l (k : Int)) (rnS u l kept k).2.2).2.2) := rfl
  rw [hn]
  unfold log_Log_run.j34 setUid
  rw [w64 (x := (k : Int) + 1) (by omega) (by omega), w64 (x := (rnS u l kept k).1 + 1) (by omega) (by omega)]
  by_cases h : (hadS (nth l (k : Int)) (rnS u l kept k).2.2).2.1 = true
  ·simp only [h, if_true]
   congr 1
  ·simp only [h, if_false]
   congr 1
 ·simp only [log_Log_run.l32b]
  rw [if_neg (by omega)]
  rfl
end
section
def zmsg : api_Message := ⟨⟨0, 0, 0⟩, 0, 0, 0, false⟩
def zent : api_Entry := ⟨zmsg, zst, 0, []⟩
def lastE (a : log_Log) : api_Message := (nth a.l ((a.l.length : Int) - 1)).event
def mayS (a : log_Log) (m : api_Message) (u : Int) : Int :=
 if evB m = true then if m.Anti = true then 1 else if u < 0 then 1 else if 1099511627776 < u then 1 else
  if a.l.length ≠ 0 ∧ bef (lastE a) m = false then 1 else if a.stuck = true then 5 else if 16384 ≤ (a.l.length : Int) then 9 else 0 else 1
theorem last_eq {a : log_Log} (hm : a.made = true) (hl : a.l.length ≤ 1000000) : log_Log_Last.f a = some (if a.l.length = 0 then (zmsg, false) else (lastE a, true)) := by
 unfold log_Log_Last.f log_Log_none.f
 simp only [hm, Bool.not_true, Option.bind_some, Bool.false_eq_true, if_false]
 by_cases h : a.l.length = 0
 ·rw [if_pos (by omega), if_pos h]; rfl
 ·rw [if_neg (by omega), if_neg h, w64 (x := (a.l.length : Int) - 1) (by omega) (by omega), if_pos (by omega)]; rfl
theorem may_eq {a : log_Log} (hm : a.made = true) (hl : a.l.length ≤ 1000000) (m : api_Message) (u : Int) : log_Log_may.f a m u = some (mayS a m u) := by
 unfold log_Log_may.f mayS
 rw [last_eq hm hl, event_check_eq]
 by_cases h0 : evB m = true
 ·simp only [h0, if_true]
  by_cases h : a.l.length = 0
  ·simp only [h, if_true, Option.bind_some, Bool.false_eq_true, if_false, ne_eq, not_true_eq_false, false_and]
   repeat' split
   all_goals rfl
  ·simp only [h, if_false, Option.bind_some, if_true, before_eq, ne_eq, not_false_eq_true, true_and]
   cases bef (lastE a) m
   ·simp
    repeat' split
    all_goals rfl
   ·simp
    repeat' split
    all_goals rfl
 ·simp only [h0, if_false]
  by_cases h : a.l.length = 0
  ·simp [h]
  ·simp [h]
def dueS (a : log_Log) : Bool := match (List.range a.l.length).find? (fun k : Nat => (nth a.l ((a.l.length : Int) - 1 - (k : Int))).ahead.has) with
 | some k => decide (a.every ≤ (k : Int) + 1)
 | none => true
theorem due_eq {a : log_Log} (hl : a.l.length ≤ 1000000) : log_Log_due.f a = some (dueS a) := by
 unfold log_Log_due.f log_Log_due.l2 dueS
 refine loopR_findS (fun k : Nat => (k : Int)) (fun k : Nat => (nth a.l ((a.l.length : Int) - 1 - (k : Int))).ahead.has) (fun k => decide (a.every ≤ (k : Int) + 1)) true a.l.length (fun k hk _ => ?_) (fun _ => ?_)
 ·simp only [log_Log_due.l2b]
  rw [if_pos (by omega), w64 (x := (a.l.length : Int) - 1) (by omega) (by omega), w64 (x := (a.l.length : Int) - 1 - (k : Int)) (by omega) (by omega), w64 (x := (k : Int) + 1) (by omega) (by omega), if_pos (by omega)]
  split <;> rfl
 ·simp only [log_Log_due.l2b]
  rw [if_neg (by omega)]
theorem entry_eq (d : log_done) (s : api_State) (h : d.sent.length ≤ 1000000) : log_done_entry.f d s = some ⟨d.event, s, d.fault, d.sent⟩ := by
 unfold log_done_entry.f
 rw [if_pos (by simp only [List.length_nil]; omega), List.nil_append]
noncomputable def sentS (a : log_Log) (m : api_Message) (u : Int) (kept : List api_Message) : List api_Message := named u (sendsU a.w a.state m (vmRun a.w a.state m).2.1) kept
noncomputable def doneS (a : log_Log) (m : api_Message) (u : Int) (kept : List api_Message) : log_done := ⟨m, (vmRun a.w a.state m).2.2, sentS a m u kept, if dueS a = true then ⟨true, a.state⟩ else ⟨false, default⟩⟩
noncomputable def entS (a : log_Log) (m : api_Message) (u : Int) (kept : List api_Message) : api_Entry := ⟨m, a.state, (vmRun a.w a.state m).2.2, sentS a m u kept⟩
noncomputable def doS (a : log_Log) (m : api_Message) (u : Int) (kept : List api_Message) : log_Log := ⟨a.w, a.made, (vmRun a.w a.state m).1, a.every, a.l ++ [doneS a m u kept], !decide ((vmRun a.w a.state m).2.2 = 0)⟩
structure LogOK (a : log_Log) (b : Int) : Prop where
 made : a.made = true
 chk : chkW a.w = 0
 st : Sok a.state b
 low : b ≤ 1125899906842624
 few : a.l.length ≤ 20000
theorem may_zero {a : log_Log} {m : api_Message} {u : Int} (h : mayS a m u = 0) : evB m = true ∧ m.Anti = false ∧ 0 ≤ u ∧ u ≤ 1099511627776 := by
 unfold mayS at h
 split at h
 ·rename_i h0
  split at h
  ·cases h
  ·rename_i h1
   split at h
   ·cases h
   ·split at h
    ·cases h
    ·exact ⟨h0, by simpa using h1, by omega, by omega⟩
 ·cases h
theorem sentS_len {a : log_Log} {b : Int} (hA : LogOK a b) {m : api_Message} (hm : evB m = true) (hv : -9223372036854775808 ≤ m.Value ∧ m.Value ≤ 9223372036854775807) (u : Int) (kept : List api_Message) : (sentS a m u kept).length = (vmRun a.w a.state m).2.1.length ∧ (sentS a m u kept).length ≤ 8 := by
 have hS := vm_step hA.chk hm hv hA.st hA.low
 have e : (sentS a m u kept).length = (vmRun a.w a.state m).2.1.length := by
  unfold sentS named
  rw [(rnS_len _ _ _ _).1]
  simp [sendsU]
 exact ⟨e, by rw [e]; exact hS.few⟩
theorem do_eq {a : log_Log} {b : Int} (hA : LogOK a b) {m : api_Message} (hv : -9223372036854775808 ≤ m.Value ∧ m.Value ≤ 9223372036854775807) {u : Int} {kept : List api_Message} (hk : kept.length ≤ 1000000) :
  log_Log_Do.f a m u kept = some (if mayS a m u = 0 then (entS a m u kept, 0, doS a m u kept) else (zent, mayS a m u, a)) := by
 have hf := hA.few
 unfold log_Log_Do.f log_Log_none.f
 rw [may_eq hA.made (by omega)]
 simp only [hA.made, Bool.not_true, Option.bind_some, Bool.false_eq_true, if_false]
 by_cases h : mayS a m u = 0
 ·rw [if_pos h, if_pos h]
  obtain ⟨h1, h2, h3⟩ := may_zero h
  have hl := sentS_len hA h1 hv u kept
  rw [run_eq hA.chk h1 hv hA.st hA.low h3 hk]
  simp only [Option.bind_some]
  rw [due_eq (by omega)]
  simp only [Option.bind_some]
  by_cases hd : dueS a = true
  ·rw [if_pos hd, if_pos (by simp only [List.length_singleton]; omega), entry_eq _ _ (by show (sentS a m u kept).length ≤ _; omega)]
   simp only [Option.bind_some, entS, doS, doneS, hd, if_true, hA.made]
   rfl
  ·rw [if_neg hd, if_pos (by simp only [List.length_singleton]; omega), entry_eq _ _ (by show (sentS a m u kept).length ≤ _; omega)]
   simp only [Option.bind_some, entS, doS, doneS, hd, if_false, hA.made]
   rfl
 ·rw [if_neg h, if_neg h]; rfl
theorem new_eq (w : api_World) (e : Int) (he : 1 ≤ e ∧ e ≤ 1024) : log_New.f w zst e = some (if chkW w = 0 then .inr (⟨w, true, zst, e, [], false⟩, 0) else .inl (chkW w)) := by
 unfold log_New.f
 rw [vm_check_eq]
 simp only [Option.bind_some]
 by_cases h : chkW w = 0
 ·have hF := fine_of (m := zmsg) h (by decide) (by decide)
  have h1 := hF.many
  have h2 := hF.links
  rw [if_pos h, if_pos h, if_neg (by decide), if_neg (by decide), if_neg (by omega), if_neg (by omega), if_pos (by simp only [List.length_nil]; omega), if_pos (by simp only [List.length_nil]; omega), List.nil_append, List.nil_append]
 ·rw [if_neg h, if_neg h]
theorem zst_ok : Sok zst 0 := ⟨rgs_zst, ⟨by decide, by decide⟩, ⟨by decide, by decide⟩⟩
theorem new_ok {w : api_World} (h : chkW w = 0) (e : Int) : LogOK ⟨w, true, zst, e, [], false⟩ 0 := ⟨rfl, h, zst_ok, by decide, by simp⟩
end
section
structure Lg (a : log_Log) (es : List api_Entry) : Prop where
 len : es.length = a.l.length
 ev : ∀ k : Nat, k < es.length → (nth a.l (k : Int)).event = (nth es (k : Int)).Event
 fl : ∀ k : Nat, k < es.length → (nth a.l (k : Int)).fault = (nth es (k : Int)).Fault
 sn : ∀ k : Nat, k < es.length → (nth a.l (k : Int)).sent = (nth es (k : Int)).Sent
 ah : ∀ k : Nat, k < es.length → (nth a.l (k : Int)).ahead.has = true → (nth a.l (k : Int)).ahead.val = (nth es (k : Int)).Before
 first : 0 < es.length → (nth a.l 0).ahead.has = true
 step : ∀ k : Nat, k + 1 < es.length → (vmRun a.w (nth es (k : Int)).Before (nth es (k : Int)).Event).1 = (nth es ((k + 1 : Nat) : Int)).Before
 last : ∀ k : Nat, k + 1 = es.length → (vmRun a.w (nth es (k : Int)).Before (nth es (k : Int)).Event).1 = a.state
 regs : ∀ k : Nat, k < es.length → Rin (rgs (nth es (k : Int)).Before)
 val : ∀ k : Nat, k < es.length → -9223372036854775808 ≤ (nth es (k : Int)).Event.Value ∧ (nth es (k : Int)).Event.Value ≤ 9223372036854775807
 few : ∀ k : Nat, k < es.length → (nth es (k : Int)).Sent.length ≤ 8
theorem Lg.entry {a : log_Log} {es : List api_Entry} (h : Lg a es) {k : Nat} (hk : k < es.length) : log_done_entry.f (nth a.l (k : Int)) (nth es (k : Int)).Before = some (nth es (k : Int)) := by
 rw [entry_eq _ _ (by rw [h.sn k hk]; have := h.few k hk; omega), h.ev k hk, h.fl k hk, h.sn k hk]
noncomputable def stAt (a : log_Log) (es : List api_Entry) (k0 k : Nat) : api_State := if k = k0 then zst else (vmRun a.w (nth es ((k - 1 : Nat) : Int)).Before (nth es ((k - 1 : Nat) : Int)).Event).1
theorem stAt_succ (a : log_Log) (es : List api_Entry) {k0 k : Nat} (h : k0 ≤ k) : stAt a es k0 (k + 1) = (vmRun a.w (nth es (k : Int)).Before (nth es (k : Int)).Event).1 := by
 unfold stAt; rw [if_neg (by omega)]; rfl
theorem Lg.given {a : log_Log} {es : List api_Entry} (h : Lg a es) {k0 k : Nat} (hk : k < es.length) (h0 : k0 ≤ k) (hh : (nth a.l (k0 : Int)).ahead.has = true) :
  (if (nth a.l (k : Int)).ahead.has = true then (nth a.l (k : Int)).ahead.val else stAt a es k0 k) = (nth es (k : Int)).Before := by
 by_cases hb : (nth a.l (k : Int)).ahead.has = true
 ·rw [if_pos hb, h.ah k hk hb]
 ·rw [if_neg hb]
  have hne : k ≠ k0 := fun e => hb (by rw [e]; exact hh)
  obtain ⟨j, rfl⟩ : ∃ j, k = j + 1 := ⟨k - 1, by omega⟩
  rw [stAt_succ a es (by omega), h.step j hk]
theorem Lg.run {a : log_Log} {es : List api_Entry} (h : Lg a es) {k : Nat} (hk : k < es.length) : vm_Run.f a.w (nth es (k : Int)).Before (nth a.l (k : Int)).event = some (vmRun a.w (nth es (k : Int)).Before (nth es (k : Int)).Event) := by
 rw [h.ev k hk, vm_run_eq _ _ _ (h.regs k hk) (h.val k hk)]
theorem take_succ' {α : Type} [Inhabited α] (l : List α) {k : Nat} (h : k < l.length) : l.take (k + 1) = l.take k ++ [nth l (k : Int)] := by
 rw [List.take_succ_eq_append_getElem h, nth_nat h]
theorem all_eq {a : log_Log} {es : List api_Entry} (h : Lg a es) (hm : a.made = true) (hl : es.length ≤ 20000) : log_Log_All.f a = some es := by
 have hn := h.len
 unfold log_Log_All.f log_Log_none.f log_Log_states.f
 simp only [hm, Bool.not_true, Option.bind_some, Bool.false_eq_true, if_false]
 have key : log_Log_states_1v2.l21 a 0 ([], zst, 0) = some (es, 0) := by
  unfold log_Log_states_1v2.l21
  refine (show loopR _ ((fun k : Nat => (es.take k, stAt a es 0 k, (k : Int))) 0) = _ from loopR_steps (fun k : Nat => (es.take k, stAt a es 0 k, (k : Int))) es.length (fun k hk => ?_) ?_)
  ·have hg := h.given hk (Nat.zero_le k) (h.first (by omega))
   have hT : (es.take k).length = k := by rw [List.length_take]; omega
   have hj : ∀ s, s = (nth es (k : Int)).Before → log_Log_states_1v2.j23 a (es.take k) (k : Int) s = some (.inl (es.take (k + 1), stAt a es 0 (k + 1), ((k + 1 : Nat) : Int))) := fun s e => by
    subst e
    unfold log_Log_states_1v2.j23 log_Log_All_round0.f
    rw [if_pos (by omega)]
    show Option.bind (Option.bind (log_done_entry.f (nth a.l (k : Int)) _) _) _ = _
    rw [h.entry hk]
    simp only [Option.bind_some]
    rw [if_pos (by simp only [List.length_singleton]; omega)]
    simp only [Option.bind_some]
    rw [if_pos (by omega)]
    show Option.bind (vm_Run.f a.w _ (nth a.l (k : Int)).event) _ = _
    rw [h.run hk]
    simp only [Option.bind_some]
    rw [w64 (x := (k : Int) + 1) (by omega) (by omega), take_succ' es hk, stAt_succ a es (Nat.zero_le k)]
    rfl
   simp only [log_Log_states_1v2.l21b]
   rw [if_pos (by omega), if_pos (by omega)]
   by_cases hb : (nth a.l (k : Int)).ahead.has = true
   ·rw [if_pos hb]; rw [if_pos hb] at hg; exact hj _ hg
   ·rw [if_neg hb]; rw [if_neg hb] at hg; exact hj _ hg
  ·simp only [log_Log_states_1v2.l21b]
   rw [if_neg (by omega), List.take_length]
 have : log_Log_states_1v2.f a [] 0 = some (es, 0) := by
  unfold log_Log_states_1v2.f log_Log_states_1v2.l24
  refine loopR_steps (fun _ => (0 : Int)) 0 (fun k hk => by omega) ?_
  simp only [log_Log_states_1v2.l24b]
  rw [if_neg (by omega)]
  unfold log_Log_states_1v2.j14
  rw [show (⟨(⟨0, 0, 0, 0, 0, 0, 0, 0⟩ : Arr8xInti64), 0, 0⟩ : api_State) = zst from rfl, key]
  rfl
 rw [this]
 rfl
end
section
theorem nth_sn {α : Type} [Inhabited α] (l : List α) (x : α) (k : Nat) (h : k < l.length) : nth (l ++ [x]) (k : Int) = nth l (k : Int) := by
 rw [nth_nat (by simp; omega), nth_nat h, List.getElem_append_left h]
theorem nth_sl {α : Type} [Inhabited α] (l : List α) (x : α) : nth (l ++ [x]) (l.length : Int) = x := by
 rw [nth_nat (by simp)]; simp
theorem Lg.nil (w : api_World) (e : Int) : Lg ⟨w, true, zst, e, [], false⟩ [] := by
 constructor <;> intros <;> first | rfl | (simp at *) | (rename_i k hk; simp at hk)
theorem LogOK.did {a : log_Log} {b : Int} (hA : LogOK a b) {m : api_Message} (hm : evB m = true) (hv : -9223372036854775808 ≤ m.Value ∧ m.Value ≤ 9223372036854775807) (u : Int) (kept : List api_Message) (hb : b + 4096 ≤ 1125899906842624) (hl : a.l.length < 20000) : LogOK (doS a m u kept) (b + 4096) :=
 ⟨hA.made, hA.chk, (vm_step hA.chk hm hv hA.st hA.low).next, hb, by show (a.l ++ [_]).length ≤ _; simp; omega⟩
theorem Lg.did {a : log_Log} {es : List api_Entry} (h : Lg a es) {b : Int} (hA : LogOK a b) {m : api_Message} (hm : evB m = true) (hv : -9223372036854775808 ≤ m.Value ∧ m.Value ≤ 9223372036854775807) (u : Int) (kept : List api_Message) : Lg (doS a m u kept) (es ++ [entS a m u kept]) := by
 have hn := h.len
 have hL : ∀ k : Nat, k < es.length → nth (doS a m u kept).l (k : Int) = nth a.l (k : Int) := fun k hk => nth_sn _ _ _ (by omega)
 have hL' : nth (doS a m u kept).l (es.length : Int) = doneS a m u kept := by rw [hn]; exact nth_sl _ _
 have hE : ∀ k : Nat, k < es.length → nth (es ++ [entS a m u kept]) (k : Int) = nth es (k : Int) := fun k hk => nth_sn _ _ _ hk
 have hE' : nth (es ++ [entS a m u kept]) (es.length : Int) = entS a m u kept := nth_sl _ _
 have two : ∀ {p : Nat → Prop}, (∀ k, k < es.length → p k) → p es.length → ∀ k, k < (es ++ [entS a m u kept]).length → p k := fun h1 h2 k hk => by
  rw [List.length_append, List.length_singleton] at hk
  rcases Nat.lt_or_ge k es.length with h | h
  ·exact h1 k h
  ·rw [show k = es.length by omega]; exact h2
 refine ⟨by show _ = (a.l ++ [_]).length; simp; omega, two (fun k hk => ?_) ?_, two (fun k hk => ?_) ?_, two (fun k hk => ?_) ?_, two (fun k hk => ?_) ?_, fun _ => ?_, fun k hk => ?_, fun k hk => ?_, two (fun k hk => ?_) ?_, two (fun k hk => ?_) ?_, two (fun k hk => ?_) ?_⟩
 ·rw [hL k hk, hE k hk]; exact h.ev k hk
 ·rw [hL', hE']; rfl
 ·rw [hL k hk, hE k hk]; exact h.fl k hk
 ·rw [hL', hE']; rfl
 ·rw [hL k hk, hE k hk]; exact h.sn k hk
 ·rw [hL', hE']; rfl
 ·rw [hL k hk, hE k hk]; exact h.ah k hk
 ·rw [hL', hE']
  unfold doneS
  split
  ·exact fun _ => rfl
  ·exact fun h => by cases h
 ·by_cases h0 : 0 < es.length
  ·have := hL 0 h0
   rw [show ((0 : Nat) : Int) = 0 from rfl] at this
   rw [this]; exact h.first h0
  ·have e : es.length = 0 := by omega
   rw [e] at hL'
   have hL' : nth (doS a m u kept).l 0 = doneS a m u kept := hL'
   rw [hL']
   have hd : dueS a = true := by
    unfold dueS
    rw [show a.l.length = 0 by omega]
    rfl
   unfold doneS
   rw [hd]
   rfl
 ·rw [List.length_append, List.length_singleton] at hk
  show (vmRun a.w _ _).1 = _
  rw [hE k (by omega)]
  rcases Nat.lt_or_ge (k + 1) es.length with h1 | h1
  ·rw [hE (k + 1) h1]; exact h.step k h1
  ·rw [show k + 1 = es.length by omega, hE']; exact h.last k (by omega)
 ·rw [List.length_append, List.length_singleton] at hk
  rw [show k = es.length by omega, hE']
  rfl
 ·rw [hE k hk]; exact h.regs k hk
 ·rw [hE']; exact hA.st.regs
 ·rw [hE k hk]; exact h.val k hk
 ·rw [hE']; exact hv
 ·rw [hE k hk]; exact h.few k hk
 ·rw [hE']; exact (sentS_len hA hm hv u kept).2
end
section
theorem try_eq {a : log_Log} {b : Int} (hA : LogOK a b) {m : api_Message} (hv : -9223372036854775808 ≤ m.Value ∧ m.Value ≤ 9223372036854775807) {u : Int} {kept : List api_Message} (hk : kept.length ≤ 1000000) :
  log_Log_Try.f a m u kept = some (if mayS a m u = 0 then (entS a m u kept, 0) else (zent, mayS a m u)) := by
 have hf := hA.few
 unfold log_Log_Try.f log_Log_none.f
 rw [may_eq hA.made (by omega)]
 simp only [hA.made, Bool.not_true, Option.bind_some, Bool.false_eq_true, if_false]
 by_cases h : mayS a m u = 0
 ·rw [if_pos h, if_pos h]
  obtain ⟨h1, h2, h3⟩ := may_zero h
  have hl := sentS_len hA h1 hv u kept
  rw [run_eq hA.chk h1 hv hA.st hA.low h3 hk]
  simp only [Option.bind_some]
  rw [entry_eq _ _ (by show (sentS a m u kept).length ≤ _; omega)]
  rfl
 ·rw [if_neg h, if_neg h]; rfl
end
section
def wideC : api_Caps := ⟨1000, 4096, 4096⟩
structure LnI (m : api_Model) (x : lane_Lane) (l : List api_Message) (es : List api_Entry) (b : Int) : Prop where
 mm : x.m = m
 caps : x.caps = wideC
 ways : x.ways = ways m 0
 wait : x.wait = qof l
 q : QOK l
 op : x.open_ = []
 lg : Lg x.log es
 ok : LogOK x.log b
 uid : 0 ≤ x.uid ∧ x.uid ≤ 8 * (es.length : Int)
structure Hld (hd : List (lane_sending × Bool)) (l : List api_Message) : Prop where
 nd : (keysL hd).Nodup
 iff : ∀ a b, (mget hd ⟨a, b⟩).getD false = true ↔ (a, b) ∈ l.map snd
theorem Hld.nil : Hld [] [] := ⟨List.nodup_nil, fun a b => by simp [mget_nil]⟩
theorem Hld.add {hd : List (lane_sending × Bool)} {l W : List api_Message} (h : Hld hd l) {y : api_Message} (p : W.Perm (y :: l)) : Hld (mset hd ⟨y.Key.From, y.Uid⟩ true) W := by
 refine ⟨mset_nodup _ _ _ h.nd, fun a b => ?_⟩
 rw [mget_mset, (p.map snd).mem_iff, List.map_cons, List.mem_cons]
 by_cases e : (⟨y.Key.From, y.Uid⟩ : lane_sending) = ⟨a, b⟩
 ·rw [if_pos e]
  simp only [lane_sending.mk.injEq] at e
  simp [snd, e.1, e.2]
 ·rw [if_neg e, h.iff]
  refine ⟨.inr, fun h1 => h1.resolve_left fun h2 => e ?_⟩
  simp only [snd, Prod.mk.injEq] at h2
  rw [h2.1, h2.2]
theorem Hld.del {hd : List (lane_sending × Bool)} {l W : List api_Message} (h : Hld hd l) {y : api_Message} (p : (y :: W).Perm l) (hn : (l.map snd).Nodup) : Hld (mdel hd ⟨y.Key.From, y.Uid⟩) W := by
 have hn' := (p.map snd).nodup_iff.2 hn
 rw [List.map_cons, List.nodup_cons] at hn'
 refine ⟨mdel_nodup _ _ h.nd, fun a b => ?_⟩
 rw [mget_mdel _ _ _ h.nd]
 by_cases e : (⟨y.Key.From, y.Uid⟩ : lane_sending) = ⟨a, b⟩
 ·rw [if_pos e]
  simp only [lane_sending.mk.injEq] at e
  refine ⟨fun h1 => by simp at h1, fun h1 => absurd ?_ hn'.1⟩
  rw [← e.1, ← e.2] at h1
  exact h1
 ·rw [if_neg e, h.iff, ← (p.map snd).mem_iff, List.map_cons, List.mem_cons]
  refine ⟨fun h1 => h1.resolve_left fun h2 => e ?_, .inr⟩
  simp only [snd, Prod.mk.injEq] at h2
  rw [h2.1, h2.2]
theorem told_pick : lane_told.f ⟨180⟩ = some 180 := by
 unfold lane_told.f lane_told.l2
 rw [loopR_eq]
 simp [lane_told.l2b, nth, errors_Is_6.f, errors_is_5.f, lane_refusal_Unwrap.f]
theorem waiting_eq {m : api_Model} {x : lane_Lane} {l : List api_Message} {es : List api_Entry} {b : Int} (h : LnI m x l es b) : ∃ W, lane_Lane_Waiting.f x = some W ∧ SrtM W ∧ W.Perm l := by
 obtain ⟨W, e, s, p⟩ := qAll_eq (l := l) (by have := h.q.small; omega)
 refine ⟨W, ?_, s, p⟩
 unfold lane_Lane_Waiting.f lane_Lane_none.f
 rw [h.wait]
 simp only [Option.bind_some, e]
def nextB (m : api_Model) (x : lane_Lane) (l : List api_Message) (lim : Int) : Bool := decide (0 < l.length ∧ (at_ l 0).Key.Time < lim ∧ (at_ l 0).Key.Time ≤ m.End) && !x.log.stuck
theorem next_eq {m : api_Model} {x : lane_Lane} {l : List api_Message} {es : List api_Entry} {b : Int} (h : LnI m x l es b) (hl : es.length < 4096) (lim : Int) :
  (nextB m x l lim = true ∧ lane_Lane_next.f x lim = some (.inr (at_ l 0))) ∨ (nextB m x l lim = false ∧ ∃ y, lane_Lane_next.f x lim = some (.inl (y, ⟨180⟩))) := by
 have hn : log_Log_none.f x.log = some false := by unfold log_Log_none.f; rw [h.ok.made]; rfl
 have hs : log_Log_Stuck.f x.log = some x.log.stuck := by
  unfold log_Log_Stuck.f; rw [hn]; simp
 have hlen : log_Log_Len.f x.log = some (es.length : Int) := by
  unfold log_Log_Len.f; rw [hn]; simp [h.lg.len]
 have hc : x.caps.Log = 4096 := by rw [h.caps]; rfl
 unfold lane_Lane_next.f nextB
 rw [h.wait, hs, h.mm]
 by_cases h0 : l.length = 0
 ·have : l = [] := List.length_eq_zero_iff.1 h0
  subst this
  rw [qFirst_nil]
  exact .inr ⟨by simp, _, rfl⟩
 rw [qFirst_eq (by omega)]
 simp only [Option.bind_some, if_true]
 by_cases h1 : lim ≤ (at_ l 0).Key.Time
 ·rw [if_pos h1]
  exact .inr ⟨by rw [Bool.and_eq_false_iff]; left; rw [decide_eq_false_iff_not]; omega, _, rfl⟩
 rw [if_neg h1]
 by_cases h2 : m.End < (at_ l 0).Key.Time
 ·rw [if_pos h2]
  exact .inr ⟨by rw [Bool.and_eq_false_iff]; left; rw [decide_eq_false_iff_not]; omega, _, rfl⟩
 rw [if_neg h2]
 unfold lane_Lane_next.j4
 cases h3 : x.log.stuck with
 | true => exact .inr ⟨by simp, _, rfl⟩
 | false =>
  refine .inl ⟨by simp; omega, ?_⟩
  rw [if_neg (by simp), hlen, hc]
  simp only [Option.bind_some]
  rw [if_neg (by omega)]
end
section
def cm (u : Int) (sent : List api_Message) : Nat → List (Int × Int)
 | 0 => []
 | k + 1 => if u ≤ (nth sent (k : Int)).Uid then mset (cm u sent k) (nth sent (k : Int)).To ((mget (cm u sent k) (nth sent (k : Int)).To).getD 0 + 1) else cm u sent k
theorem cm_le (u : Int) (sent : List api_Message) : ∀ (k : Nat) (t : Int), 0 ≤ (mget (cm u sent k) t).getD 0 ∧ (mget (cm u sent k) t).getD 0 ≤ (k : Int)
 | 0, t => by simp [cm, mget_nil]
 | k + 1, t => by
  have h1 := cm_le u sent k t
  have h2 := cm_le u sent k (nth sent (k : Int)).To
  unfold cm
  split
  ·rw [mget_mset]
   split
   ·simp only [Option.getD_some]; omega
   ·omega
  ·omega
theorem fits_eq {m : api_Model} {x : lane_Lane} {l : List api_Message} {es : List api_Entry} {b : Int} (h : LnI m x l es b) (hL : m.Links.length ≤ 1024) {sent : List api_Message} (hs : sent.length ≤ 8) {room : List Int} (hr : room.length = (ways m 0).length) (hroom : ∀ k : Nat, k < room.length → nth room (k : Int) = 1000) :
  lane_Lane_fits.f x sent room = some (.inr ()) := by
 have hw : (ways m 0).length ≤ 1024 := Nat.le_trans (idxs_len _ _) hL
 have h28 : ∀ es' : List (Int × Int), (∀ t, (mget es' t).getD 0 ≤ 8) → lane_Lane_fits.l28 x room es' 0 = some (.inr ()) := fun es' he => by
  unfold lane_Lane_fits.l28
  refine (show loopR _ ((fun k : Nat => (k : Int)) 0) = _ from loopR_steps (fun k : Nat => (k : Int)) (ways m 0).length (fun k hk => ?_) ?_)
  ·simp only [lane_Lane_fits.l28b]
   obtain ⟨j, ej, hj, _⟩ := idxs_get (fromB m 0) m.Links.length k hk
   have ej' : nth (ways m 0) (k : Int) = (j : Int) := ej
   rw [h.ways, if_pos (by omega), if_pos (by omega), if_pos (by omega), hroom k (by omega)]
   unfold lane_Lane_fits.j30
   rw [h.ways, h.mm, ej', if_pos (by omega), w64 (by omega) (by omega)]
   split
   ·rw [if_neg (by have := he (nth m.Links (j : Int)).To; omega)]; rfl
   ·rfl
  ·simp only [lane_Lane_fits.l28b]
   rw [h.ways, if_neg (by omega)]
 unfold lane_Lane_fits.f lane_Lane_fits.l22
 refine (show loopR _ ((fun k : Nat => (cm x.uid sent k, (k : Int))) 0) = _ from loopR_steps (fun k : Nat => (cm x.uid sent k, (k : Int))) sent.length (fun k hk => ?_) ?_)
 ·simp only [lane_Lane_fits.l22b]
  rw [if_pos (by omega), if_pos (by omega)]
  have hc := cm_le x.uid sent k (nth sent (k : Int)).To
  rw [w64 (x := (mget (cm x.uid sent k) (nth sent (k : Int)).To).getD 0 + 1) (by omega) (by omega)]
  unfold lane_Lane_fits.j23
  rw [w64 (by omega) (by omega)]
  show _ = some (Sum.inl (cm x.uid sent (k + 1), ((k + 1 : Nat) : Int)))
  rw [show cm x.uid sent (k + 1) = if x.uid ≤ (nth sent (k : Int)).Uid then mset (cm x.uid sent k) (nth sent (k : Int)).To ((mget (cm x.uid sent k) (nth sent (k : Int)).To).getD 0 + 1) else cm x.uid sent k from rfl]
  split <;> rfl
 ·simp only [lane_Lane_fits.l22b]
  rw [if_neg (by omega), h28 _ (fun t => by have := (cm_le x.uid sent sent.length t).2; omega)]
  rfl
theorem part_nil {x : lane_Lane} (h : x.open_ = []) (y : api_Message) : lane_Lane_part_2.f x y = some ([], { x with open_ := [] }) := by
 unfold lane_Lane_part_2.f lane_Lane_part_2.l15
 rw [loopR_eq]
 simp [lane_Lane_part_2.l15b, h]
theorem snd_inj {l : List api_Message} (h : (l.map snd).Nodup) {a b : api_Message} (ha : a ∈ l) (hb : b ∈ l) (e : snd a = snd b) : a = b := by
 induction l with
 | nil => cases ha
 | cons c l ih =>
  rw [List.map_cons, List.nodup_cons] at h
  rcases List.mem_cons.1 ha with rfl | ha'
  ·rcases List.mem_cons.1 hb with rfl | hb'
   ·rfl
   ·exact absurd (List.mem_map.2 ⟨b, hb', e.symm⟩) h.1
  ·rcases List.mem_cons.1 hb with rfl | hb'
   ·exact absurd (List.mem_map.2 ⟨a, ha', e⟩) h.1
   ·exact ih h.2 ha' hb'
theorem release_eq {x : lane_Lane} {l : List api_Message} (hw : x.wait = qof l) (hq : QOK l) {y : api_Message} (hy : y ∈ l) :
  ∃ W, (y :: W).Perm l ∧ QOK W ∧ lane_Lane_release.f x y = some (true, { x with wait := qof W, held := mdel x.held ⟨y.Key.From, y.Uid⟩ }) := by
 rcases qCut_eq hq y.Key.From y.Uid with ⟨hn, _⟩ | ⟨m, W, hm, es, e, p, q⟩
 ·exact absurd (List.mem_map.2 ⟨y, hy, rfl⟩) hn
 ·have em : m = y := snd_inj hq.nodup hm hy es
  subst em
  refine ⟨W, p, q, ?_⟩
  unfold lane_Lane_release.f
  rw [hw, e]
  simp only [Option.bind_some]
  unfold lane_Lane_release.j4 lane_of.f
  simp
end
section
def ot (u : Int) (sent : List api_Message) : Nat → List api_Message
 | 0 => []
 | k + 1 => if u ≤ (nth sent (k : Int)).Uid then ot u sent k ++ [nth sent (k : Int)] else ot u sent k
def hdm (sent : List api_Message) : Nat → List (Int × Bool)
 | 0 => []
 | k + 1 => mset (hdm sent k) (nth sent (k : Int)).Uid true
theorem ot_len (u : Int) (sent : List api_Message) : ∀ k, (ot u sent k).length ≤ k
 | 0 => Nat.le_refl _
 | k + 1 => by
  have := ot_len u sent k
  unfold ot
  split
  ·rw [List.length_append]; simp; omega
  ·omega
def bump (s : api_Stats) : api_Stats := ⟨IntKind.i64.wrap (s.Done + 1), s.Undone, s.Hits, s.Held⟩
theorem sent_loop (e : api_Entry) (x : lane_Lane) (hs : e.Sent.length ≤ 1000) : loopR (lane_Lane_Step.l47b [] e x) ([], [], 0) = some (ot x.uid e.Sent e.Sent.length, 0, { x with uid := IntKind.i64.wrap (x.uid + ((ot x.uid e.Sent e.Sent.length).length : Int)), stats := bump x.stats }) := by
 refine (show loopR _ ((fun k : Nat => (ot x.uid e.Sent k, hdm e.Sent k, (k : Int))) 0) = _ from loopR_steps (fun k : Nat => (ot x.uid e.Sent k, hdm e.Sent k, (k : Int))) e.Sent.length (fun k hk => ?_) ?_)
 ·simp only [lane_Lane_Step.l47b]
  have hl := ot_len x.uid e.Sent k
  rw [if_pos (by omega), if_pos (by omega)]
  unfold lane_Lane_Step.j48
  rw [w64 (by omega) (by omega)]
  show _ = some (Sum.inl (ot x.uid e.Sent (k + 1), hdm e.Sent (k + 1), ((k + 1 : Nat) : Int)))
  rw [show ot x.uid e.Sent (k + 1) = if x.uid ≤ (nth e.Sent (k : Int)).Uid then ot x.uid e.Sent k ++ [nth e.Sent (k : Int)] else ot x.uid e.Sent k from rfl, show hdm e.Sent (k + 1) = mset (hdm e.Sent k) (nth e.Sent (k : Int)).Uid true from rfl]
  by_cases hu : x.uid ≤ (nth e.Sent (k : Int)).Uid
  ·rw [if_pos hu, if_pos hu, if_pos (by omega)]; rfl
  ·rw [if_neg hu, if_neg hu]; rfl
 ·simp only [lane_Lane_Step.l47b]
  rw [if_neg (by omega)]
  unfold lane_Lane_Step.l55
  rw [loopR_eq]
  simp [lane_Lane_Step.l55b, bump]
structure StepX (x x' : lane_Lane) (y : api_Message) (out : List api_Message) : Prop where
 held : x'.held = mdel x.held ⟨y.Key.From, y.Uid⟩
 early : x'.early = x.early
 orph : x'.orphans = x.orphans
 sett : x'.setting = x.setting
 nn : x'.n = x.n
 out : out = ot x.uid (sentS x.log y x.uid []) (sentS x.log y x.uid []).length
theorem step_ok {m : api_Model} {x : lane_Lane} {l : List api_Message} {es : List api_Entry} {b : Int} (h : LnI m x l es b) (hL : m.Links.length ≤ 1024) (hes : es.length ≤ 1000) (hb : b + 4096 ≤ 1125899906842624) {lim : Int} (hn : nextB m x l lim = true)
  (hv : -9223372036854775808 ≤ (at_ l 0).Value ∧ (at_ l 0).Value ≤ 9223372036854775807) (hmay : mayS x.log (at_ l 0) x.uid = 0) {room : List Int} (hr : room.length = (ways m 0).length) (hroom : ∀ k : Nat, k < room.length → nth room (k : Int) = 1000) :
  ∃ out x' W, lane_Lane_Step.f x lim room = some (out, 0, x') ∧ (at_ l 0 :: W).Perm l ∧ LnI m x' W (es ++ [entS x.log (at_ l 0) x.uid []]) (b + 4096) ∧ lastE x'.log = at_ l 0 ∧ StepX x x' (at_ l 0) out := by
 have hm := (may_zero hmay).1
 have h0 : 0 < l.length := by
  unfold nextB at hn
  simp only [Bool.and_eq_true, decide_eq_true_eq] at hn; exact hn.1.1
 obtain ⟨hs1, hs2⟩ := sentS_len h.ok hm hv x.uid []
 obtain ⟨W, p, q, er⟩ := release_eq (x := { x with log := doS x.log (at_ l 0) x.uid [] }) h.wait h.q (at_mem h0)
 generalize hhd : mdel x.held ⟨(at_ l 0).Key.From, (at_ l 0).Uid⟩ = hd
 have es' := sent_loop (entS x.log (at_ l 0) x.uid []) { x with log := doS x.log (at_ l 0) x.uid [], wait := qof W, held := hd, open_ := [] } (by show (sentS x.log (at_ l 0) x.uid []).length ≤ 1000; omega)
 have ho := ot_len x.uid (sentS x.log (at_ l 0) x.uid []) (sentS x.log (at_ l 0) x.uid []).length
 have hu := h.uid
 refine ⟨ot x.uid (sentS x.log (at_ l 0) x.uid []) (sentS x.log (at_ l 0) x.uid []).length, { x with log := doS x.log (at_ l 0) x.uid [], wait := qof W, held := hd, open_ := [], uid := IntKind.i64.wrap (x.uid + ((ot x.uid (sentS x.log (at_ l 0) x.uid []) (sentS x.log (at_ l 0) x.uid []).length).length : Int)), stats := bump x.stats }, W, ?_, p, ?_, ?_, ⟨hhd.symm, rfl, rfl, rfl, rfl, rfl⟩⟩
 rotate_left
 ·refine ⟨h.mm, h.caps, h.ways, rfl, q, rfl, Lg.did h.lg h.ok hm hv x.uid [], LogOK.did h.ok hm hv x.uid [] hb (by have := h.lg.len; omega), ?_⟩
  show 0 ≤ IntKind.i64.wrap _ ∧ IntKind.i64.wrap _ ≤ _
  rw [w64 (by omega) (by omega), List.length_append]
  simp only [List.length_cons, List.length_nil]
  omega
 ·show (nth (x.log.l ++ [_]) (((x.log.l ++ [_]).length : Int) - 1)).event = _
  rw [List.length_append, show (((x.log.l.length + [doneS x.log (at_ l 0) x.uid []].length : Nat) : Int) - 1) = (x.log.l.length : Int) by simp, nth_sl]; rfl
 ·rcases next_eq h (by omega) lim with ⟨_, e⟩ | ⟨hf, _⟩
  ·unfold lane_Lane_Step.f lane_Lane_none.f
   rw [e]
   simp only [Option.bind_some]
   unfold lane_Lane_Step.l35
   rw [loopR_eq]
   simp only [lane_Lane_Step.l35b]
   rw [h.op, if_neg (by simp), try_eq h.ok hv (by simp), if_pos hmay]
   simp only [Option.bind_some]
   unfold lane_Lane_Step.j38
   rw [show (entS x.log (at_ l 0) x.uid []).Sent = sentS x.log (at_ l 0) x.uid [] from rfl, fits_eq h hL hs2 hr hroom]
   simp only [Option.bind_some]
   rw [do_eq h.ok hv (by simp), if_pos hmay]
   simp only [Option.bind_some]
   unfold lane_Lane_Step.j40
   rw [show lane_Lane_release.f { x with log := doS x.log (at_ l 0) x.uid [] } (at_ l 0) = some (true, { x with log := doS x.log (at_ l 0) x.uid [], wait := qof W, held := hd }) from by rw [er]; exact congrArg (fun k => some (true, ({ x with log := doS x.log (at_ l 0) x.uid [], wait := qof W, held := k } : lane_Lane))) hhd]
   simp only [Option.bind_some]
   rw [part_nil (by exact h.op)]
   simp only [Option.bind_some]
   unfold lane_Lane_Step.l47
   rw [es']
   rfl
  ·rw [hn] at hf; cases hf
end
section
def wld0 (m : api_Model) : api_World := ⟨nth m.Progs 0, 0, wlinks m 0, m.Seed⟩
theorem wld0_eq {m : api_Model} (hC : chkM m = 0) : wldP m 0 = (wld0 m, 0) := by
 have hz := (chkM_zero hC).1
 have hb : laneB m 0 = true := by
  unfold sizesB at hz
  simp only [Bool.and_eq_true, decide_eq_true_eq] at hz
  simp only [laneB, decide_eq_true_eq]; omega
 unfold wldP
 rw [if_pos hC, if_pos hb]; rfl
theorem wld0_chk {m : api_Model} (hC : chkM m = 0) : chkW (wld0 m) = 0 := by
 obtain ⟨h1, h2, h3, h4, _⟩ := chkM_zero hC
 have hp : 1 ≤ m.Progs.length ∧ m.Progs.length ≤ 16 := by
  unfold sizesB at h1
  simp only [Bool.and_eq_true, decide_eq_true_eq] at h1; exact h1.1.1
 have hpb := List.any_eq_false.1 h2 0 (List.mem_range.2 (by omega))
 have hpc : chk (nth m.Progs 0) = 0 := by
  unfold progBad at hpb
  simpa using hpb
 have hl : (wlinks m 0).length ≤ 1024 := by
  unfold wlinks
  rw [List.length_map, List.length_range]
  exact Nat.le_trans (idxs_len _ _) h3
 unfold chkW
 rw [show (wld0 m).Prog = nth m.Progs 0 from rfl, if_pos hpc, show (wld0 m).Self = 0 from rfl, if_pos (by simp [laneW]), show (wld0 m).Links = wlinks m 0 from rfl, if_neg (by omega)]
 rw [if_neg]
 rw [Bool.not_eq_true, List.any_eq_false]
 intro k hk
 have hk := List.mem_range.1 hk
 have hk' : k < (ways m 0).length := by simpa [wlinks] using hk
 obtain ⟨j, ej, hj, _⟩ := idxs_get (fromB m 0) m.Links.length k hk'
 have ej' : nth (ways m 0) (k : Int) = (j : Int) := ej
 have e : nth (wlinks m 0) (k : Int) = nth m.Links (j : Int) := by
  rw [nth_nat hk]
  simp only [wlinks, List.getElem_map, List.getElem_range, ej']
 have hb := List.any_eq_false.1 h4 j (List.mem_range.2 hj)
 simp only [linkBad, Bool.or_eq_true, Bool.not_eq_true', not_or, Bool.not_eq_false] at hb
 obtain ⟨⟨_, _⟩, ⟨t0, t1⟩, l0, l1⟩ := linkOK_of hb.1
 unfold linkBadW
 rw [show (wld0 m).Links = wlinks m 0 from rfl, e]
 simp only [laneW, Bool.not_eq_true', Bool.not_eq_false', Bool.and_eq_true, decide_eq_true_eq, Bool.not_eq_true, Bool.not_eq_false]
 omega
def frst (m : api_Model) (k : Nat) : List api_Message := ((List.range k).map (msg m)).filter fun x => decide (x.To = 0)
theorem frst_succ (m : api_Model) (k : Nat) : frst m (k + 1) = if (msg m k).To = 0 then frst m k ++ [msg m k] else frst m k := by
 unfold frst
 rw [List.range_succ, List.map_append, List.filter_append]
 by_cases h : (msg m k).To = 0
 ·simp [h]
 ·simp [h]
theorem frst_mem {m : api_Model} {k : Nat} {x : api_Message} (h : x ∈ frst m k) : ∃ j, j < k ∧ x = msg m j ∧ x.To = 0 := by
 unfold frst at h
 obtain ⟨h1, h2⟩ := List.mem_filter.1 h
 obtain ⟨j, hj, e⟩ := List.mem_map.1 h1
 exact ⟨j, List.mem_range.1 hj, e.symm, by simpa using h2⟩
theorem frst_len (m : api_Model) (k : Nat) : (frst m k).length ≤ k := by
 unfold frst
 exact Nat.le_trans (List.length_filter_le _ _) (by simp)
def lane00 (m : api_Model) (c : api_Caps) : lane_Lane := ⟨m, 0, c, ways m 0, ⟨wld0 m, true, zst, 4, [], false⟩, qof [], [], [], [], [], 0, ⟨2, 4, 0, 1000, 0⟩, ⟨0, 0, 0, 0⟩⟩
def lnW (x : lane_Lane) (W : List api_Message) (hd : List (lane_sending × Bool)) : lane_Lane := { x with wait := qof W, held := hd }
theorem hold_fresh {x : lane_Lane} {l : List api_Message} {y : api_Message} (hw : x.wait = qof l) (hq : QOK l) (hn : snd y ∉ l.map snd) (hl : l.length < 16384) :
  ∃ W, lane_Lane_hold.f x y = some { x with wait := qof W, held := mset x.held ⟨y.Key.From, y.Uid⟩ true } ∧ W.Perm (y :: l) ∧ QOK W := by
 rcases qPush_eq (m := y) hq with ⟨h, _⟩ | ⟨_, h, _⟩ | ⟨_, _, W, e, p, q⟩
 ·exact absurd h hn
 ·omega
 ·refine ⟨W, ?_, p, q⟩
  unfold lane_Lane_hold.f
  rw [hw, e]
  simp only [Option.bind_some, if_true]
  unfold lane_of.f
  rfl
theorem hold_loop {m : api_Model} {n : Nat} (hn : n ≤ 4096) : ∀ (d k : Nat) (x : lane_Lane) (l : List api_Message), d + k = n → x.wait = qof l → QOK l → l.Perm (frst m k) → Hld x.held l →
  ∃ W hd, loopR (lane_New.l19b 0 ((List.range n).map (msg m))) (x, (k : Int)) = some (.inr ({ x with wait := qof W, held := hd }, 0)) ∧ QOK W ∧ W.Perm (frst m n) ∧ Hld hd W
 | 0, k, x, l, e, hw, hq, hp, hh => by
  have : k = n := by omega
  subst this
  refine ⟨l, x.held, ?_, hq, hp, hh⟩
  rw [loopR_eq]
  simp only [lane_New.l19b]
  rw [if_neg (by simp), ← hw]
  rfl
 | d + 1, k, x, l, e, hw, hq, hp, hh => by
  rw [loopR_eq]
  simp only [lane_New.l19b]
  have hk : k < ((List.range n).map (msg m)).length := by simp; omega
  have ek : nth ((List.range n).map (msg m)) (k : Int) = msg m k := by
   rw [nth_nat hk]; simp
  rw [if_pos (by simp; omega), if_pos (by omega), ek]
  by_cases ht : (msg m k).To = 0
  ·have hfr : snd (msg m k) ∉ l.map snd := fun hc => by
    obtain ⟨z, hz, ez⟩ := List.mem_map.1 hc
    obtain ⟨j, hj, rfl, _⟩ := frst_mem (hp.mem_iff.1 hz)
    simp only [snd, msg, Prod.mk.injEq] at ez; omega
   have hll : l.length ≤ k := by rw [hp.length_eq]; exact frst_len m k
   obtain ⟨W, eh, p, q⟩ := hold_fresh hw hq hfr (by omega)
   rw [if_pos ht, eh]
   simp only [Option.bind_some]
   unfold lane_New.j20
   rw [w64 (by omega) (by omega)]
   obtain ⟨W', hd', el, q', p'⟩ := hold_loop hn d (k + 1) { x with wait := qof W, held := mset x.held ⟨(msg m k).Key.From, (msg m k).Uid⟩ true } W (by omega) rfl q (by
    rw [frst_succ, if_pos ht]
    exact p.trans ((hp.cons _).trans (List.perm_append_comm (l₁ := [msg m k]) (l₂ := frst m k)))) (hh.add p)
   exact ⟨W', hd', el, q', p'⟩
  ·rw [if_neg ht]
   unfold lane_New.j20
   rw [w64 (by omega) (by omega)]
   exact hold_loop hn d (k + 1) x l (by omega) hw hq (by rw [frst_succ, if_neg ht]; exact hp) hh
theorem New_bad {m : api_Model} (h : ok_api_Model m) (hC : chkM m ≠ 0) (c : api_Caps) : lane_New.f m 0 c = some (.inl (chkM m)) := by
 unfold lane_New.f
 rw [world_eq h]
 have e : wldP m 0 = (⟨[], 0, [], 0⟩, chkM m) := by unfold wldP; rw [if_neg hC]
 rw [e]
 simp only [Option.bind_some]
 rw [if_neg hC]
theorem New_eq {m : api_Model} (h : ok_api_Model m) (hC : chkM m = 0) {c : api_Caps} (hc : 1 ≤ c.Link ∧ c.Link ≤ 1024 ∧ 1 ≤ c.Wait ∧ c.Wait ≤ 4096 ∧ 1 ≤ c.Log ∧ c.Log ≤ 4096) :
  ∃ W hd, lane_New.f m 0 c = some (.inr (lnW (lane00 m c) W hd, 0)) ∧ QOK W ∧ W.Perm (frst m m.Starts.length) ∧ Hld hd W := by
 obtain ⟨_, _, h3, _, h5, _⟩ := chkM_zero hC
 obtain ⟨W, hd, el, q, p⟩ := hold_loop h5 m.Starts.length 0 (lane00 m c) [] (by omega) rfl QOK.nil (by unfold frst; exact List.Perm.refl _) Hld.nil
 refine ⟨W, hd, ?_, q, p⟩
 unfold lane_New.f
 rw [world_eq h, wld0_eq hC]
 simp only [Option.bind_some, if_true]
 rw [if_neg (by omega), if_neg (by omega), if_neg (by split <;> omega), if_neg (by split <;> omega), ways_eq h]
 simp only [Option.bind_some]
 unfold tune_First.f lane_New.j12
 simp only [Option.bind_some]
 rw [if_pos (by simp only [List.length_nil]; omega), show (⟨(⟨0, 0, 0, 0, 0, 0, 0, 0⟩ : Arr8xInti64), 0, 0⟩ : api_State) = zst from rfl, new_eq (wld0 m) 4 (by omega), if_pos (wld0_chk hC)]
 simp only [Option.bind_some]
 rw [starts_list (by omega)]
 unfold pend_New.f pend_fresh.f heap_New.f lane_New.l19
 simp only [Option.bind_some]
 exact el
end
section
theorem room_eq {m : api_Model} (h : ok_api_Model m) (hL : m.Links.length ≤ 1024) : isochronlaw17vroom.f m 0 = some (List.replicate (ways m 0).length 1000) := by
 have hw : (ways m 0).length ≤ 1024 := Nat.le_trans (idxs_len _ _) hL
 unfold isochronlaw17vroom.f isochronlaw17vroom.l2
 refine (show loopR _ ((fun k : Nat => (List.replicate k (1000 : Int), (k : Int))) 0) = _ from loopR_steps (fun k : Nat => (List.replicate k (1000 : Int), (k : Int))) (ways m 0).length (fun k hk => ?_) ?_)
 ·simp only [isochronlaw17vroom.l2b]
  rw [ways_eq h]
  simp only [Option.bind_some]
  rw [if_pos (by omega), if_pos (by rw [List.length_replicate]; omega), w64 (by omega) (by omega)]
  show _ = some (Sum.inl (List.replicate (k + 1) (1000 : Int), _))
  rw [List.replicate_succ']; rfl
 ·simp only [isochronlaw17vroom.l2b]
  rw [ways_eq h]
  simp only [Option.bind_some]
  rw [if_neg (by omega)]
theorem room_at {n k : Nat} (h : k < (List.replicate n (1000 : Int)).length) : nth (List.replicate n (1000 : Int)) (k : Int) = 1000 := by
 rw [nth_nat h, List.getElem_replicate]
def mNil : api_Model := ⟨[([] : List api_Instr)], [], [], 0, 0, 0⟩
theorem mNil_ok : ok_api_Model mNil := by
 refine ⟨⟨fun x hx => ?_, by decide⟩, ⟨fun x hx => (by cases hx), by decide⟩, ⟨fun x hx => (by cases hx), by decide⟩, by decide, by decide, by decide⟩
 obtain rfl := List.mem_singleton.1 hx
 exact ⟨fun y hy => (by cases hy), by decide⟩
theorem mNil_chk : chkM mNil = 0 := rfl
theorem local_nil {x : lane_Lane} (hw : x.wait = qof []) (ho : x.open_ = []) : lane_Lane_Local.f x = some 4611686018427387904 := by
 have e : vtime_Least.f [] = some 4611686018427387904 := by
  unfold vtime_Least.f vtime_Least.l2
  rw [loopR_eq]
  simp [vtime_Least.l2b]
 unfold lane_Lane_Local.f lane_Lane_none.f
 rw [e, hw, qFirst_nil]
 simp only [Option.bind_some]
 rw [if_neg (by decide)]
 unfold lane_Lane_Local.j3 lane_Lane_Local.l4
 rw [loopR_eq]
 simp [lane_Lane_Local.l4b, ho]
theorem awake_lane : isochronlaw17vawake.f = some true := by
 obtain ⟨W, hd, e, q, p, _⟩ := New_eq mNil_ok mNil_chk (c := ⟨1, 1, 1⟩) (by decide)
 have hW : W = [] := by
  have := p.length_eq
  have h0 := frst_len mNil mNil.Starts.length
  exact List.length_eq_zero_iff.1 (by have : mNil.Starts.length = 0 := rfl; omega)
 subst hW
 unfold isochronlaw17vawake.f
 rw [show lane_New.f (⟨[([] : List api_Instr)], [], [], 0, 0, 0⟩ : api_Model) 0 (⟨1, 1, 1⟩ : api_Caps) = _ from e]
 simp only [Option.bind_some, if_true]
 rw [local_nil rfl rfl]
 rfl
end
section
theorem rnS_nil (u : Int) (l : List api_Message) : ∀ k : Nat, k ≤ l.length → (rnS u l [] k).1 = u + (k : Int) ∧ (rnS u l [] k).2.2 = [] ∧ ∀ j : Nat, j < k → nth (rnS u l [] k).2.1 (j : Int) = setUid (nth l (j : Int)) (u + (j : Int))
 | 0, _ => ⟨by show u = u + _; omega, rfl, fun j hj => by omega⟩
 | k + 1, h => by
  obtain ⟨h1, h2, h3⟩ := rnS_nil u l k (by omega)
  have hh : hadS (nth l (k : Int)) (rnS u l [] k).2.2 = (0, false, []) := by rw [h2]; rfl
  have e : rnS u l [] (k + 1) = ((rnS u l [] k).1 + 1, setL (rnS u l [] k).2.1 (k : Int) (setUid (nth (rnS u l [] k).2.1 (k : Int)) (rnS u l [] k).1), []) := by
   rw [show rnS u l [] (k + 1) = (if (hadS (nth l (k : Int)) (rnS u l [] k).2.2).2.1 = true then (rnS u l [] k).1 else (rnS u l [] k).1 + 1, setL (rnS u l [] k).2.1 (k : Int) (setUid (nth (rnS u l [] k).2.1 (k : Int)) (if (hadS (nth l (k : Int)) (rnS u l [] k).2.2).2.1 = true then (hadS (nth l (k : Int)) (rnS u l [] k).2.2).1 else (rnS u l [] k).1)), (hadS (nth l (k : Int)) (rnS u l [] k).2.2).2.2) from rfl, hh]
   rfl
  rw [e]
  refine ⟨by show (rnS u l [] k).1 + 1 = _; rw [h1]; omega, rfl, fun j hj => ?_⟩
  show nth (setL _ _ _) _ = _
  by_cases hj' : j = k
  ·subst hj'
   rw [nth_setL (by omega) (by rw [(rnS_len u l [] j).1]; omega) (by omega), if_pos rfl, rnS_at u l [] j j (Nat.le_refl _), h1]
  ·rw [nth_setL_ne (by omega) (by omega) (by omega)]
   exact h3 j (by omega)
theorem sentS_at (a : log_Log) (m : api_Message) (u : Int) (j : Nat) (hj : j < (sentS a m u []).length) : u ≤ (nth (sentS a m u []) (j : Int)).Uid ∧ (nth (sentS a m u []) (j : Int)).Anti = false := by
 have hl : (sentS a m u []).length = (sendsU a.w a.state m (vmRun a.w a.state m).2.1).length := by
  unfold sentS named
  exact (rnS_len _ _ _ _).1
 rw [hl] at hj
 have h := (rnS_nil u (sendsU a.w a.state m (vmRun a.w a.state m).2.1) _ (Nat.le_refl _)).2.2 j hj
 have e : nth (sentS a m u []) (j : Int) = setUid (nth (sendsU a.w a.state m (vmRun a.w a.state m).2.1) (j : Int)) (u + (j : Int)) := h
 rw [e]
 refine ⟨by show u ≤ u + _; omega, ?_⟩
 show (nth (sendsU a.w a.state m (vmRun a.w a.state m).2.1) (j : Int)).Anti = false
 rw [nth_nat hj]
 simp [sendsU, sendU]
theorem ot_full {u : Int} {sent : List api_Message} (h : ∀ j : Nat, j < sent.length → u ≤ (nth sent (j : Int)).Uid) : ∀ k, k ≤ sent.length → (ot u sent k).length = k
 | 0, _ => rfl
 | k + 1, hk => by
  unfold ot
  rw [if_pos (h k (by omega)), List.length_append, ot_full h k (by omega)]; rfl
theorem mem_nth {α : Type} [Inhabited α] {l : List α} {x : α} (h : x ∈ l) : ∃ j : Nat, j < l.length ∧ nth l (j : Int) = x := by
 obtain ⟨j, hj, e⟩ := List.getElem_of_mem h
 exact ⟨j, hj, by rw [nth_nat hj, e]⟩
theorem leM_bef {a b : api_Message} (h : leM a b) (hne : snd a ≠ snd b) : bef a b = true := by
 rw [leM_iff] at h
 rw [bef_iff]
 simp only [snd, ne_eq, Prod.mk.injEq, not_and] at hne
 omega
theorem bef_asym {a b : api_Message} (h : bef a b = true) : bef b a = false := by
 rw [← Bool.not_eq_true]
 rw [bef_iff] at h
 rw [bef_iff]
 omega
theorem bef_irr (a : api_Message) : bef a a = false := by
 rw [← Bool.not_eq_true, bef_iff]
 omega
structure XM (z : api_Message) : Prop where
 ev : evB z = true
 an : z.Anti = false
 va : -9223372036854775808 ≤ z.Value ∧ z.Value ≤ 9223372036854775807
structure Dr (m : api_Model) (base : List api_Message) (x : lane_Lane) (l : List api_Message) (es : List api_Entry) (i n : Nat) : Prop where
 ln : LnI m x l es (4096 * (i : Int))
 few : es.length ≤ i
 nb : n ≤ 8 * i
 st : ∀ z ∈ base, XM z
 nd : (base.map snd).Nodup
 perm : (es.map (·.Event) ++ l).Perm base
 srt : (es.map (·.Event)).Pairwise (fun a b => bef a b = true)
 aft : ∀ a ∈ es.map (·.Event), ∀ z ∈ l, bef a z = true
 sent : (es.map (fun e => e.Sent.length)).sum = n
 anti : ∀ e ∈ es, ∀ z ∈ e.Sent, z.Anti = false
 held : Hld x.held l
 early : x.early = []
 orph : x.orphans = []
 sett : x.setting = ⟨2, 4, 0, 1000, 0⟩
 nn : x.n = 0
theorem Dr.mem {m : api_Model} {base : List api_Message} {x : lane_Lane} {l : List api_Message} {es : List api_Entry} {i n : Nat} (h : Dr m base x l es i n) {z : api_Message} (hz : z ∈ l) : XM z := h.st z (h.perm.mem_iff.1 (List.mem_append_right _ hz))
theorem dr_may {m : api_Model} {base : List api_Message} {x : lane_Lane} {l : List api_Message} {es : List api_Entry} {i n : Nat} (h : Dr m base x l es i n) (hi : i ≤ 600) {lim : Int} (hn : nextB m x l lim = true) : mayS x.log (at_ l 0) x.uid = 0 := by
 unfold nextB at hn
 simp only [Bool.and_eq_true, decide_eq_true_eq, Bool.not_eq_true'] at hn
 have hz := h.mem (at_mem hn.1.1)
 have hu := h.ln.uid
 have hf := h.few
 have hl := h.ln.lg.len
 unfold mayS
 rw [if_pos hz.ev, if_neg (by rw [hz.an]; decide), if_neg (by omega), if_neg (by omega), if_neg, if_neg (by rw [hn.2]; decide), if_neg (by omega)]
 rintro ⟨h1, h2⟩
 have hp : 0 < es.length := by omega
 have e : lastE x.log = (nth es ((es.length - 1 : Nat) : Int)).Event := by
  rw [← h.ln.lg.ev (es.length - 1) (by omega)]
  unfold lastE
  rw [show ((x.log.l.length : Int) - 1) = ((es.length - 1 : Nat) : Int) by omega]
 have := h.aft (lastE x.log) (by rw [e, nth_nat (by omega)]; exact List.mem_map.2 ⟨_, List.getElem_mem _, rfl⟩) _ (at_mem hn.1.1)
 rw [h2] at this
 cases this
theorem dr_step {m : api_Model} {base : List api_Message} {x : lane_Lane} {l : List api_Message} {es : List api_Entry} {i n : Nat} (h : Dr m base x l es i n) (hi : i < 600) {lim : Int} (hn : nextB m x l lim = true) (hL : m.Links.length ≤ 1024)
  {room : List Int} (hr : room.length = (ways m 0).length) (hroom : ∀ k : Nat, k < room.length → nth room (k : Int) = 1000) :
  ∃ out x' W e, lane_Lane_Step.f x lim room = some (out, 0, x') ∧ Dr m base x' W (es ++ [e]) (i + 1) (n + out.length) := by
 have h0 : 0 < l.length := by
  unfold nextB at hn
  simp only [Bool.and_eq_true, decide_eq_true_eq] at hn; exact hn.1.1
 have hy := h.mem (at_mem h0)
 have hnb := h.nb
 obtain ⟨out, x', W, e, p, hI, _, hX⟩ := step_ok h.ln hL (by have := h.few; omega) (by omega) hn hy.va (dr_may h (by omega) hn) hr hroom
 have hS := sentS_at x.log (at_ l 0) x.uid
 have ho : out.length = (sentS x.log (at_ l 0) x.uid []).length := by rw [hX.out]; exact ot_full (fun j hj => (hS j hj).1) _ (Nat.le_refl _)
 have h8 := (sentS_len h.ln.ok hy.ev hy.va x.uid []).2
 refine ⟨out, x', W, entS x.log (at_ l 0) x.uid [], e, ?_⟩
 have hWl : ∀ z ∈ W, z ∈ l := fun z hz => p.mem_iff.1 (List.mem_cons_of_mem _ hz)
 have hnd := (p.map snd).nodup_iff.2 h.ln.q.nodup
 rw [List.map_cons, List.nodup_cons] at hnd
 refine ⟨?_, by have := h.few; simp; omega, by omega, h.st, h.nd, ?_, ?_, fun a ha z hz => ?_, ?_, fun e he z hz => ?_, by rw [hX.held]; exact h.held.del p h.ln.q.nodup, by rw [hX.early, h.early], by rw [hX.orph, h.orph], by rw [hX.sett, h.sett], by rw [hX.nn, h.nn]⟩
 ·have : (4096 * (((i + 1 : Nat)) : Int)) = 4096 * (i : Int) + 4096 := by omega
  rw [this]; exact hI
 ·rw [List.map_append, List.append_assoc]
  exact (List.Perm.append_left _ p).trans h.perm
 ·rw [List.map_append, List.pairwise_append]
  refine ⟨h.srt, by simp, fun a ha b hb => ?_⟩
  simp only [List.map_cons, List.map_nil, List.mem_singleton] at hb
  subst hb
  exact h.aft a ha _ (at_mem h0)
 ·rw [List.map_append, List.mem_append] at ha
  rcases ha with ha | ha
  ·exact h.aft a ha z (hWl z hz)
  ·simp only [List.map_cons, List.map_nil, List.mem_singleton] at ha
   subst ha
   exact leM_bef (h.ln.q.heap.root (hWl z hz)) (fun he => hnd.1 (List.mem_map.2 ⟨z, hz, he.symm⟩))
 ·rw [List.map_append, List.sum_append, h.sent, ho]; simp [entS]
 ·rcases List.mem_append.1 he with he | he
  ·exact h.anti e he z hz
  ·obtain rfl := List.mem_singleton.1 he
   obtain ⟨j, hj, rfl⟩ := mem_nth hz
   exact (hS j hj).2
theorem open_self {x : lane_Lane} (h : x.open_ = []) : ({ x with open_ := [] } : lane_Lane) = x := by
 cases x
 simp only at h
 subst h
 rfl
theorem settle_nil {x : lane_Lane} {l : List api_Message} (hw : x.wait = qof l) (ho : x.open_ = []) : lane_Lane_Settle.f x = some ([], x) := by
 have hp : ∀ a b, lane_Lane_part.f x a b = some ([], x) := fun a b => by
  unfold lane_Lane_part.f lane_Lane_part.l15
  rw [loopR_eq]
  simp only [lane_Lane_part.l15b, ho]
  rw [if_neg (by simp)]
  rw [open_self ho]
  rfl
 have hl : lane_Lane_Settle.l2 [] x ([], 0) = some ([], x) := by
  unfold lane_Lane_Settle.l2
  rw [loopR_eq]
  simp [lane_Lane_Settle.l2b]
 unfold lane_Lane_Settle.f lane_Lane_none.f
 rw [hw]
 by_cases h0 : 0 < l.length
 ·rw [qFirst_eq h0]
  simp only [Option.bind_some, hp, hl]
 ·obtain rfl : l = [] := List.length_eq_zero_iff.1 (by omega)
  rw [qFirst_nil]
  simp only [Option.bind_some, hp, hl]
theorem told_no {m : api_Model} {x : lane_Lane} {l : List api_Message} {es : List api_Entry} {b : Int} (h : LnI m x l es b) (hl : es.length < 4096) {lim : Int} (hn : nextB m x l lim = false) (room : List Int) : lane_Lane_Step.f x lim room = some ([], 180, x) := by
 rcases next_eq h hl lim with ⟨ht, _⟩ | ⟨_, y, e⟩
 ·rw [hn] at ht; cases ht
 ·unfold lane_Lane_Step.f lane_Lane_none.f
  rw [e]
  simp only [Option.bind_some, told_pick]
theorem drain_loop {m : api_Model} {base : List api_Message} (hL : m.Links.length ≤ 1024) {room : List Int} (hr : room.length = (ways m 0).length) (hroom : ∀ k : Nat, k < room.length → nth room (k : Int) = 1000) :
  ∀ (d i : Nat) (x : lane_Lane) (l : List api_Message) (es : List api_Entry) (out : List api_Message), d + i = 500 → Dr m base x l es i out.length →
   ∃ out' x' l' es' i', loopR (isochronlaw17vdrain.l2b room) (x, out, (i : Int)) = some (out', x') ∧ i' ≤ 500 ∧ Dr m base x' l' es' i' out'.length
 | 0, i, x, l, es, out, hd, h => by
  refine ⟨out, x, l, es, i, ?_, by omega, h⟩
  rw [loopR_eq]
  simp only [isochronlaw17vdrain.l2b]
  rw [if_neg (by omega)]
  rfl
 | d + 1, i, x, l, es, out, hd, h => by
  have hnb := h.nb
  have hf := h.few
  have e0 : isochronlaw17vdrain.l2b room (x, out, (i : Int)) = ((lane_Lane_Step.f x 4611686018427387904 room).bind fun y => (if y.2.1 = 0 then (if ((out ++ ([] : List api_Message)).length + y.1.length) * 56 ≤ 140737488355328 then some (.inl (y.2.2, ((out ++ []) ++ y.1), IntKind.i64.wrap ((i : Int) + 1))) else none) else some (.inr ((out ++ []), y.2.2)))) := by
   simp only [isochronlaw17vdrain.l2b]
   rw [if_pos (by omega), settle_nil h.ln.wait h.ln.op]
   simp only [Option.bind_some]
   rw [if_pos (by simp; omega)]
  cases hn : nextB m x l 4611686018427387904 with
  | true =>
   obtain ⟨o, x', W, e, eS, h'⟩ := dr_step h (by omega) hn hL hr hroom
   have h2 := h'.nb
   obtain ⟨out', x'', l', es', i', el, hi', hD⟩ := drain_loop hL hr hroom d (i + 1) x' W (es ++ [e]) (out ++ o) (by omega) (by rw [List.length_append]; exact h')
   refine ⟨out', x'', l', es', i', ?_, hi', hD⟩
   rw [loopR_eq, e0, eS]
   simp only [Option.bind_some, if_true, List.append_nil]
   rw [if_pos (by omega), w64 (by omega) (by omega)]
   exact el
  | false =>
   refine ⟨out, x, l, es, i, ?_, by omega, h⟩
   rw [loopR_eq, e0, told_no h.ln (by omega) hn room]
   simp
end
section
def fB (es : List api_Entry) (m : api_Message) : Nat → Nat
 | 0 => 0
 | x + 1 => if bef (nth es (x : Int)).Event m = true then x + 1 else fB es m x
theorem fB_le (es : List api_Entry) (m : api_Message) : ∀ x, fB es m x ≤ x
 | 0 => Nat.le_refl 0
 | x + 1 => by
  unfold fB
  split
  ·exact Nat.le_refl _
  ·exact Nat.le_succ_of_le (fB_le es m x)
def outAt (es : List api_Entry) (x k : Nat) : List api_Entry := (List.range (es.length - x)).map fun j => if es.length - 1 - j < k then nth es ((es.length - 1 - j : Nat) : Int) else zent
theorem outAt_len (es : List api_Entry) (x k : Nat) : (outAt es x k).length = es.length - x := by simp [outAt]
theorem outAt_low (es : List api_Entry) {x k : Nat} (h : k ≤ x) : outAt es x k = List.replicate (es.length - x) zent := by
 refine List.ext_getElem (by simp [outAt]) fun j h1 h2 => ?_
 rw [outAt_len] at h1
 simp only [outAt, List.getElem_map, List.getElem_range, List.getElem_replicate]
 rw [if_neg (by omega)]
theorem outAt_set (es : List api_Entry) {x k : Nat} (h : x ≤ k) (hk : k < es.length) : setL (outAt es x k) ((es.length : Int) - 1 - (k : Int)) (nth es (k : Int)) = outAt es x (k + 1) := by
 unfold setL
 refine List.ext_getElem (by simp [outAt]) fun j h1 h2 => ?_
 rw [outAt_len] at h2
 rw [List.getElem_set]
 simp only [outAt, List.getElem_map, List.getElem_range]
 by_cases hj : ((es.length : Int) - 1 - (k : Int)).toNat = j
 ·rw [if_pos hj, if_pos (by omega), show es.length - 1 - j = k by omega]
 ·rw [if_neg hj]
  by_cases h3 : es.length - 1 - j < k
  ·rw [if_pos h3, if_pos (by omega)]
  ·rw [if_neg h3, if_neg (by omega)]
theorem outAt_all (es : List api_Entry) {x : Nat} (hx : x ≤ es.length) : outAt es x es.length = (es.drop x).reverse := by
 refine List.ext_getElem (by simp [outAt]) fun j h1 h2 => ?_
 rw [outAt_len] at h1
 simp only [outAt, List.getElem_map, List.getElem_range, List.getElem_reverse, List.getElem_drop, List.length_drop]
 rw [if_pos (by omega), nth_nat (by omega)]
 congr 1
 omega
def qAt (a : log_Log) (es : List api_Entry) (x : Nat) : Nat → Bool
 | 0 => a.stuck
 | k + 1 => if x ≤ k then (qAt a es x k && decide ((nth es (k : Int)).Fault = 0)) else qAt a es x k
theorem qAt_low (a : log_Log) (es : List api_Entry) (x : Nat) : ∀ k, k ≤ x → qAt a es x k = a.stuck
 | 0, _ => rfl
 | k + 1, h => by rw [qAt, if_neg (by omega)]; exact qAt_low a es x k (by omega)
def aq (a : log_Log) (es : List api_Entry) (x k : Nat) : log_Log := ⟨a.w, a.made, a.state, a.every, a.l, qAt a es x k⟩
theorem aq_l (a : log_Log) (es : List api_Entry) (x k : Nat) : (aq a es x k).l = a.l := rfl
theorem aq_low (a : log_Log) (es : List api_Entry) {x k : Nat} (h : k ≤ x) : aq a es x k = a := by
 unfold aq
 rw [qAt_low a es x k h]
theorem back_round {a : log_Log} {es : List api_Entry} (h : Lg a es) (hl : es.length ≤ 20000) {x k : Nat} (hk : k < es.length) :
  log_Log_Back_round0.f (aq a es x k) (x : Int) (outAt es x k) (k : Int) (nth es (k : Int)).Before = some (aq a es x (k + 1), outAt es x (k + 1)) := by
 have hn := h.len
 have ho := outAt_len es x k
 unfold log_Log_Back_round0.f
 rw [show (aq a es x k).l = a.l from rfl]
 by_cases hx : x ≤ k
 ·rw [if_pos (by omega), if_pos (show 0 ≤ (k : Int) ∧ (k : Int) < (a.l.length : Int) by omega), h.entry hk]
  simp only [Option.bind_some]
  rw [w64 (x := (a.l.length : Int) - 1) (by omega) (by omega), w64 (x := (a.l.length : Int) - 1 - (k : Int)) (by omega) (by omega), if_pos (by omega), show (a.l.length : Int) - 1 - (k : Int) = (es.length : Int) - 1 - (k : Int) by omega, outAt_set es hx hk, h.fl k hk]
  unfold aq
  rw [show qAt a es x (k + 1) = (qAt a es x k && decide ((nth es (k : Int)).Fault = 0)) by rw [qAt, if_pos hx]]
  cases qAt a es x k <;> simp
 ·rw [if_neg (by omega), outAt_low es (by omega), outAt_low es (by omega)]
  unfold aq
  rw [qAt, if_neg hx]
def k0S (a : log_Log) : Nat → Nat
 | 0 => 0
 | x + 1 => if (nth a.l ((x + 1 : Nat) : Int)).ahead.has = true then x + 1 else k0S a x
theorem back_fwd {a : log_Log} {es : List api_Entry} (h : Lg a es) (hl : es.length ≤ 20000) {x k0 : Nat} (hx : x < es.length) (h0 : k0 ≤ x) (hh : (nth a.l (k0 : Int)).ahead.has = true) :
  log_Log_states_1.l21 (x : Int) (k0 : Int) (a, outAt es x 0, zst, (k0 : Int)) = some (aq a es x es.length, outAt es x es.length, (k0 : Int)) := by
 have hn := h.len
 unfold log_Log_states_1.l21
 have e0 : (a, outAt es x 0, zst, (k0 : Int)) = (fun i : Nat => (aq a es x (k0 + i), outAt es x (k0 + i), stAt a es k0 (k0 + i), ((k0 + i : Nat) : Int))) 0 := by
  simp only [Nat.add_zero, aq_low a es h0, outAt_low es h0, outAt_low es (Nat.zero_le x), stAt, if_true]
 rw [e0]
 refine loopR_steps (fun i : Nat => (aq a es x (k0 + i), outAt es x (k0 + i), stAt a es k0 (k0 + i), ((k0 + i : Nat) : Int))) (es.length - k0) (fun i hi => ?_) ?_
 ·generalize hk : k0 + i = k
  have hk' : k < es.length := by omega
  have hg := h.given hk' (by omega) hh
  have hj : ∀ s, s = (nth es (k : Int)).Before → log_Log_states_1.j23 (x : Int) (aq a es x k) (outAt es x k) (k : Int) s = some (.inl (aq a es x (k + 1), outAt es x (k + 1), stAt a es k0 (k + 1), ((k + 1 : Nat) : Int))) := fun s e => by
   subst e
   unfold log_Log_states_1.j23
   rw [back_round h hl hk']
   simp only [Option.bind_some]
   rw [if_pos (show 0 ≤ (k : Int) ∧ (k : Int) < ((aq a es x (k + 1)).l.length : Int) by rw [aq_l]; omega)]
   show Option.bind (vm_Run.f a.w _ (nth a.l (k : Int)).event) _ = _
   rw [h.run hk']
   simp only [Option.bind_some]
   rw [w64 (x := (k : Int) + 1) (by omega) (by omega), stAt_succ a es (show k0 ≤ k by omega)]
   rfl
  rw [show k0 + (i + 1) = k + 1 by omega]
  simp only [log_Log_states_1.l21b]
  rw [if_pos (show (k : Int) < ((aq a es x k).l.length : Int) by rw [aq_l]; omega), if_pos (by omega)]
  show (if (nth a.l (k : Int)).ahead.has = true then _ else _) = _
  by_cases hb : (nth a.l (k : Int)).ahead.has = true
  ·rw [if_pos hb]; rw [if_pos hb] at hg; exact hj _ hg
  ·rw [if_neg hb]; rw [if_neg hb] at hg; exact hj _ hg
 ·rw [show k0 + (es.length - k0) = es.length by omega]
  simp only [log_Log_states_1.l21b]
  rw [if_neg (show ¬ (es.length : Int) < ((aq a es x es.length).l.length : Int) by rw [aq_l]; omega)]
theorem back_it {a : log_Log} {es : List api_Entry} (h : Lg a es) (hl : es.length ≤ 20000) {x : Nat} (hx : x < es.length) :
  log_Log_states_1.f a (x : Int) (outAt es x 0) (x : Int) = some (aq a es x es.length, outAt es x es.length, (k0S a x : Int)) := by
 have hn := h.len
 have hj : ∀ y : Nat, y ≤ x → (nth a.l (y : Int)).ahead.has = true → log_Log_states_1.j14 a (x : Int) (outAt es x 0) (y : Int) = some (aq a es x es.length, outAt es x es.length, (y : Int)) := fun y hy hh => by
  unfold log_Log_states_1.j14
  exact back_fwd h hl hx hy hh
 unfold log_Log_states_1.f log_Log_states_1.l24
 have go : ∀ y : Nat, y ≤ x → loopR (log_Log_states_1.l24b a (x : Int) (outAt es x 0)) (y : Int) = some (aq a es x es.length, outAt es x es.length, (k0S a y : Int)) := fun y => by
  induction y with
  | zero => exact fun _ => loopR_steps (fun _ => ((0 : Nat) : Int)) 0 (fun k hk => by omega) (by
    simp only [log_Log_states_1.l24b]
    rw [if_neg (by omega), hj 0 (Nat.zero_le _) (h.first (by omega))]; rfl)
  | succ y ih =>
   intro hy
   by_cases hb : (nth a.l ((y + 1 : Nat) : Int)).ahead.has = true
   ·exact loopR_steps (fun _ => ((y + 1 : Nat) : Int)) 0 (fun k hk => by omega) (by
     simp only [log_Log_states_1.l24b]
     rw [if_pos (by omega), if_pos (by omega), if_pos hb, hj (y + 1) hy hb, k0S, if_pos hb]; rfl)
   ·have e : log_Log_states_1.l24b a (x : Int) (outAt es x 0) ((y + 1 : Nat) : Int) = some (.inl (y : Int)) := by
     simp only [log_Log_states_1.l24b]
     rw [if_pos (by omega), if_pos (by omega), if_neg hb, w64 (x := ((y + 1 : Nat) : Int) - 1) (by omega) (by omega), show ((y + 1 : Nat) : Int) - 1 = (y : Int) by omega]
    rw [loopR_eq, e]
    show loopR _ (y : Int) = _
    rw [ih (by omega), k0S, if_neg hb]
 exact go x (Nat.le_refl x)
noncomputable def backL (a : log_Log) (es : List api_Entry) (x : Nat) : log_Log := ⟨a.w, a.made, (nth es (x : Int)).Before, a.every, subL a.l 0 (x : Int), qAt a es x es.length⟩
theorem back_j6 {a : log_Log} {es : List api_Entry} (h : Lg a es) (hl : es.length ≤ 20000) {x : Nat} (hx : x ≤ es.length) :
  log_Log_Back.j6 a (x : Int) = some (if x = es.length then ([], a) else ((es.drop x).reverse, backL a es x)) := by
 have hn := h.len
 unfold log_Log_Back.j6
 by_cases he : x = es.length
 ·rw [if_pos (by omega), if_pos he]
 ·have hx' : x < es.length := by omega
  rw [if_neg (by omega), if_neg he, w64 (x := (a.l.length : Int) - (x : Int)) (by omega) (by omega), if_pos (by omega), show ((a.l.length : Int) - (x : Int)).toNat = es.length - x by omega]
  rw [show List.replicate (es.length - x) (⟨(⟨(⟨0, 0, 0⟩ : api_Key), 0, 0, 0, false⟩ : api_Message), (⟨(⟨0, 0, 0, 0, 0, 0, 0, 0⟩ : Arr8xInti64), 0, 0⟩ : api_State), 0, []⟩ : api_Entry) = outAt es x 0 from (outAt_low es (Nat.zero_le x)).symm]
  unfold log_Log_Back.j7 log_Log_states.f
  simp only [Option.bind_some]
  rw [back_it h hl hx', outAt_all es hx]
  have hr : ((es.drop x).reverse).length = es.length - x := by simp
  simp only [Option.bind_some, hr]
  rw [w64 (x := ((es.length - x : Nat) : Int) - 1) (by omega) (by omega), if_pos (by omega), if_pos (show 0 ≤ (x : Int) ∧ (x : Int) ≤ ((aq a es x es.length).l.length : Int) by rw [aq_l]; omega)]
  have : nth (es.drop x).reverse (((es.length - x : Nat) : Int) - 1) = nth es (x : Int) := by
   rw [show ((es.length - x : Nat) : Int) - 1 = ((es.length - x - 1 : Nat) : Int) by omega, nth_nat (by rw [hr]; omega), nth_nat hx']
   simp only [List.getElem_reverse, List.getElem_drop, List.length_drop]
   congr 1
   omega
  rw [this]
  rfl
theorem back_eq {a : log_Log} {es : List api_Entry} (h : Lg a es) (hm : a.made = true) (hl : es.length ≤ 20000) (m : api_Message) :
  log_Log_Back.f a m = some (if fB es m es.length = es.length then ([], a) else ((es.drop (fB es m es.length)).reverse, backL a es (fB es m es.length))) := by
 have hn := h.len
 unfold log_Log_Back.f log_Log_none.f
 simp only [hm, Bool.not_true, Option.bind_some, Bool.false_eq_true, if_false]
 unfold log_Log_Back.l8
 have go : ∀ y : Nat, y ≤ es.length → loopR (log_Log_Back.l8b a m) (y : Int) = log_Log_Back.j6 a (fB es m y : Int) := fun y => by
  induction y with
  | zero =>
   intro _
   rw [loopR_eq]
   simp only [log_Log_Back.l8b]
   rw [if_neg (by omega)]
   show Option.bind (Option.map Sum.inr (log_Log_Back.j6 a ((0 : Nat) : Int))) _ = _
   show _ = log_Log_Back.j6 a ((0 : Nat) : Int)
   cases log_Log_Back.j6 a ((0 : Nat) : Int) <;> rfl
  | succ y ih =>
   intro hy
   rw [loopR_eq]
   simp only [log_Log_Back.l8b]
   rw [if_pos (by omega), w64 (x := ((y + 1 : Nat) : Int) - 1) (by omega) (by omega), show ((y + 1 : Nat) : Int) - 1 = (y : Int) by omega, if_pos (by omega)]
   show Option.bind (Option.bind (event_Before.f (nth a.l (y : Int)).event m) _) _ = _
   rw [h.ev y (by omega), before_eq]
   simp only [Option.bind_some]
   unfold fB
   by_cases hb : bef (nth es (y : Int)).Event m = true
   ·rw [if_pos hb, if_pos hb]
    cases log_Log_Back.j6 a ((y + 1 : Nat) : Int) <;> rfl
   ·rw [if_neg hb, if_neg hb]
    show loopR _ (y : Int) = _
    exact ih (by omega)
 rw [show (a.l.length : Int) = (es.length : Int) by omega, go _ (Nat.le_refl _)]
 exact back_j6 h hl (fB_le es m es.length)
theorem Lg.back {a : log_Log} {es : List api_Entry} (h : Lg a es) {x : Nat} (hx : x < es.length) : Lg (backL a es x) (es.take x) := by
 have hn := h.len
 have hE : ∀ k : Nat, k < x → nth (es.take x) (k : Int) = nth es (k : Int) := fun k hk => by
  rw [nth_nat (by rw [List.length_take]; omega), nth_nat (by omega), List.getElem_take]
 have hl : (backL a es x).l.length = x := by
  show (subL a.l 0 (x : Int)).length = x
  rw [subL_len (by omega) (by omega) (by omega)]; omega
 have hL : ∀ k : Nat, k < x → nth (backL a es x).l (k : Int) = nth a.l (k : Int) := fun k hk => by
  rw [nth_nat (by rw [hl]; exact hk), nth_nat (by omega)]
  simp [backL, subL]
 have hlt : ∀ k, k < (es.take x).length → k < x := fun k hk => by rw [List.length_take] at hk; omega
 have hle : ∀ k, k < x → k < es.length := fun k hk => by omega
 refine ⟨by rw [hl, List.length_take]; omega, fun k hk => ?_, fun k hk => ?_, fun k hk => ?_, fun k hk => ?_, fun hp => ?_, fun k hk => ?_, fun k hk => ?_, fun k hk => ?_, fun k hk => ?_, fun k hk => ?_⟩
 ·rw [hL k (hlt k hk), hE k (hlt k hk)]; exact h.ev k (hle _ (hlt k hk))
 ·rw [hL k (hlt k hk), hE k (hlt k hk)]; exact h.fl k (hle _ (hlt k hk))
 ·rw [hL k (hlt k hk), hE k (hlt k hk)]; exact h.sn k (hle _ (hlt k hk))
 ·rw [hL k (hlt k hk), hE k (hlt k hk)]; exact h.ah k (hle _ (hlt k hk))
 ·have := hL 0 (hlt 0 hp)
  rw [show ((0 : Nat) : Int) = 0 from rfl] at this
  rw [this]; exact h.first (by omega)
 ·have h1 := hlt _ hk
  rw [hE k (by omega), hE (k + 1) h1]; exact h.step k (by omega)
 ·rw [List.length_take] at hk
  rw [hE k (by omega)]
  show (vmRun a.w _ _).1 = (nth es (x : Int)).Before
  rw [h.step k (by omega), show k + 1 = x by omega]
 ·rw [hE k (hlt k hk)]; exact h.regs k (hle _ (hlt k hk))
 ·rw [hE k (hlt k hk)]; exact h.val k (hle _ (hlt k hk))
 ·rw [hE k (hlt k hk)]; exact h.few k (hle _ (hlt k hk))
end
section
theorem one_eq (a b : api_Message) : event_One.f a b = some (decide (snd a = snd b)) := by
 unfold event_One.f
 by_cases h : a.Key.From = b.Key.From
 ·rw [if_pos h]; simp [snd, h]
 ·rw [if_neg h]; simp [snd, h]
theorem twin_eq (a : api_Message) : event_Twin.f a = some { a with Anti := !a.Anti } := rfl
theorem of_eq (a : api_Message) : lane_of.f a = some ⟨a.Key.From, a.Uid⟩ := rfl
theorem nodup_inj {α β : Type} (f : α → β) {l : List α} (h : (l.map f).Nodup) {i j : Nat} (hi : i < l.length) (hj : j < l.length) (e : f l[i] = f l[j]) : i = j := by
 have hp := List.pairwise_iff_getElem.1 h
 rcases Nat.lt_trichotomy i j with h1 | h1 | h1
 ·exact absurd (by rw [List.getElem_map, List.getElem_map]; exact e) (hp i j (by simpa using hi) (by simpa using hj) h1)
 ·exact h1
 ·exact absurd (by rw [List.getElem_map, List.getElem_map]; exact e.symm) (hp j i (by simpa using hj) (by simpa using hi) h1)
def posE (es : List api_Entry) (s : Int × Int) : Option Nat := (List.range es.length).find? fun k : Nat => decide (snd (nth es (k : Int)).Event = s)
theorem find_log {a : log_Log} {es : List api_Entry} (h : Lg a es) (hm : a.made = true) (hl : es.length ≤ 20000) (fr uid : Int) :
  log_Log_Find.f a fr uid = some (match posE es (fr, uid) with
   | some k => ((nth es (k : Int)).Event, true)
   | none => (zmsg, false)) := by
 have hn := h.len
 unfold log_Log_Find.f log_Log_none.f
 simp only [hm, Bool.not_true, Option.bind_some, Bool.false_eq_true, if_false]
 unfold log_Log_Find.l4 posE
 refine loopR_findS (fun k : Nat => (k : Int)) (fun k : Nat => decide (snd (nth es (k : Int)).Event = (fr, uid))) (fun k => ((nth es (k : Int)).Event, true)) (zmsg, false) es.length (fun k hk _ => ?_) (fun _ => ?_)
 ·simp only [log_Log_Find.l4b]
  rw [if_pos (by omega), if_pos (by omega), h.ev k hk, w64 (x := (k : Int) + 1) (by omega) (by omega)]
  by_cases h1 : (nth es (k : Int)).Event.Key.From = fr
  ·by_cases h2 : (nth es (k : Int)).Event.Uid = uid
   ·rw [if_pos h1, if_pos h2]
    simp [snd, h1, h2]
   ·rw [if_pos h1, if_neg h2]
    simp [snd, h2]
  ·rw [if_neg h1]
   simp [snd, h1]
 ·simp only [log_Log_Find.l4b]
  rw [if_neg (by omega)]
  rfl
theorem posE_none {es : List api_Entry} {s : Int × Int} (h : ∀ e ∈ es, snd e.Event ≠ s) : posE es s = none := by
 unfold posE
 rw [List.find?_eq_none]
 intro k hk
 have hk := List.mem_range.1 hk
 have := h _ (nth_mem (xs := es) (i := (k : Int)) (by omega) (by omega))
 simpa using this
theorem posE_some {es : List api_Entry} {s : Int × Int} (h : ∃ e ∈ es, snd e.Event = s) : ∃ k, posE es s = some k ∧ k < es.length ∧ snd (nth es (k : Int)).Event = s := by
 cases hp : posE es s with
 | none =>
  exfalso
  unfold posE at hp
  rw [List.find?_eq_none] at hp
  obtain ⟨e, he, hs⟩ := h
  obtain ⟨j, hj, ej⟩ := mem_nth he
  have := hp j (List.mem_range.2 hj)
  rw [ej] at this
  simp [hs] at this
 | some k =>
  unfold posE at hp
  have h1 := List.find?_some hp
  have h2 := List.mem_range.1 (List.mem_of_find?_eq_some hp)
  exact ⟨k, rfl, h2, by simpa using h1⟩
theorem fB_at {es : List api_Entry} (hs : (es.map (·.Event)).Pairwise (fun a b => bef a b = true)) {p : Nat} (hp : p < es.length) : ∀ k, p ≤ k → k ≤ es.length → fB es (nth es (p : Int)).Event k = p := by
 have hb : ∀ i j : Nat, i < j → j < es.length → bef (nth es (i : Int)).Event (nth es (j : Int)).Event = true := fun i j h1 h2 => by
  rw [nth_nat (by omega), nth_nat h2]
  have := List.pairwise_iff_getElem.1 hs i j (by simpa using by omega) (by simpa using h2) h1
  simpa using this
 intro k
 induction k with
 | zero =>
  intro h1 _
  obtain rfl : p = 0 := by omega
  rfl
 | succ k ih =>
  intro h1 h2
  unfold fB
  rcases Nat.lt_or_ge k p with hk | hk
  ·obtain rfl : p = k + 1 := by omega
   rw [if_pos (hb k (k + 1) (by omega) hp)]
  ·have : bef (nth es (k : Int)).Event (nth es (p : Int)).Event = false := by
    rcases Nat.eq_or_lt_of_le hk with e | e
    ·rw [e]; exact bef_irr _
    ·exact bef_asym (hb p k e (by omega))
   rw [if_neg (by rw [this]; decide)]
   exact ih hk (by omega)
theorem undo_eq (x : lane_Lane) (e : api_Entry) (h8 : e.Sent.length ≤ 8) (ha : ∀ z ∈ e.Sent, z.Anti = false) : ∃ tw, lane_now_undo.f x e = some tw ∧ tw.length = e.Sent.length ∧ ∀ t ∈ tw, t.Anti = true := by
 unfold lane_now_undo.f lane_now_undo.l2
 refine ⟨(List.range e.Sent.length).map (fun k : Nat => { nth e.Sent ((e.Sent.length : Int) - 1 - (k : Int)) with Anti := !(nth e.Sent ((e.Sent.length : Int) - 1 - (k : Int))).Anti }), ?_, by simp, fun t ht => ?_⟩
 ·refine (show loopR _ ((fun k : Nat => ((List.range k).map (fun k : Nat => ({ nth e.Sent ((e.Sent.length : Int) - 1 - (k : Int)) with Anti := !(nth e.Sent ((e.Sent.length : Int) - 1 - (k : Int))).Anti } : api_Message)), (k : Int))) 0) = _ from loopR_steps (fun k : Nat => ((List.range k).map (fun k : Nat => ({ nth e.Sent ((e.Sent.length : Int) - 1 - (k : Int)) with Anti := !(nth e.Sent ((e.Sent.length : Int) - 1 - (k : Int))).Anti } : api_Message)), (k : Int))) e.Sent.length (fun k hk => ?_) ?_)
  ·simp only [lane_now_undo.l2b]
   rw [if_pos (by omega), w64 (x := (e.Sent.length : Int) - 1) (by omega) (by omega), w64 (x := (e.Sent.length : Int) - 1 - (k : Int)) (by omega) (by omega), if_pos (by omega), twin_eq]
   simp only [Option.bind_some]
   rw [if_pos (by simp only [List.length_map, List.length_range]; omega), w64 (x := (k : Int) + 1) (by omega) (by omega), List.range_succ, List.map_append]
   rfl
  ·simp only [lane_now_undo.l2b]
   rw [if_neg (by omega)]
 ·obtain ⟨k, hk, rfl⟩ := List.mem_map.1 ht
  have hk := List.mem_range.1 hk
  show (!(nth e.Sent ((e.Sent.length : Int) - 1 - (k : Int))).Anti) = true
  rw [ha _ (nth_mem (by omega) (by omega))]; rfl
structure Bk (z0 : lane_Lane) (s : Int × Int) (E : List api_Entry) (l0 : List api_Message) (k : Nat) (z : lane_Lane) (l : List api_Message) (out : List api_Message) : Prop where
 wait : z.wait = qof l
 q : QOK l
 held : Hld z.held l
 perm : l.Perm (l0 ++ ((E.take k).map (·.Event)).filter (fun e => decide (snd e ≠ s)))
 log : z.log = z0.log
 orph : z.orphans = z0.orphans
 outL : out.length = ((E.take k).map (fun e => e.Sent.length)).sum
 anti : ∀ t ∈ out, t.Anti = true
theorem filter_le {α : Type} (p : α → Bool) (l : List α) : (l.filter p).length ≤ l.length := List.length_filter_le _ _
theorem sum8 : ∀ (l : List api_Entry), (∀ e ∈ l, e.Sent.length ≤ 8) → (l.map (fun e => e.Sent.length)).sum ≤ 8 * l.length
 | [], _ => by simp
 | e :: l, h => by
  have h1 := sum8 l fun e he => h e (List.mem_cons_of_mem _ he)
  have h2 := h e List.mem_cons_self
  simp only [List.map_cons, List.sum_cons, List.length_cons]; omega
theorem back_loop {f : api_Message} {z0 : lane_Lane} {E : List api_Entry} {l0 : List api_Message} (hE : E.length ≤ 1000) (hl0 : l0.length ≤ 1000) (h8 : ∀ e ∈ E, e.Sent.length ≤ 8) (ha : ∀ e ∈ E, ∀ t ∈ e.Sent, t.Anti = false)
  (hnd : ((l0 ++ E.map (·.Event)).map snd).Nodup) : ∀ (d k : Nat) (z : lane_Lane) (l out : List api_Message), d + k = E.length → Bk z0 (snd f) E l0 k z l out →
   ∃ z' l' out', loopR (lane_Lane_back.l4b f true E) (z, out, (k : Int)) = some (out', z') ∧ Bk z0 (snd f) E l0 E.length z' l' out'
 | 0, k, z, l, out, hd, h => by
  obtain rfl : k = E.length := by omega
  refine ⟨z, l, out, ?_, h⟩
  rw [loopR_eq]
  simp only [lane_Lane_back.l4b]
  rw [if_neg (by omega)]
  rfl
 | d + 1, k, z, l, out, hd, h => by
  have hk : k < E.length := by omega
  have he : nth E (k : Int) ∈ E := nth_mem (by omega) (by omega)
  have hT : E.take (k + 1) = E.take k ++ [nth E (k : Int)] := take_succ' E hk
  have hol : out.length ≤ 8000 := by
   rw [h.outL]
   have := sum8 (E.take k) fun e he => h8 e (List.mem_of_mem_take he)
   rw [List.length_take] at this; omega
  have hll : l.length ≤ 2000 := by
   rw [h.perm.length_eq, List.length_append]
   have := filter_le (fun e => decide (snd e ≠ snd f)) ((E.take k).map (·.Event))
   rw [List.length_map, List.length_take] at this; omega
  have hstep : ∀ (z1 : lane_Lane) (l1 : List api_Message), z1.wait = qof l1 → QOK l1 → Hld z1.held l1 → l1.Perm (l0 ++ ((E.take (k + 1)).map (·.Event)).filter (fun e => decide (snd e ≠ snd f))) → z1.log = z0.log → z1.orphans = z0.orphans →
    ∃ tw, lane_now_undo.f z1 (nth E (k : Int)) = some tw ∧ tw.length ≤ 8 ∧ Bk z0 (snd f) E l0 (k + 1) z1 l1 (out ++ tw) := fun z1 l1 w1 q1 d1 p1 g1 o1 => by
   obtain ⟨tw, e1, e2, e3⟩ := undo_eq z1 (nth E (k : Int)) (h8 _ he) (ha _ he)
   refine ⟨tw, e1, by rw [e2]; exact h8 _ he, w1, q1, d1, p1, g1, o1, ?_, fun t ht => ?_⟩
   ·rw [List.length_append, h.outL, hT, List.map_append, List.sum_append, e2]; simp
   ·rcases List.mem_append.1 ht with ht | ht
    ·exact h.anti t ht
    ·exact e3 t ht
  rw [loopR_eq]
  simp only [lane_Lane_back.l4b]
  rw [if_pos (by omega), if_pos (by omega), if_pos trivial, one_eq]
  simp only [Option.bind_some, decide_eq_true_eq]
  have hlz : lane_lazy_2.f = some false := rfl
  by_cases hs : snd (nth E (k : Int)).Event = snd f
  ·rw [if_pos hs]
   obtain ⟨tw, e1, e2, hB⟩ := hstep { z with stats := (⟨z.stats.Done, IntKind.i64.wrap (z.stats.Undone + 1), z.stats.Hits, z.stats.Held⟩ : api_Stats) } l h.wait h.q h.held (by
    rw [hT, List.map_append, List.filter_append]
    simp only [List.map_cons, List.map_nil, List.filter_cons, List.filter_nil, hs, ne_eq, not_true_eq_false, decide_false, Bool.false_eq_true, if_false, List.append_nil]
    exact h.perm) h.log h.orph
   rw [e1]
   simp only [Option.bind_some, hlz]
   rw [if_neg (by decide), if_pos (by omega), w64 (x := (k : Int) + 1) (by omega) (by omega)]
   obtain ⟨z', l', out', el, hB'⟩ := back_loop hE hl0 h8 ha hnd d (k + 1) _ _ _ (by omega) hB
   exact ⟨z', l', out', el, hB'⟩
  ·rw [if_neg hs]
   have hfr : snd (nth E (k : Int)).Event ∉ l.map snd := fun hc => by
    rw [(h.perm.map snd).mem_iff, List.map_append, List.mem_append] at hc
    rw [List.map_append, List.nodup_append] at hnd
    obtain ⟨n1, n2, n3⟩ := hnd
    have hm : snd (nth E (k : Int)).Event ∈ (E.map (·.Event)).map snd := List.mem_map.2 ⟨_, List.mem_map.2 ⟨_, he, rfl⟩, rfl⟩
    rcases hc with hc | hc
    ·exact n3 _ hc _ hm rfl
    ·obtain ⟨y, hy, ey⟩ := List.mem_map.1 hc
     obtain ⟨hy, _⟩ := List.mem_filter.1 hy
     obtain ⟨e', he', rfl⟩ := List.mem_map.1 hy
     obtain ⟨j, hj, ej⟩ := List.getElem_of_mem he'
     rw [List.length_take] at hj
     rw [List.getElem_take] at ej
     have n2' : (E.map fun e => snd e.Event).Nodup := by rw [List.map_map] at n2; exact n2
     have h3 := nodup_inj (fun e : api_Entry => snd e.Event) n2' (i := j) (j := k) (by omega) hk (by
      rw [ej, ey, nth_nat hk])
     omega
   obtain ⟨W, eh, p, q⟩ := hold_fresh (x := { z with stats := (⟨z.stats.Done, IntKind.i64.wrap (z.stats.Undone + 1), z.stats.Hits, z.stats.Held⟩ : api_Stats) }) h.wait h.q hfr (by omega)
   rw [eh]
   simp only [Option.bind_some]
   obtain ⟨tw, e1, e2, hB⟩ := hstep { z with stats := (⟨z.stats.Done, IntKind.i64.wrap (z.stats.Undone + 1), z.stats.Hits, z.stats.Held⟩ : api_Stats), wait := qof W, held := mset z.held ⟨(nth E (k : Int)).Event.Key.From, (nth E (k : Int)).Event.Uid⟩ true } W rfl q (h.held.add p) (by
    rw [hT, List.map_append, List.filter_append]
    simp only [List.map_cons, List.map_nil, List.filter_cons, List.filter_nil, hs, ne_eq, not_false_eq_true, decide_true, if_true]
    refine p.trans ((h.perm.cons _).trans ?_)
    rw [← List.append_assoc]
    exact (List.perm_append_comm (l₁ := [(nth E (k : Int)).Event]) (l₂ := _))) h.log h.orph
   rw [e1]
   simp only [Option.bind_some, hlz]
   rw [if_neg (by decide), if_pos (by omega), w64 (x := (k : Int) + 1) (by omega) (by omega)]
   obtain ⟨z', l', out', el, hB'⟩ := back_loop hE hl0 h8 ha hnd d (k + 1) _ _ _ (by omega) hB
   exact ⟨z', l', out', el, hB'⟩
theorem get_bad {x : lane_Lane} {m : api_Model} {base l : List api_Message} {es : List api_Entry} {i n : Nat} (h : Dr m base x l es i n) (hi : i ≤ 600) {y : api_Message} (hb : evB y = false) : lane_Lane_Get.f x y = some ([], 1, x) := by
 have hf := h.few
 unfold lane_Lane_Get.f lane_Lane_none.f
 rw [of_eq, find_log h.ln.lg h.ln.ok.made (by omega)]
 simp only [Option.bind_some]
 unfold lane_Lane_Get.j16
 rw [of_eq, event_check_eq, hb]
 simp only [Option.bind_some]
 unfold lane_Lane_Get.j23
 simp
theorem get_new {x : lane_Lane} {m : api_Model} {base l : List api_Message} {n : Nat} (h : Dr m base x l [] 0 n) {y : api_Message} (hb : evB y = true) (ht : y.To = 0) (ha : y.Anti = false) (hl : l.length ≤ 400) (hn : snd y ∉ l.map snd) :
  ∃ W, lane_Lane_Get.f x y = some ([], 0, { x with wait := qof W, held := mset x.held ⟨y.Key.From, y.Uid⟩ true }) ∧ W.Perm (y :: l) ∧ QOK W := by
 obtain ⟨W, eh, p, q⟩ := hold_fresh h.ln.wait h.ln.q hn (by omega)
 refine ⟨W, ?_, p, q⟩
 have hh : (mget x.held ⟨y.Key.From, y.Uid⟩).getD false = false := by
  rw [← Bool.not_eq_true, h.held.iff]; exact hn
 have hlen : pend_Pend_Len.f x.wait = some (l.length : Int) := by rw [h.ln.wait]; rfl
 have hlast : log_Log_Last.f x.log = some (zmsg, false) := by
  rw [last_eq h.ln.ok.made (by have := h.ln.ok.few; omega), if_pos (by have := h.ln.lg.len; simpa using this.symm)]
 unfold lane_Lane_Get.f lane_Lane_none.f
 rw [of_eq, find_log h.ln.lg h.ln.ok.made (by simp), posE_none (by simp)]
 simp only [Option.bind_some]
 unfold lane_Lane_Get.j16
 rw [of_eq, event_check_eq, hb]
 simp only [Option.bind_some, if_true]
 unfold lane_Lane_Get.j23 lane_Lane_Get.j28 lane_Lane_Get.j25 lane_Lane_Get.j26 lane_Lane_Get.j27
 simp only [h.nn, ht, ha, h.early, mget_nil, hh, hlen, hlast, h.ln.caps, eh, decide_true, Bool.not_true, Bool.false_eq_true, if_false, Option.isSome_none, Option.bind_some, if_true]
 rw [if_neg (by show ¬ (4096 : Int) ≤ _; omega)]
theorem get_twin {x : lane_Lane} {m : api_Model} {base l : List api_Message} {es : List api_Entry} {i n : Nat} (h : Dr m base x l es i n) (hi : i ≤ 600) {y x1 : api_Message} (hb : evB y = true) (ht : y.To = 0) (ha : y.Anti = true) (hx : x1 ∈ l) (hs : snd y = snd x1) :
  ∃ W, lane_Lane_Get.f x y = some ([], 0, { x with wait := qof W, held := mdel x.held ⟨y.Key.From, y.Uid⟩ }) ∧ (x1 :: W).Perm l ∧ QOK W := by
 have hf := h.few
 have hh : (mget x.held ⟨y.Key.From, y.Uid⟩).getD false = true := by
  rw [h.held.iff]; exact List.mem_map.2 ⟨x1, hx, hs.symm⟩
 obtain ⟨W, p, q, er⟩ := release_eq h.ln.wait h.ln.q hx
 have hk : (⟨y.Key.From, y.Uid⟩ : lane_sending) = ⟨x1.Key.From, x1.Uid⟩ := by
  simp only [snd, Prod.mk.injEq] at hs; rw [hs.1, hs.2]
 have er' : lane_Lane_release.f x y = some (true, { x with wait := qof W, held := mdel x.held ⟨y.Key.From, y.Uid⟩ }) := by
  rw [hk, ← er]
  unfold lane_Lane_release.f lane_Lane_release.j4
  simp only [snd, Prod.mk.injEq] at hs
  rw [of_eq, of_eq, hs.1, hs.2]
 refine ⟨W, ?_, p, q⟩
 unfold lane_Lane_Get.f lane_Lane_none.f
 rw [of_eq, find_log h.ln.lg h.ln.ok.made (by omega)]
 simp only [Option.bind_some]
 unfold lane_Lane_Get.j16
 rw [of_eq, event_check_eq, hb]
 simp only [Option.bind_some, if_true]
 unfold lane_Lane_Get.j23 lane_Lane_Get.j28 lane_Lane_Get.j25 lane_Lane_Get.j26
 simp only [h.nn, ht, ha, h.early, mget_nil, hh, er', decide_true, Bool.not_true, Bool.false_eq_true, if_false, Option.isSome_none, Option.bind_some, if_true]
theorem get_back {x : lane_Lane} {m : api_Model} {base l : List api_Message} {es : List api_Entry} {i n : Nat} (h : Dr m base x l es i n) (hi : i ≤ 600) (hbl : base.length ≤ 1000) {y x1 : api_Message} (hb : evB y = true) (ht : y.To = 0) (ha : y.Anti = true) (hx : x1 ∈ es.map (·.Event)) (hs : snd y = snd x1) :
  ∃ p z l' out, p < es.length ∧ (nth es (p : Int)).Event = x1 ∧ lane_Lane_Get.f x y = some (out, 0, z) ∧ Bk { x with log := backL x.log es p } (snd x1) (es.drop p).reverse l (es.length - p) z l' out := by
 have hf := h.few
 have hbn := (h.perm.map snd).nodup_iff.2 h.nd
 have hlb := h.perm.length_eq
 rw [List.length_append, List.length_map] at hlb
 have hxl : snd x1 ∉ l.map snd := fun hc => by
  rw [List.map_append, List.nodup_append] at hbn
  exact hbn.2.2 _ (List.mem_map.2 ⟨x1, hx, rfl⟩) _ hc rfl
 have hh : (mget x.held ⟨y.Key.From, y.Uid⟩).getD false = false := by
  rw [← Bool.not_eq_true, h.held.iff]
  show ¬ snd y ∈ _
  rw [hs]; exact hxl
 obtain ⟨e1, he1, rfl⟩ := List.mem_map.1 hx
 obtain ⟨p, ep, hp, hps⟩ := posE_some (es := es) (s := snd y) ⟨e1, he1, hs.symm⟩
 have hev : (nth es (p : Int)).Event = e1.Event := by
  obtain ⟨j, hj, ej⟩ := mem_nth he1
  have h2 : (es.map fun e => snd e.Event).Nodup := by rw [List.map_append, List.nodup_append, List.map_map] at hbn; exact hbn.1
  have h3 := nodup_inj (fun e : api_Entry => snd e.Event) h2 (i := p) (j := j) hp hj (by
   rw [← nth_nat hp, ← nth_nat hj, hps, ej, hs])
  rw [h3, ej]
 have hfB : fB es e1.Event es.length = p := by
  rw [← hev]; exact fB_at h.srt hp es.length (by omega) (Nat.le_refl _)
 have hbk := back_eq h.ln.lg h.ln.ok.made (by omega) e1.Event
 rw [hfB, if_neg (by omega)] at hbk
 have hEl : (es.drop p).reverse.length = es.length - p := by simp
 have hmem : ∀ e ∈ (es.drop p).reverse, e ∈ es := fun e he => List.mem_of_mem_drop (List.mem_reverse.1 he)
 have h8 : ∀ e ∈ es, e.Sent.length ≤ 8 := fun e he => by
  obtain ⟨j, hj, rfl⟩ := mem_nth he
  exact h.ln.lg.few j hj
 obtain ⟨z, l', out, el, hB⟩ := back_loop (f := e1.Event) (z0 := { x with log := backL x.log es p }) (E := (es.drop p).reverse) (l0 := l) (by rw [hEl]; omega) (by omega) (fun e he => h8 e (hmem e he)) (fun e he => h.anti e (hmem e he)) (by
   rw [List.map_append, List.nodup_append] at hbn ⊢
   refine ⟨hbn.2.1, ?_, fun a ha b hb hab => ?_⟩
   ·rw [List.map_reverse, List.map_reverse, (List.reverse_perm _).nodup_iff, List.map_drop, List.map_drop]
    exact List.Nodup.sublist (List.drop_sublist _ _) hbn.1
   ·subst hab
    obtain ⟨c, hc, rfl⟩ := List.mem_map.1 hb
    obtain ⟨e, he, rfl⟩ := List.mem_map.1 hc
    exact hbn.2.2 _ (List.mem_map.2 ⟨_, List.mem_map.2 ⟨e, hmem e he, rfl⟩, rfl⟩) _ ha rfl)
  (es.length - p) 0 { x with log := backL x.log es p } l [] (by rw [hEl]; omega) ⟨h.ln.wait, h.ln.q, h.held, by simp, rfl, rfl, by simp, by simp⟩
 refine ⟨p, z, l', out, hp, hev, ?_, by rw [← hEl]; exact hB⟩
 have hback : lane_Lane_back.f x e1.Event true = some (out, z) := by
  unfold lane_Lane_back.f lane_Lane_policy.f
  rw [if_neg (by rw [h.sett]; decide)]
  simp only [Option.bind_some]
  rw [hbk]
  simp only [Option.bind_some]
  unfold lane_Lane_back.l4
  exact el
 unfold lane_Lane_Get.f lane_Lane_none.f
 rw [of_eq, find_log h.ln.lg h.ln.ok.made (by omega), show (y.Key.From, y.Uid) = snd y from rfl, ep]
 simp only [Option.bind_some]
 unfold lane_Lane_Get.j16
 rw [of_eq, event_check_eq, hb]
 simp only [Option.bind_some, if_true]
 unfold lane_Lane_Get.j23 lane_Lane_Get.j28 lane_Lane_Get.j25 lane_Lane_Get.j26 lane_Lane_Get.j27
 simp only [h.nn, ht, ha, h.early, mget_nil, hh, hev, hback, decide_true, Bool.not_true, Bool.false_eq_true, if_false, Option.isSome_none, Option.bind_some, if_true]
theorem get_orphan {x : lane_Lane} {m : api_Model} {base l : List api_Message} {n : Nat} (h : Dr m base x l [] 0 n) {y : api_Message} (hb : evB y = true) (ht : y.To = 0) (ha : y.Anti = true) (hn : snd y ∉ l.map snd) :
  lane_Lane_Get.f x y = some ([], 0, { x with orphans := [y], early := [(⟨y.Key.From, y.Uid⟩, 0)] }) := by
 have hh : (mget x.held ⟨y.Key.From, y.Uid⟩).getD false = false := by
  rw [← Bool.not_eq_true, h.held.iff]; exact hn
 unfold lane_Lane_Get.f lane_Lane_none.f
 rw [of_eq, find_log h.ln.lg h.ln.ok.made (by simp), posE_none (by simp)]
 simp only [Option.bind_some]
 unfold lane_Lane_Get.j16
 rw [of_eq, event_check_eq, hb]
 simp only [Option.bind_some, if_true]
 unfold lane_Lane_Get.j23 lane_Lane_Get.j28 lane_Lane_Get.j25 lane_Lane_Get.j26 lane_Lane_Get.j27
 simp only [h.nn, ht, ha, h.early, h.orph, mget_nil, hh, of_eq, decide_true, Bool.not_true, Bool.false_eq_true, if_false, Option.isSome_none, Option.bind_some, if_true]
 rw [if_pos (by decide)]
 rfl
theorem get_adopt {x : lane_Lane} {m : api_Model} {base l : List api_Message} {n : Nat} (h : Dr m base x l [] 0 n) {y x1 : api_Message} (hb : evB x1 = true) (ht : x1.To = 0) (ha : x1.Anti = false) (hn : snd x1 ∉ l.map snd) (hs : snd y = snd x1) :
  ∃ er, lane_Lane_Get.f { x with orphans := [y], early := [(⟨y.Key.From, y.Uid⟩, 0)] } x1 = some ([], 0, { x with orphans := [], early := er }) := by
 have hh : (mget x.held ⟨x1.Key.From, x1.Uid⟩).getD false = false := by
  rw [← Bool.not_eq_true, h.held.iff]; exact hn
 have hk : (⟨y.Key.From, y.Uid⟩ : lane_sending) = ⟨x1.Key.From, x1.Uid⟩ := by
  simp only [snd, Prod.mk.injEq] at hs; rw [hs.1, hs.2]
 have hm : mget [((⟨y.Key.From, y.Uid⟩ : lane_sending), (0 : Int))] ⟨x1.Key.From, x1.Uid⟩ = some 0 := by
  rw [mget_cons, if_pos hk]
 have hA : lane_Lane_adopt.f { x with orphans := [y], early := [(⟨y.Key.From, y.Uid⟩, 0)] } 0 = some { x with orphans := [], early := mdel [((⟨y.Key.From, y.Uid⟩ : lane_sending), (0 : Int))] ⟨y.Key.From, y.Uid⟩ } := by
  unfold lane_Lane_adopt.f
  rw [if_pos (by show (0 : Int) ≤ 0 ∧ (0 : Int) < (1 : Int); decide), of_eq]
  simp only [Option.bind_some]
  rw [if_pos (by show (0 : Int) ≤ (1 : Int); decide), w64 (x := (0 : Int) + 1) (by decide) (by decide), if_pos (by show (0 : Int) ≤ 0 + 1 ∧ (0 : Int) + 1 ≤ (1 : Int); decide), if_pos (by show (_ : Nat) * 56 ≤ _; simp [subL])]
  unfold lane_Lane_adopt.l2
  rw [loopR_eq]
  simp only [lane_Lane_adopt.l2b]
  rw [if_neg (by simp [subL])]
  simp [subL, nth]
 refine ⟨mdel [((⟨y.Key.From, y.Uid⟩ : lane_sending), (0 : Int))] ⟨y.Key.From, y.Uid⟩, ?_⟩
 unfold lane_Lane_Get.f lane_Lane_none.f
 rw [of_eq, show log_Log_Find.f ({ x with orphans := [y], early := [(⟨y.Key.From, y.Uid⟩, 0)] } : lane_Lane).log x1.Key.From x1.Uid = _ from find_log h.ln.lg h.ln.ok.made (by simp) _ _, posE_none (by simp)]
 simp only [Option.bind_some]
 unfold lane_Lane_Get.j16
 rw [of_eq, event_check_eq, hb]
 simp only [Option.bind_some, if_true]
 unfold lane_Lane_Get.j23 lane_Lane_Get.j28 lane_Lane_Get.j25 lane_Lane_Get.j26 lane_Lane_Get.j27
 simp only [h.nn] at hA
 simp only [h.nn, ht, ha, hm, hh, hA, decide_true, Bool.not_true, Bool.false_eq_true, if_false, Option.isSome_some, Option.getD_some, Option.bind_some, if_true]
end
section
def cx (x : api_Message) : api_Message := ⟨⟨x.Key.Time, 0, x.Key.Seq⟩, 0, x.Value, x.Uid, false⟩
def cy (x : api_Message) : api_Message := ⟨⟨x.Key.Time, 0, x.Key.Seq⟩, 0, x.Value, x.Uid, true⟩
theorem ev_cy (x : api_Message) : evB (cy x) = evB (cx x) := rfl
theorem none_of {W : List api_Message} {y : api_Message} (hl : W.length ≤ 100000) (hn : ∀ z ∈ W, snd z ≠ snd y) (k : Nat) (hk : k < W.length) : event_One.f (nth W (k : Int)) y = some false := by
 rw [one_eq]
 have := hn _ (nth_mem (xs := W) (i := (k : Int)) (by omega) (by omega))
 simp [this]
theorem find_no {x : lane_Lane} {es : List api_Entry} (hg : Lg x.log es) (hm : x.log.made = true) (hl : es.length ≤ 20000) {y : api_Message} (hn : ∀ e ∈ es, snd e.Event ≠ snd y) : ∃ e, isochronlaw17vfind.f x y = some (e, false) := by
 refine ⟨zent, ?_⟩
 unfold isochronlaw17vfind.f lane_Lane_Done.f lane_Lane_none.f
 simp only [Option.bind_some, all_eq hg hm hl]
 unfold isochronlaw17vfind.l4
 refine (show loopR _ ((fun k : Nat => (k : Int)) 0) = _ from loopR_steps (fun k : Nat => (k : Int)) es.length (fun k hk => ?_) ?_)
 ·simp only [isochronlaw17vfind.l4b]
  rw [if_pos (by omega), if_pos (by omega), one_eq]
  have := hn _ (nth_mem (xs := es) (i := (k : Int)) (by omega) (by omega))
  simp only [Option.bind_some, decide_eq_true_eq]
  rw [if_neg this, w64 (by omega) (by omega)]; rfl
 ·simp only [isochronlaw17vfind.l4b]
  rw [if_neg (by omega)]; rfl
structure Fin0 (x : api_Message) (z : lane_Lane) (l : List api_Message) (es : List api_Entry) : Prop where
 wait : z.wait = qof l
 q : QOK l
 lg : Lg z.log es
 made : z.log.made = true
 few : es.length ≤ 1000
 nw : ∀ w ∈ l, snd w ≠ snd (cx x)
 ne : ∀ e ∈ es, snd e.Event ≠ snd (cx x)
theorem fin_wait {x : api_Message} {z : lane_Lane} {l : List api_Message} {es : List api_Entry} (h : Fin0 x z l es) : ∃ W, lane_Lane_Waiting.f z = some W ∧ W.Perm l := by
 obtain ⟨W, e, s, p⟩ := qAll_eq (l := l) (by have := h.q.small; omega)
 refine ⟨W, ?_, p⟩
 unfold lane_Lane_Waiting.f lane_Lane_none.f
 rw [h.wait]
 simp only [Option.bind_some, e]
theorem tail_a {x : api_Message} {z : lane_Lane} {l : List api_Message} {es : List api_Entry} (h : Fin0 x z l es) {old sent out : List api_Message} (ho : ∀ t ∈ out, t.Anti = true) (hol : out.length ≤ 100000) (h1 : out.length ≤ sent.length) (h2 : 0 < sent.length ∨ l.length ≤ old.length) :
  isochronlaw17vLaneCancels.l24 x old sent out z 0 = some true := by
 obtain ⟨W, eW, pW⟩ := fin_wait h
 have hWl := pW.length_eq
 have hsm := h.q.small
 obtain ⟨e, eF⟩ := find_no h.lg h.made (by have := h.few; omega) h.ne
 unfold isochronlaw17vLaneCancels.l24
 refine (show loopR _ ((fun k : Nat => (k : Int)) 0) = _ from loopR_steps (fun k : Nat => (k : Int)) out.length (fun k hk => ?_) ?_)
 ·simp only [isochronlaw17vLaneCancels.l24b]
  rw [if_pos (by omega), if_pos (by omega), if_pos (ho _ (nth_mem (by omega) (by omega))), w64 (by omega) (by omega)]; rfl
 ·simp only [isochronlaw17vLaneCancels.l24b]
  rw [if_neg (by omega), eW]
  simp only [Option.bind_some]
  have : isochronlaw17vLaneCancels.l26 x old sent out z W 0 = some true := by
   unfold isochronlaw17vLaneCancels.l26
   refine (show loopR _ ((fun k : Nat => (k : Int)) 0) = _ from loopR_steps (fun k : Nat => (k : Int)) W.length (fun k hk => ?_) ?_)
   ·simp only [isochronlaw17vLaneCancels.l26b]
    rw [if_pos (by omega), if_pos (by omega), show event_One.f (nth W (k : Int)) (⟨(⟨x.Key.Time, 0, x.Key.Seq⟩ : api_Key), 0, x.Value, x.Uid, false⟩ : api_Message) = _ from none_of (y := cx x) (by omega) (fun w hw => h.nw w (pW.mem_iff.1 hw)) k hk]
    simp only [Option.bind_some]
    rw [if_neg (by decide), w64 (by omega) (by omega)]; rfl
   ·simp only [isochronlaw17vLaneCancels.l26b]
    rw [if_neg (by omega), show isochronlaw17vfind.f z (⟨(⟨x.Key.Time, 0, x.Key.Seq⟩ : api_Key), 0, x.Value, x.Uid, false⟩ : api_Message) = _ from eF]
    simp only [Option.bind_some]
    rw [if_neg (by decide), if_pos (by omega)]
    by_cases h0 : (0 : Int) < (sent.length : Int)
    ·rw [if_pos h0, awake_lane]; rfl
    ·rw [if_neg h0, if_pos (by omega), awake_lane]; rfl
  rw [this]; rfl
theorem tail_b {x : api_Message} {z : lane_Lane} {l : List api_Message} {es : List api_Entry} (h : Fin0 x z l es) {old : List api_Message} (h2 : l.length ≤ old.length) :
  isochronlaw17vLaneCancels.l28 x old [] z 0 = some true := by
 obtain ⟨W, eW, pW⟩ := fin_wait h
 have hWl := pW.length_eq
 have hsm := h.q.small
 obtain ⟨e, eF⟩ := find_no h.lg h.made (by have := h.few; omega) h.ne
 unfold isochronlaw17vLaneCancels.l28
 rw [loopR_eq]
 simp only [isochronlaw17vLaneCancels.l28b]
 rw [if_neg (by simp), eW]
 simp only [Option.bind_some]
 have : isochronlaw17vLaneCancels.l30 x old [] z W 0 = some true := by
  unfold isochronlaw17vLaneCancels.l30
  refine (show loopR _ ((fun k : Nat => (k : Int)) 0) = _ from loopR_steps (fun k : Nat => (k : Int)) W.length (fun k hk => ?_) ?_)
  ·simp only [isochronlaw17vLaneCancels.l30b]
   rw [if_pos (by omega), if_pos (by omega), show event_One.f (nth W (k : Int)) (⟨(⟨x.Key.Time, 0, x.Key.Seq⟩ : api_Key), 0, x.Value, x.Uid, false⟩ : api_Message) = _ from none_of (y := cx x) (by omega) (fun w hw => h.nw w (pW.mem_iff.1 hw)) k hk]
   simp only [Option.bind_some]
   rw [if_neg (by decide), w64 (by omega) (by omega)]; rfl
  ·simp only [isochronlaw17vLaneCancels.l30b]
   rw [if_neg (by omega), show isochronlaw17vfind.f z (⟨(⟨x.Key.Time, 0, x.Key.Seq⟩ : api_Key), 0, x.Value, x.Uid, false⟩ : api_Message) = _ from eF]
   simp only [Option.bind_some]
   rw [if_neg (by decide), if_pos (by simp), if_pos (by omega), awake_lane]; rfl
 rw [this]; rfl
theorem orph_nil {z : lane_Lane} (h : z.orphans = []) : lane_Lane_Orphans.f z = some [] := by
 unfold lane_Lane_Orphans.f lane_Lane_none.f
 simp [h]
theorem dr_new {m : api_Model} (h : ok_api_Model m) (hC : chkM m = 0) {W : List api_Message} {hd : List (lane_sending × Bool)} (q : QOK W) (p : W.Perm (frst m m.Starts.length)) (hh : Hld hd W) : Dr m W (lnW (lane00 m wideC) W hd) W [] 0 0 := by
 obtain ⟨_, _, _, _, h5, h6⟩ := chkM_zero hC
 refine ⟨⟨rfl, rfl, rfl, rfl, q, rfl, Lg.nil _ _, new_ok (wld0_chk hC) 4, by exact ⟨Int.le_refl _, Int.le_refl _⟩⟩, Nat.le_refl _, Nat.le_refl _, fun z hz => ?_, q.nodup, List.Perm.refl _, List.Pairwise.nil, fun a ha => (by cases ha), rfl, fun e he => (by cases he), hh, rfl, rfl, rfl, rfl⟩
 obtain ⟨k, hk, rfl, ht⟩ := frst_mem (p.mem_iff.1 hz)
 have hb := List.any_eq_false.1 h6 k (List.mem_range.2 hk)
 rw [Bool.not_eq_true] at hb
 have hs : startOK m (nth m.Starts (k : Int)) = true := by simpa [startBad] using hb
 unfold startOK at hs
 simp only [Bool.and_eq_true] at hs
 have hmem : nth m.Starts (k : Int) ∈ m.Starts := nth_mem (by omega) (by omega)
 have hw := h.2.2.1.1 _ hmem
 refine ⟨?_, rfl, wf64 hw.2.2⟩
 unfold evB
 have ht' : (nth m.Starts (k : Int)).To = 0 := ht
 simp only [msg, Bool.and_eq_true, decide_eq_true_eq, laneW, ht']
 exact ⟨⟨⟨hs.2, by omega, by omega⟩, by omega, by omega⟩, by omega, by omega⟩
theorem dr_with {m : api_Model} {x : lane_Lane} {l W : List api_Message} {y : api_Message} (h : Dr m l x l [] 0 0) (hy : XM y) (hn : snd y ∉ l.map snd) (p : W.Perm (y :: l)) (q : QOK W) : Dr m W { x with wait := qof W, held := mset x.held ⟨y.Key.From, y.Uid⟩ true } W [] 0 0 := by
 refine ⟨⟨h.ln.mm, h.ln.caps, h.ln.ways, rfl, q, h.ln.op, h.ln.lg, h.ln.ok, h.ln.uid⟩, Nat.le_refl _, Nat.le_refl _, fun z hz => ?_, q.nodup, List.Perm.refl _, List.Pairwise.nil, fun a ha => (by cases ha), rfl, fun e he => (by cases he), h.held.add p, h.early, h.orph, h.sett, h.nn⟩
 rcases List.mem_cons.1 (p.mem_iff.1 hz) with rfl | hz
 ·exact hy
 ·exact h.st z hz
theorem twin_end {m : api_Model} {x : api_Message} {base l old out0 : List api_Message} {y : lane_Lane} {es : List api_Entry} {i : Nat} (h : Dr m base y l es i out0.length) (hi : i ≤ 500) (hb : base.length ≤ 401) (hold : base.length = old.length + 1) (hx : cx x ∈ base) (he : evB (cx x) = true) :
  ∃ out z l' es', lane_Lane_Get.f y (cy x) = some (out, 0, z) ∧ z.orphans = [] ∧ Fin0 x z l' es' ∧ (∀ t ∈ out, t.Anti = true) ∧ out.length ≤ out0.length ∧ l'.length ≤ old.length ∧ out.length ≤ 100000 := by
 have hf := h.few
 have hbn := (h.perm.map snd).nodup_iff.2 h.nd
 rw [List.map_append, List.nodup_append] at hbn
 obtain ⟨n1, n2, n3⟩ := hbn
 have hlb := h.perm.length_eq
 rw [List.length_append, List.length_map] at hlb
 rcases List.mem_append.1 (h.perm.mem_iff.2 hx) with hin | hin
 ·-- it was done
  obtain ⟨p, z, l', out, hp, hev, eG, hB⟩ := get_back h (by omega) (by omega) (y := cy x) (by rw [ev_cy]; exact he) rfl rfl hin rfl
  have hE : ((es.drop p).reverse).length = es.length - p := by simp
  have htk : ((es.drop p).reverse).take (es.length - p) = (es.drop p).reverse := by rw [← hE, List.take_length]
  have hol : out.length = ((es.drop p).map (fun e => e.Sent.length)).sum := by
   rw [hB.outL, htk, List.map_reverse, List.sum_reverse]
  have hsum : out.length ≤ out0.length := by
   rw [hol, ← h.sent]
   conv => rhs; rw [← List.take_append_drop p es, List.map_append, List.sum_append]
   omega
  have hnb := h.nb
  have hperm := hB.perm
  rw [htk] at hperm
  have hlen : l'.length ≤ l.length + (es.length - p) - 1 := by
   rw [hperm.length_eq, List.length_append]
   have hmem : cx x ∈ ((es.drop p).reverse).map (·.Event) := by
    rw [List.map_reverse, List.mem_reverse, ← hev]
    refine List.mem_map.2 ⟨nth es (p : Int), ?_, rfl⟩
    rw [nth_nat hp, List.drop_eq_getElem_cons hp]
    exact List.mem_cons_self
   have hlt : (List.filter (fun e => decide (snd e ≠ snd (cx x))) (((es.drop p).reverse).map (·.Event))).length < (((es.drop p).reverse).map (·.Event)).length := by
    refine Nat.lt_of_le_of_ne (List.length_filter_le _ _) fun hc => ?_
    have := (List.length_filter_eq_length_iff.1 hc) _ hmem
    simp at this
   rw [List.length_map, hE] at hlt
   omega
  refine ⟨out, z, l', es.take p, eG, by rw [hB.orph]; exact h.orph, ⟨hB.wait, hB.q, ?_, ?_, by rw [List.length_take]; omega, fun w hw => ?_, fun e heE => ?_⟩, hB.anti, hsum, by omega, by omega⟩
  ·rw [hB.log]; exact Lg.back h.ln.lg hp
  ·rw [hB.log]; exact h.ln.ok.made
  ·rw [hperm.mem_iff] at hw
   rcases List.mem_append.1 hw with hw | hw
   ·exact fun hc => n3 _ (List.mem_map.2 ⟨_, hin, rfl⟩) _ (List.mem_map.2 ⟨w, hw, rfl⟩) hc.symm
   ·exact by simpa using (List.mem_filter.1 hw).2
  ·obtain ⟨j, hj, rfl⟩ := List.getElem_of_mem heE
   rw [List.length_take] at hj
   rw [List.getElem_take]
   intro hc
   have n1' : (es.map fun e => snd e.Event).Nodup := by rw [List.map_map] at n1; exact n1
   have := nodup_inj (fun e : api_Entry => snd e.Event) n1' (i := j) (j := p) (by omega) hp (by rw [hc, ← hev, nth_nat hp])
   omega
 ·-- it waits
  obtain ⟨W, eG, p, q⟩ := get_twin h (by omega) (y := cy x) (by rw [ev_cy]; exact he) rfl rfl hin rfl
  have hp := p.length_eq
  rw [List.length_cons] at hp
  have hnd := (p.map snd).nodup_iff.2 n2
  rw [List.map_cons, List.nodup_cons] at hnd
  refine ⟨[], _, W, es, eG, h.orph, ⟨rfl, q, h.ln.lg, h.ln.ok.made, by omega, fun w hw hc => hnd.1 (by rw [← hc]; exact List.mem_map.2 ⟨w, hw, rfl⟩), fun e heE hc => n3 _ (List.mem_map.2 ⟨_, List.mem_map.2 ⟨e, heE, rfl⟩, rfl⟩) _ (List.mem_map.2 ⟨_, hin, rfl⟩) hc⟩, fun t ht => (by cases ht), Nat.zero_le _, by omega, by simp⟩
theorem Pure.laneCancels (x0 : api_Model) (h0 : ok_api_Model x0) (x1 : api_Message) (h1 : ok_api_Message x1) (x2 : Bool) (h2 : (fun _ => True) x2) (x3 : Bool) (h3 : (fun _ => True) x3) : isochronlaw17vLaneCancels.f x0 x1 x2 x3 = some true := by
 unfold isochronlaw17vLaneCancels.f isochronlaw17vwide.f
 simp only [Option.bind_some]
 by_cases hC : chkM x0 = 0
 ·obtain ⟨_, _, hL, _, hS, _⟩ := chkM_zero hC
  obtain ⟨W, hd, e, q, p, hh⟩ := New_eq h0 hC (c := wideC) (by decide)
  rw [show lane_New.f x0 0 (⟨1000, 4096, 4096⟩ : api_Caps) = _ from e]
  simp only [Option.bind_some, if_true]
  unfold isochronlaw17vLaneCancels.j19
  rw [if_neg (by decide)]
  by_cases hb : (400 : Int) < (x0.Starts.length : Int)
  ·rw [if_pos hb, awake_lane]; rfl
  rw [if_neg hb, twin_eq]
  simp only [Option.bind_some]
  have hWl : W.length ≤ 400 := by
   rw [p.length_eq]
   have := frst_len x0 x0.Starts.length
   omega
  have hD := dr_new h0 hC q p hh
  have hfr : snd (cx x1) ∉ W.map snd := fun hc => by
   obtain ⟨z, hz, ez⟩ := List.mem_map.1 hc
   obtain ⟨j, hj, rfl, _⟩ := frst_mem (p.mem_iff.1 hz)
   simp only [snd, msg, cx, Prod.mk.injEq] at ez; omega
  obtain ⟨Wt, eWt, sWt, pWt⟩ := waiting_eq hD.ln
  have hWt := pWt.length_eq
  have hva : -9223372036854775808 ≤ (cx x1).Value ∧ (cx x1).Value ≤ 9223372036854775807 := wf64 h1.2.2.1
  show (if x2 = true then isochronlaw17vLaneCancels.j20 x0 x1 x2 x3 (lnW (lane00 x0 wideC) W hd) (cy x1) (cx x1) else isochronlaw17vLaneCancels.j20 x0 x1 x2 x3 (lnW (lane00 x0 wideC) W hd) (cx x1) (cy x1)) = some true
  cases hE : evB (cx x1) with
  | false =>
   have fin : ∀ a b : api_Message, evB a = false → isochronlaw17vLaneCancels.j20 x0 x1 x2 x3 (lnW (lane00 x0 wideC) W hd) a b = some true := fun a b ha => by
    unfold isochronlaw17vLaneCancels.j20
    rw [eWt, get_bad hD (by omega) ha, show event_Check.f (⟨(⟨x1.Key.Time, 0, x1.Key.Seq⟩ : api_Key), 0, x1.Value, x1.Uid, false⟩ : api_Message) = _ from event_check_eq (cx x1), hE]
    simp
   split
   ·exact fin _ _ hE
   ·exact fin _ _ hE
  | true =>
   cases x2 with
   | true =>
    rw [if_pos rfl]
    unfold isochronlaw17vLaneCancels.j20
    rw [eWt, get_orphan hD (y := cy x1) hE rfl rfl hfr]
    simp only [Option.bind_some, if_true, Bool.not_true]
    have : isochronlaw17vLaneCancels.j22 x0 x1 (cx x1) Wt { (lnW (lane00 x0 wideC) W hd) with orphans := [cy x1], early := [(⟨(cy x1).Key.From, (cy x1).Uid⟩, 0)] } false = some true := by
     obtain ⟨er, eA⟩ := get_adopt hD (y := cy x1) (x1 := cx x1) hE rfl rfl hfr rfl
     unfold isochronlaw17vLaneCancels.j22
     rw [if_neg (by decide), eA]
     simp only [Option.bind_some, if_true]
     rw [orph_nil rfl]
     simp only [Option.bind_some]
     rw [if_pos (by simp)]
     exact tail_b (l := W) (es := []) ⟨rfl, q, hD.ln.lg, hD.ln.ok.made, by simp, fun w hw hc => hfr (by rw [← hc]; exact List.mem_map.2 ⟨w, hw, rfl⟩), fun e he => by cases he⟩ (by omega)
    split <;> exact this
   | false =>
    rw [if_neg (by decide)]
    obtain ⟨W1, eG, p1, q1⟩ := get_new hD hE rfl rfl (by omega) hfr
    have hD1 := dr_with hD (y := cx x1) ⟨hE, rfl, hva⟩ hfr p1 q1
    have hW1 := p1.length_eq
    rw [List.length_cons] at hW1
    have hx1 : cx x1 ∈ W1 := p1.mem_iff.2 List.mem_cons_self
    unfold isochronlaw17vLaneCancels.j20
    rw [eWt, eG]
    simp only [Option.bind_some, if_true, Bool.not_false]
    cases x3 with
    | true =>
     rw [if_pos rfl]
     unfold isochronlaw17vLaneCancels.j22
     rw [if_pos rfl, room_eq h0 hL]
     simp only [Option.bind_some]
     obtain ⟨out0, y', l', es', i', el, hi', hD2⟩ := drain_loop hL (room := List.replicate (ways x0 0).length 1000) (by simp) (fun k hk => room_at hk) 500 0 _ W1 [] [] rfl hD1
     rw [show isochronlaw17vdrain.f { (lnW (lane00 x0 wideC) W hd) with wait := qof W1, held := mset (lnW (lane00 x0 wideC) W hd).held ⟨(cx x1).Key.From, (cx x1).Uid⟩ true } (List.replicate (ways x0 0).length 1000) = some (out0, y') from el]
     simp only [Option.bind_some]
     obtain ⟨out, z, l2, es2, eT, ho, hF, hA, hl1, hl2, hl3⟩ := twin_end (x := x1) (old := Wt) hD2 hi' (by omega) (by omega) hx1 hE
     rw [eT]
     simp only [Option.bind_some, if_true]
     rw [orph_nil ho]
     simp only [Option.bind_some]
     rw [if_pos (by simp)]
     exact tail_a hF hA hl3 hl1 (.inr hl2)
    | false =>
     rw [if_neg (by decide)]
     unfold isochronlaw17vLaneCancels.j22
     rw [if_neg (by decide)]
     obtain ⟨out, z, l2, es2, eT, ho, hF, hA, hl1, hl2, hl3⟩ := twin_end (x := x1) (old := Wt) (out0 := []) hD1 (by omega) (by omega) (by omega) hx1 hE
     obtain rfl : out = [] := List.length_eq_zero_iff.1 (by simpa using hl1)
     rw [eT]
     simp only [Option.bind_some, if_true]
     rw [orph_nil ho]
     simp only [Option.bind_some]
     rw [if_pos (by simp)]
     exact tail_b hF hl2
 ·rw [New_bad h0 hC]
  simp only [Option.bind_some]
  rw [if_neg hC]
  unfold isochronlaw17vLaneCancels.j17
  rw [model_check_eq]
  simp only [Option.bind_some, if_true, awake_lane]
end
end Go.Proofs.Gx
