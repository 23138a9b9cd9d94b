/-
  The plain law ScriptBack, and what it rests on.
-/
import Derived.Test.YtbkjjaikmngciaaGreatDoorOpen
import Derived.Test.YtbkjjaikmngciaaGreatDoorWalk
import Derived.Test.YtbkjjaikmngciaaGreatDoorW5
import Derived.Test.YtbkjjaikmngciaaGreatDoorW6
import Derived.Test.YtbkjjaikmngciaaGreatDoorW7
import Derived.Test.YtbkjjaikmngciaaGreatDoorW4
import Derived.Test.YtbkjjaikmngciaaGreatDoorW9
import Derived.Test.YtbkjjaikmngciaaGreatDoorW3
import Derived.Test.YtbkjjaikmngciaaGreatDoorW2
import Derived.Test.YtbkjjaikmngciaaGreatDoorW1
import Derived.Test.YtbkjjaikmngciaaGreatDoorW12
namespace Go.Proofs.Gx
section
open Go.Sl
set_option linter.unusedVariables false
theorem loopR_findS {S R : Type} {body : S → Option (S ⊕ R)} (st : Nat → S) (p : Nat → Bool) (g : Nat → R) (e : R) (n : Nat) (h : ∀ k, k < n → (∀ j, j < k → p j = false) → body (st k) = some (if p k then .inr (g k) else .inl (st (k + 1)))) (he : (∀ j, j < n → p j = false) → body (st n) = some (.inr e)) :
    loopR body (st 0) = some (match (List.range n).find? p with | some k => g k | none => e) := by
  cases hf : (List.range n).find? p with
  | none =>
    have hn : ∀ k, k < n → p k = false := fun k hk => by
      have := List.find?_eq_none.1 hf k (List.mem_range.2 hk)
      simpa using this
    exact loopR_steps st n (fun k hk => by rw [h k hk (fun j hj => hn j (by omega)), hn k hk]; rfl) (he hn)
  | some k =>
    obtain ⟨hp, hm⟩ := List.find?_range_eq_some.1 hf
    obtain ⟨hk, hbef⟩ := hm
    have hb : ∀ j, j < k → p j = false := fun j hj => by
      have := hbef j hj
      simpa using this
    have hkn := List.mem_range.1 hk
    exact loopR_steps st k (fun j hj => by rw [h j (by omega) (fun i hi => hb i (by omega)), hb j hj]; rfl) (by rw [h k hkn hb, hp]; rfl)
theorem find_any (p : Nat → Bool) (n : Nat) {R : Type} (a b : R) : (match (List.range n).find? p with | some _ => a | none => b) = if (List.range n).any p then a else b := by
  cases hf : (List.range n).find? p with
  | none =>
    have : (List.range n).any p = false := by
      rw [List.any_eq_false]
      exact fun x hx => List.find?_eq_none.1 hf x hx
    rw [this]; rfl
  | some k =>
    have h1 := List.find?_some hf
    have h2 := List.mem_of_find?_eq_some hf
    have : (List.range n).any p = true := List.any_eq_true.2 ⟨k, h2, h1⟩
    rw [this]; rfl
theorem loopR_any {R : Type} {body : Int → Option (Int ⊕ R)} (p : Nat → Bool) (a e : R) (n : Nat) (h : ∀ k, k < n → body (k : Int) = some (if p k then .inr a else .inl ((k + 1 : Nat) : Int))) (he : body (n : Int) = some (.inr e)) :
    loopR body 0 = some (if (List.range n).any p then a else e) := (loopR_find p (fun _ => a) e n h he).trans (congrArg some (find_any p n a e))
theorem nth_nat {α : Type} [Inhabited α] {xs : List α} {k : Nat} (h : k < xs.length) : nth xs (k : Int) = xs[k] := by
  simp [nth, List.getD_eq_getElem?_getD, h]
theorem nth_mem {α : Type} [Inhabited α] {xs : List α} {i : Int} (h0 : 0 ≤ i) (h1 : i < xs.length) : nth xs i ∈ xs := by
  obtain ⟨h, e⟩ := nth_eq h0 h1
  rw [e]; exact List.getElem_mem h
end
section
open Go.Sl
set_option linter.unusedVariables false
set_option linter.unusedSimpArgs false
def sgn (a b : Int) : Int := if a < b then -1 else if b < a then 1 else 0
def cmpK (a b : api_Key) : Int := if sgn a.Time b.Time ≠ 0 then sgn a.Time b.Time else if sgn a.From b.From ≠ 0 then sgn a.From b.From else sgn a.Seq b.Seq
def bef (a b : api_Message) : Bool := decide (cmpK a.Key b.Key < 0 ∨ cmpK a.Key b.Key = 0 ∧ a.Uid < b.Uid)
theorem cmp64 (a b : Int) : cmp_Compare_int64.f a b = some (sgn a b) := by
  unfold cmp_Compare_int64.f cmp_isNaN_int64.f sgn
  simp only [decide_true, Bool.not_true, Option.bind_some, Bool.false_eq_true, if_false]
  split
  · rfl
  · split <;> rfl
theorem cmpI (a b : Int) : cmp_Compare_int.f a b = some (sgn a b) := by
  unfold cmp_Compare_int.f cmp_isNaN_int.f sgn
  simp only [decide_true, Bool.not_true, Option.bind_some, Bool.false_eq_true, if_false]
  split
  · rfl
  · split <;> rfl
theorem or_first (l : List Int) (k : Nat) (hk : k < l.length) (hl : l.length < 1000) (h0 : ∀ j, j < k → nth l (j : Int) = 0) (h : nth l (k : Int) ≠ 0) : cmp_Or_int.f l = some (nth l (k : Int)) := by
  unfold cmp_Or_int.f cmp_Or_int.l2
  refine loopR_steps (fun k => ((k : Nat) : Int)) k (fun j hj => ?_) ?_
  · simp only [cmp_Or_int.l2b]
    rw [if_pos (by omega), if_pos (by omega), if_pos (h0 j hj), w64 (by omega) (by omega)]
    rfl
  · simp only [cmp_Or_int.l2b]
    rw [if_pos (by omega), if_pos (by omega), if_neg h]
theorem or_none (l : List Int) (hl : l.length < 1000) (h0 : ∀ j, j < l.length → nth l (j : Int) = 0) : cmp_Or_int.f l = some 0 := by
  unfold cmp_Or_int.f cmp_Or_int.l2
  refine loopR_steps (fun k => ((k : Nat) : Int)) l.length (fun j hj => ?_) ?_
  · simp only [cmp_Or_int.l2b]
    rw [if_pos (by omega), if_pos (by omega), if_pos (h0 j hj), w64 (by omega) (by omega)]
    rfl
  · simp only [cmp_Or_int.l2b]
    rw [if_neg (by omega)]
theorem or3 (a b c : Int) : cmp_Or_int.f ([a, b, c] : List Int) = some (if a ≠ 0 then a else if b ≠ 0 then b else c) := by
  by_cases ha : a = 0
  · by_cases hb : b = 0
    · by_cases hc : c = 0
      · subst ha; subst hb; subst hc
        exact or_none _ (by decide) (fun j hj => by
          have : j = 0 ∨ j = 1 ∨ j = 2 := by simp at hj; omega
          rcases this with rfl | rfl | rfl <;> rfl)
      · rw [if_neg (by simpa using ha), if_neg (by simpa using hb)]
        exact or_first [a, b, c] 2 (by simp) (by simp) (fun j hj => by
          have : j = 0 ∨ j = 1 := by omega
          rcases this with rfl | rfl
          · exact ha
          · exact hb) hc
    · rw [if_neg (by simpa using ha), if_pos hb]
      exact or_first [a, b, c] 1 (by simp) (by simp) (fun j hj => by
          obtain rfl : j = 0 := by omega
          exact ha) hb
  · rw [if_pos ha]
    exact or_first [a, b, c] 0 (by simp) (by simp) (fun j hj => by omega) ha
theorem or2 (a b : Int) : cmp_Or_int.f ([a, b] : List Int) = some (if a ≠ 0 then a else b) := by
  by_cases ha : a = 0
  · rw [if_neg (by simpa using ha)]
    by_cases hb : b = 0
    · subst ha; subst hb
      exact or_none _ (by decide) (fun j hj => by
          have : j = 0 ∨ j = 1 := by simp at hj; omega
          rcases this with rfl | rfl <;> rfl)
    · exact or_first [a, b] 1 (by simp) (by simp) (fun j hj => by
          obtain rfl : j = 0 := by omega
          exact ha) hb
  · rw [if_pos ha]
    exact or_first [a, b] 0 (by simp) (by simp) (fun j hj => by omega) ha
theorem sgn_self (a : Int) : sgn a a = 0 := by unfold sgn; rw [if_neg (by omega), if_neg (by omega)]
theorem cmpK_self (a : api_Key) : cmpK a a = 0 := by simp [cmpK, sgn_self]
theorem compare_eq (a b : api_Key) : event_Compare.f a b = some (cmpK a b) := by
  unfold event_Compare.f
  by_cases h : a = b
  · subst h; rw [if_pos rfl, cmpK_self]
  · rw [if_neg h, cmp64]
    simp only [Option.bind_some, cmpI, or3]
    rfl
theorem before_eq (a b : api_Message) : event_Before.f a b = some (bef a b) := by
  unfold event_Before.f event_order.f
  simp only [compare_eq, cmpI, Option.bind_some, or2, bef]
  congr 1
  rw [decide_eq_decide]
  by_cases h : cmpK a.Key b.Key = 0
  · rw [if_neg (by simpa using h), h]
    unfold sgn
    constructor
    · intro h1
      refine .inr ⟨rfl, ?_⟩
      split at h1
      · assumption
      · split at h1 <;> omega
    · rintro (h1 | ⟨_, h1⟩)
      · omega
      · rw [if_pos h1]; omega
  · rw [if_pos h]
    constructor
    · exact .inl
    · rintro (h1 | ⟨h1, _⟩)
      · exact h1
      · exact absurd h1 h
theorem inr_bind {S R : Type} {f : S → Option R} (o : Option R) : (Option.map (Sum.inr : R → S ⊕ R) o).bind (Sum.elim f some) = o := by cases o <;> rfl
end
section
open Go.Sl
set_option linter.unusedVariables false
set_option linter.unusedSimpArgs false
theorem bef_iff {a b : api_Message} : bef a b = true ↔ a.Key.Time < b.Key.Time ∨ a.Key.Time = b.Key.Time ∧ (a.Key.From < b.Key.From ∨ a.Key.From = b.Key.From ∧ (a.Key.Seq < b.Key.Seq ∨ a.Key.Seq = b.Key.Seq ∧ a.Uid < b.Uid)) := by
  have hs : ∀ x y : Int, (sgn x y = -1 ∧ x < y) ∨ (sgn x y = 1 ∧ y < x) ∨ (sgn x y = 0 ∧ x = y) := fun x y => by
    unfold sgn
    by_cases h1 : x < y
    · rw [if_pos h1]; exact .inl ⟨rfl, h1⟩
    · by_cases h2 : y < x
      · rw [if_neg h1, if_pos h2]; exact .inr (.inl ⟨rfl, h2⟩)
      · rw [if_neg h1, if_neg h2]; exact .inr (.inr ⟨rfl, by omega⟩)
  simp only [bef, decide_eq_true_eq]
  unfold cmpK
  rcases hs a.Key.Time b.Key.Time with ⟨e, h⟩ | ⟨e, h⟩ | ⟨e, h⟩
  · rw [e, if_pos (by decide)]
    exact ⟨fun _ => .inl h, fun _ => .inl (by decide)⟩
  · rw [e, if_pos (by decide)]
    constructor
    · rintro (h1 | ⟨h1, _⟩)
      · exact absurd h1 (by decide)
      · exact absurd h1 (by decide)
    · rintro (h1 | ⟨h1, _⟩) <;> omega
  · rw [e, if_neg (by decide)]
    rcases hs a.Key.From b.Key.From with ⟨e2, h2⟩ | ⟨e2, h2⟩ | ⟨e2, h2⟩
    · rw [e2, if_pos (by decide)]
      exact ⟨fun _ => .inr ⟨h, .inl h2⟩, fun _ => .inl (by decide)⟩
    · rw [e2, if_pos (by decide)]
      constructor
      · rintro (h1 | ⟨h1, _⟩)
        · exact absurd h1 (by decide)
        · exact absurd h1 (by decide)
      · rintro (h1 | ⟨_, h1 | ⟨h1, _⟩⟩) <;> omega
    · rw [e2, if_neg (by decide)]
      rcases hs a.Key.Seq b.Key.Seq with ⟨e3, h3⟩ | ⟨e3, h3⟩ | ⟨e3, h3⟩
      · rw [e3]
        exact ⟨fun _ => .inr ⟨h, .inr ⟨h2, .inl h3⟩⟩, fun _ => .inl (by decide)⟩
      · rw [e3]
        constructor
        · rintro (h1 | ⟨h1, _⟩)
          · exact absurd h1 (by decide)
          · exact absurd h1 (by decide)
        · rintro (h1 | ⟨_, h1 | ⟨_, h1 | ⟨h1, _⟩⟩⟩) <;> omega
      · rw [e3]
        constructor
        · rintro (h1 | ⟨_, h1⟩)
          · exact absurd h1 (by decide)
          · exact .inr ⟨h, .inr ⟨h2, .inr ⟨h3, h1⟩⟩⟩
        · rintro (h1 | ⟨_, h1 | ⟨_, h1 | ⟨_, h1⟩⟩⟩)
          · omega
          · omega
          · omega
          · exact .inr ⟨rfl, h1⟩
abbrev leM (a b : api_Message) : Prop := bef b a = false
theorem leM_iff {a b : api_Message} : leM a b ↔ ¬ (b.Key.Time < a.Key.Time ∨ b.Key.Time = a.Key.Time ∧ (b.Key.From < a.Key.From ∨ b.Key.From = a.Key.From ∧ (b.Key.Seq < a.Key.Seq ∨ b.Key.Seq = a.Key.Seq ∧ b.Uid < a.Uid))) := by
  show bef b a = false ↔ _
  rw [← bef_iff, Bool.not_eq_true]
theorem leM_trans {a b c : api_Message} (h1 : leM a b) (h2 : leM b c) : leM a c := by
  rw [leM_iff] at *; omega
theorem leM_of_bef {a b : api_Message} (h : bef a b = true) : leM a b := by
  rw [leM_iff]; rw [bef_iff] at h; omega
theorem leM_of_not {a b : api_Message} (h : ¬ bef a b = true) : leM b a := by simpa using h
def SrtM (l : List api_Message) : Prop := l.Pairwise leM
section
variable {α : Type} [Inhabited α]
def swp (l : List α) (i j : Int) : List α := setL (setL l i (nth l j)) j (nth l i)
end
end
section
open Go.Sl
set_option linter.unusedVariables false
set_option linter.unusedSimpArgs false
def par (i : Nat) : Nat := (i - 1) / 2
def HpF (f : Nat → api_Message) (n : Nat) : Prop := ∀ j, 0 < j → j < n → leM (f (par j)) (f j)
def Up2 (f : Nat → api_Message) (n i : Nat) : Prop := ∀ j, 0 < j → j < n → par j = i → 0 < i → leM (f (par i)) (f j)
def UpF (f : Nat → api_Message) (n i : Nat) : Prop := (∀ j, 0 < j → j < n → j ≠ i → leM (f (par j)) (f j)) ∧ Up2 f n i
def sw (f : Nat → api_Message) (i j k : Nat) : api_Message := if k = j then f i else if k = i then f j else f k
theorem sw_j {f : Nat → api_Message} {i j : Nat} : sw f i j j = f i := by simp [sw]
theorem sw_i {f : Nat → api_Message} {i j : Nat} : sw f i j i = f j := by unfold sw; split <;> simp_all
theorem sw_o {f : Nat → api_Message} {i j k : Nat} (h1 : k ≠ i) (h2 : k ≠ j) : sw f i j k = f k := by simp [sw, h1, h2]
theorem par_lt {j : Nat} (h : 0 < j) : par j < j := by unfold par; omega
theorem up_done {f : Nat → api_Message} {n i : Nat} (h : UpF f n i) (hd : i = 0 ∨ leM (f (par i)) (f i)) : HpF f n := fun j h0 h1 => by
  by_cases e : j = i
  · subst e
    rcases hd with hd | hd
    · omega
    · exact hd
  · exact h.1 j h0 h1 e
theorem up_step {f : Nat → api_Message} {n i : Nat} (h : UpF f n i) (hi : 0 < i) (hn : i < n) (hb : leM (f i) (f (par i))) : UpF (sw f i (par i)) n (par i) := by
  have hp := par_lt hi
  refine ⟨fun j h0 h1 hj => ?_, fun j h0 h1 e hp0 => ?_⟩
  · have hjp := par_lt h0
    by_cases e1 : j = i
    · subst e1; rw [sw_j, sw_i]; exact hb
    by_cases e2 : par j = i
    · rw [e2, sw_i, sw_o e1 hj]; exact h.2 j h0 h1 e2 hi
    by_cases e3 : par j = par i
    · rw [e3, sw_j, sw_o e1 hj]; exact leM_trans hb (by rw [← e3]; exact h.1 j h0 h1 e1)
    · rw [sw_o e2 e3, sw_o e1 hj]; exact h.1 j h0 h1 e1
  · have hpp := par_lt hp0
    rw [sw_o (by omega) (by omega)]
    have h3 := h.1 (par i) hp0 (by omega) (by omega)
    by_cases e1 : j = i
    · subst e1; rw [sw_i]; exact h3
    · have := par_lt h0
      rw [sw_o e1 (by omega)]
      exact leM_trans h3 (by rw [← e]; exact h.1 j h0 h1 e1)
section
variable {l : List api_Message}
def at_ (l : List api_Message) (k : Nat) : api_Message := nth l (k : Int)
theorem at_set {i k : Nat} {x : api_Message} (hi : i < l.length) : at_ (setL l (i : Int) x) k = if k = i then x else at_ l k := by
  unfold at_ nth setL
  simp only [Int.toNat_natCast, List.getD_eq_getElem?_getD, List.getElem?_set]
  by_cases e : i = k
  · subst e; simp [hi]
  · rw [if_neg e, if_neg (by omega)]
theorem at_swp {i j : Nat} (hi : i < l.length) (hj : j < l.length) : at_ (swp l (i : Int) (j : Int)) = sw (at_ l) i j := by
  funext k
  unfold swp sw
  rw [at_set (by rw [setL_len]; exact hj), at_set hi]; rfl
theorem swp_len {i j : Int} : (swp l i j).length = l.length := by unfold swp; rw [setL_len, setL_len]
theorem swp_perm {i j : Nat} (hi : i < l.length) (hj : j < l.length) : (swp l (i : Int) (j : Int)).Perm l := by
  unfold swp setL
  rw [nth_nat hi, nth_nat hj]
  simp only [Int.toNat_natCast]
  exact List.set_set_perm hi hj
end
end
section
open Go.Sl
set_option linter.unusedVariables false
set_option linter.unusedSimpArgs false
theorem up_step_eq {l : List api_Message} {i : Nat} (hi : i < l.length) (hl : l.length ≤ 1099511627776) :
    heap_pile_api_Message_up.l2b (l, (i : Int)) = some (if 0 < i ∧ bef (at_ l i) (at_ l (par i)) = true then .inl (swp l (i : Int) (par i : Int), (par i : Int)) else .inr l) := by
  simp only [heap_pile_api_Message_up.l2b]
  by_cases h0 : 0 < i
  · have hp := par_lt h0
    have e : IntKind.i64.wrap (Int.tdiv (IntKind.i64.wrap ((i : Int) - 1)) 2) = (par i : Int) := by
      rw [w64 (x := (i : Int) - 1) (by omega) (by omega), tdiv_pos' (by omega) 2, w64 (by omega) (by omega)]
      unfold par; omega
    rw [if_pos (by omega), if_pos (by omega), e, if_pos (by omega), before_eq]
    simp only [Option.bind_some]
    by_cases hb : bef (at_ l i) (at_ l (par i)) = true
    · have hb' : bef (nth l (i : Int)) (nth l (par i : Int)) = true := hb
      rw [if_pos hb', if_pos (by rw [setL_len]; omega), if_pos ⟨h0, hb⟩]; rfl
    · have hb' : ¬ bef (nth l (i : Int)) (nth l (par i : Int)) = true := hb
      rw [if_neg hb', if_neg (fun h => hb h.2)]
  · rw [if_neg (by omega), if_neg (fun h => h0 h.1)]
theorem up_loop : ∀ (k i : Nat) (l : List api_Message), i ≤ k → i < l.length → l.length ≤ 1099511627776 → UpF (at_ l) l.length i →
    ∃ W, loopR heap_pile_api_Message_up.l2b (l, (i : Int)) = some W ∧ W.Perm l ∧ HpF (at_ W) l.length
  | k, i, l, hk, hi, hl, h => by
    rw [loopR_eq, up_step_eq hi hl]
    by_cases hc : 0 < i ∧ bef (at_ l i) (at_ l (par i)) = true
    · rw [if_pos hc]
      have hp := par_lt hc.1
      have hs := up_step h hc.1 hi (leM_of_bef hc.2)
      rw [← at_swp hi (by omega)] at hs
      cases k with
      | zero => omega
      | succ k =>
        obtain ⟨W, e, p, q⟩ := up_loop k (par i) (swp l (i : Int) (par i : Int)) (by omega) (by rw [swp_len]; omega) (by rw [swp_len]; exact hl) (by rw [swp_len]; exact hs)
        exact ⟨W, e, p.trans (swp_perm hi (by omega)), by rw [swp_len] at q; exact q⟩
    · rw [if_neg hc]
      refine ⟨l, rfl, List.Perm.refl _, up_done h ?_⟩
      by_cases h0 : i = 0
      · exact .inl h0
      · exact .inr (leM_of_not fun hb => hc ⟨by omega, hb⟩)
end
section
open Go.Sl
set_option linter.unusedVariables false
set_option linter.unusedSimpArgs false
theorem at_app_l {l r : List api_Message} {k : Nat} (h : k < l.length) : at_ (l ++ r) k = at_ l k := by
  unfold at_
  rw [nth_nat (by rw [List.length_append]; omega), nth_nat h, List.getElem_append_left h]
theorem at_mem {l : List api_Message} {k : Nat} (h : k < l.length) : at_ l k ∈ l := by
  unfold at_; rw [nth_nat h]; exact List.getElem_mem h
theorem mem_at {l : List api_Message} {x : api_Message} (h : x ∈ l) : ∃ k, k < l.length ∧ at_ l k = x := by
  obtain ⟨k, hk, e⟩ := List.getElem_of_mem h
  exact ⟨k, hk, by unfold at_; rw [nth_nat hk]; exact e⟩
def HpL (l : List api_Message) : Prop := HpF (at_ l) l.length
theorem HpL.nil : HpL [] := fun j _ h => by simp at h
theorem push_eq {l : List api_Message} {m : api_Message} (hl : l.length ≤ 1000000) (h : HpL l) : ∃ W, heap_pile_api_Message_push.f l m = some W ∧ W.Perm (m :: l) ∧ HpL W := by
  unfold heap_pile_api_Message_push.f
  have hlen : (l ++ [m]).length = l.length + 1 := by simp
  rw [if_pos (by omega), hlen, w64 (by omega) (by omega), show ((l.length + 1 : Nat) : Int) - 1 = (l.length : Int) by omega]
  obtain ⟨W, e, p, q⟩ := up_loop l.length l.length (l ++ [m]) (Nat.le_refl _) (by omega) (by omega) (by
    rw [hlen]
    refine ⟨fun j h0 h1 hj => ?_, fun j h0 h1 ej _ => ?_⟩
    · have := par_lt h0
      rw [at_app_l (by omega), at_app_l (by omega)]; exact h j h0 (by omega)
    · have := par_lt h0; omega)
  unfold heap_pile_api_Message_up.f heap_pile_api_Message_up.l2
  rw [e]
  refine ⟨W, rfl, p.trans (List.perm_append_comm (l₁ := l) (l₂ := [m])), ?_⟩
  have : W.length = (l ++ [m]).length := p.length_eq
  unfold HpL; rw [this]; exact q
theorem find_eq (q : heap_Heap) (fr uid : Int) (hl : q.p_l.length ≤ 1000000) : ∃ v, heap_Heap_find.f q fr uid = some v ∧
    ((v = -1 ∧ ∀ x ∈ q.p_l, ¬ (x.Key.From = fr ∧ x.Uid = uid)) ∨ ∃ k, k < q.p_l.length ∧ v = (k : Int) ∧ (at_ q.p_l k).Key.From = fr ∧ (at_ q.p_l k).Uid = uid) := by
  unfold heap_Heap_find.f heap_pile_api_Message_each.f
  simp only [Option.bind_some]
  have e : heap_pile_api_Message_each_1.f fr uid 0 q.p_l = some (match (List.range q.p_l.length).find? (fun k => decide ((at_ q.p_l k).Key.From = fr ∧ (at_ q.p_l k).Uid = uid)) with | some k => (Sum.inl (k : Int) : Int ⊕ Unit) | none => .inr ()) := by
    unfold heap_pile_api_Message_each_1.f heap_pile_api_Message_each_1.l2
    refine loopR_find (fun k => decide ((at_ q.p_l k).Key.From = fr ∧ (at_ q.p_l k).Uid = uid)) (fun k => (Sum.inl (k : Int) : Int ⊕ Unit)) (Sum.inr ()) q.p_l.length (fun k hk => ?_) ?_
    · simp only [heap_pile_api_Message_each_1.l2b]
      rw [if_pos (by omega), if_pos (by omega), w64 (by omega) (by omega)]
      unfold heap_Heap_find_round0.f
      by_cases h1 : (nth q.p_l (k : Int)).Key.From = fr
      · by_cases h2 : (nth q.p_l (k : Int)).Uid = uid
        · simp [at_, h1, h2]
        · simp [at_, h1, h2]
      · simp [at_, h1]
    · simp only [heap_pile_api_Message_each_1.l2b]
      rw [if_neg (by omega)]
  rw [e]
  cases hf : (List.range q.p_l.length).find? (fun k => decide ((at_ q.p_l k).Key.From = fr ∧ (at_ q.p_l k).Uid = uid)) with
  | none =>
    refine ⟨-1, rfl, .inl ⟨rfl, fun x hx hc => ?_⟩⟩
    obtain ⟨k, hk, ek⟩ := mem_at hx
    have := List.find?_eq_none.1 hf k (List.mem_range.2 hk)
    rw [ek] at this
    simp [hc] at this
  | some k =>
    have h1 := List.find?_some hf
    have h2 := List.mem_range.1 (List.mem_of_find?_eq_some hf)
    have h3 := of_decide_eq_true h1
    exact ⟨k, rfl, .inr ⟨k, h2, rfl, h3⟩⟩
end
section
open Go.Sl
set_option linter.unusedVariables false
set_option linter.unusedSimpArgs false
inductive Blks (s : Nat) : List api_Message → Prop
  | last {l : List api_Message} : l.length ≤ s → SrtM l → Blks s l
  | cons {x l : List api_Message} : x.length = s → SrtM x → Blks s l → Blks s (x ++ l)
theorem Blks.split {s : Nat} {l : List api_Message} (h : Blks s l) (hl : s < l.length) : ∃ x r, l = x ++ r ∧ x.length = s ∧ SrtM x ∧ Blks s r := by
  cases h with
  | last h1 _ => omega
  | @cons x l h1 h2 h3 => exact ⟨x, l, rfl, h1, h2, h3⟩
end
section
open Go.Sl
set_option linter.unusedVariables false
set_option linter.unusedSimpArgs false
def snd (m : api_Message) : Int × Int := (m.Key.From, m.Uid)
structure QOK (l : List api_Message) : Prop where
  heap : HpL l
  nodup : (l.map snd).Nodup
  small : l.length ≤ 16384
theorem QOK.nil : QOK [] := ⟨HpL.nil, List.nodup_nil, Nat.zero_le _⟩
def qof (l : List api_Message) : pend_Pend := ⟨⟨l⟩⟩
theorem qPush_eq {l : List api_Message} {m : api_Message} (h : QOK l) :
    (snd m ∈ l.map snd ∧ pend_Pend_Push.f (qof l) m = some (8, qof l)) ∨ (snd m ∉ l.map snd ∧ l.length = 16384 ∧ pend_Pend_Push.f (qof l) m = some (9, qof l)) ∨
    (snd m ∉ l.map snd ∧ l.length < 16384 ∧ ∃ W, pend_Pend_Push.f (qof l) m = some (0, qof W) ∧ W.Perm (m :: l) ∧ QOK W) := by
  have hs := h.small
  obtain ⟨v, e, hv⟩ := find_eq ⟨l⟩ m.Key.From m.Uid (by show l.length ≤ _; omega)
  have hm : snd m ∈ l.map snd ↔ 0 ≤ v := by
    rcases hv with ⟨ev, hv⟩ | ⟨k, hk, ev, h1, h2⟩
    · refine ⟨fun hc => ?_, fun hc => by omega⟩
      obtain ⟨x, hx, ex⟩ := List.mem_map.1 hc
      refine absurd ?_ (hv x hx)
      simp only [snd, Prod.mk.injEq] at ex; exact ex
    · refine ⟨fun _ => by omega, fun _ => List.mem_map.2 ⟨_, at_mem hk, ?_⟩⟩
      simp only [snd, Prod.mk.injEq]; exact ⟨h1, h2⟩
  unfold pend_Pend_Push.f pend_Pend_none.f heap_Heap_Push.f heap_Heap_none.f
  simp only [Option.bind_some]
  show _ ∧ Option.bind (Option.bind (heap_Heap_find.f ⟨l⟩ _ _) _) _ = _ ∨ _ ∧ _ ∧ Option.bind (Option.bind (heap_Heap_find.f ⟨l⟩ _ _) _) _ = _ ∨ _ ∧ _ ∧ ∃ W, Option.bind (Option.bind (heap_Heap_find.f ⟨l⟩ _ _) _) _ = _ ∧ _
  rw [e]
  simp only [Option.bind_some]
  by_cases h0 : 0 ≤ v
  · exact .inl ⟨hm.2 h0, by rw [if_pos h0]; rfl⟩
  rw [if_neg h0]
  by_cases hf : 16384 ≤ l.length
  · refine .inr (.inl ⟨fun hc => h0 (hm.1 hc), by omega, ?_⟩)
    rw [if_pos (show (16384 : Int) ≤ ((qof l).q.p_l.length : Int) by show (16384 : Int) ≤ (l.length : Int); omega)]; rfl
  · refine .inr (.inr ⟨fun hc => h0 (hm.1 hc), by omega, ?_⟩)
    rw [if_neg (show ¬ (16384 : Int) ≤ ((qof l).q.p_l.length : Int) by show ¬ (16384 : Int) ≤ (l.length : Int); omega)]
    obtain ⟨W, eW, p, q⟩ := push_eq (l := l) (m := m) (by omega) h.heap
    refine ⟨W, ?_, p, q, ?_, by rw [p.length_eq]; simp only [List.length_cons]; omega⟩
    · show Option.bind (Option.bind (heap_pile_api_Message_push.f l m) _) _ = _
      rw [eW]; rfl
    · rw [(p.map snd).nodup_iff, List.map_cons, List.nodup_cons]
      exact ⟨fun hc => h0 (hm.1 hc), h.nodup⟩
theorem qFirst_nil : pend_Pend_First.f (qof []) = some ((⟨(⟨0, 0, 0⟩ : api_Key), 0, 0, 0, false⟩ : api_Message), 6) := rfl
end
section
open Go.Sl
set_option linter.unusedVariables false
def shapeOf (op : Int) : ByteArray := nth ([lit_2d2d2d, lit_726e2d, lit_72722d, lit_rrr, lit_rrr, lit_rrr, lit_rrr, lit_rrr, lit_rrr, lit_rrr, lit_702d2d, lit_72702d, lit_rrr, lit_72722d, lit_722d2d, lit_722d2d, lit_722d2d] : List ByteArray) op
theorem ops17 {p : Int → Prop} (op : Int) (h0 : 0 ≤ op) (h1 : op < 17) (h : ∀ k : Fin 17, p (k.val : Int)) : p op := by
  have := h ⟨op.toNat, by omega⟩
  have e : ((op.toNat : Nat) : Int) = op := Int.toNat_of_nonneg h0
  exact e ▸ this
theorem op_facts (op : Int) (h0 : 0 ≤ op) (h1 : op < 17) : (shapeOf op).size = 3 ∧ True ∧ True ∧ True ∧ True :=
  ops17 (p := fun op => (shapeOf op).size = 3 ∧ True ∧ True ∧ True ∧ True) op h0 h1 (by decide)
def rightB (n kind many : Int) : Bool := if kind = 110 then decide (-2147483648 ≤ n ∧ n ≤ 2147483647) else if kind = 112 then decide (0 ≤ n ∧ n ≤ many) else if kind = 114 then decide (0 ≤ n ∧ n ≤ 15) else decide (0 ≤ n ∧ n ≤ 0)
theorem code_right_eq (n kind many : Int) : code_right.f n kind many = some (rightB n kind many) := by
  unfold code_right.f rightB code_right.j2
  split
  · split <;> simp_all <;> omega
  · split
    · split <;> simp_all <;> omega
    · split
      · split <;> simp_all <;> omega
      · split <;> simp_all <;> omega
def mayB (i : api_Instr) (n : Int) : Bool := if 0 ≤ i.Op ∧ i.Op < 17 then rightB i.A (bt (shapeOf i.Op) 0) n && (rightB i.B (bt (shapeOf i.Op) 1) n && rightB i.C (bt (shapeOf i.Op) 2) n) else false
theorem code_may_eq (i : api_Instr) (n : Int) : code_may.f i n = some (mayB i n) := by
  unfold code_may.f mayB
  by_cases h0 : i.Op < 0
  · rw [if_pos h0, if_neg (by omega)]
  · by_cases h1 : 17 ≤ i.Op
    · rw [if_neg h0, if_pos h1, if_neg (by omega)]
    · obtain ⟨f1, -, -, -, -⟩ := op_facts i.Op (by omega) (by omega)
      have hsh : nth ([lit_2d2d2d, lit_726e2d, lit_72722d, lit_rrr, lit_rrr, lit_rrr, lit_rrr, lit_rrr, lit_rrr, lit_rrr, lit_702d2d, lit_72702d, lit_rrr, lit_72722d, lit_722d2d, lit_722d2d, lit_722d2d] : List ByteArray) i.Op = shapeOf i.Op := rfl
      rw [if_neg h0, if_neg h1]
      simp only [code_shapes.f, Option.bind_some, hsh, code_right_eq]
      have hp : 0 ≤ i.Op ∧ i.Op < 17 := by omega
      rw [if_pos hp, if_pos hp, if_pos (by omega)]
      by_cases a1 : rightB i.A (bt (shapeOf i.Op) 0) n = true
      · rw [if_pos a1, if_pos (by omega)]
        by_cases a2 : rightB i.B (bt (shapeOf i.Op) 1) n = true
        · rw [if_pos a2, if_pos (by omega)]
          simp [a1, a2]
        · rw [if_neg a2]
          simp [a2]
      · rw [if_neg a1]
        simp [a1]
def chk (l : List api_Instr) : Int := if 256 < (l.length : Int) then 2 else match (List.range l.length).find? (fun k : Nat => !mayB (nth l (k : Int)) (l.length : Int)) with | some _ => 130 | none => 0
theorem code_check_eq (l : List api_Instr) : code_Check.f l = some (chk l) := by
  unfold code_Check.f code_check.f chk
  by_cases h : 256 < (l.length : Int)
  · rw [if_pos h, if_pos h]; rfl
  · rw [if_neg h, if_neg h]
    unfold code_check.l2
    rw [loopR_find (fun k : Nat => !mayB (nth l (k : Int)) (l.length : Int)) (fun k => .inr (.inl ((k : Int), 130))) (.inr (.inr ())) l.length (fun k hk => by
      simp only [code_check.l2b, code_may_eq, Option.bind_some]
      rw [if_pos (by omega), if_pos (by omega), w64 (by omega) (by omega)]
      by_cases hm : mayB (nth l (k : Int)) (l.length : Int) = true
      · rw [if_pos hm]; simp [hm]
      · rw [if_neg hm]; simp [hm]) (by simp only [code_check.l2b]; rw [if_neg (by omega)])]
    cases (List.range l.length).find? (fun k : Nat => !mayB (nth l (k : Int)) (l.length : Int)) with
    | none => rfl
    | some k => rfl
end
section
open Go.Sl
set_option linter.unusedVariables false
set_option linter.unusedSimpArgs false
def timeB (n : Int) : Bool := decide (0 ≤ n ∧ n ≤ 4611686018427387903)
theorem valid_eq (n : Int) : vtime_Valid.f n = some (timeB n) := by
  unfold vtime_Valid.f timeB
  by_cases h : 0 ≤ n <;> simp [h]
def laneB (m : api_Model) (n : Int) : Bool := decide (0 ≤ n ∧ n < (m.Progs.length : Int))
theorem lane_eq (m : api_Model) (n : Int) : model_lane.f m n = some (laneB m n) := by
  unfold model_lane.f laneB
  by_cases h : 0 ≤ n <;> simp [h]
def sizesB (m : api_Model) : Bool := decide (1 ≤ m.Progs.length ∧ m.Progs.length ≤ 16) && timeB m.End && decide (0 ≤ m.Budget ∧ m.Budget ≤ 4096)
theorem sizes_eq (m : api_Model) : model_sizes.f m = some (if sizesB m then .inr () else .inl 1) := by
  unfold model_sizes.f sizesB
  rw [valid_eq]
  by_cases h1 : (m.Progs.length : Int) < 1
  · rw [if_pos h1]; simp [show ¬ (1 ≤ m.Progs.length) by omega]
  rw [if_neg h1]
  by_cases h2 : 16 < (m.Progs.length : Int)
  · rw [if_pos h2]; simp [show ¬ (m.Progs.length ≤ 16) by omega]
  rw [if_neg h2]
  simp only [Option.bind_some]
  cases h3 : timeB m.End with
  | false => simp
  | true =>
    rw [if_pos rfl]
    have h12 : (1 ≤ m.Progs.length ∧ m.Progs.length ≤ 16) := by omega
    by_cases h4 : m.Budget < 0
    · rw [if_pos h4]; simp [show ¬ (0 ≤ m.Budget) by omega]
    rw [if_neg h4]
    by_cases h5 : 4096 < m.Budget
    · rw [if_pos h5]; simp [show ¬ (m.Budget ≤ 4096) by omega]
    rw [if_neg h5]
    simp [h12, show 0 ≤ m.Budget by omega, show m.Budget ≤ 4096 by omega]
def progBad (m : api_Model) (k : Nat) : Bool := !decide (chk (nth m.Progs (k : Int)) = 0)
theorem join_eq (a : model_flaw) (e : Int) : errors_Join.f a e = some (a, e) := by
  unfold errors_Join.f
  rfl
theorem programs_eq (m : api_Model) (hp : m.Progs.length ≤ 16) : model_programs.f m = some (match (List.range m.Progs.length).find? (progBad m) with | some k => .inl (⟨(k : Int), 130⟩, chk (nth m.Progs (k : Int))) | none => .inr ()) := by
  unfold model_programs.f model_programs.l2
  refine (loopR_findS (fun k => ((k : Nat) : Int)) (progBad m) (fun k => .inl (⟨(k : Int), 130⟩, chk (nth m.Progs (k : Int)))) (.inr ()) m.Progs.length (fun k hk _ => ?_) (fun _ => ?_)).trans (by cases (List.range m.Progs.length).find? (progBad m) <;> rfl)
  · simp only [model_programs.l2b, code_check_eq, Option.bind_some, join_eq]
    rw [if_pos (by omega), if_pos (by omega), w64 (by omega) (by omega)]
    unfold progBad
    by_cases h : chk (nth m.Progs (k : Int)) = 0 <;> simp [h]
  · simp only [model_programs.l2b]
    rw [if_neg (by omega)]
def linkOK (m : api_Model) (l : api_Link) : Bool := laneB m l.From && laneB m l.To && decide (1 ≤ l.Look ∧ l.Look ≤ 4611686018427387903)
def same2 (a b : api_Link) : Bool := decide (a.From = b.From ∧ a.To = b.To)
def linkBad (m : api_Model) (k : Nat) : Bool := !linkOK m (nth m.Links (k : Int)) || (List.range k).any (fun j => same2 (nth m.Links (j : Int)) (nth m.Links (k : Int)))
def adr (l : api_Link) : Nat := l.From.toNat * 16 + l.To.toNat * 1
def seen (m : api_Model) : Nat → Nat → Bool
  | 0 => fun _ => false
  | k + 1 => upd (seen m k) (adr (nth m.Links (k : Int))) true
theorem seen_eq (m : api_Model) (a : Nat) : ∀ k, seen m k a = (List.range k).any (fun j => decide (adr (nth m.Links (j : Int)) = a))
  | 0 => rfl
  | k + 1 => by
    rw [List.range_succ, List.any_append, ← seen_eq m a k]
    show upd (seen m k) (adr (nth m.Links (k : Int))) true a = _
    unfold upd
    by_cases h : a = adr (nth m.Links (k : Int))
    · rw [if_pos h]; simp [h]
    · rw [if_neg h]; simp [Ne.symm h]
theorem linkOK_of {m : api_Model} {l : api_Link} (h : linkOK m l = true) : (0 ≤ l.From ∧ l.From < (m.Progs.length : Int)) ∧ (0 ≤ l.To ∧ l.To < (m.Progs.length : Int)) ∧ 1 ≤ l.Look ∧ l.Look ≤ 4611686018427387903 := by
  simpa [linkOK, laneB, and_assoc] using h
theorem links_eq (m : api_Model) (hp : m.Progs.length ≤ 16) : model_links.f m = some (if 1024 < (m.Links.length : Int) then .inl 131 else match (List.range m.Links.length).find? (linkBad m) with | some k => .inr (.inl ⟨(k : Int), 131⟩) | none => .inr (.inr ())) := by
  unfold model_links.f
  by_cases h : 1024 < (m.Links.length : Int)
  · rw [if_pos h, if_pos h]
  rw [if_neg h, if_neg h]
  unfold model_links.l2
  refine (loopR_findS (fun k => (seen m k, ((k : Nat) : Int))) (linkBad m) (fun k => .inr (.inl ⟨(k : Int), 131⟩)) (.inr (.inr ())) m.Links.length (fun k hk hb => ?_) (fun _ => ?_)).trans (by cases (List.range m.Links.length).find? (linkBad m) <;> rfl)
  · simp only [model_links.l2b, lane_eq, Option.bind_some]
    rw [if_pos (by omega), if_pos (by omega)]
    generalize hl : nth m.Links (k : Int) = l
    have hbad : linkBad m k = (!linkOK m l || (List.range k).any (fun j => same2 (nth m.Links (j : Int)) l)) := by rw [← hl]; rfl
    rw [hbad]
    by_cases h1 : laneB m l.From = true
    · rw [if_pos h1]
      by_cases h2 : laneB m l.To = true
      · rw [if_pos h2]
        by_cases h3 : l.Look < 1
        · rw [if_pos h3]; simp [linkOK, show ¬ (1 ≤ l.Look) by omega]
        rw [if_neg h3]
        by_cases h4 : 4611686018427387903 < l.Look
        · rw [if_pos h4]; simp [linkOK, show ¬ (l.Look ≤ 4611686018427387903) by omega]
        rw [if_neg h4]
        have hok : linkOK m l = true := by simp [linkOK, h1, h2, show 1 ≤ l.Look by omega, show l.Look ≤ 4611686018427387903 by omega]
        obtain ⟨⟨f0, f1⟩, ⟨t0, t1⟩, _⟩ := linkOK_of hok
        rw [if_pos (by omega), if_pos (by omega)]
        have hseen : seen m k (l.From.toNat * 16 + l.To.toNat * 1) = (List.range k).any (fun j => same2 (nth m.Links (j : Int)) l) := by
          rw [seen_eq]
          apply Bool.eq_iff_iff.2
          simp only [List.any_eq_true, List.mem_range, decide_eq_true_eq, same2]
          refine exists_congr fun j => and_congr_right fun hj => ?_
          have hjb := hb j hj
          have hjo : linkOK m (nth m.Links (j : Int)) = true := by
            unfold linkBad at hjb
            simp only [Bool.or_eq_false_iff, Bool.not_eq_false'] at hjb
            exact hjb.1
          obtain ⟨⟨g0, g1⟩, ⟨u0, u1⟩, _⟩ := linkOK_of hjo
          unfold adr
          constructor
          · intro e; constructor <;> omega
          · rintro ⟨e1, e2⟩; rw [e1, e2]
        rw [hseen, hok]
        by_cases h5 : (List.range k).any (fun j => same2 (nth m.Links (j : Int)) l) = true
        · rw [if_pos h5, h5]; rfl
        · rw [if_neg h5]
          simp only [Bool.not_eq_true] at h5
          rw [h5, w64 (by omega) (by omega)]
          show some (Sum.inl (upd (seen m k) _ true, (k : Int) + 1)) = some (Sum.inl (upd (seen m k) (adr (nth m.Links (k : Int))) true, _))
          rw [hl]; rfl
      · rw [if_neg h2]; simp [linkOK, h2]
    · rw [if_neg h1]; simp [linkOK, h1]
  · simp only [model_links.l2b]
    rw [if_neg (by omega)]
def startOK (m : api_Model) (s : api_Start) : Bool := laneB m s.To && timeB s.Time
def startBad (m : api_Model) (k : Nat) : Bool := !startOK m (nth m.Starts (k : Int))
theorem starts_eq (m : api_Model) : model_starts.f m = some (if 4096 < (m.Starts.length : Int) then .inl 132 else match (List.range m.Starts.length).find? (startBad m) with | some k => .inr (.inl ⟨(k : Int), 132⟩) | none => .inr (.inr ())) := by
  unfold model_starts.f
  by_cases h : 4096 < (m.Starts.length : Int)
  · rw [if_pos h, if_pos h]
  rw [if_neg h, if_neg h]
  unfold model_starts.l2
  refine (loopR_findS (fun k => ((k : Nat) : Int)) (startBad m) (fun k => .inr (.inl ⟨(k : Int), 132⟩)) (.inr (.inr ())) m.Starts.length (fun k hk hb => ?_) (fun _ => ?_)).trans (by cases (List.range m.Starts.length).find? (startBad m) <;> rfl)
  · simp only [model_starts.l2b, lane_eq, valid_eq, Option.bind_some]
    rw [if_pos (by omega), if_pos (by omega), w64 (by omega) (by omega)]
    unfold startBad startOK
    cases laneB m (nth m.Starts (k : Int)).To <;> cases timeB (nth m.Starts (k : Int)).Time <;> rfl
  · simp only [model_starts.l2b]
    rw [if_neg (by omega)]
def chkM (m : api_Model) : Int :=
  if sizesB m then if (List.range m.Progs.length).any (progBad m) then 130 else if 1024 < (m.Links.length : Int) then 131 else if (List.range m.Links.length).any (linkBad m) then 131
    else if 4096 < (m.Starts.length : Int) then 132 else if (List.range m.Starts.length).any (startBad m) then 132 else 0
  else 1
theorem model_check_eq (m : api_Model) : model_Check.f m = some (chkM m) := by
  unfold model_Check.f chkM
  simp only [model_rules.f, sizes_eq, Option.bind_some]
  cases hs : sizesB m with
  | false => rfl
  | true =>
    have hp : m.Progs.length ≤ 16 := by
      simp only [sizesB, Bool.and_eq_true, decide_eq_true_eq] at hs
      exact hs.1.1.2
    simp only [if_pos, programs_eq m hp, Option.bind_some]
    rw [← find_any (progBad m) m.Progs.length (130 : Int)]
    cases (List.range m.Progs.length).find? (progBad m) with
    | some k => rfl
    | none =>
      simp only [links_eq m hp, Option.bind_some]
      by_cases h : 1024 < (m.Links.length : Int)
      · rw [if_pos h, if_pos h]; rfl
      rw [if_neg h, if_neg h, ← find_any (linkBad m) m.Links.length (131 : Int)]
      cases (List.range m.Links.length).find? (linkBad m) with
      | some k => rfl
      | none =>
        simp only [starts_eq m, Option.bind_some]
        by_cases h : 4096 < (m.Starts.length : Int)
        · rw [if_pos h, if_pos h]; rfl
        rw [if_neg h, if_neg h, ← find_any (startBad m) m.Starts.length (132 : Int)]
        cases (List.range m.Starts.length).find? (startBad m) <;> rfl
end
section
open Go.Sl
set_option linter.unusedVariables false
set_option linter.unusedSimpArgs false
def idxs (p : Nat → Bool) (n : Nat) : List Int := ((List.range n).filter p).map (fun k : Nat => (k : Int))
theorem idxs_succ (p : Nat → Bool) (k : Nat) : idxs p (k + 1) = if p k then idxs p k ++ [(k : Int)] else idxs p k := by
  unfold idxs
  rw [List.range_succ, List.filter_append, List.map_append]
  cases h : p k <;> simp [h]
theorem idxs_len (p : Nat → Bool) (n : Nat) : (idxs p n).length ≤ n := by
  unfold idxs
  rw [List.length_map]
  exact Nat.le_trans (List.length_filter_le _ _) (by simp)
theorem idxs_get (p : Nat → Bool) (n i : Nat) (h : i < (idxs p n).length) : ∃ k : Nat, nth (idxs p n) (i : Int) = (k : Int) ∧ k < n ∧ p k = true := by
  rw [nth_nat h]
  have hm := List.getElem_mem h
  obtain ⟨k, hk, e⟩ := List.mem_map.1 hm
  obtain ⟨h1, h2⟩ := List.mem_filter.1 hk
  exact ⟨k, e.symm, List.mem_range.1 h1, h2⟩
theorem loop_idxs {R : Type} {body : List Int × Int → Option ((List Int × Int) ⊕ R)} (p : Nat → Bool) (n : Nat) {r : R} (h : ∀ k, k < n → ∀ l : List Int, l.length ≤ k → body (l, (k : Int)) = some (.inl (if p k then l ++ [(k : Int)] else l, ((k + 1 : Nat) : Int)))) (he : body (idxs p n, (n : Int)) = some (.inr r)) : loopR body ([], 0) = some r :=
  loopR_steps (fun k => (idxs p k, (k : Int))) n (fun k hk => by rw [h k hk _ (idxs_len p k), ← idxs_succ]) he
theorem loop_map {α R : Type} {body : List α × Int → Option ((List α × Int) ⊕ R)} (g : Nat → α) (n : Nat) {r : R} (h : ∀ k, k < n → ∀ l : List α, l.length = k → body (l, (k : Int)) = some (.inl (l ++ [g k], ((k + 1 : Nat) : Int)))) (he : body ((List.range n).map g, (n : Int)) = some (.inr r)) : loopR body ([], 0) = some r :=
  loopR_steps (fun k => ((List.range k).map g, (k : Int))) n (fun k hk => by rw [h k hk _ (by simp), List.range_succ, List.map_append]; rfl) he
def fromB (m : api_Model) (n : Int) (k : Nat) : Bool := decide ((nth m.Links (k : Int)).From = n)
def toB (m : api_Model) (n : Int) (k : Nat) : Bool := decide ((nth m.Links (k : Int)).To = n)
def ways (m : api_Model) (n : Int) : List Int := idxs (fromB m n) m.Links.length
def into (m : api_Model) (n : Int) : List Int := idxs (toB m n) m.Links.length
theorem links_bound {m : api_Model} (h : ok_api_Model m) : m.Links.length * 32 ≤ 140737488351232 := by
  have := h.2.1.2
  simpa [reachBytes] using this
theorem ways_eq {m : api_Model} (h : ok_api_Model m) (n : Int) : model_Ways.f m n = some (ways m n) := by
  have hb := links_bound h
  unfold model_Ways.f model_places.f model_places.l7
  rw [loop_idxs (r := ways m n) (fromB m n) m.Links.length (fun k hk l hl => by
    simp only [model_places.l7b, model_Ways_1.f, model_places.j8, Option.bind_some]
    rw [if_pos (by omega), if_pos (by omega), w64 (by omega) (by omega)]
    unfold fromB
    by_cases e : (nth m.Links (k : Int)).From = n
    · rw [if_pos (by simp [e]), if_pos (by omega), if_pos (by simp [e])]; rfl
    · rw [if_neg (by simp [e]), if_neg (by simp [e])]; rfl) (by simp only [model_places.l7b]; rw [if_neg (by omega)]; rfl)]
  rfl
theorem into_eq {m : api_Model} (h : ok_api_Model m) (n : Int) : model_Into.f m n = some (into m n) := by
  have hb := links_bound h
  unfold model_Into.f model_places_2.f model_places_2.l7
  rw [loop_idxs (r := into m n) (toB m n) m.Links.length (fun k hk l hl => by
    simp only [model_places_2.l7b, model_Into_1.f, model_places_2.j8, Option.bind_some]
    rw [if_pos (by omega), if_pos (by omega), w64 (by omega) (by omega)]
    unfold toB
    by_cases e : (nth m.Links (k : Int)).To = n
    · rw [if_pos (by simp [e]), if_pos (by omega), if_pos (by simp [e])]; rfl
    · rw [if_neg (by simp [e]), if_neg (by simp [e])]; rfl) (by simp only [model_places_2.l7b]; rw [if_neg (by omega)]; rfl)]
  rfl
def wlinks (m : api_Model) (n : Int) : List api_Link := (List.range (ways m n).length).map fun k : Nat => nth m.Links (nth (ways m n) (k : Int))
def wldP (m : api_Model) (n : Int) : api_World × Int :=
  if chkM m = 0 then if laneB m n then (⟨nth m.Progs n, n, wlinks m n, m.Seed⟩, 0) else (⟨[], 0, [], 0⟩, 1) else (⟨[], 0, [], 0⟩, chkM m)
theorem world_eq {m : api_Model} (h : ok_api_Model m) (n : Int) : model_World.f m n = some (wldP m n) := by
  have hb := links_bound h
  unfold model_World.f wldP
  rw [model_check_eq]
  simp only [Option.bind_some, lane_eq]
  by_cases hc : chkM m = 0
  · rw [if_pos hc, if_pos hc]
    by_cases hl : laneB m n = true
    · rw [if_pos hl, if_pos hl]
      have hr : 0 ≤ n ∧ n < (m.Progs.length : Int) := by simpa [laneB] using hl
      have hq : (nth m.Progs n).length * 32 ≤ 140737488351232 := by
        have := (h.1.1 _ (nth_mem hr.1 hr.2)).2
        simpa [reachBytes] using this
      rw [if_pos hr, if_pos (by simp only [List.length_nil]; omega)]
      unfold model_World.j4
      rw [ways_eq h]
      simp only [Option.bind_some, List.nil_append]
      unfold model_World.l6
      have hw : (ways m n).length ≤ m.Links.length := idxs_len _ _
      refine loop_map (fun k : Nat => nth m.Links (nth (ways m n) (k : Int))) (ways m n).length (fun k hk l hl => ?_) ?_
      · obtain ⟨j, e1, e2, _⟩ := idxs_get (fromB m n) m.Links.length k hk
        simp only [model_World.l6b]
        rw [if_pos (by omega), if_pos (by omega), if_pos (by rw [show nth (ways m n) (k : Int) = (j : Int) from e1]; omega), if_pos (by omega), w64 (by omega) (by omega)]
        rfl
      · simp only [model_World.l6b]
        rw [if_neg (by omega)]
        rfl
    · rw [if_neg hl, if_neg hl]
  · rw [if_neg hc, if_neg hc]
theorem chkM_zero {m : api_Model} (h : chkM m = 0) : sizesB m = true ∧ (List.range m.Progs.length).any (progBad m) = false ∧ m.Links.length ≤ 1024 ∧ (List.range m.Links.length).any (linkBad m) = false ∧ m.Starts.length ≤ 4096 ∧ (List.range m.Starts.length).any (startBad m) = false := by
  unfold chkM at h
  split at h
  · rename_i h1
    split at h
    · cases h
    · rename_i h2
      split at h
      · cases h
      · rename_i h3
        split at h
        · cases h
        · rename_i h4
          split at h
          · cases h
          · rename_i h5
            split at h
            · cases h
            · rename_i h6
              refine ⟨h1, ?_, ?_, ?_, ?_, ?_⟩ <;> first | omega | simp_all
  · cases h
end
section
open Go.Sl
set_option linter.unusedVariables false
def msg (m : api_Model) (k : Nat) : api_Message := ⟨⟨(nth m.Starts (k : Int)).Time, -1, (k : Int)⟩, (nth m.Starts (k : Int)).To, (nth m.Starts (k : Int)).Value, (k : Int), false⟩
theorem starts_list {m : api_Model} (l : m.Starts.length ≤ 1048576) : model_Starts.f m = some ((List.range m.Starts.length).map (msg m)) := by
  unfold model_Starts.f model_Starts.l2
  refine loop_map (msg m) m.Starts.length (fun k hk l hl => ?_) ?_
  · simp only [model_Starts.l2b]
    rw [if_pos (by omega), if_pos (by omega), if_pos (by omega), w64 (by omega) (by omega)]
    rfl
  · simp only [model_Starts.l2b]
    rw [if_neg (by omega)]
end
section
open Go.Sl
set_option linter.unusedVariables false
set_option linter.unusedSimpArgs false
def laneW (n : Int) : Bool := decide (0 ≤ n ∧ n < 16)
theorem vm_lane_eq (n : Int) : vm_lane.f n = some (laneW n) := by
  unfold vm_lane.f laneW
  by_cases h : 0 ≤ n <;> simp [h]
def linkBadW (w : api_World) (k : Nat) : Bool := !(laneW (nth w.Links (k : Int)).To && decide (1 ≤ (nth w.Links (k : Int)).Look ∧ (nth w.Links (k : Int)).Look ≤ 4611686018427387903))
def chkW (w : api_World) : Int :=
  if chk w.Prog = 0 then if laneW w.Self then if 1024 < (w.Links.length : Int) then 1 else if (List.range w.Links.length).any (linkBadW w) then 1 else 0 else 1 else chk w.Prog
theorem vm_check_eq (w : api_World) : vm_Check.f w = some (chkW w) := by
  unfold vm_Check.f chkW
  simp only [code_check_eq, vm_lane_eq, Option.bind_some]
  by_cases h : chk w.Prog = 0
  · rw [if_pos h, if_pos h]
    cases laneW w.Self with
    | false => rfl
    | true =>
      rw [if_pos rfl, if_pos rfl]
      by_cases h2 : 1024 < (w.Links.length : Int)
      · rw [if_pos h2, if_pos h2]
      rw [if_neg h2, if_neg h2]
      unfold vm_Check.l2
      rw [loopR_any (linkBadW w) (1 : Int) 0 w.Links.length (fun k hk => by
        simp only [vm_Check.l2b, vm_lane_eq, valid_eq, Option.bind_some]
        rw [if_pos (by omega), if_pos (by omega), w64 (by omega) (by omega)]
        unfold linkBadW
        cases laneW (nth w.Links (k : Int)).To with
        | false => rfl
        | true =>
          rw [if_pos rfl]
          by_cases h3 : (nth w.Links (k : Int)).Look < 1
          · rw [if_pos h3]; simp [show ¬ (1 ≤ (nth w.Links (k : Int)).Look) by omega]
          rw [if_neg h3]
          unfold timeB
          by_cases h4 : (nth w.Links (k : Int)).Look ≤ 4611686018427387903
          · rw [decide_eq_true (show 0 ≤ (nth w.Links (k : Int)).Look ∧ (nth w.Links (k : Int)).Look ≤ 4611686018427387903 by omega), decide_eq_true (show 1 ≤ (nth w.Links (k : Int)).Look ∧ (nth w.Links (k : Int)).Look ≤ 4611686018427387903 by omega)]; rfl
          · rw [decide_eq_false (show ¬ (0 ≤ (nth w.Links (k : Int)).Look ∧ (nth w.Links (k : Int)).Look ≤ 4611686018427387903) by omega), decide_eq_false (show ¬ (1 ≤ (nth w.Links (k : Int)).Look ∧ (nth w.Links (k : Int)).Look ≤ 4611686018427387903) by omega)]; rfl)
        (by simp only [vm_Check.l2b]; rw [if_neg (by omega)])]
  · rw [if_neg h, if_neg h]
def evB (m : api_Message) : Bool := timeB m.Key.Time && decide (-1 ≤ m.Key.From ∧ m.Key.From < 16) && laneW m.To && decide (0 ≤ m.Key.Seq ∧ 0 ≤ m.Uid)
structure Fine (w : api_World) (m : api_Message) : Prop where
  may : ∀ k : Nat, k < w.Prog.length → mayB (nth w.Prog (k : Int)) (w.Prog.length : Int) = true
  many : (w.Prog.length : Int) ≤ 256
  links : (w.Links.length : Int) ≤ 1024
  look : ∀ k : Nat, k < w.Links.length → 1 ≤ (nth w.Links (k : Int)).Look
  self : 0 ≤ w.Self ∧ w.Self < 16
  time : 0 ≤ m.Key.Time ∧ m.Key.Time ≤ 4611686018427387903
  value : -9223372036854775808 ≤ m.Value ∧ m.Value ≤ 9223372036854775807
def zst : api_State := ⟨⟨0, 0, 0, 0, 0, 0, 0, 0⟩, 0, 0⟩
theorem chk_zero {l : List api_Instr} (h : chk l = 0) : (l.length : Int) ≤ 256 ∧ ∀ k : Nat, k < l.length → mayB (nth l (k : Int)) (l.length : Int) = true := by
  unfold chk at h
  split at h
  · cases h
  · rename_i h1
    refine ⟨by omega, fun k hk => ?_⟩
    cases hf : (List.range l.length).find? (fun k : Nat => !mayB (nth l (k : Int)) (l.length : Int)) with
    | some j => rw [hf] at h; cases h
    | none =>
      have := List.find?_eq_none.1 hf k (List.mem_range.2 hk)
      simpa using this
theorem fine_of {w : api_World} {m : api_Message} (hw : chkW w = 0) (hm : evB m = true) (hv : -9223372036854775808 ≤ m.Value ∧ m.Value ≤ 9223372036854775807) : Fine w m := by
  unfold chkW at hw
  split at hw
  · rename_i h1
    split at hw
    · rename_i h2
      split at hw
      · cases hw
      · rename_i h3
        split at hw
        · cases hw
        · rename_i h4
          obtain ⟨p1, p2⟩ := chk_zero h1
          simp only [evB, Bool.and_eq_true] at hm
          refine ⟨p2, p1, by omega, fun k hk => ?_, by simpa [laneW] using h2, by simpa [timeB] using hm.1.1.1, hv⟩
          simp only [Bool.not_eq_true] at h4
          have := List.any_eq_false.1 h4 k (List.mem_range.2 hk)
          simp only [linkBadW, Bool.not_eq_true, Bool.not_eq_false', Bool.and_eq_true, decide_eq_true_eq] at this
          exact this.2.1
    · cases hw
  · rename_i h1
    exact absurd hw h1
end
section
open Go.Sl
set_option linter.unusedVariables false
set_option linter.unusedSimpArgs false
def zmsg : api_Message := ⟨⟨0, 0, 0⟩, 0, 0, 0, false⟩
theorem new_eq (w : api_World) (e : Int) (he : 1 ≤ e ∧ e ≤ 1024) : log_New.f w zst e = some (if chkW w = 0 then .inr (⟨w, true, zst, e, [], false⟩, 0) else .inl (chkW w)) := by
  unfold log_New.f
  rw [vm_check_eq]
  simp only [Option.bind_some]
  by_cases h : chkW w = 0
  · have hF := fine_of (m := zmsg) h (by decide) (by decide)
    have h1 := hF.many
    have h2 := hF.links
    rw [if_pos h, if_pos h, if_neg (by decide), if_neg (by decide), if_neg (by omega), if_neg (by omega), if_pos (by simp only [List.length_nil]; omega), if_pos (by simp only [List.length_nil]; omega), List.nil_append, List.nil_append]
  · rw [if_neg h, if_neg h]
end
section
open Go.Sl
set_option linter.unusedVariables false
set_option linter.unusedSimpArgs false
def wldN (m : api_Model) (n : Int) : api_World := ⟨nth m.Progs n, n, wlinks m n, m.Seed⟩
theorem sizes_progs {m : api_Model} (hC : chkM m = 0) : 1 ≤ m.Progs.length ∧ m.Progs.length ≤ 16 := by
  have h1 := (chkM_zero hC).1
  unfold sizesB at h1
  simp only [Bool.and_eq_true, decide_eq_true_eq] at h1; exact h1.1.1
theorem wldN_eq {m : api_Model} (hC : chkM m = 0) {n : Int} (h0 : 0 ≤ n) (h1 : n < (m.Progs.length : Int)) : wldP m n = (wldN m n, 0) := by
  have hb : laneB m n = true := by
    simp only [laneB, decide_eq_true_eq]; omega
  unfold wldP
  rw [if_pos hC, if_pos hb]; rfl
theorem wldN_chk {m : api_Model} (hC : chkM m = 0) {n : Int} (h0 : 0 ≤ n) (h1 : n < (m.Progs.length : Int)) : chkW (wldN m n) = 0 := by
  obtain ⟨_, h2, h3, h4, _⟩ := chkM_zero hC
  have hp := sizes_progs hC
  have hpb := List.any_eq_false.1 h2 n.toNat (List.mem_range.2 (by omega))
  have en : ((n.toNat : Nat) : Int) = n := by omega
  have hpc : chk (nth m.Progs n) = 0 := by
    unfold progBad at hpb
    rw [en] at hpb
    simpa using hpb
  have hl : (wlinks m n).length ≤ 1024 := by
    unfold wlinks
    rw [List.length_map, List.length_range]
    exact Nat.le_trans (idxs_len _ _) h3
  unfold chkW
  rw [show (wldN m n).Prog = nth m.Progs n from rfl, if_pos hpc, show (wldN m n).Self = n from rfl, if_pos (by simp [laneW]; omega), show (wldN m n).Links = wlinks m n from rfl, if_neg (by omega)]
  rw [if_neg]
  rw [Bool.not_eq_true, List.any_eq_false]
  intro k hk
  have hk := List.mem_range.1 hk
  have hk' : k < (ways m n).length := by simpa [wlinks] using hk
  obtain ⟨j, ej, hj, hf⟩ := idxs_get (fromB m n) m.Links.length k hk'
  have ej' : nth (ways m n) (k : Int) = (j : Int) := ej
  have e : nth (wlinks m n) (k : Int) = nth m.Links (j : Int) := by
    rw [nth_nat hk]
    simp only [wlinks, List.getElem_map, List.getElem_range, ej']
  have hb := List.any_eq_false.1 h4 j (List.mem_range.2 hj)
  simp only [linkBad, Bool.or_eq_true, Bool.not_eq_true', not_or, Bool.not_eq_false] at hb
  obtain ⟨⟨_, _⟩, ⟨t0, t1⟩, l0, l1⟩ := linkOK_of hb.1
  have hf' : (nth m.Links (j : Int)).From = n := by simpa [fromB] using hf
  unfold linkBadW
  rw [show (wldN m n).Links = wlinks m n from rfl, e]
  simp only [laneW, Bool.not_eq_true', Bool.not_eq_false', Bool.and_eq_true, decide_eq_true_eq, Bool.not_eq_true, Bool.not_eq_false]
  omega
def frsN (m : api_Model) (n : Int) (k : Nat) : List api_Message := ((List.range k).map (msg m)).filter fun x => decide (x.To = n)
theorem frsN_succ (m : api_Model) (n : Int) (k : Nat) : frsN m n (k + 1) = if (msg m k).To = n then frsN m n k ++ [msg m k] else frsN m n k := by
  unfold frsN
  rw [List.range_succ, List.map_append, List.filter_append]
  by_cases h : (msg m k).To = n
  · simp [h]
  · simp [h]
theorem frsN_mem {m : api_Model} {n : Int} {k : Nat} {x : api_Message} (h : x ∈ frsN m n k) : ∃ j, j < k ∧ x = msg m j ∧ x.To = n := by
  unfold frsN at h
  obtain ⟨h1, h2⟩ := List.mem_filter.1 h
  obtain ⟨j, hj, e⟩ := List.mem_map.1 h1
  exact ⟨j, List.mem_range.1 hj, e.symm, by simpa using h2⟩
theorem frsN_len (m : api_Model) (n : Int) (k : Nat) : (frsN m n k).length ≤ k := by
  unfold frsN
  exact Nat.le_trans (List.length_filter_le _ _) (by simp)
def laneN (m : api_Model) (c : api_Caps) (n : Int) : lane_Lane := ⟨m, n, c, ways m n, ⟨wldN m n, true, zst, 4, [], false⟩, qof [], [], [], [], [], 0, ⟨2, 4, 0, 1000, 0⟩, ⟨0, 0, 0, 0⟩⟩
def lnN (x : lane_Lane) (W : List api_Message) (hd : List (lane_sending × Bool)) : lane_Lane := { x with wait := qof W, held := hd }
theorem hold_freshN {x : lane_Lane} {l : List api_Message} {y : api_Message} (hw : x.wait = qof l) (hq : QOK l) (hn : snd y ∉ l.map snd) (hl : l.length < 16384) :
    ∃ W, lane_Lane_hold.f x y = some { x with wait := qof W, held := mset x.held ⟨y.Key.From, y.Uid⟩ true } ∧ W.Perm (y :: l) ∧ QOK W := by
  rcases qPush_eq (m := y) hq with ⟨h, _⟩ | ⟨_, h, _⟩ | ⟨_, _, W, e, p, q⟩
  · exact absurd h hn
  · omega
  · refine ⟨W, ?_, p, q⟩
    unfold lane_Lane_hold.f
    rw [hw, e]
    simp only [Option.bind_some, if_true]
    unfold lane_of.f
    rfl
theorem hold_loopN {m : api_Model} (t : Int) {n : Nat} (hn : n ≤ 4096) : ∀ (d k : Nat) (x : lane_Lane) (l : List api_Message), d + k = n → x.wait = qof l → QOK l → l.Perm (frsN m t k) →
    ∃ W hd, loopR (lane_New.l19b t ((List.range n).map (msg m))) (x, (k : Int)) = some (.inr ({ x with wait := qof W, held := hd }, 0)) ∧ QOK W ∧ W.Perm (frsN m t n)
  | 0, k, x, l, e, hw, hq, hp => by
    have : k = n := by omega
    subst this
    refine ⟨l, x.held, ?_, hq, hp⟩
    rw [loopR_eq]
    simp only [lane_New.l19b]
    rw [if_neg (by simp), ← hw]
    rfl
  | d + 1, k, x, l, e, hw, hq, hp => by
    rw [loopR_eq]
    simp only [lane_New.l19b]
    have hk : k < ((List.range n).map (msg m)).length := by simp; omega
    have ek : nth ((List.range n).map (msg m)) (k : Int) = msg m k := by
      rw [nth_nat hk]; simp
    rw [if_pos (by simp; omega), if_pos (by omega), ek]
    by_cases ht : (msg m k).To = t
    · have hfr : snd (msg m k) ∉ l.map snd := fun hc => by
        obtain ⟨z, hz, ez⟩ := List.mem_map.1 hc
        obtain ⟨j, hj, rfl, _⟩ := frsN_mem (hp.mem_iff.1 hz)
        simp only [snd, msg, Prod.mk.injEq] at ez; omega
      have hll : l.length ≤ k := by rw [hp.length_eq]; exact frsN_len m t k
      obtain ⟨W, eh, p, q⟩ := hold_freshN hw hq hfr (by omega)
      rw [if_pos ht, eh]
      simp only [Option.bind_some]
      unfold lane_New.j20
      rw [w64 (by omega) (by omega)]
      obtain ⟨W', hd', el, q', p'⟩ := hold_loopN t hn d (k + 1) { x with wait := qof W, held := mset x.held ⟨(msg m k).Key.From, (msg m k).Uid⟩ true } W (by omega) rfl q (by
        rw [frsN_succ, if_pos ht]
        exact p.trans ((hp.cons _).trans (List.perm_append_comm (l₁ := [msg m k]) (l₂ := frsN m t k))))
      exact ⟨W', hd', el, q', p'⟩
    · rw [if_neg ht]
      unfold lane_New.j20
      rw [w64 (by omega) (by omega)]
      exact hold_loopN t hn d (k + 1) x l (by omega) hw hq (by rw [frsN_succ, if_neg ht]; exact hp)
def capsB (c : api_Caps) : Bool := decide (1 ≤ c.Link ∧ c.Link ≤ 1024 ∧ 1 ≤ c.Wait ∧ c.Wait ≤ 4096 ∧ 1 ≤ c.Log ∧ c.Log ≤ 4096)
theorem NewN_eq {m : api_Model} (h : ok_api_Model m) (hC : chkM m = 0) {n : Int} (h0 : 0 ≤ n) (h1 : n < (m.Progs.length : Int)) {c : api_Caps} (hc : capsB c = true) :
    ∃ W hd, lane_New.f m n c = some (.inr (lnN (laneN m c n) W hd, 0)) ∧ QOK W ∧ W.Perm (frsN m n m.Starts.length) := by
  have hc : 1 ≤ c.Link ∧ c.Link ≤ 1024 ∧ 1 ≤ c.Wait ∧ c.Wait ≤ 4096 ∧ 1 ≤ c.Log ∧ c.Log ≤ 4096 := by
    unfold capsB at hc; exact of_decide_eq_true hc
  obtain ⟨_, _, h3, _, h5, _⟩ := chkM_zero hC
  obtain ⟨W, hd, el, q, p⟩ := hold_loopN n h5 m.Starts.length 0 (laneN m c n) [] (by omega) rfl QOK.nil (by unfold frsN; exact List.Perm.refl _)
  refine ⟨W, hd, ?_, q, p⟩
  unfold lane_New.f
  rw [world_eq h, wldN_eq hC h0 h1]
  simp only [Option.bind_some, if_true]
  rw [if_neg (by omega), if_neg (by omega), if_neg (by split <;> omega), if_neg (by split <;> omega), ways_eq h]
  simp only [Option.bind_some]
  unfold tune_First.f lane_New.j12
  simp only [Option.bind_some]
  rw [if_pos (by simp only [List.length_nil]; omega), show (⟨(⟨0, 0, 0, 0, 0, 0, 0, 0⟩ : Arr8xInti64), 0, 0⟩ : api_State) = zst from rfl, new_eq (wldN m n) 4 (by omega), if_pos (wldN_chk hC h0 h1)]
  simp only [Option.bind_some]
  rw [starts_list (by omega)]
  unfold pend_New.f pend_fresh.f heap_New.f lane_New.l19
  simp only [Option.bind_some]
  exact el
theorem least_nil : vtime_Least.f [] = some 4611686018427387904 := by
  unfold vtime_Least.f vtime_Least.l2
  rw [loopR_eq]
  simp [vtime_Least.l2b]
theorem local_nilN {x : lane_Lane} (hw : x.wait = qof []) (ho : x.open_ = []) : lane_Lane_Local.f x = some 4611686018427387904 := by
  unfold lane_Lane_Local.f lane_Lane_none.f
  rw [least_nil, hw, qFirst_nil]
  simp only [Option.bind_some]
  rw [if_neg (by decide)]
  unfold lane_Lane_Local.j3 lane_Lane_Local.l4
  rw [loopR_eq]
  simp [lane_Lane_Local.l4b, ho]
end
section
open Go.Sl
set_option linter.unusedVariables false
set_option linter.unusedSimpArgs false
section
variable {κ ν : Type} [DecidableEq κ]
theorem findE_shift (k : κ) : ∀ (es : List (κ × ν)) (i : Nat), findE es k (i + 1) = (findE es k i).map (fun r => (r.1 + 1, r.2))
  | [], _ => rfl
  | e :: es, i => by
    unfold findE
    by_cases h : e.1 = k
    · rw [if_pos h, if_pos h]; rfl
    · rw [if_neg h, if_neg h]; exact findE_shift k es (i + 1)
theorem mset_cons (e : κ × ν) (es : List (κ × ν)) (k : κ) (v : ν) : mset (e :: es) k v = if e.1 = k then (k, v) :: es else e :: mset es k v := by
  unfold mset
  rw [findE]
  by_cases h : e.1 = k
  · rw [if_pos h, if_pos h]; rfl
  · rw [if_neg h, if_neg h, findE_shift]
    cases findE es k 0 <;> rfl
end
end
section
open Go.Sl
set_option linter.unusedVariables false
set_option linter.unusedSimpArgs false
theorem mset_len {κ ν : Type} [DecidableEq κ] (k : κ) (v : ν) : ∀ es : List (κ × ν), (mset es k v).length ≤ es.length + 1
  | [] => Nat.le_refl 1
  | e :: es => by
    have := mset_len k v es
    rw [mset_cons]
    split <;> simp <;> omega
def intoM (t : List Int) : Nat → List (Int × Int)
  | 0 => []
  | k + 1 => mset (intoM t k) (nth t (k : Int)) (k : Int)
theorem intoM_len (t : List Int) : ∀ k, (intoM t k).length ≤ k
  | 0 => Nat.le_refl _
  | k + 1 => by
    have := intoM_len t k
    have h := mset_len (nth t (k : Int)) (k : Int) (intoM t k)
    show (mset _ _ _).length ≤ _
    omega
def tal0 : colour_Tally := ⟨true, 0, (⟨0, 0⟩ : Arr2xInti64), 4611686018427387904⟩
structure Pl0 (m : api_Model) (c : api_Caps) (n : Int) (p : kernel_place) : Prop where
  ln : ∃ W hd, p.Lane = lnN (laneN m c n) W hd ∧ QOK W ∧ W.Perm (frsN m n m.Starts.length)
  ta : p.tally = tal0
  cl : p.clocks = ⟨true, List.replicate p.into.length 0⟩
  wa : p.ways = ways m n
  it : p.into = intoM (into m n) (into m n).length
def way0 (m : api_Model) (c : api_Caps) (k : Nat) : link_Way := ⟨nth m.Links (k : Int), c.Link, []⟩
def ker0 (m : api_Model) (c : api_Caps) (ps : List kernel_place) : kernel_Kernel := ⟨m, ps, (List.range m.Links.length).map (way0 m c), ⟨(m.Progs.length : Int), 0, false, 0, 4611686018427387904⟩, 0, 64, 64, [], 0⟩
theorem into_len {m : api_Model} (hC : chkM m = 0) (n : Int) : (into m n).length ≤ 1024 := by
  obtain ⟨_, _, h3, _⟩ := chkM_zero hC
  exact Nat.le_trans (idxs_len _ _) h3
theorem place_eq {m : api_Model} (h : ok_api_Model m) (hC : chkM m = 0) {ps : List kernel_place} (hps : ps.length < 16) {n : Int} (h0 : 0 ≤ n) (h1 : n < 16) (y : lane_Lane) (t : colour_Tally) (ws : List Int) :
    kernel_New.j132 m ps n y t ws = some (.inl (ps ++ [⟨y, t, ⟨true, List.replicate (intoM (into m n) (into m n).length).length 0⟩, ws, intoM (into m n) (into m n).length⟩], n + 1)) := by
  have hl := into_len hC n
  have hm := intoM_len (into m n) (into m n).length
  unfold kernel_New.j132
  rw [into_eq h]
  simp only [Option.bind_some]
  unfold kernel_New.l134
  refine (show loopR _ ((fun k : Nat => (intoM (into m n) k, (k : Int))) 0) = _ from loopR_steps (fun k : Nat => (intoM (into m n) k, (k : Int))) (into m n).length (fun k hk => ?_) ?_)
  · simp only [kernel_New.l134b]
    rw [if_pos (by omega), if_pos (by omega), w64 (by omega) (by omega)]
    rfl
  · simp only [kernel_New.l134b]
    rw [if_neg (by omega)]
    unfold clock_New.f
    rw [if_neg (by omega), if_neg (by omega), if_pos (by omega)]
    simp only [Option.bind_some]
    rw [if_pos (by omega), w64 (by omega) (by omega)]
    simp
theorem way_ok {m : api_Model} (hC : chkM m = 0) {c : api_Caps} (hc : capsB c = true) {k : Nat} (hk : k < m.Links.length) : link_New.f (nth m.Links (k : Int)) c.Link = some (.inr (way0 m c k, 0)) := by
  have hc : 1 ≤ c.Link ∧ c.Link ≤ 1024 ∧ 1 ≤ c.Wait ∧ c.Wait ≤ 4096 ∧ 1 ≤ c.Log ∧ c.Log ≤ 4096 := by
    unfold capsB at hc; exact of_decide_eq_true hc
  obtain ⟨_, _, _, h4, _⟩ := chkM_zero hC
  have hp := sizes_progs hC
  have hb := List.any_eq_false.1 h4 k (List.mem_range.2 hk)
  simp only [linkBad, Bool.or_eq_true, Bool.not_eq_true', not_or, Bool.not_eq_false] at hb
  obtain ⟨⟨f0, f1⟩, ⟨t0, t1⟩, _⟩ := linkOK_of hb.1
  unfold link_New.f link_lane.f
  rw [if_pos f0]
  simp only [Option.bind_some]
  rw [if_pos (by simp; omega), if_pos t0]
  simp only [Option.bind_some]
  rw [if_pos (by simp; omega), if_neg (by omega), if_neg (by omega)]
  rfl
theorem ways_made {m : api_Model} (hC : chkM m = 0) {c : api_Caps} (hc : capsB c = true) (ps : List kernel_place) : kernel_New.l136 m c ps ([], 0) = some (.inr (ker0 m c ps, 0)) := by
  obtain ⟨_, _, h3, _⟩ := chkM_zero hC
  have hp := sizes_progs hC
  unfold kernel_New.l136
  refine loop_map (way0 m c) m.Links.length (fun k hk l hl => ?_) ?_
  · simp only [kernel_New.l136b]
    rw [if_pos (by omega), if_pos (by omega), way_ok hC hc hk]
    simp only [Option.bind_some]
    rw [if_pos (by omega), w64 (by omega) (by omega)]
    rfl
  · simp only [kernel_New.l136b]
    rw [if_neg (by omega)]
    unfold colour_NewToken.f
    rw [if_neg (by omega), if_neg (by omega)]
    rfl
theorem places_made {m : api_Model} (h : ok_api_Model m) (hC : chkM m = 0) {c : api_Caps} (hc : capsB c = true) : ∀ (d k : Nat) (ps : List kernel_place), d + k = m.Progs.length → ps.length = k → (∀ i : Nat, i < k → Pl0 m c (i : Int) (nth ps (i : Int))) →
    ∃ qs, loopR (kernel_New.l126b m c) (ps, (k : Int)) = some (.inr (ker0 m c qs, 0)) ∧ qs.length = m.Progs.length ∧ ∀ i : Nat, i < m.Progs.length → Pl0 m c (i : Int) (nth qs (i : Int))
  | 0, k, ps, e, hl, hp => by
    have : k = m.Progs.length := by omega
    subst this
    refine ⟨ps, ?_, hl, hp⟩
    rw [loopR_eq]
    simp only [kernel_New.l126b]
    rw [if_neg (by omega), ways_made hC hc]
    rfl
  | d + 1, k, ps, e, hl, hp => by
    have h16 := sizes_progs hC
    obtain ⟨W, hd, eN, hq, hw⟩ := NewN_eq h hC (n := (k : Int)) (by omega) (by omega) hc
    rw [loopR_eq]
    simp only [kernel_New.l126b]
    rw [if_pos (by omega), eN]
    simp only [Option.bind_some, if_true]
    unfold colour_New.f
    simp only [Option.bind_some]
    rw [ways_eq h]
    simp only [Option.bind_some]
    rw [place_eq h hC (by omega) (by omega) (by omega)]
    refine places_made h hC hc d (k + 1) _ (by omega) (by simp [hl]) fun i hi => ?_
    by_cases hik : i < k
    · rw [nth_nat (by simp; omega), List.getElem_append_left (by omega), ← nth_nat]
      exact hp i hik
    · have : i = k := by omega
      subst this
      rw [nth_nat (by simp; omega), List.getElem_append_right (by omega)]
      simp only [hl, Nat.sub_self, List.getElem_cons_zero]
      exact ⟨⟨W, hd, rfl, hq, hw⟩, rfl, rfl, rfl, rfl⟩
theorem kNew_eq {m : api_Model} (h : ok_api_Model m) (hC : chkM m = 0) {c : api_Caps} (hc : capsB c = true) :
    ∃ ps, kernel_New.f m c = some (.inr (ker0 m c ps, 0)) ∧ ps.length = m.Progs.length ∧ ∀ i : Nat, i < m.Progs.length → Pl0 m c (i : Int) (nth ps (i : Int)) := by
  obtain ⟨ps, e, hl, hp⟩ := places_made h hC hc m.Progs.length 0 [] (by omega) rfl (fun i hi => by omega)
  refine ⟨ps, ?_, hl, hp⟩
  have hb := links_bound h
  unfold kernel_New.f
  rw [model_check_eq]
  simp only [Option.bind_some]
  rw [if_pos hC, if_pos (by simp only [List.length_nil]; omega)]
  exact e
end
section
open Go.Sl
set_option linter.unusedVariables false
set_option linter.unusedSimpArgs false
theorem drop_nil {x : lane_Lane} (hl : x.log.l = []) (hm : x.log.made = true) (t : Int) : lane_Lane_Drop.f x t = some ([], x) := by
  unfold lane_Lane_Drop.f lane_Lane_none.f log_Log_Drop.f log_Log_none.f
  simp only [Option.bind_some, hm, Bool.not_true, Bool.false_eq_true, if_false]
  unfold log_Log_Drop.l6
  rw [loopR_eq]
  simp only [log_Log_Drop.l6b, hl]
  rw [if_neg (by simp), inr_bind]
  unfold log_Log_Drop.j5 log_Log_states.f log_Log_states_1.f log_Log_states_1.l16
  simp only [Option.bind_some]
  rw [loopR_eq]
  simp only [log_Log_states_1.l16b]
  rw [if_neg (by omega), inr_bind]
  unfold log_Log_states_1.j10 log_Log_states_1.l13
  rw [loopR_eq]
  simp only [log_Log_states_1.l13b, hl]
  rw [if_neg (by simp)]
  simp only [Option.bind_some, Sum.elim_inr]
  rw [if_pos (by simp), if_pos (by simp [subL])]
  have e : ([] : List log_done) ++ subL ([] : List log_done) 0 ((([] : List log_done).length : Nat) : Int) = x.log.l := by rw [hl]; rfl
  rw [e]
  rfl
theorem sort_nil : slices_SortStableFunc_api_Entry_api_Entry.f [] = some () := by
  have hi : ∀ a : Int, 0 ≤ a → slices_insertionSortCmpFunc_api_Entry.f [] 0 0 = some () := fun a _ => by
    unfold slices_insertionSortCmpFunc_api_Entry.f slices_insertionSortCmpFunc_api_Entry.l12
    rw [loopR_eq, w64 (by omega) (by omega)]
    simp only [slices_insertionSortCmpFunc_api_Entry.l12b]
    rw [if_neg (by omega)]
    rfl
  unfold slices_SortStableFunc_api_Entry_api_Entry.f slices_stableCmpFunc_api_Entry.f slices_stableCmpFunc_api_Entry.l9
  rw [loopR_eq]
  simp only [slices_stableCmpFunc_api_Entry.l9b]
  rw [if_neg (by simp), inr_bind, show ((([] : List api_Entry).length : Nat) : Int) = 0 from rfl, hi 0 (by omega)]
  simp only [Option.bind_some]
  unfold slices_stableCmpFunc_api_Entry.l12
  rw [loopR_eq]
  simp only [slices_stableCmpFunc_api_Entry.l12b]
  rw [if_neg (by omega)]
  rfl
theorem do_visit {k : kernel_Kernel} (hs : k.stop = 0) {p : api_Pick} (hw : p.What = 2) : kernel_Kernel_Do_2.f k p = kernel_Kernel_visit.f k p := by
  unfold kernel_Kernel_Do_2.f kernel_Kernel_none_2.f kernel_Kernel_picks.f
  simp only [Option.bind_some]
  rw [if_pos hs, if_neg (by omega), if_neg (by omega), if_pos hw]
  cases kernel_Kernel_visit.f k p <;> rfl
theorem nth_one {α : Type} [Inhabited α] (y : α) : nth [y] (0 : Int) = y := rfl
theorem set_one {α : Type} (x y : α) : setL [x] (0 : Int) y = [y] := rfl
section
variable {k k' : kernel_Kernel} {p : api_Pick} {ln : lane_Lane} {ta ta' : colour_Tally} {cl : clock_Clocks} {wa : List Int} {it : List (Int × Int)} {tk tk' : colour_Token} {t n e s : Int}
theorem visit_no (ha : k.at_ = [⟨ln, ta, cl, wa, it⟩]) (ht : k.token = tk) (hA : colour_Token_At.f tk = some 0) (hl : lane_Lane_Local.f ln = some n) (hV : colour_Token_Visit.f tk ta n = some (t, false, e, tk', ta')) :
    kernel_Kernel_visit.f k p = some (0, { k with at_ := [⟨ln, ta', cl, wa, it⟩], token := tk' }) := by
  unfold kernel_Kernel_visit.f
  rw [ht, hA]
  simp only [Option.bind_some]
  rw [ha, if_pos (by simp)]
  simp only [nth_one, set_one]
  rw [hl]
  simp only [Option.bind_some]
  rw [hV]
  simp only [Option.bind_some, Bool.false_eq_true, if_false]
theorem visit_over (ha : k.at_ = [⟨ln, ta, cl, wa, it⟩]) (ht : k.token = tk) (hA : colour_Token_At.f tk = some 0) (hl : lane_Lane_Local.f ln = some n) (hV : colour_Token_Visit.f tk ta n = some (t, true, e, tk', ta')) {q : Int}
    (hc : kernel_Kernel_commit.f { k with at_ := [⟨ln, ta', cl, wa, it⟩], token := tk', global := if k.global < t then t else k.global } = some (.inl (⟨s, q⟩, k'))) : kernel_Kernel_visit.f k p = some (0, { k' with stop := s }) := by
  unfold kernel_Kernel_visit.f
  rw [ht, hA]
  simp only [Option.bind_some]
  rw [ha, if_pos (by simp)]
  simp only [nth_one, set_one]
  rw [hl]
  simp only [Option.bind_some]
  rw [hV]
  simp only [Option.bind_some, if_true]
  rw [hc]
  rfl
theorem commit_nil (ha : k.at_ = [⟨ln, ta, cl, wa, it⟩]) (hd : lane_Lane_Drop.f ln k.global = some ([], ln)) (hE : k.m.End < k.global) : kernel_Kernel_commit.f k = some (.inl (⟨1, 6⟩, k)) := by
  unfold kernel_Kernel_commit.f kernel_Kernel_commit.l6
  rw [ha, loopR_eq]
  simp only [kernel_Kernel_commit.l6b, ha]
  rw [if_pos (by simp), if_pos (by omega)]
  simp only [nth_one, set_one]
  rw [hd]
  simp only [Option.bind_some]
  rw [if_pos (by simp), w64 (by omega) (by omega)]
  simp only [Option.bind_some, Sum.elim_inl]
  rw [loopR_eq]
  simp only [kernel_Kernel_commit.l6b, ha, List.append_nil]
  rw [if_neg (by simp), inr_bind, sort_nil]
  simp only [Option.bind_some]
  have ek : ({ k with at_ := [⟨ln, ta, cl, wa, it⟩] } : kernel_Kernel) = k := by rw [← ha]
  rw [ek]
  unfold kernel_Kernel_commit.l8
  rw [loopR_eq]
  simp only [kernel_Kernel_commit.l8b]
  rw [if_neg (by simp), inr_bind, if_pos hE]
end
def tal1 : colour_Tally := ⟨true, 1, (⟨0, 0⟩ : Arr2xInti64), 4611686018427387904⟩
theorem tok_at (b : Bool) : colour_Token_At.f ⟨1, 0, b, 0, 4611686018427387904⟩ = some 0 := rfl
theorem tok_turn : colour_Token_Visit.f ⟨1, 0, false, 0, 4611686018427387904⟩ tal0 4611686018427387904 = some (0, false, 0, ⟨1, 0, true, 0, 4611686018427387904⟩, tal1) := by
  have hx : IntKind.i64.wrap (BitVec.ofInt IntKind.i64.bits 0 ^^^ BitVec.ofInt IntKind.i64.bits 1).toNat = 1 := by decide
  unfold colour_Token_Visit.f colour_Token_none.f colour_Tally_none.f colour_Token_turn.f colour_Tally_Flip.f colour_Tally_none.f tal0
  simp only [Option.bind_some, hx]
  rfl
theorem tok_count : colour_Token_Visit.f ⟨1, 0, true, 0, 4611686018427387904⟩ tal1 4611686018427387904 = some (4611686018427387904, true, 0, ⟨1, 0, false, 0, 4611686018427387904⟩, tal1) := by
  have hy : IntKind.i64.wrap (BitVec.ofInt IntKind.i64.bits 1 ^^^ BitVec.ofInt IntKind.i64.bits 1).toNat = 0 := by decide
  have hl3 : vtime_Least.f [4611686018427387904, 4611686018427387904, 4611686018427387904] = some 4611686018427387904 := by
    unfold vtime_Least.f vtime_Least.l2
    exact (show loopR _ ((fun k : Nat => ((4611686018427387904 : Int), (k : Int))) 0) = _ from loopR_steps (fun k : Nat => ((4611686018427387904 : Int), (k : Int))) 3 (fun k hk => by
      simp only [vtime_Least.l2b]
      have : k = 0 ∨ k = 1 ∨ k = 2 := by omega
      rcases this with rfl | rfl | rfl <;> rfl) (by simp only [vtime_Least.l2b]; rfl))
  unfold colour_Token_Visit.f colour_Token_none.f colour_Tally_none.f colour_Token_count.f tal1
  simp only [Option.bind_some, hy, hl3]
  rfl
end
section
open Go.Sl
set_option linter.unusedVariables false
set_option maxRecDepth 100000
theorem wfR {n : Int} (h : (Lit.int .i64 n).wf = true) : -9223372036854775808 ≤ n ∧ n ≤ 9223372036854775807 := by
  simpa [Lit.wf, IntKind.min, IntKind.max, IntKind.signed, IntKind.bits] using h
def wd (n : Int) : ByteArray := lit_20 ++ itoaB n
def catW : List Int → ByteArray
  | [] => ByteArray.empty
  | n :: l => wd n ++ catW l
def line (w : ByteArray) (l : List Int) : ByteArray := w ++ (catW l ++ lit_0a)
abbrev R64 (n : Int) : Prop := -9223372036854775808 ≤ n ∧ n ≤ 9223372036854775807
theorem ba_empty_append (a : ByteArray) : ByteArray.empty ++ a = a := by simp
theorem ba_append_empty (a : ByteArray) : a ++ ByteArray.empty = a := by simp
theorem catW_append : ∀ (l m : List Int), catW (l ++ m) = catW l ++ catW m
  | [], m => by simp [catW]
  | n :: l, m => by simp [catW, catW_append l m, ByteArray.append_assoc]
theorem wd_size {n : Int} (h : R64 n) : (wd n).size ≤ 21 := by
  have := itoa_size h.1 h.2
  rw [wd, ByteArray.size_append, show lit_20.size = 1 from rfl]
  omega
theorem catW_size : ∀ (l : List Int), (∀ n ∈ l, R64 n) → (catW l).size ≤ 21 * l.length
  | [], _ => by simp [catW]
  | n :: l, h => by
    have h1 := wd_size (h n List.mem_cons_self)
    have h2 := catW_size l fun m hm => h m (List.mem_cons_of_mem _ hm)
    rw [catW, ByteArray.size_append, List.length_cons]
    omega
theorem line_size (w : ByteArray) (l : List Int) (h : ∀ n ∈ l, R64 n) : (line w l).size ≤ w.size + 21 * l.length + 1 := by
  have := catW_size l h
  rw [line, ByteArray.size_append, ByteArray.size_append, show lit_0a.size = 1 from rfl]
  omega
theorem say1 (w : ByteArray) (l : List Int) (a : ByteArray) (h : ∀ n ∈ l, R64 n) (hb : a.size + w.size + 21 * l.length + 1 ≤ 140737488355328) : script_Told_1.f w l a = some (a ++ line w l) := by
  unfold script_Told_1.f script_Told_1.l4
  rw [if_pos (by omega)]
  have key := loopR_steps (body := script_Told_1.l4b l) (fun k => ((a ++ w) ++ catW (l.take k), ((k : Nat) : Int))) l.length (r := (a ++ w) ++ catW l ++ lit_0a) (fun k hk => ?_) ?_
  · simp only [List.take_zero, catW, ba_append_empty] at key
    rw [show ((0 : Nat) : Int) = 0 from rfl] at key
    rw [key, line]
    simp only [ByteArray.append_assoc]
  · have hr := h _ (List.getElem_mem hk)
    have ht := catW_size (l.take k) fun n hn => h n (List.mem_of_mem_take hn)
    have hw := wd_size hr
    rw [List.length_take] at ht
    have h1 := itoa_size hr.1 hr.2
    unfold script_Told_1.l4b
    dsimp only
    rw [if_pos (by omega), if_pos (by omega), nth_nat hk, if_pos hr, if_pos (by rw [show lit_20.size = 1 from rfl]; omega), if_pos (by rw [ByteArray.size_append, ByteArray.size_append]; unfold wd at hw; omega),
      w64 (x := ((k : Nat) : Int) + 1) (by omega) (by omega), List.take_succ_eq_append_getElem hk, catW_append]
    simp [catW, wd, ByteArray.append_assoc]
  · have ht := catW_size l h
    unfold script_Told_1.l4b
    dsimp only
    rw [if_neg (by omega), List.take_length, if_pos (by rw [ByteArray.size_append, ByteArray.size_append, show lit_0a.size = 1 from rfl]; omega)]
    rfl
def regs (s : api_State) : List Int := [s.Regs.c0, s.Regs.c1, s.Regs.c2, s.Regs.c3, s.Regs.c4, s.Regs.c5, s.Regs.c6, s.Regs.c7]
theorem say2 (w : ByteArray) (s : api_State) (a : ByteArray) (h : ∀ n ∈ regs s, R64 n) (hb : a.size + w.size + 169 ≤ 140737488355328) : script_Told_1v2.f w s a = some (a ++ line w (regs s)) := by
  have hs : ∀ n ∈ regs s, (itoaB n).size ≤ 20 := fun n hn => itoa_size (h n hn).1 (h n hn).2
  simp only [regs, List.mem_cons, List.not_mem_nil, or_false, forall_eq_or_imp, forall_eq] at h hs
  obtain ⟨h0, h1, h2, h3, h4, h5, h6, h7⟩ := h
  obtain ⟨s0, s1, s2, s3, s4, s5, s6, s7⟩ := hs
  have e1 : lit_20.size = 1 := rfl
  have e2 : lit_0a.size = 1 := rfl
  unfold script_Told_1v2.f
  simp only [ByteArray.size_append, e1, e2]
  rw [if_pos (by omega), if_pos h0, if_pos (by omega), if_pos (by omega), if_pos h1, if_pos (by omega), if_pos (by omega), if_pos h2, if_pos (by omega), if_pos (by omega), if_pos h3, if_pos (by omega), if_pos (by omega),
    if_pos h4, if_pos (by omega), if_pos (by omega), if_pos h5, if_pos (by omega), if_pos (by omega), if_pos h6, if_pos (by omega), if_pos (by omega), if_pos h7, if_pos (by omega), if_pos (by omega), if_pos (by omega)]
  simp [line, regs, catW, wd, ByteArray.append_assoc]
def didL (d : api_Done) : List Int := [d.Key.Time, d.Key.From, d.Key.Seq, d.To, d.Value]
def cc : List ByteArray → ByteArray
  | [] => ByteArray.empty
  | b :: l => b ++ cc l
theorem cc_append : ∀ (l m : List ByteArray), cc (l ++ m) = cc l ++ cc m
  | [], m => by simp [cc]
  | b :: l, m => by simp [cc, cc_append l m, ByteArray.append_assoc]
theorem cc_size (n : Nat) : ∀ (l : List ByteArray), (∀ b ∈ l, b.size ≤ n) → (cc l).size ≤ n * l.length
  | [], _ => by simp [cc]
  | b :: l, h => by
    have h1 := h b List.mem_cons_self
    have h2 := cc_size n l fun m hm => h m (List.mem_cons_of_mem _ hm)
    rw [cc, ByteArray.size_append, List.length_cons, Nat.mul_succ]
    omega
def hist (l : List api_Done) : ByteArray := cc (l.map fun d => line lit_did (didL d))
def sts (l : List api_State) : ByteArray := cc (l.map fun s => line lit_state (regs s))
def toldS (r : api_Result) : ByteArray := hist r.History ++ (sts r.States ++ line lit_stop [r.Stop])
def OkD (l : List api_Done) : Prop := ∀ d ∈ l, ∀ n ∈ didL d, R64 n
def OkS (l : List api_State) : Prop := ∀ s ∈ l, ∀ n ∈ regs s, R64 n
theorem hist_size {l : List api_Done} (h : OkD l) : (hist l).size ≤ 109 * l.length := by
  have := cc_size 109 (l.map fun d => line lit_did (didL d)) fun b hb => by
    obtain ⟨d, hd, rfl⟩ := List.mem_map.1 hb
    exact line_size lit_did (didL d) (h d hd)
  simpa [hist] using this
theorem sts_size {l : List api_State} (h : OkS l) : (sts l).size ≤ 174 * l.length := by
  have := cc_size 174 (l.map fun s => line lit_state (regs s)) fun b hb => by
    obtain ⟨d, hd, rfl⟩ := List.mem_map.1 hb
    exact line_size lit_state (regs d) (h d hd)
  simpa [sts] using this
theorem hist_succ {l : List api_Done} {k : Nat} (hk : k < l.length) : hist (l.take (k + 1)) = hist (l.take k) ++ line lit_did (didL l[k]) := by
  rw [hist, List.take_succ_eq_append_getElem hk, List.map_append, cc_append]
  simp [cc, hist]
theorem sts_succ {l : List api_State} {k : Nat} (hk : k < l.length) : sts (l.take (k + 1)) = sts (l.take k) ++ line lit_state (regs l[k]) := by
  rw [sts, List.take_succ_eq_append_getElem hk, List.map_append, cc_append]
  simp [cc, sts]
theorem okD_take {l : List api_Done} (h : OkD l) (k : Nat) : OkD (l.take k) := fun d hd => h d (List.mem_of_mem_take hd)
theorem okS_take {l : List api_State} (h : OkS l) (k : Nat) : OkS (l.take k) := fun d hd => h d (List.mem_of_mem_take hd)
theorem told_eq (r : api_Result) (hD : OkD r.History) (hT : OkS r.States) (hs : R64 r.Stop) (hl : r.History.length ≤ 1048576 ∧ r.States.length ≤ 1048576) : script_Told.f r = some (toldS r) := by
  unfold script_Told.f script_Told.l6
  have e0 : hist [] = ByteArray.empty := rfl
  have key := loopR_steps (body := script_Told.l6b r) (fun k => (hist (r.History.take k), ((k : Nat) : Int))) r.History.length (r := toldS r) (fun k hk => ?_) ?_
  · simpa [e0] using key
  · have hz := hist_size (okD_take hD k)
    rw [List.length_take] at hz
    unfold script_Told.l6b
    dsimp only
    rw [if_pos (by omega), if_pos (by omega), nth_nat hk, say1 lit_did [r.History[k].Key.Time, r.History[k].Key.From, r.History[k].Key.Seq, r.History[k].To, r.History[k].Value] _ (hD _ (List.getElem_mem hk)) (by rw [show lit_did.size = 3 from rfl]; simp only [List.length_cons, List.length_nil]; omega)]
    simp only [Option.bind_some]
    rw [w64 (x := ((k : Nat) : Int) + 1) (by omega) (by omega), hist_succ hk]
    rfl
  · unfold script_Told.l6b
    dsimp only
    rw [if_neg (by omega), List.take_length]
    have hz := hist_size hD
    have e1 : sts [] = ByteArray.empty := rfl
    have key := loopR_steps (body := script_Told.l8b r) (fun k => (hist r.History ++ sts (r.States.take k), ((k : Nat) : Int))) r.States.length (r := toldS r) (fun k hk => ?_) ?_
    · simp only [List.take_zero, e1, ba_append_empty, show ((0 : Nat) : Int) = 0 from rfl] at key
      unfold script_Told.l8
      rw [key]
      rfl
    · have hy := sts_size (okS_take hT k)
      rw [List.length_take] at hy
      unfold script_Told.l8b
      dsimp only
      rw [if_pos (by omega), if_pos (by omega), nth_nat hk, say2 lit_state _ _ (hT _ (List.getElem_mem hk)) (by rw [ByteArray.size_append, show lit_state.size = 5 from rfl]; omega)]
      simp only [Option.bind_some]
      rw [w64 (x := ((k : Nat) : Int) + 1) (by omega) (by omega), sts_succ hk, ByteArray.append_assoc]
      rfl
    · have hy := sts_size hT
      unfold script_Told.l8b
      dsimp only
      rw [if_neg (by omega), List.take_length, say1 lit_stop [r.Stop] _ (fun n hn => by obtain rfl := List.mem_singleton.1 hn; exact hs) (by rw [ByteArray.size_append, show lit_stop.size = 4 from rfl]; simp only [List.length_cons, List.length_nil]; omega)]
      simp only [Option.bind_some, Option.map_some, toldS, ByteArray.append_assoc]
end
section
open Go.Sl
set_option linter.unusedVariables false
set_option maxRecDepth 100000
def t0 : ByteArray := lit_6c616e650a7069636b2032203020300a7069636b203220302030
def tP : ByteArray := ⟨#[112, 105, 99, 107, 32, 50, 32, 48, 32, 48]⟩
def s2 : ByteArray := ⟨#[50]⟩
def s0 : ByteArray := ⟨#[48]⟩
theorem split_t0 : splitL t0 10 = [lit_lane, tP, tP] := by decide +kernel
theorem split_lane : splitL lit_lane 32 = [lit_lane] := by decide +kernel
theorem split_tP : splitL tP 32 = [lit_pick, s2, s0, s0] := by decide +kernel
theorem num_s2 : script_number.f s2 = some (2, true) := by
  unfold script_number.f script_number.l4
  have e1 : itR s2 0 = 50 := by decide +kernel
  have e2 : itS s2 0 = 1 := by decide +kernel
  have e3 : parseN s2 = some 2 := by decide +kernel
  have e4 : itoaB 2 = s2 := by decide +kernel
  have e5 : s2.size = 1 := rfl
  rw [loopR_eq]
  simp only [script_number.l4b, e1, e2, e5]
  rw [if_pos (by omega), if_pos (by omega), if_pos (by omega), if_pos (by omega), w64 (x := (0 : Int) + 1) (by omega) (by omega)]
  simp only [Option.bind_some, Sum.elim_inl]
  rw [loopR_eq]
  simp only [script_number.l4b, e5, e3]
  rw [if_neg (by omega), if_pos (by omega)]
  simp only [Option.bind_some, e4]
  rfl
theorem num_s0 : script_number.f s0 = some (0, true) := by
  unfold script_number.f script_number.l4
  have e1 : itR s0 0 = 48 := by decide +kernel
  have e2 : itS s0 0 = 1 := by decide +kernel
  have e3 : parseN s0 = some 0 := by decide +kernel
  have e4 : itoaB 0 = s0 := by decide +kernel
  have e5 : s0.size = 1 := rfl
  rw [loopR_eq]
  simp only [script_number.l4b, e1, e2, e5]
  rw [if_pos (by omega), if_pos (by omega), if_pos (by omega), if_pos (by omega), w64 (x := (0 : Int) + 1) (by omega) (by omega)]
  simp only [Option.bind_some, Sum.elim_inl]
  rw [loopR_eq]
  simp only [script_number.l4b, e5, e3]
  rw [if_neg (by omega), if_pos (by omega)]
  simp only [Option.bind_some, e4]
  rfl
theorem line_lane : script_Line.f lit_lane = some (lit_lane, [], 0) := by
  unfold script_Line.f
  rw [split_lane, if_pos (by decide)]
  have c : script_counts.f (nth [lit_lane] 0) = some (0, true) := rfl
  rw [c]
  have hs : subL [lit_lane] 1 (([lit_lane] : List ByteArray).length : Int) = [] := rfl
  unfold script_Line.l4
  rw [loopR_eq]
  simp only [script_Line.l4b, split_lane, hs]
  rfl
theorem line_tP : script_Line.f tP = some (lit_pick, [2, 0, 0], 0) := by
  unfold script_Line.f
  rw [split_tP, if_pos (by decide)]
  have c : script_counts.f (nth [lit_pick, s2, s0, s0] 0) = some (3, true) := by
    unfold script_counts.f script_counts.j4 script_counts.j5
    decide +kernel
  rw [c]
  have hs : subL [lit_pick, s2, s0, s0] 1 (([lit_pick, s2, s0, s0] : List ByteArray).length : Int) = [s2, s0, s0] := rfl
  unfold script_Line.l4
  have key := loopR_steps (body := script_Line.l4b tP) (fun k => (([2, 0, 0] : List Int).take k, ((k : Nat) : Int))) 3 (r := (lit_pick, [2, 0, 0], 0)) (fun k hk => ?_) ?_
  · simp only [List.take_zero] at key
    rw [show ((0 : Nat) : Int) = 0 from rfl] at key
    rw [key]
    rfl
  · simp only [script_Line.l4b, split_tP, hs]
    have : k = 0 ∨ k = 1 ∨ k = 2 := by omega
    rcases this with rfl | rfl | rfl
    · rw [show nth [s2, s0, s0] ((0 : Nat) : Int) = s2 from rfl, num_s2]
      rfl
    · rw [show nth [s2, s0, s0] ((1 : Nat) : Int) = s0 from rfl, num_s0]
      rfl
    · rw [show nth [s2, s0, s0] ((2 : Nat) : Int) = s0 from rfl, num_s0]
      rfl
  · simp only [script_Line.l4b, split_tP, hs]
    rfl
def mS : api_Model := ⟨[([] : List api_Instr)], [], [], 0, 1000, 1000⟩
theorem parse_t0 : script_Parse.f t0 = some (mS, ⟨16, 64, 64⟩, [⟨2, 0, 0⟩, ⟨2, 0, 0⟩], 0, 0) := by
  unfold script_Parse.f script_read.f
  rw [if_neg (by decide), if_pos (by decide)]
  unfold script_read.l4
  have key := loopR_steps (body := script_read.l4b t0) (fun k => ((⟨⟨([([] : List api_Instr)] : List (List api_Instr)).take k, [], [], 0, 1000, 1000⟩, ⟨16, 64, 64⟩, ([⟨2, 0, 0⟩, ⟨2, 0, 0⟩] : List api_Pick).take (k - 1)⟩ : script_reader), ((k : Nat) : Int))) 3 (r := (⟨mS, ⟨16, 64, 64⟩, [⟨2, 0, 0⟩, ⟨2, 0, 0⟩]⟩ : script_reader)) (fun k hk => ?_) ?_
  · simp only [List.take_zero] at key
    rw [show ((0 : Nat) : Int) = 0 from rfl] at key
    rw [show ((⟨(⟨[], [], [], 0, 1000, 1000⟩ : api_Model), (⟨16, 64, 64⟩ : api_Caps), []⟩ : script_reader), (0 : Int)) = ((⟨⟨[], [], [], 0, 1000, 1000⟩, ⟨16, 64, 64⟩, ([⟨2, 0, 0⟩, ⟨2, 0, 0⟩] : List api_Pick).take (0 - 1)⟩ : script_reader), (0 : Int)) from rfl, key]
    rfl
  · simp only [script_read.l4b, split_t0]
    have h1 : hasP lit_lane lit_23 = false := by decide +kernel
    have h2 : hasP tP lit_23 = false := by decide +kernel
    have n1 : ¬ lit_lane = lit_ := by decide +kernel
    have n2 : ¬ tP = lit_ := by decide +kernel
    have t1 : ∀ n, script_reader_take.f n lit_pick [2, 0, 0] = (if (n.picks.length + 1) * 24 ≤ 140737488355328 then some (true, { n with picks := n.picks ++ [⟨2, 0, 0⟩] }) else none) := fun n => by
      unfold script_reader_take.f
      rw [if_neg (by decide +kernel), if_neg (by decide +kernel), if_neg (by decide +kernel), if_neg (by decide +kernel), if_neg (by decide +kernel), if_neg (by decide +kernel), if_neg (by decide +kernel), if_neg (by decide +kernel)]
      rfl
    have : k = 0 ∨ k = 1 ∨ k = 2 := by omega
    rcases this with rfl | rfl | rfl
    · rw [show nth [lit_lane, tP, tP] ((0 : Nat) : Int) = lit_lane from rfl, if_pos (by simp), if_pos (by omega), if_neg n1, h1, line_lane]
      rfl
    · rw [show nth [lit_lane, tP, tP] ((1 : Nat) : Int) = tP from rfl, if_pos (by simp), if_pos (by omega), if_neg n2, h2, line_tP]
      simp only [Option.bind_some, Bool.false_eq_true, if_false, if_true, t1]
      rfl
    · rw [show nth [lit_lane, tP, tP] ((2 : Nat) : Int) = tP from rfl, if_pos (by simp), if_pos (by omega), if_neg n2, h2, line_tP]
      simp only [Option.bind_some, Bool.false_eq_true, if_false, if_true, t1]
      rfl
  · simp only [script_read.l4b, split_t0]
    rfl
end
section
open Go.Sl
set_option linter.unusedVariables false
set_option linter.unusedSimpArgs false
set_option maxRecDepth 100000
theorem mS_ok : ok_api_Model mS := by
  refine ⟨⟨fun x hx => ?_, by decide⟩, ⟨fun x hx => (by cases hx), by decide⟩, ⟨fun x hx => (by cases hx), by decide⟩, by decide, by decide, by decide⟩
  obtain rfl := List.mem_singleton.1 hx
  exact ⟨fun y hy => (by cases hy), by decide⟩
theorem mS_chk : chkM mS = 0 := rfl
def stS : api_State := ⟨⟨0, 0, 0, 0, 0, 0, 0, 0⟩, 0, 0⟩
theorem run_s : kernel_Run.f mS ⟨16, 64, 64⟩ [⟨2, 0, 0⟩, ⟨2, 0, 0⟩] = some (⟨[], [stS], 1⟩, 0) := by
  obtain ⟨ps, e, hl, hp⟩ := kNew_eq mS_ok mS_chk (c := ⟨16, 64, 64⟩) (by decide)
  have h0 := hp 0 (by decide)
  obtain ⟨W, hd, eL, hq, hw⟩ := h0.ln
  have hW : W = [] := by
    have := hw.length_eq
    have h0 := frsN_len mS ((0 : Nat) : Int) mS.Starts.length
    exact List.length_eq_zero_iff.1 (by have : mS.Starts.length = 0 := rfl; omega)
  subst hW
  have hlen : ps.length = 1 := hl
  obtain ⟨p, rfl⟩ := List.length_eq_one_iff.1 hlen
  have ep : nth [p] ((0 : Nat) : Int) = p := rfl
  rw [ep] at h0 eL
  obtain ⟨ln, ta, cl, wa, it⟩ := p
  have hta : ta = tal0 := h0.ta
  subst hta
  have eL : ln = lnN (laneN mS ⟨16, 64, 64⟩ 0) [] hd := eL
  have hloc : lane_Lane_Local.f ln = some 4611686018427387904 := local_nilN (by rw [eL]; rfl) (by rw [eL]; rfl)
  have hdrop : lane_Lane_Drop.f ln 4611686018427387904 = some ([], ln) := drop_nil (by rw [eL]; rfl) (by rw [eL]; rfl) _
  have hst : lane_Lane_State.f ln = some stS := by rw [eL]; rfl
  have v1 : kernel_Kernel_Do_2.f (ker0 mS ⟨16, 64, 64⟩ [⟨ln, tal0, cl, wa, it⟩]) ⟨2, 0, 0⟩ = some (0, ⟨mS, [⟨ln, tal1, cl, wa, it⟩], [], ⟨1, 0, true, 0, 4611686018427387904⟩, 0, 64, 64, [], 0⟩) := by
    rw [do_visit (k := ker0 mS ⟨16, 64, 64⟩ [⟨ln, tal0, cl, wa, it⟩]) rfl rfl]
    exact visit_no (k := ker0 mS ⟨16, 64, 64⟩ [⟨ln, tal0, cl, wa, it⟩]) rfl rfl (tok_at false) hloc tok_turn
  have c2 : kernel_Kernel_commit.f ⟨mS, [⟨ln, tal1, cl, wa, it⟩], [], ⟨1, 0, false, 0, 4611686018427387904⟩, 4611686018427387904, 64, 64, [], 0⟩ = some (.inl (⟨1, 6⟩, ⟨mS, [⟨ln, tal1, cl, wa, it⟩], [], ⟨1, 0, false, 0, 4611686018427387904⟩, 4611686018427387904, 64, 64, [], 0⟩)) :=
    commit_nil (k := ⟨mS, [⟨ln, tal1, cl, wa, it⟩], [], ⟨1, 0, false, 0, 4611686018427387904⟩, 4611686018427387904, 64, 64, [], 0⟩) rfl hdrop (by show (1000 : Int) < 4611686018427387904; omega)
  have v2 : kernel_Kernel_Do_2.f ⟨mS, [⟨ln, tal1, cl, wa, it⟩], [], ⟨1, 0, true, 0, 4611686018427387904⟩, 0, 64, 64, [], 0⟩ ⟨2, 0, 0⟩ = some (0, ⟨mS, [⟨ln, tal1, cl, wa, it⟩], [], ⟨1, 0, false, 0, 4611686018427387904⟩, 4611686018427387904, 64, 64, [], 1⟩) := by
    rw [do_visit (k := ⟨mS, [⟨ln, tal1, cl, wa, it⟩], [], ⟨1, 0, true, 0, 4611686018427387904⟩, 0, 64, 64, [], 0⟩) rfl rfl]
    refine visit_over (k := ⟨mS, [⟨ln, tal1, cl, wa, it⟩], [], ⟨1, 0, true, 0, 4611686018427387904⟩, 0, 64, 64, [], 0⟩) (q := 6) (k' := ⟨mS, [⟨ln, tal1, cl, wa, it⟩], [], ⟨1, 0, false, 0, 4611686018427387904⟩, 4611686018427387904, 64, 64, [], 0⟩) rfl rfl (tok_at true) hloc tok_count ?_
    rw [show (if (⟨mS, [⟨ln, tal1, cl, wa, it⟩], [], ⟨1, 0, true, 0, 4611686018427387904⟩, 0, 64, 64, [], 0⟩ : kernel_Kernel).global < 4611686018427387904 then (4611686018427387904 : Int) else (⟨mS, [⟨ln, tal1, cl, wa, it⟩], [], ⟨1, 0, true, 0, 4611686018427387904⟩, 0, 64, 64, [], 0⟩ : kernel_Kernel).global) = 4611686018427387904 from if_pos (by show (0 : Int) < _; omega)]
    exact c2
  unfold kernel_Run.f
  rw [e]
  simp only [Option.bind_some, if_true]
  unfold kernel_Run.l11
  rw [loopR_eq]
  simp only [kernel_Run.l11b]
  rw [if_pos (by simp), if_pos (by omega), show nth ([⟨2, 0, 0⟩, ⟨2, 0, 0⟩] : List api_Pick) 0 = ⟨2, 0, 0⟩ from rfl, v1]
  simp only [Option.bind_some, Sum.elim_inl]
  rw [w64 (by omega) (by omega), loopR_eq]
  simp only [kernel_Run.l11b]
  rw [if_pos (by simp), if_pos (by omega), show nth ([⟨2, 0, 0⟩, ⟨2, 0, 0⟩] : List api_Pick) (0 + 1) = ⟨2, 0, 0⟩ from rfl, v2]
  simp only [Option.bind_some, Sum.elim_inl]
  rw [w64 (by omega) (by omega), loopR_eq]
  simp only [kernel_Run.l11b]
  rw [if_neg (by simp), inr_bind]
  have hh : kernel_Kernel_History.f ⟨mS, [⟨ln, tal1, cl, wa, it⟩], [], ⟨1, 0, false, 0, 4611686018427387904⟩, 4611686018427387904, 64, 64, [], 1⟩ = some [] := rfl
  rw [hh]
  simp only [Option.bind_some]
  unfold kernel_Run.j12 kernel_Run.l14
  have hs : kernel_Kernel_State.f ⟨mS, [⟨ln, tal1, cl, wa, it⟩], [], ⟨1, 0, false, 0, 4611686018427387904⟩, 4611686018427387904, 64, 64, [], 1⟩ 0 = some stS := by
    unfold kernel_Kernel_State.f
    rw [show kernel_Kernel_of.f mS.Progs mS.Links mS.Starts mS.Seed mS.End mS.Budget [⟨ln, tal1, cl, wa, it⟩] [] ⟨1, 0, false, 0, 4611686018427387904⟩ 4611686018427387904 64 64 [] 1 0 = some 0 from rfl]
    simp only [Option.bind_some, nth_one]
    rw [hst]
    rfl
  rw [loopR_eq]
  simp only [kernel_Run.l14b]
  rw [if_pos (by simp), hs]
  simp only [Option.bind_some]
  rw [if_pos (by simp), w64 (by omega) (by omega)]
  simp only [Option.bind_some, Sum.elim_inl]
  rw [loopR_eq]
  simp only [kernel_Run.l14b]
  rw [if_neg (by simp)]
  rfl
theorem awake_s : isochronlaw21vawake.f = some true := by
  unfold isochronlaw21vawake.f script_Play.f
  rw [show script_Parse.f lit_6c616e650a7069636b2032203020300a7069636b203220302030 = _ from parse_t0]
  simp only [Option.bind_some, if_true]
  rw [run_s]
  simp only [Option.bind_some, if_true]
  rw [told_eq ⟨[], [stS], 1⟩ (fun d hd => by cases hd) (fun s hs n hn => by
    obtain rfl := List.mem_singleton.1 hs
    have hz : n = 0 := by simpa [regs, stS] using hn
    subst hz
    exact ⟨by omega, by omega⟩) ⟨by decide, by decide⟩ ⟨by decide, by decide⟩]
  simp only [Option.bind_some, if_true]
  have : toldS ⟨[], [stS], 1⟩ = lit_7374617465203020302030203020302030203020300a73746f7020310a := by decide +kernel
  rw [this]
  simp
end
section
open Go.Sl
set_option linter.unusedVariables false
set_option linter.unusedSimpArgs false
set_option maxRecDepth 100000
abbrev bl (s : ByteArray) : List UInt8 := s.data.toList
theorem bl_inj {a b : ByteArray} (h : bl a = bl b) : a = b := by
  cases a; cases b
  simp only [bl, ByteArray.mk.injEq] at h ⊢
  exact Array.toList_inj.1 h
theorem bl_app (a b : ByteArray) : bl (a ++ b) = bl a ++ bl b := by
  show (a ++ b).data.toList = _
  rw [ByteArray.data_append, Array.toList_append]
theorem bl_size (a : ByteArray) : a.size = (bl a).length := by
  show a.data.size = a.data.toList.length
  rw [Array.length_toList]
theorem indexByte_at (x : UInt8) : ∀ (a r : List UInt8), x ∉ a → Lib.indexByte (a ++ x :: r) x = (a.length : Int)
  | [], r, _ => by simp [Lib.indexByte]
  | b :: a, r, h => by
    have hb : b ≠ x := fun e => h (by rw [e]; exact List.mem_cons_self)
    have ih := indexByte_at x a r fun hm => h (List.mem_cons_of_mem _ hm)
    rw [List.cons_append, Lib.indexByte, if_neg (by simpa using hb), ih, if_neg (by simp), List.length_cons]
    omega
theorem partNo {x : UInt8} {a : ByteArray} (h : x ∉ bl a) : splitL a x = [a] := by
  have e : Lib.countB a ⟨#[x]⟩ = 0 := by
    show Lib.count (bl a) [x] = 0
    rw [Lib.count_one]
    exact List.count_eq_zero.2 h
  unfold splitL
  rw [e]
  rfl
theorem partAt {x : UInt8} {a r : ByteArray} (h : x ∉ bl a) : splitL (a ++ (⟨#[x]⟩ ++ r)) x = a :: splitL r x := by
  have eb : bl (a ++ (⟨#[x]⟩ ++ r)) = bl a ++ x :: bl r := by rw [bl_app, bl_app]; rfl
  have e : Lib.countB (a ++ (⟨#[x]⟩ ++ r)) ⟨#[x]⟩ = Lib.countB r ⟨#[x]⟩ + 1 := by
    show Lib.count (bl (a ++ (⟨#[x]⟩ ++ r))) [x] = Lib.count (bl r) [x] + 1
    rw [Lib.count_one, Lib.count_one, eb, List.count_append, List.count_cons_self, List.count_eq_zero.2 h]
    omega
  have ei : Lib.indexB (a ++ (⟨#[x]⟩ ++ r)) ⟨#[x]⟩ = ((a.size : Nat) : Int) := by
    show Lib.index (bl (a ++ (⟨#[x]⟩ ++ r))) [x] = _
    rw [Lib.index_one, eb, indexByte_at x _ _ h, bl_size]
  unfold splitL
  rw [e, Lib.splitB_hit _ _ _ _ _ ei]
  congr 1
  · apply bl_inj
    show (ByteArray.extract _ _ _).data.toList = _
    rw [Lib.extract_data]
    show List.take _ (List.drop 0 (bl (a ++ (⟨#[x]⟩ ++ r)))) = _
    rw [eb, List.drop_zero, bl_size]
    simp
  · congr 1
    apply bl_inj
    show (ByteArray.extract _ _ _).data.toList = _
    rw [Lib.extract_data]
    show List.take _ (List.drop _ (bl (a ++ (⟨#[x]⟩ ++ r)))) = _
    have hs : (a ++ (⟨#[x]⟩ ++ r)).size = a.size + (1 + r.size) := by rw [ByteArray.size_append, ByteArray.size_append]; rfl
    rw [eb, hs, show (⟨#[x]⟩ : ByteArray).size = 1 from rfl]
    have hd : List.drop (a.size + 1) (bl a ++ x :: bl r) = bl r := by
      rw [bl_size, List.drop_append]
      simp
    rw [hd]
    apply List.take_of_length_le
    rw [← bl_size]
    omega
theorem bl_itoa (n : Int) : bl (itoaB n) = Lib.itoa n := by simp [bl, itoaB]
theorem dec_dig (u : Nat) : ∀ b ∈ Lib.decDigits u, 48 ≤ b.toNat ∧ b.toNat ≤ 57 := by
  induction u using Nat.strongRecOn with
  | _ u ih =>
    intro b hb
    rw [Lib.decDigits] at hb
    split at hb
    · rename_i h
      rw [List.mem_singleton.1 hb]
      rw [UInt8.toNat_ofNat']
      omega
    · rename_i h
      rcases List.mem_append.1 hb with hb | hb
      · exact ih (u / 10) (by omega) b hb
      · rw [List.mem_singleton.1 hb, UInt8.toNat_ofNat']
        omega
theorem dec_ne (u : Nat) : Lib.decDigits u ≠ [] := by
  rw [Lib.decDigits]
  split <;> simp
theorem pum_snoc (M : Nat) (c : UInt8) : ∀ (l : List UInt8) (acc a : Nat), Lib.parseUintM M acc l = .ok a → Lib.parseUintM M acc (l ++ [c]) = Lib.parseUintM M a [c]
  | [], acc, a, h => by
    simp only [Lib.parseUintM, Lib.NumEnd.ok.injEq] at h
    rw [h]; rfl
  | d :: l, acc, a, h => by
    rw [List.cons_append]
    unfold Lib.parseUintM at h ⊢
    split at h
    · rename_i h1
      rw [if_pos h1]
      split at h
      · cases h
      · rename_i h2
        rw [if_neg h2]
        split at h
        · cases h
        · rename_i h3
          rw [if_neg h3]
          exact pum_snoc M c l _ a h
    · cases h
theorem pum_dec {M : Nat} (hM : M ≤ 18446744073709551615) (u : Nat) (h : u ≤ M) (h2 : u ≤ 9223372036854775808) : Lib.parseUintM M 0 (Lib.decDigits u) = .ok u := by
  induction u using Nat.strongRecOn with
  | _ u ih =>
    rw [Lib.decDigits]
    split
    · rename_i hu
      have e : (UInt8.ofNat (48 + u)).toNat = 48 + u := by rw [UInt8.toNat_ofNat']; omega
      unfold Lib.parseUintM
      rw [e, if_pos (by omega), if_neg (by omega), if_neg (by omega)]
      unfold Lib.parseUintM
      congr 1
      omega
    · rename_i hu
      have e : (UInt8.ofNat (48 + u % 10)).toNat = 48 + u % 10 := by rw [UInt8.toNat_ofNat']; omega
      rw [pum_snoc M _ _ 0 (u / 10) (ih (u / 10) (by omega) (by omega) (by omega))]
      unfold Lib.parseUintM
      rw [e, if_pos (by omega), if_neg (by omega), if_neg (by omega)]
      unfold Lib.parseUintM
      congr 1
      omega
theorem parse_itoa {n : Int} (h : -4611686018427387904 ≤ n ∧ n ≤ 4611686018427387904) : parseN (itoaB n) = some n := by
  have key : Lib.parseIntB 64 (Lib.itoa n) = .ok n := by
    unfold Lib.itoa
    by_cases h0 : n < 0
    · rw [if_pos h0]
      unfold Lib.parseIntB
      simp only [show (45 : UInt8).toNat = 45 from rfl, or_true, if_true]
      unfold Lib.parseUintB
      rw [if_neg (dec_ne _), pum_dec (by decide) _ (by omega) (by omega)]
      simp only [not_true_eq_false, false_and, if_false, true_and]
      rw [if_neg (by omega)]
      congr 1
      omega
    · rw [if_neg h0]
      have hp := pum_dec (M := 2 ^ 64 - 1) (by decide) n.toNat (by omega) (by omega)
      have hdg := dec_dig n.toNat
      cases hl : Lib.decDigits n.toNat with
      | nil => exact absurd hl (dec_ne _)
      | cons c r =>
        rw [hl] at hp hdg
        have hc := hdg c List.mem_cons_self
        unfold Lib.parseIntB
        simp only
        rw [if_neg (by omega)]
        unfold Lib.parseUintB
        rw [if_neg (by simp), hp]
        simp only
        rw [if_neg (by omega), if_neg (by omega), if_neg (by omega)]
        congr 1
        omega
  unfold parseN
  have e : (itoaB n).data.toList = Lib.itoa n := bl_itoa n
  rw [e, key]
theorem dec_len19 {u : Nat} (h : u ≤ 9223372036854775808) : (Lib.decDigits u).length ≤ 19 := by
  rw [dec_len]
  exact Nat.le_trans (nDigits_mono u _ h) (Nat.le_of_eq (Lib.nDigits_unique 18 9223372036854775808 (by decide) (by decide)))
theorem itR_at {s : ByteArray} {k : Nat} (h : k < (bl s).length) (ha : ((bl s)[k]).toNat < 128) : itR s (k : Int) = (((bl s)[k]).toNat : Int) ∧ itS s (k : Int) = 1 := by
  have hk : k < s.size := by rw [bl_size]; exact h
  have e : s[k]'hk = (bl s)[k] := by
    show s.data[k] = s.data.toList[k]
    rw [Array.getElem_toList]
  have := decode_ascii s k hk (by rw [e]; exact ha)
  unfold itR itS
  rw [Int.toNat_natCast, this, e]
  exact ⟨rfl, rfl⟩
theorem num_eq {n : Int} (h : -4611686018427387904 ≤ n ∧ n ≤ 4611686018427387904) : script_number.f (itoaB n) = some (n, true) := by
  have hb := bl_itoa n
  have hz : (itoaB n).size = (Lib.itoa n).length := by rw [bl_size, hb]
  have fin : ∀ c : Int, c ≤ 19 → script_number.l4b (itoaB n) (c, ((itoaB n).size : Int)) = some (.inr (n, true)) := fun c hc => by
    have hs := itoa_size (n := n) (by omega) (by omega)
    unfold script_number.l4b
    dsimp only
    rw [if_neg (by omega), if_pos (by omega), parse_itoa h]
    simp only [Option.bind_some]
    rw [if_pos hc, if_pos h.1, if_pos h.2, if_pos (by omega)]
    simp
  have step : ∀ (k : Nat) (hk : k < (Lib.itoa n).length) (c : Int), 0 ≤ c → c ≤ 30 → 48 ≤ ((Lib.itoa n)[k]).toNat → ((Lib.itoa n)[k]).toNat ≤ 57 → script_number.l4b (itoaB n) (c, (k : Int)) = some (.inl (c + 1, ((k + 1 : Nat) : Int))) := fun k hk c hc0 hc h1 h2 => by
    have hk' : k < (bl (itoaB n)).length := by rw [hb]; exact hk
    have eg : (bl (itoaB n))[k] = (Lib.itoa n)[k] := List.getElem_of_eq hb _
    obtain ⟨e1, e2⟩ := itR_at hk' (by rw [eg]; omega)
    rw [eg] at e1
    unfold script_number.l4b
    dsimp only
    rw [if_pos (by omega), if_pos (by omega), e1, e2, if_pos (by omega), if_pos (by omega), w64 (by omega) (by omega)]
    rfl
  unfold script_number.f script_number.l4
  by_cases h0 : n < 0
  · have ei : Lib.itoa n = 45 :: Lib.decDigits n.natAbs := by unfold Lib.itoa; rw [if_pos h0]
    have hl := dec_len19 (u := n.natAbs) (by omega)
    have hd := dec_dig n.natAbs
    have hlen : (Lib.itoa n).length = (Lib.decDigits n.natAbs).length + 1 := by rw [ei]; rfl
    have key := loopR_steps (body := script_number.l4b (itoaB n)) (fun k => (((k - 1 : Nat) : Int), ((k : Nat) : Int))) (Lib.itoa n).length (r := (n, true)) (fun k hk => ?_) ?_
    · exact key
    · cases k with
      | zero =>
        have hk' : 0 < (bl (itoaB n)).length := by rw [hb]; exact hk
        have eg : (bl (itoaB n))[0] = 45 := by simp only [hb, ei]; rfl
        obtain ⟨e1, e2⟩ := itR_at hk' (by rw [eg]; decide)
        rw [eg] at e1
        show script_number.l4b (itoaB n) (0, 0) = _
        unfold script_number.l4b
        dsimp only
        have e1 : itR (itoaB n) 0 = 45 := e1
        have e2 : itS (itoaB n) 0 = 1 := e2
        rw [if_pos (by omega), if_pos (by omega), e1, e2, if_neg (by omega), if_pos rfl, if_neg (by omega)]
        rfl
      | succ j =>
        have eg : (Lib.itoa n)[j + 1] = (Lib.decDigits n.natAbs)[j]'(by omega) := by simp only [ei]; rfl
        have := hd _ (List.getElem_mem (l := Lib.decDigits n.natAbs) (n := j) (by omega))
        have := step (j + 1) hk (j : Int) (by omega) (by omega) (by rw [eg]; exact this.1) (by rw [eg]; exact this.2)
        exact this
    · have := fin (((Lib.itoa n).length - 1 : Nat) : Int) (by omega)
      rw [hz] at this
      exact this
  · have ei : Lib.itoa n = Lib.decDigits n.toNat := by unfold Lib.itoa; rw [if_neg h0]
    have hl := dec_len19 (u := n.toNat) (by omega)
    have hd := dec_dig n.toNat
    have key := loopR_steps (body := script_number.l4b (itoaB n)) (fun k => (((k : Nat) : Int), ((k : Nat) : Int))) (Lib.itoa n).length (r := (n, true)) (fun k hk => ?_) ?_
    · exact key
    · have := hd _ (by rw [← ei]; exact List.getElem_mem hk)
      exact step k hk (k : Int) (by omega) (by rw [ei] at hk; omega) this.1 this.2
    · have := fin ((Lib.itoa n).length : Int) (by rw [ei]; omega)
      rw [hz] at this
      exact this
end
section
open Go.Sl
set_option linter.unusedVariables false
set_option linter.unusedSimpArgs false
set_option maxRecDepth 100000
def oor (n : Int) : Bool := decide (n < -4611686018427387904) || decide (4611686018427387904 < n)
def lnP (st : ByteArray × Bool) (x : ByteArray × List Int) : ByteArray × Bool :=
  if (st.2 || x.2.any oor) = true then (st.1, st.2 || x.2.any oor) else if 65536 < (st.1.size : Int) then (st.1, st.2 || x.2.any oor) else (st.1 ++ line x.1 x.2, st.2 || x.2.any oor)
theorem wl8_eq (s : ByteArray) (q : Bool) (w : ByteArray) (l : List Int) (h : ∀ n ∈ l, R64 n) (hl : l.length ≤ 1000) (hb : s.size + w.size + 21 * l.length + 1 ≤ 140737488355328) : script_writer_line.l8 l q (s ++ w, 0) = some (s ++ line w l, q) := by
  unfold script_writer_line.l8
  have key := loopR_steps (body := script_writer_line.l8b l q) (fun k => ((s ++ w) ++ catW (l.take k), ((k : Nat) : Int))) l.length (r := ((s ++ w) ++ catW l ++ lit_0a, q)) (fun k hk => ?_) ?_
  · simp only [List.take_zero, catW, ba_append_empty] at key
    rw [show ((0 : Nat) : Int) = 0 from rfl] at key
    rw [key, line]
    simp only [ByteArray.append_assoc]
  · have hr := h _ (List.getElem_mem hk)
    have ht := catW_size (l.take k) fun n hn => h n (List.mem_of_mem_take hn)
    have hw := wd_size hr
    rw [List.length_take] at ht
    have h1 := itoa_size hr.1 hr.2
    unfold script_writer_line.l8b
    dsimp only
    rw [if_pos (by omega), if_pos (by omega), nth_nat hk, if_pos hr, if_pos (by rw [show lit_20.size = 1 from rfl]; omega), if_pos (by rw [ByteArray.size_append, ByteArray.size_append]; unfold wd at hw; omega),
      w64 (x := ((k : Nat) : Int) + 1) (by omega) (by omega), List.take_succ_eq_append_getElem hk, catW_append]
    simp [catW, wd, ByteArray.append_assoc]
  · have ht := catW_size l h
    unfold script_writer_line.l8b
    dsimp only
    rw [if_neg (by omega), List.take_length, if_pos (by rw [ByteArray.size_append, ByteArray.size_append, show lit_0a.size = 1 from rfl]; omega)]
    rfl
theorem wl_eq (s : ByteArray) (q : Bool) (w : ByteArray) (l : List Int) (h : ∀ n ∈ l, R64 n) (hl : l.length ≤ 1000) (hb : s.size + w.size + 21 * l.length + 1 ≤ 140737488355328) : script_writer_line.f s q w l = some (lnP (s, q) (w, l)) := by
  unfold script_writer_line.f script_writer_line.l6
  have key := loopR_steps (body := script_writer_line.l6b s w l) (fun k => (q || (l.take k).any oor, ((k : Nat) : Int))) l.length (r := lnP (s, q) (w, l)) (fun k hk => ?_) ?_
  · simpa using key
  · unfold script_writer_line.l6b
    dsimp only
    rw [if_pos (by omega), if_pos (by omega), nth_nat hk, w64 (x := ((k : Nat) : Int) + 1) (by omega) (by omega), List.take_succ_eq_append_getElem hk, List.any_append, ← Bool.or_assoc]
    cases hq : (q || (l.take k).any oor) with
    | true => simp
    | false =>
      simp only [List.any_cons, List.any_nil, Bool.or_false, Bool.false_or, oor, Bool.false_eq_true, if_false]
      by_cases h1 : l[k] < -4611686018427387904
      · rw [if_pos h1]; simp [h1]
      · rw [if_neg h1]; simp [h1]
  · unfold script_writer_line.l6b lnP
    dsimp only
    rw [if_neg (by omega), List.take_length]
    cases hq : (q || l.any oor) with
    | true => simp
    | false =>
      simp only [Bool.false_eq_true, if_false]
      by_cases hz : 65536 < (s.size : Int)
      · rw [if_pos hz, if_pos hz]; rfl
      · rw [if_neg hz, if_neg hz, if_pos (by omega), wl8_eq s false w l h hl hb]; rfl
theorem many_eq (l : List Int) (hl : l.length ≤ 1000) : script_many.f l = some l := by
  unfold script_many.f script_many.l2
  have key := loopR_steps (body := script_many.l2b l) (fun k => (l.take k, ((k : Nat) : Int))) l.length (r := l) (fun k hk => ?_) ?_
  · simpa using key
  · unfold script_many.l2b
    dsimp only
    rw [if_pos (by omega), if_pos (by omega), if_pos (by rw [List.length_take]; omega), nth_nat hk, w64 (x := ((k : Nat) : Int) + 1) (by omega) (by omega), List.take_succ_eq_append_getElem hk]
    rfl
  · unfold script_many.l2b
    dsimp only
    rw [if_neg (by omega), List.take_length]
abbrev It := ByteArray × List Int
def opI (o : api_Instr) : It := (lit_op, [o.Op, o.A, o.B, o.C])
def linkI (l : api_Link) : It := (lit_link, [l.From, l.To, l.Look, if l.Loose = true then 1 else 0])
def startI (s : api_Start) : It := (lit_start, [s.To, s.Time, s.Value])
def pickI (p : api_Pick) : It := (lit_pick, [p.What, p.A, p.B])
def progI (p : List api_Instr) : List It := (lit_lane, []) :: p.map opI
def GI (x : It) : Prop := x.1.size ≤ 6 ∧ x.2.length ≤ 4 ∧ ∀ n ∈ x.2, R64 n
def GL (L : List It) : Prop := ∀ x ∈ L, GI x
def foldP (st : ByteArray × Bool) (L : List It) : ByteArray × Bool := L.foldl lnP st
theorem lnP_size {st : ByteArray × Bool} {x : It} (h : st.1.size ≤ 65700) (hx : GI x) : (lnP st x).1.size ≤ 65700 := by
  unfold lnP
  have := line_size x.1 x.2 hx.2.2
  have h1 := hx.1
  have h2 := hx.2.1
  split
  · exact h
  · split
    · exact h
    · show (st.1 ++ line x.1 x.2).size ≤ 65700
      rw [ByteArray.size_append]
      omega
theorem foldP_size : ∀ {L : List It} {st : ByteArray × Bool}, st.1.size ≤ 65700 → GL L → (foldP st L).1.size ≤ 65700
  | [], st, h, _ => h
  | x :: L, st, h, hL => foldP_size (L := L) (lnP_size h (hL x List.mem_cons_self)) fun y hy => hL y (List.mem_cons_of_mem _ hy)
theorem GL.take {L : List It} (h : GL L) (k : Nat) : GL (L.take k) := fun x hx => h x (List.mem_of_mem_take hx)
theorem foldP_succ {st : ByteArray × Bool} {L : List It} {k : Nat} (hk : k < L.length) : foldP st (L.take (k + 1)) = lnP (foldP st (L.take k)) L[k] := by
  rw [List.take_succ_eq_append_getElem hk, foldP, List.foldl_append]; rfl
theorem foldP_append (st : ByteArray × Bool) (L M : List It) : foldP st (L ++ M) = foldP (foldP st L) M := List.foldl_append
theorem item_eq (st : ByteArray × Bool) (x : It) (h : st.1.size ≤ 65700) (hx : GI x) : script_writer_line.f st.1 st.2 x.1 x.2 = some (lnP st x) := by
  have h1 := hx.1
  have h2 := hx.2.1
  exact wl_eq st.1 st.2 x.1 x.2 hx.2.2 (by omega) (by omega)
theorem loopP {α R : Type} {body : ByteArray × Bool × Int → Option ((ByteArray × Bool × Int) ⊕ R)} (xs : List α) (it : α → It) (st : ByteArray × Bool) {r : R} (hs : st.1.size ≤ 65700) (hG : GL (xs.map it))
    (hb : ∀ (k : Nat) (hk : k < xs.length) (s : ByteArray) (q : Bool), s.size ≤ 65700 → body (s, q, (k : Int)) = some (.inl ((lnP (s, q) (it xs[k])).1, (lnP (s, q) (it xs[k])).2, ((k + 1 : Nat) : Int))))
    (he : body ((foldP st (xs.map it)).1, (foldP st (xs.map it)).2, ((xs.length : Nat) : Int)) = some (.inr r)) : loopR body (st.1, st.2, 0) = some r := by
  have key := loopR_steps (body := body) (fun k => ((foldP st ((xs.map it).take k)).1, (foldP st ((xs.map it).take k)).2, ((k : Nat) : Int))) xs.length (r := r) (fun k hk => ?_) ?_
  · simpa [foldP] using key
  · have hk' : k < (xs.map it).length := by simpa using hk
    rw [hb k hk _ _ (foldP_size hs (hG.take k)), foldP_succ hk', List.getElem_map]
  · rw [show (xs.map it).take xs.length = xs.map it by rw [← List.length_map (f := it)]; exact List.take_length]
    exact he
theorem GI_op {o : api_Instr} (h : ok_api_Instr o) : GI (opI o) := by
  obtain ⟨h1, h2, h3, h4⟩ := h
  refine ⟨by show lit_op.size ≤ 6; decide, by simp [opI], fun n hn => ?_⟩
  simp only [opI, List.mem_cons, List.not_mem_nil, or_false] at hn
  rcases hn with rfl | rfl | rfl | rfl
  · exact wfR h1
  · exact wfR h2
  · exact wfR h3
  · exact wfR h4
theorem GI_link {o : api_Link} (h : ok_api_Link o) : GI (linkI o) := by
  obtain ⟨h1, h2, h3, h4⟩ := h
  refine ⟨by show lit_link.size ≤ 6; decide, by simp [linkI], fun n hn => ?_⟩
  simp only [linkI, List.mem_cons, List.not_mem_nil, or_false] at hn
  rcases hn with rfl | rfl | rfl | rfl
  · exact wfR h1
  · exact wfR h2
  · exact wfR h3
  · split <;> exact ⟨by decide, by decide⟩
theorem GI_start {o : api_Start} (h : ok_api_Start o) : GI (startI o) := by
  obtain ⟨h1, h2, h3⟩ := h
  refine ⟨by show lit_start.size ≤ 6; decide, by simp [startI], fun n hn => ?_⟩
  simp only [startI, List.mem_cons, List.not_mem_nil, or_false] at hn
  rcases hn with rfl | rfl | rfl
  · exact wfR h1
  · exact wfR h2
  · exact wfR h3
theorem GI_pick {o : api_Pick} (h : ok_api_Pick o) : GI (pickI o) := by
  obtain ⟨h1, h2, h3⟩ := h
  refine ⟨by show lit_pick.size ≤ 6; decide, by simp [pickI], fun n hn => ?_⟩
  simp only [pickI, List.mem_cons, List.not_mem_nil, or_false] at hn
  rcases hn with rfl | rfl | rfl
  · exact wfR h1
  · exact wfR h2
  · exact wfR h3
theorem GI_lane : GI (lit_lane, []) := ⟨by decide, by decide, fun n hn => by cases hn⟩
theorem GL_map {α : Type} {xs : List α} {it : α → It} (h : ∀ x ∈ xs, GI (it x)) : GL (xs.map it) := fun y hy => by
  obtain ⟨x, hx, rfl⟩ := List.mem_map.1 hy
  exact h x hx
theorem GL_prog {p : List api_Instr} (h : ∀ x ∈ p, ok_api_Instr x) : GL (progI p) := fun y hy => by
  rcases List.mem_cons.1 hy with rfl | hy
  · exact GI_lane
  · exact GL_map (it := opI) (fun x hx => GI_op (h x hx)) y hy
def finP (st : ByteArray × Bool) : ByteArray × Int := if st.2 = true then (lit_, 1) else if 65536 < (st.1.size : Int) then (lit_, 2) else (st.1, 0)
section
variable {m : api_Model} {p : List api_Pick}
theorem len_of {α : Type} {ok : α → Prop} {b : Nat} {xs : List α} (h : okl ok b xs) (hb : 1 ≤ b) : (xs.length : Int) ≤ 140737488355328 := by
  have h1 := h.2
  have h2 : xs.length * 1 ≤ xs.length * b := Nat.mul_le_mul_left _ hb
  have h3 : reachBytes ≤ 140737488355328 := by decide
  omega
theorem l64_eq (hp : okl ok_api_Pick 24 p) (st : ByteArray × Bool) (hs : st.1.size ≤ 65700) : script_Print.l64 p (st.1, st.2, 0) = some (finP (foldP st (p.map pickI))) := by
  have hn := len_of hp (by decide)
  refine loopP p pickI st hs (GL_map fun x hx => GI_pick (hp.1 x hx)) (fun k hk s q hsz => ?_) ?_
  · have hG := GI_pick (hp.1 _ (List.getElem_mem hk))
    unfold script_Print.l64b
    dsimp only
    rw [if_pos (by omega), if_pos (by omega), nth_nat hk, many_eq _ (by simp)]
    simp only [Option.bind_some]
    rw [show script_writer_line.f s q lit_pick [p[k].What, p[k].A, p[k].B] = some (lnP (s, q) (pickI p[k])) from item_eq (s, q) (pickI p[k]) hsz hG]
    simp only [Option.bind_some]
    rw [w64 (x := ((k : Nat) : Int) + 1) (by omega) (by omega)]
    rfl
  · unfold script_Print.l64b
    dsimp only
    rw [if_neg (by omega)]
    unfold finP
    split
    · rfl
    · split <;> rfl
theorem l62_eq (hm : okl ok_api_Start 24 m.Starts) (hp : okl ok_api_Pick 24 p) (st : ByteArray × Bool) (hs : st.1.size ≤ 65700) : script_Print.l62 m p (st.1, st.2, 0) = some (finP (foldP st (m.Starts.map startI ++ p.map pickI))) := by
  have hn := len_of hm (by decide)
  have hL : GL (m.Starts.map startI) := GL_map fun x hx => GI_start (hm.1 x hx)
  refine loopP m.Starts startI st hs hL (fun k hk s q hsz => ?_) ?_
  · have hG := GI_start (hm.1 _ (List.getElem_mem hk))
    unfold script_Print.l62b
    dsimp only
    rw [if_pos (by omega), if_pos (by omega), nth_nat hk]
    rw [show script_writer_line.f s q lit_start [m.Starts[k].To, m.Starts[k].Time, m.Starts[k].Value] = some (lnP (s, q) (startI m.Starts[k])) from item_eq (s, q) (startI m.Starts[k]) hsz hG]
    simp only [Option.bind_some]
    rw [w64 (x := ((k : Nat) : Int) + 1) (by omega) (by omega)]
    rfl
  · unfold script_Print.l62b
    dsimp only
    rw [if_neg (by omega), l64_eq hp _ (foldP_size hs hL), foldP_append]
    rfl
theorem l58_eq (hl : okl ok_api_Link 32 m.Links) (hm : okl ok_api_Start 24 m.Starts) (hp : okl ok_api_Pick 24 p) (st : ByteArray × Bool) (hs : st.1.size ≤ 65700) :
    script_Print.l58 m p (st.1, st.2, 0) = some (finP (foldP st (m.Links.map linkI ++ (m.Starts.map startI ++ p.map pickI)))) := by
  have hn := len_of hl (by decide)
  have hL : GL (m.Links.map linkI) := GL_map fun x hx => GI_link (hl.1 x hx)
  refine loopP m.Links linkI st hs hL (fun k hk s q hsz => ?_) ?_
  · have hG := GI_link (hl.1 _ (List.getElem_mem hk))
    have hi := item_eq (s, q) (linkI m.Links[k]) hsz hG
    unfold linkI at hi
    unfold script_Print.l58b
    dsimp only at hi ⊢
    rw [if_pos (by omega), if_pos (by omega)]
    unfold script_Print.j60
    rw [nth_nat hk, w64 (x := ((k : Nat) : Int) + 1) (by omega) (by omega)]
    split
    · rename_i hc
      rw [if_pos hc] at hi
      rw [hi]
      unfold linkI
      rw [if_pos hc]
      rfl
    · rename_i hc
      rw [if_neg hc] at hi
      rw [hi]
      unfold linkI
      rw [if_neg hc]
      rfl
  · unfold script_Print.l58b
    dsimp only
    rw [if_neg (by omega), l62_eq hm hp _ (foldP_size hs hL), foldP_append st (m.Links.map linkI)]
    rfl
theorem l46_eq {x : Nat} (hx : x < m.Progs.length) (hx2 : m.Progs.length ≤ 140737488355328) (hm : okl ok_api_Instr 32 m.Progs[x]) (st : ByteArray × Bool) (hs : st.1.size ≤ 65700) :
    script_Print.l46 m (x : Int) (st.1, st.2, 0) = some (.inl ((foldP st (m.Progs[x].map opI)).1, (foldP st (m.Progs[x].map opI)).2, ((x + 1 : Nat) : Int))) := by
  have hn := len_of hm (by decide)
  have hL : GL (m.Progs[x].map opI) := GL_map fun y hy => GI_op (hm.1 y hy)
  refine loopP m.Progs[x] opI st hs hL (fun k hk s q hsz => ?_) ?_
  · have hG := GI_op (hm.1 _ (List.getElem_mem hk))
    unfold script_Print.l46b
    dsimp only
    rw [nth_nat hx, if_pos (by omega), if_pos (by omega), nth_nat hk, many_eq _ (by simp)]
    simp only [Option.bind_some]
    rw [show script_writer_line.f s q lit_op [m.Progs[x][k].Op, m.Progs[x][k].A, m.Progs[x][k].B, m.Progs[x][k].C] = some (lnP (s, q) (opI m.Progs[x][k])) from item_eq (s, q) (opI m.Progs[x][k]) hsz hG]
    simp only [Option.bind_some]
    rw [w64 (x := ((k : Nat) : Int) + 1) (by omega) (by omega)]
    rfl
  · unfold script_Print.l46b
    dsimp only
    rw [nth_nat hx, if_neg (by omega), w64 (x := ((x : Nat) : Int) + 1) (by omega) (by omega)]
    rfl
def restI (m : api_Model) (p : List api_Pick) : List It := m.Links.map linkI ++ (m.Starts.map startI ++ p.map pickI)
theorem l44_eq (hg : okl (okl ok_api_Instr 32) 24 m.Progs) (hl : okl ok_api_Link 32 m.Links) (hm : okl ok_api_Start 24 m.Starts) (hp : okl ok_api_Pick 24 p) (st : ByteArray × Bool) (hs : st.1.size ≤ 65700) :
    script_Print.l44 m p (st.1, st.2, 0) = some (finP (foldP st (m.Progs.flatMap progI ++ restI m p))) := by
  have hn := len_of hg (by decide)
  have hGk : ∀ k, GL ((m.Progs.take k).flatMap progI) := fun k y hy => by
    obtain ⟨q, hq, hy⟩ := List.mem_flatMap.1 hy
    exact GL_prog (hg.1 q (List.mem_of_mem_take hq)).1 y hy
  unfold script_Print.l44
  have key := loopR_steps (body := script_Print.l44b m p) (fun k => ((foldP st ((m.Progs.take k).flatMap progI)).1, (foldP st ((m.Progs.take k).flatMap progI)).2, ((k : Nat) : Int))) m.Progs.length (r := finP (foldP st (m.Progs.flatMap progI ++ restI m p))) (fun k hk => ?_) ?_
  · simpa [foldP] using key
  · have hsz := foldP_size hs (hGk k)
    unfold script_Print.l44b
    dsimp only
    rw [if_pos (by omega), if_pos (by omega)]
    rw [show script_writer_line.f (foldP st ((m.Progs.take k).flatMap progI)).1 (foldP st ((m.Progs.take k).flatMap progI)).2 lit_lane [] = _ from item_eq (foldP st ((m.Progs.take k).flatMap progI)) (lit_lane, []) hsz GI_lane]
    simp only [Option.bind_some]
    rw [l46_eq hk (by omega) (hg.1 _ (List.getElem_mem hk)) _ (lnP_size hsz GI_lane)]
    rw [List.take_succ_eq_append_getElem hk, List.flatMap_append, foldP_append]
    simp only [List.flatMap_cons, List.flatMap_nil, List.append_nil]
    rfl
  · unfold script_Print.l44b
    dsimp only
    rw [if_neg (by omega), List.take_length]
    have hA : GL (m.Progs.flatMap progI) := by have := hGk m.Progs.length; rwa [List.take_length] at this
    rw [l58_eq hl hm hp _ (foldP_size hs hA), foldP_append st (m.Progs.flatMap progI)]
    rfl
def seedN (m : api_Model) : Int := IntKind.i64.wrap (IntKind.u64.wrap (BitVec.ofInt IntKind.u64.bits m.Seed &&& ~~~ BitVec.ofInt IntKind.u64.bits 9223372036854775808).toNat)
def headI (m : api_Model) (c : api_Caps) : List It := [(lit_seed, [seedN m]), (lit_end, [m.End]), (lit_budget, [m.Budget]), (lit_caps, [c.Link, c.Wait, c.Log])]
def allI (m : api_Model) (c : api_Caps) (p : List api_Pick) : List It := headI m c ++ (m.Progs.flatMap progI ++ restI m p)
theorem wrapR (x : Int) : R64 (IntKind.i64.wrap x) := by rw [IntKind.wrap_i64]; constructor <;> omega
theorem GL_head {c : api_Caps} (hm : ok_api_Model m) (hc : ok_api_Caps c) : GL (headI m c) := by
  obtain ⟨_, _, _, _, h5, h6⟩ := hm
  obtain ⟨c1, c2, c3⟩ := hc
  intro x hx
  simp only [headI, List.mem_cons, List.not_mem_nil, or_false] at hx
  rcases hx with rfl | rfl | rfl | rfl
  · exact ⟨by show lit_seed.size ≤ 6; decide, by simp, fun n hn => by simp only [List.mem_cons, List.not_mem_nil, or_false] at hn; subst hn; exact wrapR _⟩
  · exact ⟨by show lit_end.size ≤ 6; decide, by simp, fun n hn => by simp only [List.mem_cons, List.not_mem_nil, or_false] at hn; subst hn; exact wfR h5⟩
  · exact ⟨by show lit_budget.size ≤ 6; decide, by simp, fun n hn => by simp only [List.mem_cons, List.not_mem_nil, or_false] at hn; subst hn; exact wfR h6⟩
  · refine ⟨by show lit_caps.size ≤ 6; decide, by simp, fun n hn => ?_⟩
    simp only [List.mem_cons, List.not_mem_nil, or_false] at hn
    rcases hn with rfl | rfl | rfl
    · exact wfR c1
    · exact wfR c2
    · exact wfR c3
theorem print_eq {c : api_Caps} (hm : ok_api_Model m) (hc : ok_api_Caps c) (hp : okl ok_api_Pick 24 p) : script_Print.f m c p = some (finP (foldP (ByteArray.empty, decide (4611686018427387904 < m.Seed)) (allI m c p))) := by
  have hH := GL_head hm hc
  have s0 : (ByteArray.empty, decide (4611686018427387904 < m.Seed)).1.size ≤ 65700 := by show ByteArray.empty.size ≤ 65700; decide
  have g1 := hH (lit_seed, [seedN m]) (by simp [headI])
  have g2 := hH (lit_end, [m.End]) (by simp [headI])
  have g3 := hH (lit_budget, [m.Budget]) (by simp [headI])
  have g4 := hH (lit_caps, [c.Link, c.Wait, c.Log]) (by simp [headI])
  have s1 := lnP_size s0 g1
  have s2 := lnP_size s1 g2
  have s3 := lnP_size s2 g3
  have s4 := lnP_size s3 g4
  obtain ⟨h1, h2, h3, _⟩ := hm
  unfold script_Print.f
  rw [show script_writer_line.f ByteArray.empty (decide (4611686018427387904 < m.Seed)) lit_seed [IntKind.i64.wrap (IntKind.u64.wrap (BitVec.ofInt IntKind.u64.bits m.Seed &&& ~~~ BitVec.ofInt IntKind.u64.bits 9223372036854775808).toNat)] = _ from item_eq _ (lit_seed, [seedN m]) s0 g1]
  simp only [Option.bind_some]
  rw [show script_writer_line.f _ _ lit_end [m.End] = _ from item_eq _ (lit_end, [m.End]) s1 g2]
  simp only [Option.bind_some]
  rw [show script_writer_line.f _ _ lit_budget [m.Budget] = _ from item_eq _ (lit_budget, [m.Budget]) s2 g3]
  simp only [Option.bind_some]
  rw [many_eq _ (by simp)]
  simp only [Option.bind_some]
  rw [show script_writer_line.f _ _ lit_caps [c.Link, c.Wait, c.Log] = _ from item_eq _ (lit_caps, [c.Link, c.Wait, c.Log]) s3 g4]
  simp only [Option.bind_some]
  rw [l44_eq h1 h2 h3 hp _ s4, allI, foldP_append _ (headI m c)]
  rfl
end
end
section
open Go.Sl
set_option linter.unusedVariables false
set_option linter.unusedSimpArgs false
set_option maxRecDepth 100000
def bodyI (x : It) : ByteArray := x.1 ++ catW x.2
def lineI (x : It) : ByteArray := line x.1 x.2
theorem lineI_eq (x : It) : lineI x = bodyI x ++ lit_0a := by simp [lineI, line, bodyI, ByteArray.append_assoc]
structure WI (x : It) : Prop where
  c : script_counts.f x.1 = some ((x.2.length : Int), true)
  n32 : (32 : UInt8) ∉ bl x.1
  n10 : (10 : UInt8) ∉ bl x.1
  hd : ∃ b t, bl x.1 = b :: t ∧ b ≠ 35
  len : x.2.length ≤ 4
  rg : ∀ n ∈ x.2, -4611686018427387904 ≤ n ∧ n ≤ 4611686018427387904
theorem itoa_no (n : Int) (b : UInt8) (h1 : b ≠ 45) (h2 : b.toNat < 48) : b ∉ bl (itoaB n) := fun h => by
  rw [bl_itoa, Lib.itoa] at h
  split at h
  · rcases List.mem_cons.1 h with h | h
    · exact h1 h
    · have := dec_dig _ b h
      omega
  · have := dec_dig _ b h
    omega
theorem split_cat : ∀ (l : List Int) (w : ByteArray), (32 : UInt8) ∉ bl w → splitL (w ++ catW l) 32 = w :: l.map itoaB
  | [], w, h => by
    rw [catW, ba_append_empty]
    exact partNo h
  | n :: l, w, h => by
    have e : w ++ catW (n :: l) = w ++ (⟨#[32]⟩ ++ (itoaB n ++ catW l)) := by
      show w ++ ((lit_20 ++ itoaB n) ++ catW l) = _
      rw [ByteArray.append_assoc]
      rfl
    rw [e, partAt h, split_cat l (itoaB n) (itoa_no n 32 (by decide) (by decide))]
    rfl
theorem body_split {x : It} (h : WI x) : splitL (bodyI x) 32 = x.1 :: x.2.map itoaB := split_cat x.2 x.1 h.n32
theorem cat_no10 : ∀ l : List Int, (10 : UInt8) ∉ bl (catW l)
  | [] => by
    intro h
    have : bl (catW []) = [] := rfl
    rw [this] at h
    cases h
  | n :: l => fun h => by
    have e : catW (n :: l) = (lit_20 ++ itoaB n) ++ catW l := rfl
    rw [e, bl_app, bl_app] at h
    rcases List.mem_append.1 h with h | h
    · rcases List.mem_append.1 h with h | h
      · revert h
        decide +kernel
      · exact itoa_no n 10 (by decide) (by decide) h
    · exact cat_no10 l h
theorem body_no10 {x : It} (h : WI x) : (10 : UInt8) ∉ bl (bodyI x) := fun hm => by
  rw [bodyI, bl_app] at hm
  rcases List.mem_append.1 hm with hm | hm
  · exact h.n10 hm
  · exact cat_no10 _ hm
theorem body_ne {x : It} (h : WI x) : bodyI x ≠ lit_ := fun e => by
  obtain ⟨b, t, hb, _⟩ := h.hd
  have := congrArg bl e
  rw [bodyI, bl_app, hb] at this
  cases this
theorem body_hash {x : It} (h : WI x) : hasP (bodyI x) lit_23 = false := by
  obtain ⟨b, t, hb, hn⟩ := h.hd
  unfold hasP Lib.hasPrefix
  have e : (bodyI x).data.toList = b :: (t ++ bl (catW x.2)) := by
    show bl (bodyI x) = _
    rw [bodyI, bl_app, hb]
    rfl
  rw [e, show lit_23.data.toList = [35] from rfl]
  simp only [List.isPrefixOf, Bool.and_eq_false_imp, beq_iff_eq]
  intro e
  exact absurd e.symm hn
theorem line_eq {x : It} (h : WI x) (hs : (bodyI x).size ≤ 65536) : script_Line.f (bodyI x) = some (x.1, x.2, 0) := by
  have hl := h.len
  have hsp := body_split h
  have hsub : subL (x.1 :: x.2.map itoaB) 1 (((x.1 :: x.2.map itoaB).length : Nat) : Int) = x.2.map itoaB := by
    unfold subL
    simp only [List.length_cons, List.length_map, Int.toNat_natCast]
    rw [show ((1 : Int).toNat) = 1 from rfl, List.drop_succ_cons, List.drop_zero]
    exact List.take_of_length_le (by simp)
  unfold script_Line.f
  rw [if_pos (by omega), hsp, if_pos (by simp only [List.length_cons]; omega), show nth (x.1 :: x.2.map itoaB) 0 = x.1 from rfl, h.c]
  simp only [Option.bind_some, if_true]
  rw [if_pos (by simp only [List.length_cons, List.length_map]; rw [w64 (by omega) (by omega)]; omega), if_pos (by simp only [List.length_cons]; omega)]
  unfold script_Line.l4
  have key := loopR_steps (body := script_Line.l4b (bodyI x)) (fun k => (x.2.take k, ((k : Nat) : Int))) x.2.length (r := (x.1, x.2, 0)) (fun k hk => ?_) ?_
  · exact key
  · have hr := h.rg _ (List.getElem_mem hk)
    unfold script_Line.l4b
    dsimp only
    rw [hsp, hsub, if_pos (by simp only [List.length_map]; omega), if_pos (by omega), nth_nat (by simpa using hk), List.getElem_map, num_eq hr]
    simp only [Option.bind_some, if_true]
    rw [if_pos (by rw [List.length_take]; omega), w64 (by omega) (by omega), List.take_succ_eq_append_getElem hk]
    rfl
  · unfold script_Line.l4b
    dsimp only
    rw [hsp, hsub, if_neg (by simp), List.take_length]
    rfl
theorem cc_cons (b : ByteArray) (l : List ByteArray) : cc (b :: l) = b ++ cc l := rfl
theorem split_text : ∀ (L : List It), (∀ x ∈ L, WI x) → splitL (cc (L.map lineI)) 10 = L.map bodyI ++ [lit_]
  | [], _ => by
    show splitL ByteArray.empty 10 = [lit_]
    rw [partNo (by intro h; cases h)]
    rfl
  | x :: L, h => by
    have hx := h x List.mem_cons_self
    have e : cc ((x :: L).map lineI) = bodyI x ++ (⟨#[10]⟩ ++ cc (L.map lineI)) := by
      rw [List.map_cons, cc_cons, lineI_eq, ByteArray.append_assoc]
      rfl
    rw [e, partAt (body_no10 hx), split_text L fun y hy => h y (List.mem_cons_of_mem _ hy)]
    rfl
inductive Run : script_reader → List It → script_reader → Prop
  | nil {r : script_reader} : Run r [] r
  | cons {r r1 r2 : script_reader} {x : It} {L : List It} (h : script_reader_take.f r x.1 x.2 = some (true, r1)) (hr : Run r1 L r2) : Run r (x :: L) r2
theorem Run.append {r r1 r2 : script_reader} {L M : List It} (h : Run r L r1) (h' : Run r1 M r2) : Run r (L ++ M) r2 := by
  induction h with
  | nil => exact h'
  | cons h _ ih => exact .cons h (ih h')
theorem read_loop {S : ByteArray} {n : Nat} (hlen : (splitL S 10).length = n) (hn : n ≤ 1000000) : ∀ (L : List It) (r r' : script_reader) (k : Nat), (splitL S 10).drop k = L.map bodyI ++ [lit_] → k + L.length + 1 = n → (∀ x ∈ L, WI x) → (∀ x ∈ L, (bodyI x).size ≤ 65536) → Run r L r' →
    loopR (script_read.l4b S) (r, (k : Int)) = some r'
  | [], r, r', k, hd, hk, _, _, hr => by
    cases hr
    have hk' : k < (splitL S 10).length := by simp at hk; omega
    rw [List.drop_eq_getElem_cons hk'] at hd
    injection hd with h1 h2
    simp only [List.length_nil] at hk
    have e1 : script_read.l4b S (r, (k : Int)) = some (.inl (r, (k : Int) + 1)) := by
      unfold script_read.l4b
      dsimp only
      rw [if_pos (by omega), if_pos (by omega), nth_nat hk', h1, if_pos rfl, w64 (by omega) (by omega)]
    have e2 : script_read.l4b S (r, (k : Int) + 1) = some (.inr r) := by
      unfold script_read.l4b
      dsimp only
      rw [if_neg (by omega)]
    rw [loopR_eq, e1]
    simp only [Option.bind_some, Sum.elim_inl]
    rw [loopR_eq, e2]
    rfl
  | x :: L, r, r', k, hd, hk, hW, hz, hr => by
    have hk' : k < (splitL S 10).length := by simp at hk; omega
    rw [List.drop_eq_getElem_cons hk'] at hd
    injection hd with h1 h2
    simp only [List.length_cons] at hk
    have hx := hW x List.mem_cons_self
    cases hr with
    | cons h hr =>
      rename_i r1
      have ih := read_loop hlen hn L r1 r' (k + 1) h2 (by omega) (fun y hy => hW y (List.mem_cons_of_mem _ hy)) (fun y hy => hz y (List.mem_cons_of_mem _ hy)) hr
      have e1 : script_read.l4b S (r, (k : Int)) = some (.inl (r1, ((k + 1 : Nat) : Int))) := by
        unfold script_read.l4b
        dsimp only
        rw [if_pos (by omega), if_pos (by omega), nth_nat hk', h1, if_neg (body_ne hx), body_hash hx, if_neg (by simp), line_eq hx (hz x List.mem_cons_self)]
        simp only [Option.bind_some, if_true]
        rw [h]
        simp only [Option.bind_some, if_true]
        rw [w64 (by omega) (by omega)]
        rfl
      rw [loopR_eq, e1]
      exact ih
def rd0 : script_reader := ⟨⟨([] : List (List api_Instr)), [], [], 0, 1000, 1000⟩, ⟨16, 64, 64⟩, []⟩
theorem cc_size_mem : ∀ (L : List It) (x : It), x ∈ L → (lineI x).size ≤ (cc (L.map lineI)).size
  | y :: L, x, h => by
    rw [List.map_cons, cc_cons, ByteArray.size_append]
    rcases List.mem_cons.1 h with rfl | h
    · omega
    · have := cc_size_mem L x h
      omega
theorem cc_len : ∀ (L : List It), L.length ≤ (cc (L.map lineI)).size
  | [] => Nat.zero_le _
  | y :: L => by
    have h1 : 1 ≤ (lineI y).size := by rw [lineI_eq, ByteArray.size_append, show lit_0a.size = 1 from rfl]; omega
    have h2 := cc_len L
    rw [List.map_cons, cc_cons, ByteArray.size_append, List.length_cons]
    omega
theorem parse_eq {L : List It} (hW : ∀ x ∈ L, WI x) (hs : (cc (L.map lineI)).size ≤ 65536) {r : script_reader} (hr : Run rd0 L r) : script_Parse.f (cc (L.map lineI)) = some (r.m, r.c, r.picks, 0, 0) := by
  have hsp := split_text L hW
  have hl := cc_len L
  have hlen : (splitL (cc (L.map lineI)) 10).length = L.length + 1 := by rw [hsp]; simp
  have key := read_loop hlen (by omega) L rd0 r 0 (by rw [hsp]; rfl) (by omega) hW (fun x hx => by
    have h1 := cc_size_mem L x hx
    have h2 : (lineI x).size = (bodyI x).size + 1 := by rw [lineI_eq, ByteArray.size_append]; rfl
    omega) hr
  unfold script_Parse.f script_read.f
  rw [if_neg (by omega), if_pos (by omega)]
  rw [show script_read.l4 (cc (L.map lineI)) (⟨⟨[], [], [], 0, 1000, 1000⟩, ⟨16, 64, 64⟩, []⟩, 0) = some r from key]
  simp only [Option.bind_some]
  rw [show errors_As.f = some false from rfl]
  rfl
end
section
open Go.Sl
set_option linter.unusedVariables false
set_option linter.unusedSimpArgs false
set_option maxRecDepth 100000
abbrev InR (x : It) : Prop := x.2.any oor = false
def lnR (s : ByteArray) (x : It) : ByteArray := if 65536 < (s.size : Int) then s else s ++ line x.1 x.2
def foldR (s : ByteArray) (L : List It) : ByteArray := L.foldl lnR s
theorem foldR_big : ∀ {L : List It} {s : ByteArray}, 65536 < (s.size : Int) → foldR s L = s
  | [], s, _ => rfl
  | x :: L, s, h => by
    show foldR (lnR s x) L = s
    rw [lnR, if_pos h]
    exact foldR_big h
theorem seedN_eq {m : api_Model} (h0 : 0 ≤ m.Seed) (h : m.Seed ≤ 4611686018427387904) : seedN m = m.Seed := by
  have e1 : (BitVec.ofInt IntKind.u64.bits m.Seed).toNat = m.Seed.toNat := by
    show (BitVec.ofInt 64 m.Seed).toNat = m.Seed.toNat
    rw [BitVec.toNat_ofInt]
    omega
  have e2 : (~~~ BitVec.ofInt IntKind.u64.bits 9223372036854775808).toNat = 2 ^ 63 - 1 := by decide
  have e3 : (BitVec.ofInt IntKind.u64.bits m.Seed &&& ~~~ BitVec.ofInt IntKind.u64.bits 9223372036854775808).toNat = m.Seed.toNat := by
    rw [BitVec.toNat_and, e1, e2, Nat.and_two_pow_sub_one_eq_mod]
    omega
  unfold seedN
  rw [e3, IntKind.wrap_u64, IntKind.wrap_i64]
  omega
theorem foldP_snd : ∀ {L : List It} {st : ByteArray × Bool}, (foldP st L).2 = (st.2 || L.any fun x => x.2.any oor)
  | [], st => by simp [foldP]
  | x :: L, st => by
    have e : (lnP st x).2 = (st.2 || x.2.any oor) := by unfold lnP; split <;> (try split) <;> rfl
    show (foldP (lnP st x) L).2 = _
    rw [foldP_snd, e, List.any_cons, Bool.or_assoc]
theorem foldP_in : ∀ {L : List It} {s : ByteArray}, (∀ x ∈ L, InR x) → foldP (s, false) L = (foldR s L, false)
  | [], s, _ => rfl
  | x :: L, s, h => by
    have hx : x.2.any oor = false := h x List.mem_cons_self
    have e : lnP (s, false) x = (lnR s x, false) := by
      unfold lnP lnR
      rw [hx]
      simp only [Bool.or_false, Bool.false_eq_true, if_false]
      split <;> rfl
    show foldP (lnP (s, false) x) L = (foldR (lnR s x) L, false)
    rw [e]
    exact foldP_in fun y hy => h y (List.mem_cons_of_mem _ hy)
end
section
open Go.Sl
set_option linter.unusedVariables false
set_option linter.unusedSimpArgs false
set_option maxRecDepth 100000
section
variable {P : List (List api_Instr)} {L : List api_Link} {S : List api_Start} {sd en bu : Int} {c : api_Caps} {pk : List api_Pick}
theorem take_lane (h : (P.length + 1) * 24 ≤ 140737488355328) : script_reader_take.f ⟨⟨P, L, S, sd, en, bu⟩, c, pk⟩ lit_lane [] = some (true, ⟨⟨P ++ [[]], L, S, sd, en, bu⟩, c, pk⟩) := by
  unfold script_reader_take.f
  rw [if_pos rfl, if_pos h]
theorem take_seed {n : Int} (h : 0 ≤ n ∧ n ≤ 4611686018427387904) : script_reader_take.f ⟨⟨P, L, S, sd, en, bu⟩, c, pk⟩ lit_seed [n] = some (true, ⟨⟨P, L, S, n, en, bu⟩, c, pk⟩) := by
  unfold script_reader_take.f
  rw [if_neg (by decide +kernel), if_pos rfl, if_pos (by simp), show nth [n] 0 = n from rfl, decide_eq_true h.1, IntKind.wrap_u64]
  simp only [Option.some.injEq, Prod.mk.injEq, true_and, script_reader.mk.injEq, api_Model.mk.injEq, and_true]
  omega
theorem take_end {n : Int} : script_reader_take.f ⟨⟨P, L, S, sd, en, bu⟩, c, pk⟩ lit_end [n] = some (true, ⟨⟨P, L, S, sd, n, bu⟩, c, pk⟩) := by
  unfold script_reader_take.f
  rw [if_neg (by decide +kernel), if_neg (by decide +kernel), if_pos rfl, if_pos (by simp)]
  rfl
theorem take_budget {n : Int} : script_reader_take.f ⟨⟨P, L, S, sd, en, bu⟩, c, pk⟩ lit_budget [n] = some (true, ⟨⟨P, L, S, sd, en, n⟩, c, pk⟩) := by
  unfold script_reader_take.f
  rw [if_neg (by decide +kernel), if_neg (by decide +kernel), if_neg (by decide +kernel), if_pos rfl, if_pos (by simp)]
  rfl
theorem take_caps {d : api_Caps} : script_reader_take.f ⟨⟨P, L, S, sd, en, bu⟩, c, pk⟩ lit_caps [d.Link, d.Wait, d.Log] = some (true, ⟨⟨P, L, S, sd, en, bu⟩, d, pk⟩) := by
  unfold script_reader_take.f
  rw [if_neg (by decide +kernel), if_neg (by decide +kernel), if_neg (by decide +kernel), if_neg (by decide +kernel), if_pos rfl, if_pos (by simp), if_pos (by simp), if_pos (by simp)]
  rfl
theorem nth_snoc {α : Type} [Inhabited α] (P : List α) (a : α) : nth (P ++ [a]) (P.length : Int) = a := by
  rw [nth_nat (by simp)]
  simp
theorem setL_snoc {α : Type} (P : List α) (a b : α) : setL (P ++ [a]) (P.length : Int) b = P ++ [b] := by
  unfold setL
  rw [Int.toNat_natCast, List.set_append_right _ _ (Nat.le_refl _)]
  simp
theorem take_op {a : List api_Instr} {o : api_Instr} (hP : P.length ≤ 140737488355328) (h : (a.length + 1) * 32 ≤ 140737488355328) :
    script_reader_take.f ⟨⟨P ++ [a], L, S, sd, en, bu⟩, c, pk⟩ lit_op [o.Op, o.A, o.B, o.C] = some (true, ⟨⟨P ++ [a ++ [o]], L, S, sd, en, bu⟩, c, pk⟩) := by
  have hl : ((P ++ [a]).length : Int) = (P.length : Int) + 1 := by simp
  have hw : IntKind.i64.wrap (((P ++ [a]).length : Int) - 1) = (P.length : Int) := by rw [hl, w64 (by omega) (by omega)]; omega
  unfold script_reader_take.f
  dsimp only
  rw [if_neg (by decide +kernel), if_neg (by decide +kernel), if_neg (by decide +kernel), if_neg (by decide +kernel), if_neg (by decide +kernel), if_pos rfl, hw, if_neg (by omega), if_pos (by omega),
    if_pos (by simp), if_pos (by simp), if_pos (by simp), if_pos (by simp), nth_snoc, setL_snoc, if_pos h]
  rfl
theorem take_link {l : api_Link} (h : (L.length + 1) * 32 ≤ 140737488355328) : script_reader_take.f ⟨⟨P, L, S, sd, en, bu⟩, c, pk⟩ lit_link (linkI l).2 = some (true, ⟨⟨P, L ++ [l], S, sd, en, bu⟩, c, pk⟩) := by
  unfold script_reader_take.f linkI
  dsimp only
  rw [if_neg (by decide +kernel), if_neg (by decide +kernel), if_neg (by decide +kernel), if_neg (by decide +kernel), if_neg (by decide +kernel), if_neg (by decide +kernel), if_pos rfl,
    if_pos (by simp), if_pos (by simp), if_pos (by simp), if_pos (by simp), if_pos h]
  obtain ⟨f, t, k, b⟩ := l
  have e0 : decide (IntKind.i64.wrap (BitVec.ofInt IntKind.i64.bits 0 &&& ~~~ BitVec.ofInt IntKind.i64.bits 1).toNat = 0) = true := by decide +kernel
  have e1 : decide (IntKind.i64.wrap (BitVec.ofInt IntKind.i64.bits 1 &&& ~~~ BitVec.ofInt IntKind.i64.bits 1).toNat = 0) = true := by decide +kernel
  cases b
  · show some (decide (IntKind.i64.wrap (BitVec.ofInt IntKind.i64.bits 0 &&& ~~~ BitVec.ofInt IntKind.i64.bits 1).toNat = 0), (⟨⟨P, L ++ [⟨f, t, k, decide ((0 : Int) = 1)⟩], S, sd, en, bu⟩, c, pk⟩ : script_reader)) = _
    rw [e0]
    rfl
  · show some (decide (IntKind.i64.wrap (BitVec.ofInt IntKind.i64.bits 1 &&& ~~~ BitVec.ofInt IntKind.i64.bits 1).toNat = 0), (⟨⟨P, L ++ [⟨f, t, k, decide ((1 : Int) = 1)⟩], S, sd, en, bu⟩, c, pk⟩ : script_reader)) = _
    rw [e1]
    rfl
theorem take_start {s : api_Start} (h : (S.length + 1) * 24 ≤ 140737488355328) : script_reader_take.f ⟨⟨P, L, S, sd, en, bu⟩, c, pk⟩ lit_start [s.To, s.Time, s.Value] = some (true, ⟨⟨P, L, S ++ [s], sd, en, bu⟩, c, pk⟩) := by
  unfold script_reader_take.f
  dsimp only
  rw [if_neg (by decide +kernel), if_neg (by decide +kernel), if_neg (by decide +kernel), if_neg (by decide +kernel), if_neg (by decide +kernel), if_neg (by decide +kernel), if_neg (by decide +kernel), if_pos rfl,
    if_pos (by simp), if_pos (by simp), if_pos (by simp), if_pos h]
  rfl
theorem take_pick {p : api_Pick} (h : (pk.length + 1) * 24 ≤ 140737488355328) : script_reader_take.f ⟨⟨P, L, S, sd, en, bu⟩, c, pk⟩ lit_pick [p.What, p.A, p.B] = some (true, ⟨⟨P, L, S, sd, en, bu⟩, c, pk ++ [p]⟩) := by
  unfold script_reader_take.f
  dsimp only
  rw [if_neg (by decide +kernel), if_neg (by decide +kernel), if_neg (by decide +kernel), if_neg (by decide +kernel), if_neg (by decide +kernel), if_neg (by decide +kernel), if_neg (by decide +kernel), if_neg (by decide +kernel), if_pos rfl,
    if_pos (by simp), if_pos (by simp), if_pos (by simp), if_pos h]
  rfl
theorem run_ops (hP : P.length ≤ 140737488355328) : ∀ (q a : List api_Instr), (a.length + q.length) * 32 ≤ 140737488355328 → Run ⟨⟨P ++ [a], L, S, sd, en, bu⟩, c, pk⟩ (q.map opI) ⟨⟨P ++ [a ++ q], L, S, sd, en, bu⟩, c, pk⟩
  | [], a, _ => by rw [List.append_nil]; exact .nil
  | o :: q, a, h => by
    simp only [List.length_cons] at h
    have ih := run_ops hP q (a ++ [o]) (by simp only [List.length_append, List.length_cons, List.length_nil]; omega)
    rw [List.append_assoc, List.singleton_append] at ih
    exact .cons (take_op hP (by omega)) ih
theorem run_prog {q : List api_Instr} (h : (P.length + 1) * 24 ≤ 140737488355328) (hq : q.length * 32 ≤ 140737488355328) : Run ⟨⟨P, L, S, sd, en, bu⟩, c, pk⟩ (progI q) ⟨⟨P ++ [q], L, S, sd, en, bu⟩, c, pk⟩ :=
  .cons (take_lane h) (by have := run_ops (P := P) (L := L) (S := S) (sd := sd) (en := en) (bu := bu) (c := c) (pk := pk) (by omega) q [] (by simpa using hq); rwa [List.nil_append] at this)
theorem run_progs : ∀ (qs P : List (List api_Instr)), (P.length + qs.length) * 24 ≤ 140737488355328 → (∀ q ∈ qs, q.length * 32 ≤ 140737488355328) → Run ⟨⟨P, L, S, sd, en, bu⟩, c, pk⟩ (qs.flatMap progI) ⟨⟨P ++ qs, L, S, sd, en, bu⟩, c, pk⟩
  | [], P, _, _ => by rw [List.append_nil]; exact .nil
  | q :: qs, P, h, hq => by
    simp only [List.length_cons] at h
    have ih := run_progs qs (P ++ [q]) (by simp only [List.length_append, List.length_cons, List.length_nil]; omega) fun y hy => hq y (List.mem_cons_of_mem _ hy)
    rw [List.append_assoc, List.singleton_append] at ih
    rw [List.flatMap_cons]
    exact (run_prog (by omega) (hq q List.mem_cons_self)).append ih
theorem run_links : ∀ (xs L : List api_Link), (L.length + xs.length) * 32 ≤ 140737488355328 → Run ⟨⟨P, L, S, sd, en, bu⟩, c, pk⟩ (xs.map linkI) ⟨⟨P, L ++ xs, S, sd, en, bu⟩, c, pk⟩
  | [], L, _ => by rw [List.append_nil]; exact .nil
  | x :: xs, L, h => by
    simp only [List.length_cons] at h
    have ih := run_links xs (L ++ [x]) (by simp only [List.length_append, List.length_cons, List.length_nil]; omega)
    rw [List.append_assoc, List.singleton_append] at ih
    exact .cons (take_link (by omega)) ih
theorem run_starts : ∀ (xs S : List api_Start), (S.length + xs.length) * 24 ≤ 140737488355328 → Run ⟨⟨P, L, S, sd, en, bu⟩, c, pk⟩ (xs.map startI) ⟨⟨P, L, S ++ xs, sd, en, bu⟩, c, pk⟩
  | [], S, _ => by rw [List.append_nil]; exact .nil
  | x :: xs, S, h => by
    simp only [List.length_cons] at h
    have ih := run_starts xs (S ++ [x]) (by simp only [List.length_append, List.length_cons, List.length_nil]; omega)
    rw [List.append_assoc, List.singleton_append] at ih
    exact .cons (take_start (by omega)) ih
theorem run_picks : ∀ (xs pk : List api_Pick), (pk.length + xs.length) * 24 ≤ 140737488355328 → Run ⟨⟨P, L, S, sd, en, bu⟩, c, pk⟩ (xs.map pickI) ⟨⟨P, L, S, sd, en, bu⟩, c, pk ++ xs⟩
  | [], pk, _ => by rw [List.append_nil]; exact .nil
  | x :: xs, pk, h => by
    simp only [List.length_cons] at h
    have ih := run_picks xs (pk ++ [x]) (by simp only [List.length_append, List.length_cons, List.length_nil]; omega)
    rw [List.append_assoc, List.singleton_append] at ih
    exact .cons (take_pick (by omega)) ih
end
theorem run_all {m : api_Model} {c : api_Caps} {p : List api_Pick} (hS : 0 ≤ m.Seed ∧ m.Seed ≤ 4611686018427387904) (h1 : okl (okl ok_api_Instr 32) 24 m.Progs) (h2 : okl ok_api_Link 32 m.Links) (h3 : okl ok_api_Start 24 m.Starts) (hp : okl ok_api_Pick 24 p) :
    Run rd0 (allI m c p) ⟨m, c, p⟩ := by
  have hr : reachBytes ≤ 140737488355328 := by decide
  have e := seedN_eq hS.1 hS.2
  have a1 := run_progs (L := []) (S := []) (sd := m.Seed) (en := m.End) (bu := m.Budget) (c := c) (pk := []) m.Progs [] (by have := h1.2; simp only [List.length_nil]; omega) fun q hq => by have := (h1.1 q hq).2; omega
  have a2 := run_links (P := m.Progs) (S := []) (sd := m.Seed) (en := m.End) (bu := m.Budget) (c := c) (pk := []) m.Links [] (by have := h2.2; simp only [List.length_nil]; omega)
  have a3 := run_starts (P := m.Progs) (L := m.Links) (sd := m.Seed) (en := m.End) (bu := m.Budget) (c := c) (pk := []) m.Starts [] (by have := h3.2; simp only [List.length_nil]; omega)
  have a4 := run_picks (P := m.Progs) (L := m.Links) (S := m.Starts) (sd := m.Seed) (en := m.End) (bu := m.Budget) (c := c) p [] (by have := hp.2; simp only [List.length_nil]; omega)
  rw [List.nil_append] at a1 a2 a3 a4
  have hh : Run rd0 (headI m c) ⟨⟨[], [], [], m.Seed, m.End, m.Budget⟩, c, []⟩ := by
    unfold headI
    rw [e]
    exact .cons (take_seed hS) (.cons take_end (.cons take_budget (.cons take_caps .nil)))
  exact hh.append (a1.append (a2.append (a3.append a4)))
theorem WI_of {x : It} (h : GI x) (hI : InR x) (c : script_counts.f x.1 = some ((x.2.length : Int), true)) (n32 : (32 : UInt8) ∉ bl x.1) (n10 : (10 : UInt8) ∉ bl x.1) (hd : ∃ b t, bl x.1 = b :: t ∧ b ≠ 35) : WI x :=
  ⟨c, n32, n10, hd, h.2.1, fun n hn => by
    have := List.any_eq_false.1 hI n hn
    simp only [oor, Bool.or_eq_true, decide_eq_true_eq, not_or, Int.not_lt] at this
    exact this⟩
theorem word_op : script_counts.f lit_op = some (4, true) := by unfold script_counts.f script_counts.j4 script_counts.j5 script_counts.j6; decide +kernel
theorem word_link : script_counts.f lit_link = some (4, true) := by unfold script_counts.f script_counts.j4 script_counts.j5 script_counts.j6; decide +kernel
theorem word_lane : script_counts.f lit_lane = some (0, true) := by unfold script_counts.f script_counts.j4 script_counts.j5 script_counts.j6; decide +kernel
theorem word_seed : script_counts.f lit_seed = some (1, true) := by unfold script_counts.f script_counts.j4 script_counts.j5 script_counts.j6; decide +kernel
theorem word_end : script_counts.f lit_end = some (1, true) := by unfold script_counts.f script_counts.j4 script_counts.j5 script_counts.j6; decide +kernel
theorem word_budget : script_counts.f lit_budget = some (1, true) := by unfold script_counts.f script_counts.j4 script_counts.j5 script_counts.j6; decide +kernel
theorem word_caps : script_counts.f lit_caps = some (3, true) := by unfold script_counts.f script_counts.j4 script_counts.j5 script_counts.j6; decide +kernel
theorem word_start : script_counts.f lit_start = some (3, true) := by unfold script_counts.f script_counts.j4 script_counts.j5 script_counts.j6; decide +kernel
theorem word_pick : script_counts.f lit_pick = some (3, true) := by unfold script_counts.f script_counts.j4 script_counts.j5 script_counts.j6; decide +kernel
theorem all_WI {m : api_Model} {c : api_Caps} {p : List api_Pick} (hm : ok_api_Model m) (hc : ok_api_Caps c) (hp : okl ok_api_Pick 24 p) (hI : ∀ x ∈ allI m c p, InR x) : ∀ x ∈ allI m c p, WI x := fun x hx => by
  have i := hI x hx
  have hH := GL_head hm hc
  rcases List.mem_append.1 hx with hx | hx
  · have g := hH x hx
    simp only [headI, List.mem_cons, List.not_mem_nil, or_false] at hx
    rcases hx with rfl | rfl | rfl | rfl
    · exact WI_of g i word_seed (show (32 : UInt8) ∉ bl lit_seed by decide +kernel) (show (10 : UInt8) ∉ bl lit_seed by decide +kernel) ⟨_, _, rfl, by decide⟩
    · exact WI_of g i word_end (show (32 : UInt8) ∉ bl lit_end by decide +kernel) (show (10 : UInt8) ∉ bl lit_end by decide +kernel) ⟨_, _, rfl, by decide⟩
    · exact WI_of g i word_budget (show (32 : UInt8) ∉ bl lit_budget by decide +kernel) (show (10 : UInt8) ∉ bl lit_budget by decide +kernel) ⟨_, _, rfl, by decide⟩
    · exact WI_of g i word_caps (show (32 : UInt8) ∉ bl lit_caps by decide +kernel) (show (10 : UInt8) ∉ bl lit_caps by decide +kernel) ⟨_, _, rfl, by decide⟩
  · rcases List.mem_append.1 hx with hx | hx
    · obtain ⟨q, hq, hx⟩ := List.mem_flatMap.1 hx
      rcases List.mem_cons.1 hx with rfl | hx
      · exact WI_of GI_lane i word_lane (show (32 : UInt8) ∉ bl lit_lane by decide +kernel) (show (10 : UInt8) ∉ bl lit_lane by decide +kernel) ⟨_, _, rfl, by decide⟩
      · obtain ⟨o, ho, rfl⟩ := List.mem_map.1 hx
        exact WI_of (GI_op ((hm.1.1 q hq).1 o ho)) i word_op (show (32 : UInt8) ∉ bl lit_op by decide +kernel) (show (10 : UInt8) ∉ bl lit_op by decide +kernel) ⟨_, _, rfl, by decide⟩
    · rcases List.mem_append.1 hx with hx | hx
      · obtain ⟨o, ho, rfl⟩ := List.mem_map.1 hx
        exact WI_of (GI_link (hm.2.1.1 o ho)) i word_link (show (32 : UInt8) ∉ bl lit_link by decide +kernel) (show (10 : UInt8) ∉ bl lit_link by decide +kernel) ⟨_, _, rfl, by decide⟩
      · rcases List.mem_append.1 hx with hx | hx
        · obtain ⟨o, ho, rfl⟩ := List.mem_map.1 hx
          exact WI_of (GI_start (hm.2.2.1.1 o ho)) i word_start (show (32 : UInt8) ∉ bl lit_start by decide +kernel) (show (10 : UInt8) ∉ bl lit_start by decide +kernel) ⟨_, _, rfl, by decide⟩
        · obtain ⟨o, ho, rfl⟩ := List.mem_map.1 hx
          exact WI_of (GI_pick (hp.1 o ho)) i word_pick (show (32 : UInt8) ∉ bl lit_pick by decide +kernel) (show (10 : UInt8) ∉ bl lit_pick by decide +kernel) ⟨_, _, rfl, by decide⟩
end
section
open Go.Sl
set_option linter.unusedVariables false
set_option linter.unusedSimpArgs false
set_option maxRecDepth 100000
theorem loop_all {R : Type} {body : Int → Option (Int ⊕ R)} (n : Nat) {r : R} (hb : ∀ k, k < n → body (k : Int) = some (.inl ((k + 1 : Nat) : Int))) (he : body (n : Int) = some (.inr r)) : loopR body 0 = some r :=
  loopR_steps (body := body) (fun k => ((k : Nat) : Int)) n hb he
theorem program_self (a : List (List api_Instr)) (h : okl (okl ok_api_Instr 32) 24 a) : isochronlaw21vprogram.f a a = some true := by
  have hn := len_of h (by decide)
  unfold isochronlaw21vprogram.f isochronlaw21vprogram.l12
  rw [if_pos rfl]
  refine loop_all a.length (fun k hk => ?_) ?_
  · have hm := len_of (h.1 _ (List.getElem_mem hk)) (by decide)
    unfold isochronlaw21vprogram.l12b
    dsimp only
    rw [if_pos (by omega), if_pos (by omega), if_pos (by omega), if_pos rfl]
    unfold isochronlaw21vprogram.l14
    refine loop_all a[k].length (fun j hj => ?_) ?_
    · unfold isochronlaw21vprogram.l14b
      dsimp only
      rw [nth_nat hk, if_pos (by omega), if_pos (by omega), if_pos (by omega), if_pos rfl, w64 (by omega) (by omega)]
      rfl
    · unfold isochronlaw21vprogram.l14b
      dsimp only
      rw [nth_nat hk, if_neg (by omega), w64 (by omega) (by omega)]
      rfl
  · unfold isochronlaw21vprogram.l12b
    dsimp only
    rw [if_neg (by omega)]
theorem same_self {m : api_Model} {c : api_Caps} {p : List api_Pick} (hm : ok_api_Model m) (hp : okl ok_api_Pick 24 p) : isochronlaw21vsame.f m m c c p p = some true := by
  obtain ⟨h1, h2, h3, _⟩ := hm
  have n2 := len_of h2 (by decide)
  have n3 := len_of h3 (by decide)
  have n4 := len_of hp (by decide)
  unfold isochronlaw21vsame.f
  rw [program_self _ h1]
  simp only [Option.bind_some, if_true]
  have e10 : isochronlaw21vsame.l10 p p 0 = some true := by
    unfold isochronlaw21vsame.l10
    refine loop_all p.length (fun k hk => ?_) ?_
    · unfold isochronlaw21vsame.l10b
      dsimp only
      rw [if_pos (by omega), if_pos (by omega), if_pos (by omega), if_pos rfl, w64 (by omega) (by omega)]
      rfl
    · unfold isochronlaw21vsame.l10b
      dsimp only
      rw [if_neg (by omega)]
  have e9 : isochronlaw21vsame.l9 m m p p 0 = some true := by
    unfold isochronlaw21vsame.l9
    refine loop_all m.Starts.length (fun k hk => ?_) ?_
    · unfold isochronlaw21vsame.l9b
      dsimp only
      rw [if_pos (by omega), if_pos (by omega), if_pos (by omega), if_pos rfl, w64 (by omega) (by omega)]
      rfl
    · unfold isochronlaw21vsame.l9b
      dsimp only
      rw [if_neg (by omega), e10]
      rfl
  unfold isochronlaw21vsame.l7
  refine loop_all m.Links.length (fun k hk => ?_) ?_
  · unfold isochronlaw21vsame.l7b
    dsimp only
    rw [if_pos (by omega), if_pos (by omega), if_pos (by omega), if_pos rfl, w64 (by omega) (by omega)]
    rfl
  · unfold isochronlaw21vsame.l7b
    dsimp only
    rw [if_neg (by omega), e9]
    rfl
theorem foldR_cc : ∀ (L : List It) (s : ByteArray), (foldR s L).size ≤ 65536 → foldR s L = s ++ cc (L.map lineI)
  | [], s, _ => by
    show s = s ++ ByteArray.empty
    rw [ba_append_empty]
  | x :: L, s, h => by
    have e : foldR s (x :: L) = foldR (lnR s x) L := rfl
    rw [e] at h ⊢
    by_cases hz : 65536 < (s.size : Int)
    · rw [lnR, if_pos hz, foldR_big hz] at h
      omega
    · rw [lnR, if_neg hz] at h ⊢
      rw [foldR_cc L _ h, List.map_cons, cc_cons, ByteArray.append_assoc]
      rfl
theorem Pure.scriptBack (x0 : api_Model) (h0 : ok_api_Model x0) (x1 : api_Caps) (h1 : ok_api_Caps x1) (x2 : (List api_Pick)) (h2 : (okl ok_api_Pick 24) x2) : isochronlaw21vScriptBack.f x0 x1 x2 = some true := by
  have hw : 0 ≤ x0.Seed ∧ x0.Seed ≤ 18446744073709551615 := by
    have := h0.2.2.2.1
    simpa [Lit.wf, IntKind.min, IntKind.max, IntKind.signed, IntKind.bits] using this
  unfold isochronlaw21vScriptBack.f
  rw [print_eq h0 h1 h2]
  simp only [Option.bind_some]
  have hs := foldP_snd (L := allI x0 x1 x2) (st := (ByteArray.empty, decide (4611686018427387904 < x0.Seed)))
  cases hq : (decide (4611686018427387904 < x0.Seed) || (allI x0 x1 x2).any fun x => x.2.any oor) with
  | true =>
    have e : finP (foldP (ByteArray.empty, decide (4611686018427387904 < x0.Seed)) (allI x0 x1 x2)) = (lit_, 1) := by
      rw [finP, if_pos (hs.trans hq)]
    rw [e]
    show (if (1 : Int) = 0 then _ else _) = some true
    rw [if_neg (by decide), if_pos rfl, if_pos rfl, awake_s]
    rfl
  | false =>
    simp only [Bool.or_eq_false_iff] at hq
    obtain ⟨hq1, hq2⟩ := hq
    have hI : ∀ x ∈ allI x0 x1 x2, InR x := fun x hx => by
      have := List.any_eq_false.1 hq2 x hx
      simpa using this
    have hS : x0.Seed ≤ 4611686018427387904 := by simpa using hq1
    rw [hq1, foldP_in hI]
    by_cases hz : 65536 < ((foldR ByteArray.empty (allI x0 x1 x2)).size : Int)
    · have e : finP (foldR ByteArray.empty (allI x0 x1 x2), false) = (lit_, 2) := by
        rw [finP]
        simp only [Bool.false_eq_true, if_false]
        rw [if_pos hz]
      rw [e]
      show (if (2 : Int) = 0 then _ else _) = some true
      rw [if_neg (by decide), if_pos rfl, if_neg (by decide), if_pos rfl, awake_s]
      rfl
    · have e : finP (foldR ByteArray.empty (allI x0 x1 x2), false) = (foldR ByteArray.empty (allI x0 x1 x2), 0) := by
        rw [finP]
        simp only [Bool.false_eq_true, if_false]
        rw [if_neg hz]
      have ec := foldR_cc (allI x0 x1 x2) ByteArray.empty (by omega)
      rw [ba_empty_append] at ec
      rw [ec] at hz
      rw [e, ec]
      show (if (0 : Int) = 0 then _ else _) = some true
      rw [if_pos rfl, parse_eq (all_WI h0 h1 h2 hI) (by omega) (run_all ⟨hw.1, hS⟩ h0.1 h0.2.1 h0.2.2.1 h2)]
      simp only [Option.bind_some, if_true]
      rw [same_self h0 h2]
      rfl
end
end Go.Proofs.Gx
