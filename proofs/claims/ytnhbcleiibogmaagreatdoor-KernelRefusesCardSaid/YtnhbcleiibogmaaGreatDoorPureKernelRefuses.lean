/-
  The plain law KernelRefuses, and what it rests on.
-/
import Derived.Test.YtnhbcleiibogmaaGreatDoorOpen
import Derived.Test.YtnhbcleiibogmaaGreatDoorW3
import Derived.Test.YtnhbcleiibogmaaGreatDoorW4
import Derived.Test.YtnhbcleiibogmaaGreatDoorW1
import Derived.Test.YtnhbcleiibogmaaGreatDoorW2
import Derived.Test.YtnhbcleiibogmaaGreatDoorW5
import Derived.Test.YtnhbcleiibogmaaGreatDoorW6
import Derived.Test.YtnhbcleiibogmaaGreatDoorW7
namespace Go.Proofs.Gx
section
open Go.Sl
set_option linter.unusedVariables false
theorem loopR_findS {S R : Type} {body : S → Option (S ⊕ R)} (st : Nat → S) (p : Nat → Bool) (g : Nat → R) (e : R) (n : Nat) (h : ∀ k, k < n → (∀ j, j < k → p j = false) → body (st k) = some (if p k then .inr (g k) else .inl (st (k + 1)))) (he : (∀ j, j < n → p j = false) → body (st n) = some (.inr e)) :
    loopR body (st 0) = some (match (List.range n).find? p with | some k => g k | none => e) := by
  cases hf : (List.range n).find? p with
  | none =>
    have hn : ∀ k, k < n → p k = false := fun k hk => by
      have := List.find?_eq_none.1 hf k (List.mem_range.2 hk)
      simpa using this
    exact loopR_steps st n (fun k hk => by rw [h k hk (fun j hj => hn j (by omega)), hn k hk]; rfl) (he hn)
  | some k =>
    obtain ⟨hp, hm⟩ := List.find?_range_eq_some.1 hf
    obtain ⟨hk, hbef⟩ := hm
    have hb : ∀ j, j < k → p j = false := fun j hj => by
      have := hbef j hj
      simpa using this
    have hkn := List.mem_range.1 hk
    exact loopR_steps st k (fun j hj => by rw [h j (by omega) (fun i hi => hb i (by omega)), hb j hj]; rfl) (by rw [h k hkn hb, hp]; rfl)
theorem find_any (p : Nat → Bool) (n : Nat) {R : Type} (a b : R) : (match (List.range n).find? p with | some _ => a | none => b) = if (List.range n).any p then a else b := by
  cases hf : (List.range n).find? p with
  | none =>
    have : (List.range n).any p = false := by
      rw [List.any_eq_false]
      exact fun x hx => List.find?_eq_none.1 hf x hx
    rw [this]; rfl
  | some k =>
    have h1 := List.find?_some hf
    have h2 := List.mem_of_find?_eq_some hf
    have : (List.range n).any p = true := List.any_eq_true.2 ⟨k, h2, h1⟩
    rw [this]; rfl
theorem loopR_any {R : Type} {body : Int → Option (Int ⊕ R)} (p : Nat → Bool) (a e : R) (n : Nat) (h : ∀ k, k < n → body (k : Int) = some (if p k then .inr a else .inl ((k + 1 : Nat) : Int))) (he : body (n : Int) = some (.inr e)) :
    loopR body 0 = some (if (List.range n).any p then a else e) := (loopR_find p (fun _ => a) e n h he).trans (congrArg some (find_any p n a e))
theorem nth_nat {α : Type} [Inhabited α] {xs : List α} {k : Nat} (h : k < xs.length) : nth xs (k : Int) = xs[k] := by
  simp [nth, List.getD_eq_getElem?_getD, h]
theorem nth_mem {α : Type} [Inhabited α] {xs : List α} {i : Int} (h0 : 0 ≤ i) (h1 : i < xs.length) : nth xs i ∈ xs := by
  obtain ⟨h, e⟩ := nth_eq h0 h1
  rw [e]; exact List.getElem_mem h
end
section
open Go.Sl
set_option linter.unusedVariables false
set_option linter.unusedSimpArgs false
def sgn (a b : Int) : Int := if a < b then -1 else if b < a then 1 else 0
def cmpK (a b : api_Key) : Int := if sgn a.Time b.Time ≠ 0 then sgn a.Time b.Time else if sgn a.From b.From ≠ 0 then sgn a.From b.From else sgn a.Seq b.Seq
def bef (a b : api_Message) : Bool := decide (cmpK a.Key b.Key < 0 ∨ cmpK a.Key b.Key = 0 ∧ a.Uid < b.Uid)
theorem cmp64 (a b : Int) : cmp_Compare_int64.f a b = some (sgn a b) := by
  unfold cmp_Compare_int64.f cmp_isNaN_int64.f sgn
  simp only [decide_true, Bool.not_true, Option.bind_some, Bool.false_eq_true, if_false]
  split
  · rfl
  · split <;> rfl
theorem cmpI (a b : Int) : cmp_Compare_int.f a b = some (sgn a b) := by
  unfold cmp_Compare_int.f cmp_isNaN_int.f sgn
  simp only [decide_true, Bool.not_true, Option.bind_some, Bool.false_eq_true, if_false]
  split
  · rfl
  · split <;> rfl
theorem or_first (l : List Int) (k : Nat) (hk : k < l.length) (hl : l.length < 1000) (h0 : ∀ j, j < k → nth l (j : Int) = 0) (h : nth l (k : Int) ≠ 0) : cmp_Or_int.f l = some (nth l (k : Int)) := by
  unfold cmp_Or_int.f cmp_Or_int.l2
  refine loopR_steps (fun k => ((k : Nat) : Int)) k (fun j hj => ?_) ?_
  · simp only [cmp_Or_int.l2b]
    rw [if_pos (by omega), if_pos (by omega), if_pos (h0 j hj), w64 (by omega) (by omega)]
    rfl
  · simp only [cmp_Or_int.l2b]
    rw [if_pos (by omega), if_pos (by omega), if_neg h]
theorem or_none (l : List Int) (hl : l.length < 1000) (h0 : ∀ j, j < l.length → nth l (j : Int) = 0) : cmp_Or_int.f l = some 0 := by
  unfold cmp_Or_int.f cmp_Or_int.l2
  refine loopR_steps (fun k => ((k : Nat) : Int)) l.length (fun j hj => ?_) ?_
  · simp only [cmp_Or_int.l2b]
    rw [if_pos (by omega), if_pos (by omega), if_pos (h0 j hj), w64 (by omega) (by omega)]
    rfl
  · simp only [cmp_Or_int.l2b]
    rw [if_neg (by omega)]
theorem or3 (a b c : Int) : cmp_Or_int.f ([a, b, c] : List Int) = some (if a ≠ 0 then a else if b ≠ 0 then b else c) := by
  by_cases ha : a = 0
  · by_cases hb : b = 0
    · by_cases hc : c = 0
      · subst ha; subst hb; subst hc
        exact or_none _ (by decide) (fun j hj => by
          have : j = 0 ∨ j = 1 ∨ j = 2 := by simp at hj; omega
          rcases this with rfl | rfl | rfl <;> rfl)
      · rw [if_neg (by simpa using ha), if_neg (by simpa using hb)]
        exact or_first [a, b, c] 2 (by simp) (by simp) (fun j hj => by
          have : j = 0 ∨ j = 1 := by omega
          rcases this with rfl | rfl
          · exact ha
          · exact hb) hc
    · rw [if_neg (by simpa using ha), if_pos hb]
      exact or_first [a, b, c] 1 (by simp) (by simp) (fun j hj => by
          obtain rfl : j = 0 := by omega
          exact ha) hb
  · rw [if_pos ha]
    exact or_first [a, b, c] 0 (by simp) (by simp) (fun j hj => by omega) ha
theorem or2 (a b : Int) : cmp_Or_int.f ([a, b] : List Int) = some (if a ≠ 0 then a else b) := by
  by_cases ha : a = 0
  · rw [if_neg (by simpa using ha)]
    by_cases hb : b = 0
    · subst ha; subst hb
      exact or_none _ (by decide) (fun j hj => by
          have : j = 0 ∨ j = 1 := by simp at hj; omega
          rcases this with rfl | rfl <;> rfl)
    · exact or_first [a, b] 1 (by simp) (by simp) (fun j hj => by
          obtain rfl : j = 0 := by omega
          exact ha) hb
  · rw [if_pos ha]
    exact or_first [a, b] 0 (by simp) (by simp) (fun j hj => by omega) ha
theorem sgn_self (a : Int) : sgn a a = 0 := by unfold sgn; rw [if_neg (by omega), if_neg (by omega)]
theorem cmpK_self (a : api_Key) : cmpK a a = 0 := by simp [cmpK, sgn_self]
theorem compare_eq (a b : api_Key) : event_Compare.f a b = some (cmpK a b) := by
  unfold event_Compare.f
  by_cases h : a = b
  · subst h; rw [if_pos rfl, cmpK_self]
  · rw [if_neg h, cmp64]
    simp only [Option.bind_some, cmpI, or3]
    rfl
theorem before_eq (a b : api_Message) : event_Before.f a b = some (bef a b) := by
  unfold event_Before.f event_order.f
  simp only [compare_eq, cmpI, Option.bind_some, or2, bef]
  congr 1
  rw [decide_eq_decide]
  by_cases h : cmpK a.Key b.Key = 0
  · rw [if_neg (by simpa using h), h]
    unfold sgn
    constructor
    · intro h1
      refine .inr ⟨rfl, ?_⟩
      split at h1
      · assumption
      · split at h1 <;> omega
    · rintro (h1 | ⟨_, h1⟩)
      · omega
      · rw [if_pos h1]; omega
  · rw [if_pos h]
    constructor
    · exact .inl
    · rintro (h1 | ⟨h1, _⟩)
      · exact h1
      · exact absurd h1 h
theorem inr_bind {S R : Type} {f : S → Option R} (o : Option R) : (Option.map (Sum.inr : R → S ⊕ R) o).bind (Sum.elim f some) = o := by cases o <;> rfl
end
section
open Go.Sl
set_option linter.unusedVariables false
set_option linter.unusedSimpArgs false
theorem bef_iff {a b : api_Message} : bef a b = true ↔ a.Key.Time < b.Key.Time ∨ a.Key.Time = b.Key.Time ∧ (a.Key.From < b.Key.From ∨ a.Key.From = b.Key.From ∧ (a.Key.Seq < b.Key.Seq ∨ a.Key.Seq = b.Key.Seq ∧ a.Uid < b.Uid)) := by
  have hs : ∀ x y : Int, (sgn x y = -1 ∧ x < y) ∨ (sgn x y = 1 ∧ y < x) ∨ (sgn x y = 0 ∧ x = y) := fun x y => by
    unfold sgn
    by_cases h1 : x < y
    · rw [if_pos h1]; exact .inl ⟨rfl, h1⟩
    · by_cases h2 : y < x
      · rw [if_neg h1, if_pos h2]; exact .inr (.inl ⟨rfl, h2⟩)
      · rw [if_neg h1, if_neg h2]; exact .inr (.inr ⟨rfl, by omega⟩)
  simp only [bef, decide_eq_true_eq]
  unfold cmpK
  rcases hs a.Key.Time b.Key.Time with ⟨e, h⟩ | ⟨e, h⟩ | ⟨e, h⟩
  · rw [e, if_pos (by decide)]
    exact ⟨fun _ => .inl h, fun _ => .inl (by decide)⟩
  · rw [e, if_pos (by decide)]
    constructor
    · rintro (h1 | ⟨h1, _⟩)
      · exact absurd h1 (by decide)
      · exact absurd h1 (by decide)
    · rintro (h1 | ⟨h1, _⟩) <;> omega
  · rw [e, if_neg (by decide)]
    rcases hs a.Key.From b.Key.From with ⟨e2, h2⟩ | ⟨e2, h2⟩ | ⟨e2, h2⟩
    · rw [e2, if_pos (by decide)]
      exact ⟨fun _ => .inr ⟨h, .inl h2⟩, fun _ => .inl (by decide)⟩
    · rw [e2, if_pos (by decide)]
      constructor
      · rintro (h1 | ⟨h1, _⟩)
        · exact absurd h1 (by decide)
        · exact absurd h1 (by decide)
      · rintro (h1 | ⟨_, h1 | ⟨h1, _⟩⟩) <;> omega
    · rw [e2, if_neg (by decide)]
      rcases hs a.Key.Seq b.Key.Seq with ⟨e3, h3⟩ | ⟨e3, h3⟩ | ⟨e3, h3⟩
      · rw [e3]
        exact ⟨fun _ => .inr ⟨h, .inr ⟨h2, .inl h3⟩⟩, fun _ => .inl (by decide)⟩
      · rw [e3]
        constructor
        · rintro (h1 | ⟨h1, _⟩)
          · exact absurd h1 (by decide)
          · exact absurd h1 (by decide)
        · rintro (h1 | ⟨_, h1 | ⟨_, h1 | ⟨h1, _⟩⟩⟩) <;> omega
      · rw [e3]
        constructor
        · rintro (h1 | ⟨_, h1⟩)
          · exact absurd h1 (by decide)
          · exact .inr ⟨h, .inr ⟨h2, .inr ⟨h3, h1⟩⟩⟩
        · rintro (h1 | ⟨_, h1 | ⟨_, h1 | ⟨_, h1⟩⟩⟩)
          · omega
          · omega
          · omega
          · exact .inr ⟨rfl, h1⟩
abbrev leM (a b : api_Message) : Prop := bef b a = false
theorem leM_iff {a b : api_Message} : leM a b ↔ ¬ (b.Key.Time < a.Key.Time ∨ b.Key.Time = a.Key.Time ∧ (b.Key.From < a.Key.From ∨ b.Key.From = a.Key.From ∧ (b.Key.Seq < a.Key.Seq ∨ b.Key.Seq = a.Key.Seq ∧ b.Uid < a.Uid))) := by
  show bef b a = false ↔ _
  rw [← bef_iff, Bool.not_eq_true]
theorem leM_trans {a b c : api_Message} (h1 : leM a b) (h2 : leM b c) : leM a c := by
  rw [leM_iff] at *; omega
theorem leM_of_bef {a b : api_Message} (h : bef a b = true) : leM a b := by
  rw [leM_iff]; rw [bef_iff] at h; omega
theorem leM_of_not {a b : api_Message} (h : ¬ bef a b = true) : leM b a := by simpa using h
def SrtM (l : List api_Message) : Prop := l.Pairwise leM
section
variable {α : Type} [Inhabited α]
def swp (l : List α) (i j : Int) : List α := setL (setL l i (nth l j)) j (nth l i)
end
end
section
open Go.Sl
set_option linter.unusedVariables false
set_option linter.unusedSimpArgs false
def par (i : Nat) : Nat := (i - 1) / 2
def HpF (f : Nat → api_Message) (n : Nat) : Prop := ∀ j, 0 < j → j < n → leM (f (par j)) (f j)
def Up2 (f : Nat → api_Message) (n i : Nat) : Prop := ∀ j, 0 < j → j < n → par j = i → 0 < i → leM (f (par i)) (f j)
def UpF (f : Nat → api_Message) (n i : Nat) : Prop := (∀ j, 0 < j → j < n → j ≠ i → leM (f (par j)) (f j)) ∧ Up2 f n i
def sw (f : Nat → api_Message) (i j k : Nat) : api_Message := if k = j then f i else if k = i then f j else f k
theorem sw_j {f : Nat → api_Message} {i j : Nat} : sw f i j j = f i := by simp [sw]
theorem sw_i {f : Nat → api_Message} {i j : Nat} : sw f i j i = f j := by unfold sw; split <;> simp_all
theorem sw_o {f : Nat → api_Message} {i j k : Nat} (h1 : k ≠ i) (h2 : k ≠ j) : sw f i j k = f k := by simp [sw, h1, h2]
theorem par_lt {j : Nat} (h : 0 < j) : par j < j := by unfold par; omega
theorem up_done {f : Nat → api_Message} {n i : Nat} (h : UpF f n i) (hd : i = 0 ∨ leM (f (par i)) (f i)) : HpF f n := fun j h0 h1 => by
  by_cases e : j = i
  · subst e
    rcases hd with hd | hd
    · omega
    · exact hd
  · exact h.1 j h0 h1 e
theorem up_step {f : Nat → api_Message} {n i : Nat} (h : UpF f n i) (hi : 0 < i) (hn : i < n) (hb : leM (f i) (f (par i))) : UpF (sw f i (par i)) n (par i) := by
  have hp := par_lt hi
  refine ⟨fun j h0 h1 hj => ?_, fun j h0 h1 e hp0 => ?_⟩
  · have hjp := par_lt h0
    by_cases e1 : j = i
    · subst e1; rw [sw_j, sw_i]; exact hb
    by_cases e2 : par j = i
    · rw [e2, sw_i, sw_o e1 hj]; exact h.2 j h0 h1 e2 hi
    by_cases e3 : par j = par i
    · rw [e3, sw_j, sw_o e1 hj]; exact leM_trans hb (by rw [← e3]; exact h.1 j h0 h1 e1)
    · rw [sw_o e2 e3, sw_o e1 hj]; exact h.1 j h0 h1 e1
  · have hpp := par_lt hp0
    rw [sw_o (by omega) (by omega)]
    have h3 := h.1 (par i) hp0 (by omega) (by omega)
    by_cases e1 : j = i
    · subst e1; rw [sw_i]; exact h3
    · have := par_lt h0
      rw [sw_o e1 (by omega)]
      exact leM_trans h3 (by rw [← e]; exact h.1 j h0 h1 e1)
section
variable {l : List api_Message}
def at_ (l : List api_Message) (k : Nat) : api_Message := nth l (k : Int)
theorem at_set {i k : Nat} {x : api_Message} (hi : i < l.length) : at_ (setL l (i : Int) x) k = if k = i then x else at_ l k := by
  unfold at_ nth setL
  simp only [Int.toNat_natCast, List.getD_eq_getElem?_getD, List.getElem?_set]
  by_cases e : i = k
  · subst e; simp [hi]
  · rw [if_neg e, if_neg (by omega)]
theorem at_swp {i j : Nat} (hi : i < l.length) (hj : j < l.length) : at_ (swp l (i : Int) (j : Int)) = sw (at_ l) i j := by
  funext k
  unfold swp sw
  rw [at_set (by rw [setL_len]; exact hj), at_set hi]; rfl
theorem swp_len {i j : Int} : (swp l i j).length = l.length := by unfold swp; rw [setL_len, setL_len]
theorem swp_perm {i j : Nat} (hi : i < l.length) (hj : j < l.length) : (swp l (i : Int) (j : Int)).Perm l := by
  unfold swp setL
  rw [nth_nat hi, nth_nat hj]
  simp only [Int.toNat_natCast]
  exact List.set_set_perm hi hj
end
end
section
open Go.Sl
set_option linter.unusedVariables false
set_option linter.unusedSimpArgs false
theorem up_step_eq {l : List api_Message} {i : Nat} (hi : i < l.length) (hl : l.length ≤ 1099511627776) :
    heap_pile_api_Message_up.l2b (l, (i : Int)) = some (if 0 < i ∧ bef (at_ l i) (at_ l (par i)) = true then .inl (swp l (i : Int) (par i : Int), (par i : Int)) else .inr l) := by
  simp only [heap_pile_api_Message_up.l2b]
  by_cases h0 : 0 < i
  · have hp := par_lt h0
    have e : IntKind.i64.wrap (Int.tdiv (IntKind.i64.wrap ((i : Int) - 1)) 2) = (par i : Int) := by
      rw [w64 (x := (i : Int) - 1) (by omega) (by omega), tdiv_pos' (by omega) 2, w64 (by omega) (by omega)]
      unfold par; omega
    rw [if_pos (by omega), if_pos (by omega), e, if_pos (by omega), before_eq]
    simp only [Option.bind_some]
    by_cases hb : bef (at_ l i) (at_ l (par i)) = true
    · have hb' : bef (nth l (i : Int)) (nth l (par i : Int)) = true := hb
      rw [if_pos hb', if_pos (by rw [setL_len]; omega), if_pos ⟨h0, hb⟩]; rfl
    · have hb' : ¬ bef (nth l (i : Int)) (nth l (par i : Int)) = true := hb
      rw [if_neg hb', if_neg (fun h => hb h.2)]
  · rw [if_neg (by omega), if_neg (fun h => h0 h.1)]
theorem up_loop : ∀ (k i : Nat) (l : List api_Message), i ≤ k → i < l.length → l.length ≤ 1099511627776 → UpF (at_ l) l.length i →
    ∃ W, loopR heap_pile_api_Message_up.l2b (l, (i : Int)) = some W ∧ W.Perm l ∧ HpF (at_ W) l.length
  | k, i, l, hk, hi, hl, h => by
    rw [loopR_eq, up_step_eq hi hl]
    by_cases hc : 0 < i ∧ bef (at_ l i) (at_ l (par i)) = true
    · rw [if_pos hc]
      have hp := par_lt hc.1
      have hs := up_step h hc.1 hi (leM_of_bef hc.2)
      rw [← at_swp hi (by omega)] at hs
      cases k with
      | zero => omega
      | succ k =>
        obtain ⟨W, e, p, q⟩ := up_loop k (par i) (swp l (i : Int) (par i : Int)) (by omega) (by rw [swp_len]; omega) (by rw [swp_len]; exact hl) (by rw [swp_len]; exact hs)
        exact ⟨W, e, p.trans (swp_perm hi (by omega)), by rw [swp_len] at q; exact q⟩
    · rw [if_neg hc]
      refine ⟨l, rfl, List.Perm.refl _, up_done h ?_⟩
      by_cases h0 : i = 0
      · exact .inl h0
      · exact .inr (leM_of_not fun hb => hc ⟨by omega, hb⟩)
end
section
open Go.Sl
set_option linter.unusedVariables false
set_option linter.unusedSimpArgs false
theorem at_app_l {l r : List api_Message} {k : Nat} (h : k < l.length) : at_ (l ++ r) k = at_ l k := by
  unfold at_
  rw [nth_nat (by rw [List.length_append]; omega), nth_nat h, List.getElem_append_left h]
theorem at_mem {l : List api_Message} {k : Nat} (h : k < l.length) : at_ l k ∈ l := by
  unfold at_; rw [nth_nat h]; exact List.getElem_mem h
theorem mem_at {l : List api_Message} {x : api_Message} (h : x ∈ l) : ∃ k, k < l.length ∧ at_ l k = x := by
  obtain ⟨k, hk, e⟩ := List.getElem_of_mem h
  exact ⟨k, hk, by unfold at_; rw [nth_nat hk]; exact e⟩
def HpL (l : List api_Message) : Prop := HpF (at_ l) l.length
theorem HpL.nil : HpL [] := fun j _ h => by simp at h
theorem push_eq {l : List api_Message} {m : api_Message} (hl : l.length ≤ 1000000) (h : HpL l) : ∃ W, heap_pile_api_Message_push.f l m = some W ∧ W.Perm (m :: l) ∧ HpL W := by
  unfold heap_pile_api_Message_push.f
  have hlen : (l ++ [m]).length = l.length + 1 := by simp
  rw [if_pos (by omega), hlen, w64 (by omega) (by omega), show ((l.length + 1 : Nat) : Int) - 1 = (l.length : Int) by omega]
  obtain ⟨W, e, p, q⟩ := up_loop l.length l.length (l ++ [m]) (Nat.le_refl _) (by omega) (by omega) (by
    rw [hlen]
    refine ⟨fun j h0 h1 hj => ?_, fun j h0 h1 ej _ => ?_⟩
    · have := par_lt h0
      rw [at_app_l (by omega), at_app_l (by omega)]; exact h j h0 (by omega)
    · have := par_lt h0; omega)
  unfold heap_pile_api_Message_up.f heap_pile_api_Message_up.l2
  rw [e]
  refine ⟨W, rfl, p.trans (List.perm_append_comm (l₁ := l) (l₂ := [m])), ?_⟩
  have : W.length = (l ++ [m]).length := p.length_eq
  unfold HpL; rw [this]; exact q
theorem find_eq (q : heap_Heap) (fr uid : Int) (hl : q.p_l.length ≤ 1000000) : ∃ v, heap_Heap_find.f q fr uid = some v ∧
    ((v = -1 ∧ ∀ x ∈ q.p_l, ¬ (x.Key.From = fr ∧ x.Uid = uid)) ∨ ∃ k, k < q.p_l.length ∧ v = (k : Int) ∧ (at_ q.p_l k).Key.From = fr ∧ (at_ q.p_l k).Uid = uid) := by
  unfold heap_Heap_find.f heap_pile_api_Message_each.f
  simp only [Option.bind_some]
  have e : heap_pile_api_Message_each_1.f fr uid 0 q.p_l = some (match (List.range q.p_l.length).find? (fun k => decide ((at_ q.p_l k).Key.From = fr ∧ (at_ q.p_l k).Uid = uid)) with | some k => (Sum.inl (k : Int) : Int ⊕ Unit) | none => .inr ()) := by
    unfold heap_pile_api_Message_each_1.f heap_pile_api_Message_each_1.l2
    refine loopR_find (fun k => decide ((at_ q.p_l k).Key.From = fr ∧ (at_ q.p_l k).Uid = uid)) (fun k => (Sum.inl (k : Int) : Int ⊕ Unit)) (Sum.inr ()) q.p_l.length (fun k hk => ?_) ?_
    · simp only [heap_pile_api_Message_each_1.l2b]
      rw [if_pos (by omega), if_pos (by omega), w64 (by omega) (by omega)]
      unfold heap_Heap_find_round0.f
      by_cases h1 : (nth q.p_l (k : Int)).Key.From = fr
      · by_cases h2 : (nth q.p_l (k : Int)).Uid = uid
        · simp [at_, h1, h2]
        · simp [at_, h1, h2]
      · simp [at_, h1]
    · simp only [heap_pile_api_Message_each_1.l2b]
      rw [if_neg (by omega)]
  rw [e]
  cases hf : (List.range q.p_l.length).find? (fun k => decide ((at_ q.p_l k).Key.From = fr ∧ (at_ q.p_l k).Uid = uid)) with
  | none =>
    refine ⟨-1, rfl, .inl ⟨rfl, fun x hx hc => ?_⟩⟩
    obtain ⟨k, hk, ek⟩ := mem_at hx
    have := List.find?_eq_none.1 hf k (List.mem_range.2 hk)
    rw [ek] at this
    simp [hc] at this
  | some k =>
    have h1 := List.find?_some hf
    have h2 := List.mem_range.1 (List.mem_of_find?_eq_some hf)
    have h3 := of_decide_eq_true h1
    exact ⟨k, rfl, .inr ⟨k, h2, rfl, h3⟩⟩
end
section
open Go.Sl
set_option linter.unusedVariables false
set_option linter.unusedSimpArgs false
inductive Blks (s : Nat) : List api_Message → Prop
  | last {l : List api_Message} : l.length ≤ s → SrtM l → Blks s l
  | cons {x l : List api_Message} : x.length = s → SrtM x → Blks s l → Blks s (x ++ l)
theorem Blks.split {s : Nat} {l : List api_Message} (h : Blks s l) (hl : s < l.length) : ∃ x r, l = x ++ r ∧ x.length = s ∧ SrtM x ∧ Blks s r := by
  cases h with
  | last h1 _ => omega
  | @cons x l h1 h2 h3 => exact ⟨x, l, rfl, h1, h2, h3⟩
end
section
open Go.Sl
set_option linter.unusedVariables false
set_option linter.unusedSimpArgs false
def snd (m : api_Message) : Int × Int := (m.Key.From, m.Uid)
structure QOK (l : List api_Message) : Prop where
  heap : HpL l
  nodup : (l.map snd).Nodup
  small : l.length ≤ 16384
theorem QOK.nil : QOK [] := ⟨HpL.nil, List.nodup_nil, Nat.zero_le _⟩
def qof (l : List api_Message) : pend_Pend := ⟨⟨l⟩⟩
theorem qPush_eq {l : List api_Message} {m : api_Message} (h : QOK l) :
    (snd m ∈ l.map snd ∧ pend_Pend_Push.f (qof l) m = some (8, qof l)) ∨ (snd m ∉ l.map snd ∧ l.length = 16384 ∧ pend_Pend_Push.f (qof l) m = some (9, qof l)) ∨
    (snd m ∉ l.map snd ∧ l.length < 16384 ∧ ∃ W, pend_Pend_Push.f (qof l) m = some (0, qof W) ∧ W.Perm (m :: l) ∧ QOK W) := by
  have hs := h.small
  obtain ⟨v, e, hv⟩ := find_eq ⟨l⟩ m.Key.From m.Uid (by show l.length ≤ _; omega)
  have hm : snd m ∈ l.map snd ↔ 0 ≤ v := by
    rcases hv with ⟨ev, hv⟩ | ⟨k, hk, ev, h1, h2⟩
    · refine ⟨fun hc => ?_, fun hc => by omega⟩
      obtain ⟨x, hx, ex⟩ := List.mem_map.1 hc
      refine absurd ?_ (hv x hx)
      simp only [snd, Prod.mk.injEq] at ex; exact ex
    · refine ⟨fun _ => by omega, fun _ => List.mem_map.2 ⟨_, at_mem hk, ?_⟩⟩
      simp only [snd, Prod.mk.injEq]; exact ⟨h1, h2⟩
  unfold pend_Pend_Push.f pend_Pend_none.f heap_Heap_Push.f heap_Heap_none.f
  simp only [Option.bind_some]
  show _ ∧ Option.bind (Option.bind (heap_Heap_find.f ⟨l⟩ _ _) _) _ = _ ∨ _ ∧ _ ∧ Option.bind (Option.bind (heap_Heap_find.f ⟨l⟩ _ _) _) _ = _ ∨ _ ∧ _ ∧ ∃ W, Option.bind (Option.bind (heap_Heap_find.f ⟨l⟩ _ _) _) _ = _ ∧ _
  rw [e]
  simp only [Option.bind_some]
  by_cases h0 : 0 ≤ v
  · exact .inl ⟨hm.2 h0, by rw [if_pos h0]; rfl⟩
  rw [if_neg h0]
  by_cases hf : 16384 ≤ l.length
  · refine .inr (.inl ⟨fun hc => h0 (hm.1 hc), by omega, ?_⟩)
    rw [if_pos (show (16384 : Int) ≤ ((qof l).q.p_l.length : Int) by show (16384 : Int) ≤ (l.length : Int); omega)]; rfl
  · refine .inr (.inr ⟨fun hc => h0 (hm.1 hc), by omega, ?_⟩)
    rw [if_neg (show ¬ (16384 : Int) ≤ ((qof l).q.p_l.length : Int) by show ¬ (16384 : Int) ≤ (l.length : Int); omega)]
    obtain ⟨W, eW, p, q⟩ := push_eq (l := l) (m := m) (by omega) h.heap
    refine ⟨W, ?_, p, q, ?_, by rw [p.length_eq]; simp only [List.length_cons]; omega⟩
    · show Option.bind (Option.bind (heap_pile_api_Message_push.f l m) _) _ = _
      rw [eW]; rfl
    · rw [(p.map snd).nodup_iff, List.map_cons, List.nodup_cons]
      exact ⟨fun hc => h0 (hm.1 hc), h.nodup⟩
theorem qFirst_nil : pend_Pend_First.f (qof []) = some ((⟨(⟨0, 0, 0⟩ : api_Key), 0, 0, 0, false⟩ : api_Message), 6) := rfl
theorem qFirst_eq {l : List api_Message} (h : 0 < l.length) : pend_Pend_First.f (qof l) = some (at_ l 0, 0) := by
  unfold pend_Pend_First.f pend_Pend_none.f heap_Heap_First.f heap_Heap_none.f
  simp only [Option.bind_some]
  rw [if_neg (show ¬ ((qof l).q.p_l.length : Int) = 0 by show ¬ (l.length : Int) = 0; omega), if_pos (show (0 : Int) < ((qof l).q.p_l.length : Int) by show (0 : Int) < (l.length : Int); omega)]
  rfl
end
section
open Go.Sl
set_option linter.unusedVariables false
def shapeOf (op : Int) : ByteArray := nth ([lit_2d2d2d, lit_726e2d, lit_72722d, lit_rrr, lit_rrr, lit_rrr, lit_rrr, lit_rrr, lit_rrr, lit_rrr, lit_702d2d, lit_72702d, lit_rrr, lit_72722d, lit_722d2d, lit_722d2d, lit_722d2d] : List ByteArray) op
theorem ops17 {p : Int → Prop} (op : Int) (h0 : 0 ≤ op) (h1 : op < 17) (h : ∀ k : Fin 17, p (k.val : Int)) : p op := by
  have := h ⟨op.toNat, by omega⟩
  have e : ((op.toNat : Nat) : Int) = op := Int.toNat_of_nonneg h0
  exact e ▸ this
theorem op_facts (op : Int) (h0 : 0 ≤ op) (h1 : op < 17) : (shapeOf op).size = 3 ∧ True ∧ True ∧ True ∧ True :=
  ops17 (p := fun op => (shapeOf op).size = 3 ∧ True ∧ True ∧ True ∧ True) op h0 h1 (by decide)
def rightB (n kind many : Int) : Bool := if kind = 110 then decide (-2147483648 ≤ n ∧ n ≤ 2147483647) else if kind = 112 then decide (0 ≤ n ∧ n ≤ many) else if kind = 114 then decide (0 ≤ n ∧ n ≤ 15) else decide (0 ≤ n ∧ n ≤ 0)
theorem code_right_eq (n kind many : Int) : code_right.f n kind many = some (rightB n kind many) := by
  unfold code_right.f rightB code_right.j2
  split
  · split <;> simp_all <;> omega
  · split
    · split <;> simp_all <;> omega
    · split
      · split <;> simp_all <;> omega
      · split <;> simp_all <;> omega
def mayB (i : api_Instr) (n : Int) : Bool := if 0 ≤ i.Op ∧ i.Op < 17 then rightB i.A (bt (shapeOf i.Op) 0) n && (rightB i.B (bt (shapeOf i.Op) 1) n && rightB i.C (bt (shapeOf i.Op) 2) n) else false
theorem code_may_eq (i : api_Instr) (n : Int) : code_may.f i n = some (mayB i n) := by
  unfold code_may.f mayB
  by_cases h0 : i.Op < 0
  · rw [if_pos h0, if_neg (by omega)]
  · by_cases h1 : 17 ≤ i.Op
    · rw [if_neg h0, if_pos h1, if_neg (by omega)]
    · obtain ⟨f1, -, -, -, -⟩ := op_facts i.Op (by omega) (by omega)
      have hsh : nth ([lit_2d2d2d, lit_726e2d, lit_72722d, lit_rrr, lit_rrr, lit_rrr, lit_rrr, lit_rrr, lit_rrr, lit_rrr, lit_702d2d, lit_72702d, lit_rrr, lit_72722d, lit_722d2d, lit_722d2d, lit_722d2d] : List ByteArray) i.Op = shapeOf i.Op := rfl
      rw [if_neg h0, if_neg h1]
      simp only [code_shapes.f, Option.bind_some, hsh, code_right_eq]
      have hp : 0 ≤ i.Op ∧ i.Op < 17 := by omega
      rw [if_pos hp, if_pos hp, if_pos (by omega)]
      by_cases a1 : rightB i.A (bt (shapeOf i.Op) 0) n = true
      · rw [if_pos a1, if_pos (by omega)]
        by_cases a2 : rightB i.B (bt (shapeOf i.Op) 1) n = true
        · rw [if_pos a2, if_pos (by omega)]
          simp [a1, a2]
        · rw [if_neg a2]
          simp [a2]
      · rw [if_neg a1]
        simp [a1]
def chk (l : List api_Instr) : Int := if 256 < (l.length : Int) then 2 else match (List.range l.length).find? (fun k : Nat => !mayB (nth l (k : Int)) (l.length : Int)) with | some _ => 130 | none => 0
theorem code_check_eq (l : List api_Instr) : code_Check.f l = some (chk l) := by
  unfold code_Check.f code_check.f chk
  by_cases h : 256 < (l.length : Int)
  · rw [if_pos h, if_pos h]; rfl
  · rw [if_neg h, if_neg h]
    unfold code_check.l2
    rw [loopR_find (fun k : Nat => !mayB (nth l (k : Int)) (l.length : Int)) (fun k => .inr (.inl ((k : Int), 130))) (.inr (.inr ())) l.length (fun k hk => by
      simp only [code_check.l2b, code_may_eq, Option.bind_some]
      rw [if_pos (by omega), if_pos (by omega), w64 (by omega) (by omega)]
      by_cases hm : mayB (nth l (k : Int)) (l.length : Int) = true
      · rw [if_pos hm]; simp [hm]
      · rw [if_neg hm]; simp [hm]) (by simp only [code_check.l2b]; rw [if_neg (by omega)])]
    cases (List.range l.length).find? (fun k : Nat => !mayB (nth l (k : Int)) (l.length : Int)) with
    | none => rfl
    | some k => rfl
end
section
open Go.Sl
set_option linter.unusedVariables false
set_option linter.unusedSimpArgs false
def timeB (n : Int) : Bool := decide (0 ≤ n ∧ n ≤ 4611686018427387903)
theorem valid_eq (n : Int) : vtime_Valid.f n = some (timeB n) := by
  unfold vtime_Valid.f timeB
  by_cases h : 0 ≤ n <;> simp [h]
def laneB (m : api_Model) (n : Int) : Bool := decide (0 ≤ n ∧ n < (m.Progs.length : Int))
theorem lane_eq (m : api_Model) (n : Int) : model_lane.f m n = some (laneB m n) := by
  unfold model_lane.f laneB
  by_cases h : 0 ≤ n <;> simp [h]
def sizesB (m : api_Model) : Bool := decide (1 ≤ m.Progs.length ∧ m.Progs.length ≤ 16) && timeB m.End && decide (0 ≤ m.Budget ∧ m.Budget ≤ 4096)
theorem sizes_eq (m : api_Model) : model_sizes.f m = some (if sizesB m then .inr () else .inl 1) := by
  unfold model_sizes.f sizesB
  rw [valid_eq]
  by_cases h1 : (m.Progs.length : Int) < 1
  · rw [if_pos h1]; simp [show ¬ (1 ≤ m.Progs.length) by omega]
  rw [if_neg h1]
  by_cases h2 : 16 < (m.Progs.length : Int)
  · rw [if_pos h2]; simp [show ¬ (m.Progs.length ≤ 16) by omega]
  rw [if_neg h2]
  simp only [Option.bind_some]
  cases h3 : timeB m.End with
  | false => simp
  | true =>
    rw [if_pos rfl]
    have h12 : (1 ≤ m.Progs.length ∧ m.Progs.length ≤ 16) := by omega
    by_cases h4 : m.Budget < 0
    · rw [if_pos h4]; simp [show ¬ (0 ≤ m.Budget) by omega]
    rw [if_neg h4]
    by_cases h5 : 4096 < m.Budget
    · rw [if_pos h5]; simp [show ¬ (m.Budget ≤ 4096) by omega]
    rw [if_neg h5]
    simp [h12, show 0 ≤ m.Budget by omega, show m.Budget ≤ 4096 by omega]
def progBad (m : api_Model) (k : Nat) : Bool := !decide (chk (nth m.Progs (k : Int)) = 0)
theorem join_eq (a : model_flaw) (e : Int) : errors_Join.f a e = some (a, e) := by
  unfold errors_Join.f
  rfl
theorem programs_eq (m : api_Model) (hp : m.Progs.length ≤ 16) : model_programs.f m = some (match (List.range m.Progs.length).find? (progBad m) with | some k => .inl (⟨(k : Int), 130⟩, chk (nth m.Progs (k : Int))) | none => .inr ()) := by
  unfold model_programs.f model_programs.l2
  refine (loopR_findS (fun k => ((k : Nat) : Int)) (progBad m) (fun k => .inl (⟨(k : Int), 130⟩, chk (nth m.Progs (k : Int)))) (.inr ()) m.Progs.length (fun k hk _ => ?_) (fun _ => ?_)).trans (by cases (List.range m.Progs.length).find? (progBad m) <;> rfl)
  · simp only [model_programs.l2b, code_check_eq, Option.bind_some, join_eq]
    rw [if_pos (by omega), if_pos (by omega), w64 (by omega) (by omega)]
    unfold progBad
    by_cases h : chk (nth m.Progs (k : Int)) = 0 <;> simp [h]
  · simp only [model_programs.l2b]
    rw [if_neg (by omega)]
def linkOK (m : api_Model) (l : api_Link) : Bool := laneB m l.From && laneB m l.To && decide (1 ≤ l.Look ∧ l.Look ≤ 4611686018427387903)
def same2 (a b : api_Link) : Bool := decide (a.From = b.From ∧ a.To = b.To)
def linkBad (m : api_Model) (k : Nat) : Bool := !linkOK m (nth m.Links (k : Int)) || (List.range k).any (fun j => same2 (nth m.Links (j : Int)) (nth m.Links (k : Int)))
def adr (l : api_Link) : Nat := l.From.toNat * 16 + l.To.toNat * 1
def seen (m : api_Model) : Nat → Nat → Bool
  | 0 => fun _ => false
  | k + 1 => upd (seen m k) (adr (nth m.Links (k : Int))) true
theorem seen_eq (m : api_Model) (a : Nat) : ∀ k, seen m k a = (List.range k).any (fun j => decide (adr (nth m.Links (j : Int)) = a))
  | 0 => rfl
  | k + 1 => by
    rw [List.range_succ, List.any_append, ← seen_eq m a k]
    show upd (seen m k) (adr (nth m.Links (k : Int))) true a = _
    unfold upd
    by_cases h : a = adr (nth m.Links (k : Int))
    · rw [if_pos h]; simp [h]
    · rw [if_neg h]; simp [Ne.symm h]
theorem linkOK_of {m : api_Model} {l : api_Link} (h : linkOK m l = true) : (0 ≤ l.From ∧ l.From < (m.Progs.length : Int)) ∧ (0 ≤ l.To ∧ l.To < (m.Progs.length : Int)) ∧ 1 ≤ l.Look ∧ l.Look ≤ 4611686018427387903 := by
  simpa [linkOK, laneB, and_assoc] using h
theorem links_eq (m : api_Model) (hp : m.Progs.length ≤ 16) : model_links.f m = some (if 1024 < (m.Links.length : Int) then .inl 131 else match (List.range m.Links.length).find? (linkBad m) with | some k => .inr (.inl ⟨(k : Int), 131⟩) | none => .inr (.inr ())) := by
  unfold model_links.f
  by_cases h : 1024 < (m.Links.length : Int)
  · rw [if_pos h, if_pos h]
  rw [if_neg h, if_neg h]
  unfold model_links.l2
  refine (loopR_findS (fun k => (seen m k, ((k : Nat) : Int))) (linkBad m) (fun k => .inr (.inl ⟨(k : Int), 131⟩)) (.inr (.inr ())) m.Links.length (fun k hk hb => ?_) (fun _ => ?_)).trans (by cases (List.range m.Links.length).find? (linkBad m) <;> rfl)
  · simp only [model_links.l2b, lane_eq, Option.bind_some]
    rw [if_pos (by omega), if_pos (by omega)]
    generalize hl : nth m.Links (k : Int) = l
    have hbad : linkBad m k = (!linkOK m l || (List.range k).any (fun j => same2 (nth m.Links (j : Int)) l)) := by rw [← hl]; rfl
    rw [hbad]
    by_cases h1 : laneB m l.From = true
    · rw [if_pos h1]
      by_cases h2 : laneB m l.To = true
      · rw [if_pos h2]
        by_cases h3 : l.Look < 1
        · rw [if_pos h3]; simp [linkOK, show ¬ (1 ≤ l.Look) by omega]
        rw [if_neg h3]
        by_cases h4 : 4611686018427387903 < l.Look
        · rw [if_pos h4]; simp [linkOK, show ¬ (l.Look ≤ 4611686018427387903) by omega]
        rw [if_neg h4]
        have hok : linkOK m l = true := by simp [linkOK, h1, h2, show 1 ≤ l.Look by omega, show l.Look ≤ 4611686018427387903 by omega]
        obtain ⟨⟨f0, f1⟩, ⟨t0, t1⟩, _⟩ := linkOK_of hok
        rw [if_pos (by omega), if_pos (by omega)]
        have hseen : seen m k (l.From.toNat * 16 + l.To.toNat * 1) = (List.range k).any (fun j => same2 (nth m.Links (j : Int)) l) := by
          rw [seen_eq]
          apply Bool.eq_iff_iff.2
          simp only [List.any_eq_true, List.mem_range, decide_eq_true_eq, same2]
          refine exists_congr fun j => and_congr_right fun hj => ?_
          have hjb := hb j hj
          have hjo : linkOK m (nth m.Links (j : Int)) = true := by
            unfold linkBad at hjb
            simp only [Bool.or_eq_false_iff, Bool.not_eq_false'] at hjb
            exact hjb.1
          obtain ⟨⟨g0, g1⟩, ⟨u0, u1⟩, _⟩ := linkOK_of hjo
          unfold adr
          constructor
          · intro e; constructor <;> omega
          · rintro ⟨e1, e2⟩; rw [e1, e2]
        rw [hseen, hok]
        by_cases h5 : (List.range k).any (fun j => same2 (nth m.Links (j : Int)) l) = true
        · rw [if_pos h5, h5]; rfl
        · rw [if_neg h5]
          simp only [Bool.not_eq_true] at h5
          rw [h5, w64 (by omega) (by omega)]
          show some (Sum.inl (upd (seen m k) _ true, (k : Int) + 1)) = some (Sum.inl (upd (seen m k) (adr (nth m.Links (k : Int))) true, _))
          rw [hl]; rfl
      · rw [if_neg h2]; simp [linkOK, h2]
    · rw [if_neg h1]; simp [linkOK, h1]
  · simp only [model_links.l2b]
    rw [if_neg (by omega)]
def startOK (m : api_Model) (s : api_Start) : Bool := laneB m s.To && timeB s.Time
def startBad (m : api_Model) (k : Nat) : Bool := !startOK m (nth m.Starts (k : Int))
theorem starts_eq (m : api_Model) : model_starts.f m = some (if 4096 < (m.Starts.length : Int) then .inl 132 else match (List.range m.Starts.length).find? (startBad m) with | some k => .inr (.inl ⟨(k : Int), 132⟩) | none => .inr (.inr ())) := by
  unfold model_starts.f
  by_cases h : 4096 < (m.Starts.length : Int)
  · rw [if_pos h, if_pos h]
  rw [if_neg h, if_neg h]
  unfold model_starts.l2
  refine (loopR_findS (fun k => ((k : Nat) : Int)) (startBad m) (fun k => .inr (.inl ⟨(k : Int), 132⟩)) (.inr (.inr ())) m.Starts.length (fun k hk hb => ?_) (fun _ => ?_)).trans (by cases (List.range m.Starts.length).find? (startBad m) <;> rfl)
  · simp only [model_starts.l2b, lane_eq, valid_eq, Option.bind_some]
    rw [if_pos (by omega), if_pos (by omega), w64 (by omega) (by omega)]
    unfold startBad startOK
    cases laneB m (nth m.Starts (k : Int)).To <;> cases timeB (nth m.Starts (k : Int)).Time <;> rfl
  · simp only [model_starts.l2b]
    rw [if_neg (by omega)]
def chkM (m : api_Model) : Int :=
  if sizesB m then if (List.range m.Progs.length).any (progBad m) then 130 else if 1024 < (m.Links.length : Int) then 131 else if (List.range m.Links.length).any (linkBad m) then 131
    else if 4096 < (m.Starts.length : Int) then 132 else if (List.range m.Starts.length).any (startBad m) then 132 else 0
  else 1
theorem model_check_eq (m : api_Model) : model_Check.f m = some (chkM m) := by
  unfold model_Check.f chkM
  simp only [model_rules.f, sizes_eq, Option.bind_some]
  cases hs : sizesB m with
  | false => rfl
  | true =>
    have hp : m.Progs.length ≤ 16 := by
      simp only [sizesB, Bool.and_eq_true, decide_eq_true_eq] at hs
      exact hs.1.1.2
    simp only [if_pos, programs_eq m hp, Option.bind_some]
    rw [← find_any (progBad m) m.Progs.length (130 : Int)]
    cases (List.range m.Progs.length).find? (progBad m) with
    | some k => rfl
    | none =>
      simp only [links_eq m hp, Option.bind_some]
      by_cases h : 1024 < (m.Links.length : Int)
      · rw [if_pos h, if_pos h]; rfl
      rw [if_neg h, if_neg h, ← find_any (linkBad m) m.Links.length (131 : Int)]
      cases (List.range m.Links.length).find? (linkBad m) with
      | some k => rfl
      | none =>
        simp only [starts_eq m, Option.bind_some]
        by_cases h : 4096 < (m.Starts.length : Int)
        · rw [if_pos h, if_pos h]; rfl
        rw [if_neg h, if_neg h, ← find_any (startBad m) m.Starts.length (132 : Int)]
        cases (List.range m.Starts.length).find? (startBad m) <;> rfl
end
section
open Go.Sl
set_option linter.unusedVariables false
set_option linter.unusedSimpArgs false
def idxs (p : Nat → Bool) (n : Nat) : List Int := ((List.range n).filter p).map (fun k : Nat => (k : Int))
theorem idxs_succ (p : Nat → Bool) (k : Nat) : idxs p (k + 1) = if p k then idxs p k ++ [(k : Int)] else idxs p k := by
  unfold idxs
  rw [List.range_succ, List.filter_append, List.map_append]
  cases h : p k <;> simp [h]
theorem idxs_len (p : Nat → Bool) (n : Nat) : (idxs p n).length ≤ n := by
  unfold idxs
  rw [List.length_map]
  exact Nat.le_trans (List.length_filter_le _ _) (by simp)
theorem idxs_get (p : Nat → Bool) (n i : Nat) (h : i < (idxs p n).length) : ∃ k : Nat, nth (idxs p n) (i : Int) = (k : Int) ∧ k < n ∧ p k = true := by
  rw [nth_nat h]
  have hm := List.getElem_mem h
  obtain ⟨k, hk, e⟩ := List.mem_map.1 hm
  obtain ⟨h1, h2⟩ := List.mem_filter.1 hk
  exact ⟨k, e.symm, List.mem_range.1 h1, h2⟩
theorem loop_idxs {R : Type} {body : List Int × Int → Option ((List Int × Int) ⊕ R)} (p : Nat → Bool) (n : Nat) {r : R} (h : ∀ k, k < n → ∀ l : List Int, l.length ≤ k → body (l, (k : Int)) = some (.inl (if p k then l ++ [(k : Int)] else l, ((k + 1 : Nat) : Int)))) (he : body (idxs p n, (n : Int)) = some (.inr r)) : loopR body ([], 0) = some r :=
  loopR_steps (fun k => (idxs p k, (k : Int))) n (fun k hk => by rw [h k hk _ (idxs_len p k), ← idxs_succ]) he
theorem loop_map {α R : Type} {body : List α × Int → Option ((List α × Int) ⊕ R)} (g : Nat → α) (n : Nat) {r : R} (h : ∀ k, k < n → ∀ l : List α, l.length = k → body (l, (k : Int)) = some (.inl (l ++ [g k], ((k + 1 : Nat) : Int)))) (he : body ((List.range n).map g, (n : Int)) = some (.inr r)) : loopR body ([], 0) = some r :=
  loopR_steps (fun k => ((List.range k).map g, (k : Int))) n (fun k hk => by rw [h k hk _ (by simp), List.range_succ, List.map_append]; rfl) he
def fromB (m : api_Model) (n : Int) (k : Nat) : Bool := decide ((nth m.Links (k : Int)).From = n)
def toB (m : api_Model) (n : Int) (k : Nat) : Bool := decide ((nth m.Links (k : Int)).To = n)
def ways (m : api_Model) (n : Int) : List Int := idxs (fromB m n) m.Links.length
def into (m : api_Model) (n : Int) : List Int := idxs (toB m n) m.Links.length
theorem links_bound {m : api_Model} (h : ok_api_Model m) : m.Links.length * 32 ≤ 140737488351232 := by
  have := h.2.1.2
  simpa [reachBytes] using this
theorem ways_eq {m : api_Model} (h : ok_api_Model m) (n : Int) : model_Ways.f m n = some (ways m n) := by
  have hb := links_bound h
  unfold model_Ways.f model_places.f model_places.l7
  rw [loop_idxs (r := ways m n) (fromB m n) m.Links.length (fun k hk l hl => by
    simp only [model_places.l7b, model_Ways_1.f, model_places.j8, Option.bind_some]
    rw [if_pos (by omega), if_pos (by omega), w64 (by omega) (by omega)]
    unfold fromB
    by_cases e : (nth m.Links (k : Int)).From = n
    · rw [if_pos (by simp [e]), if_pos (by omega), if_pos (by simp [e])]; rfl
    · rw [if_neg (by simp [e]), if_neg (by simp [e])]; rfl) (by simp only [model_places.l7b]; rw [if_neg (by omega)]; rfl)]
  rfl
theorem into_eq {m : api_Model} (h : ok_api_Model m) (n : Int) : model_Into.f m n = some (into m n) := by
  have hb := links_bound h
  unfold model_Into.f model_places_2.f model_places_2.l7
  rw [loop_idxs (r := into m n) (toB m n) m.Links.length (fun k hk l hl => by
    simp only [model_places_2.l7b, model_Into_1.f, model_places_2.j8, Option.bind_some]
    rw [if_pos (by omega), if_pos (by omega), w64 (by omega) (by omega)]
    unfold toB
    by_cases e : (nth m.Links (k : Int)).To = n
    · rw [if_pos (by simp [e]), if_pos (by omega), if_pos (by simp [e])]; rfl
    · rw [if_neg (by simp [e]), if_neg (by simp [e])]; rfl) (by simp only [model_places_2.l7b]; rw [if_neg (by omega)]; rfl)]
  rfl
def wlinks (m : api_Model) (n : Int) : List api_Link := (List.range (ways m n).length).map fun k : Nat => nth m.Links (nth (ways m n) (k : Int))
def wldP (m : api_Model) (n : Int) : api_World × Int :=
  if chkM m = 0 then if laneB m n then (⟨nth m.Progs n, n, wlinks m n, m.Seed⟩, 0) else (⟨[], 0, [], 0⟩, 1) else (⟨[], 0, [], 0⟩, chkM m)
theorem world_eq {m : api_Model} (h : ok_api_Model m) (n : Int) : model_World.f m n = some (wldP m n) := by
  have hb := links_bound h
  unfold model_World.f wldP
  rw [model_check_eq]
  simp only [Option.bind_some, lane_eq]
  by_cases hc : chkM m = 0
  · rw [if_pos hc, if_pos hc]
    by_cases hl : laneB m n = true
    · rw [if_pos hl, if_pos hl]
      have hr : 0 ≤ n ∧ n < (m.Progs.length : Int) := by simpa [laneB] using hl
      have hq : (nth m.Progs n).length * 32 ≤ 140737488351232 := by
        have := (h.1.1 _ (nth_mem hr.1 hr.2)).2
        simpa [reachBytes] using this
      rw [if_pos hr, if_pos (by simp only [List.length_nil]; omega)]
      unfold model_World.j4
      rw [ways_eq h]
      simp only [Option.bind_some, List.nil_append]
      unfold model_World.l6
      have hw : (ways m n).length ≤ m.Links.length := idxs_len _ _
      refine loop_map (fun k : Nat => nth m.Links (nth (ways m n) (k : Int))) (ways m n).length (fun k hk l hl => ?_) ?_
      · obtain ⟨j, e1, e2, _⟩ := idxs_get (fromB m n) m.Links.length k hk
        simp only [model_World.l6b]
        rw [if_pos (by omega), if_pos (by omega), if_pos (by rw [show nth (ways m n) (k : Int) = (j : Int) from e1]; omega), if_pos (by omega), w64 (by omega) (by omega)]
        rfl
      · simp only [model_World.l6b]
        rw [if_neg (by omega)]
        rfl
    · rw [if_neg hl, if_neg hl]
  · rw [if_neg hc, if_neg hc]
theorem chkM_zero {m : api_Model} (h : chkM m = 0) : sizesB m = true ∧ (List.range m.Progs.length).any (progBad m) = false ∧ m.Links.length ≤ 1024 ∧ (List.range m.Links.length).any (linkBad m) = false ∧ m.Starts.length ≤ 4096 ∧ (List.range m.Starts.length).any (startBad m) = false := by
  unfold chkM at h
  split at h
  · rename_i h1
    split at h
    · cases h
    · rename_i h2
      split at h
      · cases h
      · rename_i h3
        split at h
        · cases h
        · rename_i h4
          split at h
          · cases h
          · rename_i h5
            split at h
            · cases h
            · rename_i h6
              refine ⟨h1, ?_, ?_, ?_, ?_, ?_⟩ <;> first | omega | simp_all
  · cases h
end
section
open Go.Sl
set_option linter.unusedVariables false
def msg (m : api_Model) (k : Nat) : api_Message := ⟨⟨(nth m.Starts (k : Int)).Time, -1, (k : Int)⟩, (nth m.Starts (k : Int)).To, (nth m.Starts (k : Int)).Value, (k : Int), false⟩
theorem starts_list {m : api_Model} (l : m.Starts.length ≤ 1048576) : model_Starts.f m = some ((List.range m.Starts.length).map (msg m)) := by
  unfold model_Starts.f model_Starts.l2
  refine loop_map (msg m) m.Starts.length (fun k hk l hl => ?_) ?_
  · simp only [model_Starts.l2b]
    rw [if_pos (by omega), if_pos (by omega), if_pos (by omega), w64 (by omega) (by omega)]
    rfl
  · simp only [model_Starts.l2b]
    rw [if_neg (by omega)]
end
section
open Go.Sl
set_option linter.unusedVariables false
set_option linter.unusedSimpArgs false
def laneW (n : Int) : Bool := decide (0 ≤ n ∧ n < 16)
theorem vm_lane_eq (n : Int) : vm_lane.f n = some (laneW n) := by
  unfold vm_lane.f laneW
  by_cases h : 0 ≤ n <;> simp [h]
def linkBadW (w : api_World) (k : Nat) : Bool := !(laneW (nth w.Links (k : Int)).To && decide (1 ≤ (nth w.Links (k : Int)).Look ∧ (nth w.Links (k : Int)).Look ≤ 4611686018427387903))
def chkW (w : api_World) : Int :=
  if chk w.Prog = 0 then if laneW w.Self then if 1024 < (w.Links.length : Int) then 1 else if (List.range w.Links.length).any (linkBadW w) then 1 else 0 else 1 else chk w.Prog
theorem vm_check_eq (w : api_World) : vm_Check.f w = some (chkW w) := by
  unfold vm_Check.f chkW
  simp only [code_check_eq, vm_lane_eq, Option.bind_some]
  by_cases h : chk w.Prog = 0
  · rw [if_pos h, if_pos h]
    cases laneW w.Self with
    | false => rfl
    | true =>
      rw [if_pos rfl, if_pos rfl]
      by_cases h2 : 1024 < (w.Links.length : Int)
      · rw [if_pos h2, if_pos h2]
      rw [if_neg h2, if_neg h2]
      unfold vm_Check.l2
      rw [loopR_any (linkBadW w) (1 : Int) 0 w.Links.length (fun k hk => by
        simp only [vm_Check.l2b, vm_lane_eq, valid_eq, Option.bind_some]
        rw [if_pos (by omega), if_pos (by omega), w64 (by omega) (by omega)]
        unfold linkBadW
        cases laneW (nth w.Links (k : Int)).To with
        | false => rfl
        | true =>
          rw [if_pos rfl]
          by_cases h3 : (nth w.Links (k : Int)).Look < 1
          · rw [if_pos h3]; simp [show ¬ (1 ≤ (nth w.Links (k : Int)).Look) by omega]
          rw [if_neg h3]
          unfold timeB
          by_cases h4 : (nth w.Links (k : Int)).Look ≤ 4611686018427387903
          · rw [decide_eq_true (show 0 ≤ (nth w.Links (k : Int)).Look ∧ (nth w.Links (k : Int)).Look ≤ 4611686018427387903 by omega), decide_eq_true (show 1 ≤ (nth w.Links (k : Int)).Look ∧ (nth w.Links (k : Int)).Look ≤ 4611686018427387903 by omega)]; rfl
          · rw [decide_eq_false (show ¬ (0 ≤ (nth w.Links (k : Int)).Look ∧ (nth w.Links (k : Int)).Look ≤ 4611686018427387903) by omega), decide_eq_false (show ¬ (1 ≤ (nth w.Links (k : Int)).Look ∧ (nth w.Links (k : Int)).Look ≤ 4611686018427387903) by omega)]; rfl)
        (by simp only [vm_Check.l2b]; rw [if_neg (by omega)])]
  · rw [if_neg h, if_neg h]
def evB (m : api_Message) : Bool := timeB m.Key.Time && decide (-1 ≤ m.Key.From ∧ m.Key.From < 16) && laneW m.To && decide (0 ≤ m.Key.Seq ∧ 0 ≤ m.Uid)
structure Fine (w : api_World) (m : api_Message) : Prop where
  may : ∀ k : Nat, k < w.Prog.length → mayB (nth w.Prog (k : Int)) (w.Prog.length : Int) = true
  many : (w.Prog.length : Int) ≤ 256
  links : (w.Links.length : Int) ≤ 1024
  look : ∀ k : Nat, k < w.Links.length → 1 ≤ (nth w.Links (k : Int)).Look
  self : 0 ≤ w.Self ∧ w.Self < 16
  time : 0 ≤ m.Key.Time ∧ m.Key.Time ≤ 4611686018427387903
  value : -9223372036854775808 ≤ m.Value ∧ m.Value ≤ 9223372036854775807
def zst : api_State := ⟨⟨0, 0, 0, 0, 0, 0, 0, 0⟩, 0, 0⟩
theorem chk_zero {l : List api_Instr} (h : chk l = 0) : (l.length : Int) ≤ 256 ∧ ∀ k : Nat, k < l.length → mayB (nth l (k : Int)) (l.length : Int) = true := by
  unfold chk at h
  split at h
  · cases h
  · rename_i h1
    refine ⟨by omega, fun k hk => ?_⟩
    cases hf : (List.range l.length).find? (fun k : Nat => !mayB (nth l (k : Int)) (l.length : Int)) with
    | some j => rw [hf] at h; cases h
    | none =>
      have := List.find?_eq_none.1 hf k (List.mem_range.2 hk)
      simpa using this
theorem fine_of {w : api_World} {m : api_Message} (hw : chkW w = 0) (hm : evB m = true) (hv : -9223372036854775808 ≤ m.Value ∧ m.Value ≤ 9223372036854775807) : Fine w m := by
  unfold chkW at hw
  split at hw
  · rename_i h1
    split at hw
    · rename_i h2
      split at hw
      · cases hw
      · rename_i h3
        split at hw
        · cases hw
        · rename_i h4
          obtain ⟨p1, p2⟩ := chk_zero h1
          simp only [evB, Bool.and_eq_true] at hm
          refine ⟨p2, p1, by omega, fun k hk => ?_, by simpa [laneW] using h2, by simpa [timeB] using hm.1.1.1, hv⟩
          simp only [Bool.not_eq_true] at h4
          have := List.any_eq_false.1 h4 k (List.mem_range.2 hk)
          simp only [linkBadW, Bool.not_eq_true, Bool.not_eq_false', Bool.and_eq_true, decide_eq_true_eq] at this
          exact this.2.1
    · cases hw
  · rename_i h1
    exact absurd hw h1
end
section
open Go.Sl
set_option linter.unusedVariables false
set_option linter.unusedSimpArgs false
def zmsg : api_Message := ⟨⟨0, 0, 0⟩, 0, 0, 0, false⟩
theorem new_eq (w : api_World) (e : Int) (he : 1 ≤ e ∧ e ≤ 1024) : log_New.f w zst e = some (if chkW w = 0 then .inr (⟨w, true, zst, e, [], false⟩, 0) else .inl (chkW w)) := by
  unfold log_New.f
  rw [vm_check_eq]
  simp only [Option.bind_some]
  by_cases h : chkW w = 0
  · have hF := fine_of (m := zmsg) h (by decide) (by decide)
    have h1 := hF.many
    have h2 := hF.links
    rw [if_pos h, if_pos h, if_neg (by decide), if_neg (by decide), if_neg (by omega), if_neg (by omega), if_pos (by simp only [List.length_nil]; omega), if_pos (by simp only [List.length_nil]; omega), List.nil_append, List.nil_append]
  · rw [if_neg h, if_neg h]
end
section
open Go.Sl
set_option linter.unusedVariables false
set_option linter.unusedSimpArgs false
def wldN (m : api_Model) (n : Int) : api_World := ⟨nth m.Progs n, n, wlinks m n, m.Seed⟩
theorem sizes_progs {m : api_Model} (hC : chkM m = 0) : 1 ≤ m.Progs.length ∧ m.Progs.length ≤ 16 := by
  have h1 := (chkM_zero hC).1
  unfold sizesB at h1
  simp only [Bool.and_eq_true, decide_eq_true_eq] at h1; exact h1.1.1
theorem wldN_eq {m : api_Model} (hC : chkM m = 0) {n : Int} (h0 : 0 ≤ n) (h1 : n < (m.Progs.length : Int)) : wldP m n = (wldN m n, 0) := by
  have hb : laneB m n = true := by
    simp only [laneB, decide_eq_true_eq]; omega
  unfold wldP
  rw [if_pos hC, if_pos hb]; rfl
theorem wldN_chk {m : api_Model} (hC : chkM m = 0) {n : Int} (h0 : 0 ≤ n) (h1 : n < (m.Progs.length : Int)) : chkW (wldN m n) = 0 := by
  obtain ⟨_, h2, h3, h4, _⟩ := chkM_zero hC
  have hp := sizes_progs hC
  have hpb := List.any_eq_false.1 h2 n.toNat (List.mem_range.2 (by omega))
  have en : ((n.toNat : Nat) : Int) = n := by omega
  have hpc : chk (nth m.Progs n) = 0 := by
    unfold progBad at hpb
    rw [en] at hpb
    simpa using hpb
  have hl : (wlinks m n).length ≤ 1024 := by
    unfold wlinks
    rw [List.length_map, List.length_range]
    exact Nat.le_trans (idxs_len _ _) h3
  unfold chkW
  rw [show (wldN m n).Prog = nth m.Progs n from rfl, if_pos hpc, show (wldN m n).Self = n from rfl, if_pos (by simp [laneW]; omega), show (wldN m n).Links = wlinks m n from rfl, if_neg (by omega)]
  rw [if_neg]
  rw [Bool.not_eq_true, List.any_eq_false]
  intro k hk
  have hk := List.mem_range.1 hk
  have hk' : k < (ways m n).length := by simpa [wlinks] using hk
  obtain ⟨j, ej, hj, hf⟩ := idxs_get (fromB m n) m.Links.length k hk'
  have ej' : nth (ways m n) (k : Int) = (j : Int) := ej
  have e : nth (wlinks m n) (k : Int) = nth m.Links (j : Int) := by
    rw [nth_nat hk]
    simp only [wlinks, List.getElem_map, List.getElem_range, ej']
  have hb := List.any_eq_false.1 h4 j (List.mem_range.2 hj)
  simp only [linkBad, Bool.or_eq_true, Bool.not_eq_true', not_or, Bool.not_eq_false] at hb
  obtain ⟨⟨_, _⟩, ⟨t0, t1⟩, l0, l1⟩ := linkOK_of hb.1
  have hf' : (nth m.Links (j : Int)).From = n := by simpa [fromB] using hf
  unfold linkBadW
  rw [show (wldN m n).Links = wlinks m n from rfl, e]
  simp only [laneW, Bool.not_eq_true', Bool.not_eq_false', Bool.and_eq_true, decide_eq_true_eq, Bool.not_eq_true, Bool.not_eq_false]
  omega
def frsN (m : api_Model) (n : Int) (k : Nat) : List api_Message := ((List.range k).map (msg m)).filter fun x => decide (x.To = n)
theorem frsN_succ (m : api_Model) (n : Int) (k : Nat) : frsN m n (k + 1) = if (msg m k).To = n then frsN m n k ++ [msg m k] else frsN m n k := by
  unfold frsN
  rw [List.range_succ, List.map_append, List.filter_append]
  by_cases h : (msg m k).To = n
  · simp [h]
  · simp [h]
theorem frsN_mem {m : api_Model} {n : Int} {k : Nat} {x : api_Message} (h : x ∈ frsN m n k) : ∃ j, j < k ∧ x = msg m j ∧ x.To = n := by
  unfold frsN at h
  obtain ⟨h1, h2⟩ := List.mem_filter.1 h
  obtain ⟨j, hj, e⟩ := List.mem_map.1 h1
  exact ⟨j, List.mem_range.1 hj, e.symm, by simpa using h2⟩
theorem frsN_len (m : api_Model) (n : Int) (k : Nat) : (frsN m n k).length ≤ k := by
  unfold frsN
  exact Nat.le_trans (List.length_filter_le _ _) (by simp)
def laneN (m : api_Model) (c : api_Caps) (n : Int) : lane_Lane := ⟨m, n, c, ways m n, ⟨wldN m n, true, zst, 4, [], false⟩, qof [], [], [], [], [], 0, ⟨2, 4, 0, 1000, 0⟩, ⟨0, 0, 0, 0⟩⟩
def lnN (x : lane_Lane) (W : List api_Message) (hd : List (lane_sending × Bool)) : lane_Lane := { x with wait := qof W, held := hd }
theorem hold_freshN {x : lane_Lane} {l : List api_Message} {y : api_Message} (hw : x.wait = qof l) (hq : QOK l) (hn : snd y ∉ l.map snd) (hl : l.length < 16384) :
    ∃ W, lane_Lane_hold.f x y = some { x with wait := qof W, held := mset x.held ⟨y.Key.From, y.Uid⟩ true } ∧ W.Perm (y :: l) ∧ QOK W := by
  rcases qPush_eq (m := y) hq with ⟨h, _⟩ | ⟨_, h, _⟩ | ⟨_, _, W, e, p, q⟩
  · exact absurd h hn
  · omega
  · refine ⟨W, ?_, p, q⟩
    unfold lane_Lane_hold.f
    rw [hw, e]
    simp only [Option.bind_some, if_true]
    unfold lane_of.f
    rfl
theorem hold_loopN {m : api_Model} (t : Int) {n : Nat} (hn : n ≤ 4096) : ∀ (d k : Nat) (x : lane_Lane) (l : List api_Message), d + k = n → x.wait = qof l → QOK l → l.Perm (frsN m t k) →
    ∃ W hd, loopR (lane_New.l19b t ((List.range n).map (msg m))) (x, (k : Int)) = some (.inr ({ x with wait := qof W, held := hd }, 0)) ∧ QOK W ∧ W.Perm (frsN m t n)
  | 0, k, x, l, e, hw, hq, hp => by
    have : k = n := by omega
    subst this
    refine ⟨l, x.held, ?_, hq, hp⟩
    rw [loopR_eq]
    simp only [lane_New.l19b]
    rw [if_neg (by simp), ← hw]
    rfl
  | d + 1, k, x, l, e, hw, hq, hp => by
    rw [loopR_eq]
    simp only [lane_New.l19b]
    have hk : k < ((List.range n).map (msg m)).length := by simp; omega
    have ek : nth ((List.range n).map (msg m)) (k : Int) = msg m k := by
      rw [nth_nat hk]; simp
    rw [if_pos (by simp; omega), if_pos (by omega), ek]
    by_cases ht : (msg m k).To = t
    · have hfr : snd (msg m k) ∉ l.map snd := fun hc => by
        obtain ⟨z, hz, ez⟩ := List.mem_map.1 hc
        obtain ⟨j, hj, rfl, _⟩ := frsN_mem (hp.mem_iff.1 hz)
        simp only [snd, msg, Prod.mk.injEq] at ez; omega
      have hll : l.length ≤ k := by rw [hp.length_eq]; exact frsN_len m t k
      obtain ⟨W, eh, p, q⟩ := hold_freshN hw hq hfr (by omega)
      rw [if_pos ht, eh]
      simp only [Option.bind_some]
      unfold lane_New.j20
      rw [w64 (by omega) (by omega)]
      obtain ⟨W', hd', el, q', p'⟩ := hold_loopN t hn d (k + 1) { x with wait := qof W, held := mset x.held ⟨(msg m k).Key.From, (msg m k).Uid⟩ true } W (by omega) rfl q (by
        rw [frsN_succ, if_pos ht]
        exact p.trans ((hp.cons _).trans (List.perm_append_comm (l₁ := [msg m k]) (l₂ := frsN m t k))))
      exact ⟨W', hd', el, q', p'⟩
    · rw [if_neg ht]
      unfold lane_New.j20
      rw [w64 (by omega) (by omega)]
      exact hold_loopN t hn d (k + 1) x l (by omega) hw hq (by rw [frsN_succ, if_neg ht]; exact hp)
def capsB (c : api_Caps) : Bool := decide (1 ≤ c.Link ∧ c.Link ≤ 1024 ∧ 1 ≤ c.Wait ∧ c.Wait ≤ 4096 ∧ 1 ≤ c.Log ∧ c.Log ≤ 4096)
theorem NewN_bad {m : api_Model} (h : ok_api_Model m) (hC : chkM m = 0) {n : Int} (h0 : 0 ≤ n) (h1 : n < (m.Progs.length : Int)) {c : api_Caps} (hc : capsB c = false) : lane_New.f m n c = some (.inl 1) := by
  have hc' : ¬ (1 ≤ c.Link ∧ c.Link ≤ 1024 ∧ 1 ≤ c.Wait ∧ c.Wait ≤ 4096 ∧ 1 ≤ c.Log ∧ c.Log ≤ 4096) := by
    unfold capsB at hc; exact of_decide_eq_false hc
  unfold lane_New.f
  rw [world_eq h, wldN_eq hC h0 h1]
  simp only [Option.bind_some, if_true]
  by_cases a : c.Link < 1
  · rw [if_pos a]
  rw [if_neg a]
  by_cases b : 1024 < c.Link
  · rw [if_pos b]
  rw [if_neg b]
  by_cases d : (if c.Log < c.Wait then c.Log else c.Wait) < 1
  · rw [if_pos d]
  rw [if_neg d]
  by_cases e : 4096 < (if c.Wait < c.Log then c.Log else c.Wait)
  · rw [if_pos e]
  exfalso
  apply hc'
  split at d <;> split at e <;> omega
theorem NewN_eq {m : api_Model} (h : ok_api_Model m) (hC : chkM m = 0) {n : Int} (h0 : 0 ≤ n) (h1 : n < (m.Progs.length : Int)) {c : api_Caps} (hc : capsB c = true) :
    ∃ W hd, lane_New.f m n c = some (.inr (lnN (laneN m c n) W hd, 0)) ∧ QOK W ∧ W.Perm (frsN m n m.Starts.length) := by
  have hc : 1 ≤ c.Link ∧ c.Link ≤ 1024 ∧ 1 ≤ c.Wait ∧ c.Wait ≤ 4096 ∧ 1 ≤ c.Log ∧ c.Log ≤ 4096 := by
    unfold capsB at hc; exact of_decide_eq_true hc
  obtain ⟨_, _, h3, _, h5, _⟩ := chkM_zero hC
  obtain ⟨W, hd, el, q, p⟩ := hold_loopN n h5 m.Starts.length 0 (laneN m c n) [] (by omega) rfl QOK.nil (by unfold frsN; exact List.Perm.refl _)
  refine ⟨W, hd, ?_, q, p⟩
  unfold lane_New.f
  rw [world_eq h, wldN_eq hC h0 h1]
  simp only [Option.bind_some, if_true]
  rw [if_neg (by omega), if_neg (by omega), if_neg (by split <;> omega), if_neg (by split <;> omega), ways_eq h]
  simp only [Option.bind_some]
  unfold tune_First.f lane_New.j12
  simp only [Option.bind_some]
  rw [if_pos (by simp only [List.length_nil]; omega), show (⟨(⟨0, 0, 0, 0, 0, 0, 0, 0⟩ : Arr8xInti64), 0, 0⟩ : api_State) = zst from rfl, new_eq (wldN m n) 4 (by omega), if_pos (wldN_chk hC h0 h1)]
  simp only [Option.bind_some]
  rw [starts_list (by omega)]
  unfold pend_New.f pend_fresh.f heap_New.f lane_New.l19
  simp only [Option.bind_some]
  exact el
theorem least_nil : vtime_Least.f [] = some 4611686018427387904 := by
  unfold vtime_Least.f vtime_Least.l2
  rw [loopR_eq]
  simp [vtime_Least.l2b]
theorem least_tot (l : List Int) (hl : l.length ≤ 1000) : ∃ t, vtime_Least.f l = some t := by
  unfold vtime_Least.f vtime_Least.l2
  have : ∀ (d k : Nat) (x : Int), d + k = l.length → ∃ t, loopR (vtime_Least.l2b l) (x, (k : Int)) = some t := by
    intro d
    induction d with
    | zero =>
      intro k x e
      refine ⟨x, ?_⟩
      rw [loopR_eq]
      simp only [vtime_Least.l2b]
      rw [if_neg (by omega)]; rfl
    | succ d ih =>
      intro k x e
      obtain ⟨t, ht⟩ := ih (k + 1) (if nth l (k : Int) < x then nth l (k : Int) else x) (by omega)
      refine ⟨t, ?_⟩
      rw [loopR_eq]
      simp only [vtime_Least.l2b]
      rw [if_pos (by omega), if_pos (by omega), w64 (by omega) (by omega)]
      exact ht
  exact this l.length 0 _ (by omega)
theorem local_new {x : lane_Lane} {W : List api_Message} (hw : x.wait = qof W) (ho : x.open_ = []) : ∃ t, lane_Lane_Local.f x = some t := by
  have hj : ∀ t, lane_Lane_Local.j3 x t = some t := fun t => by
    unfold lane_Lane_Local.j3 lane_Lane_Local.l4
    rw [loopR_eq]
    simp [lane_Lane_Local.l4b, ho]
  unfold lane_Lane_Local.f lane_Lane_none.f
  rw [least_nil, hw]
  simp only [Option.bind_some]
  by_cases h : 0 < W.length
  · rw [qFirst_eq h]
    simp only [Option.bind_some, if_true]
    unfold log_Log_Stuck.f log_Log_none.f
    simp only [Option.bind_some]
    obtain ⟨t, ht⟩ := least_tot [(at_ W 0).Key.Time] (by simp)
    have hz : ∀ b : Bool, ∃ t', ((some b).bind fun t485 => if t485 = true then lane_Lane_Local.j3 x 4611686018427387904 else (vtime_Least.f [(at_ W 0).Key.Time]).bind fun t493 => lane_Lane_Local.j3 x t493) = some t' := fun b => by
      simp only [Option.bind_some]
      by_cases hb : b = true
      · rw [if_pos hb]; exact ⟨_, hj _⟩
      · rw [if_neg hb, ht]; exact ⟨_, hj _⟩
    by_cases hm : (!x.log.made) = true
    · rw [if_pos hm]; exact hz false
    · rw [if_neg hm]; exact hz _
  · have : W = [] := List.length_eq_zero_iff.1 (by omega)
    subst this
    rw [qFirst_nil]
    simp only [Option.bind_some]
    rw [if_neg (by decide)]
    exact ⟨_, hj _⟩
theorem local_nilN {x : lane_Lane} (hw : x.wait = qof []) (ho : x.open_ = []) : lane_Lane_Local.f x = some 4611686018427387904 := by
  unfold lane_Lane_Local.f lane_Lane_none.f
  rw [least_nil, hw, qFirst_nil]
  simp only [Option.bind_some]
  rw [if_neg (by decide)]
  unfold lane_Lane_Local.j3 lane_Lane_Local.l4
  rw [loopR_eq]
  simp [lane_Lane_Local.l4b, ho]
end
section
open Go.Sl
set_option linter.unusedVariables false
set_option linter.unusedSimpArgs false
section
variable {κ ν : Type} [DecidableEq κ]
theorem findE_shift (k : κ) : ∀ (es : List (κ × ν)) (i : Nat), findE es k (i + 1) = (findE es k i).map (fun r => (r.1 + 1, r.2))
  | [], _ => rfl
  | e :: es, i => by
    unfold findE
    by_cases h : e.1 = k
    · rw [if_pos h, if_pos h]; rfl
    · rw [if_neg h, if_neg h]; exact findE_shift k es (i + 1)
theorem mset_cons (e : κ × ν) (es : List (κ × ν)) (k : κ) (v : ν) : mset (e :: es) k v = if e.1 = k then (k, v) :: es else e :: mset es k v := by
  unfold mset
  rw [findE]
  by_cases h : e.1 = k
  · rw [if_pos h, if_pos h]; rfl
  · rw [if_neg h, if_neg h, findE_shift]
    cases findE es k 0 <;> rfl
end
end
section
open Go.Sl
set_option linter.unusedVariables false
set_option linter.unusedSimpArgs false
theorem mset_len {κ ν : Type} [DecidableEq κ] (k : κ) (v : ν) : ∀ es : List (κ × ν), (mset es k v).length ≤ es.length + 1
  | [] => Nat.le_refl 1
  | e :: es => by
    have := mset_len k v es
    rw [mset_cons]
    split <;> simp <;> omega
def intoM (t : List Int) : Nat → List (Int × Int)
  | 0 => []
  | k + 1 => mset (intoM t k) (nth t (k : Int)) (k : Int)
theorem intoM_len (t : List Int) : ∀ k, (intoM t k).length ≤ k
  | 0 => Nat.le_refl _
  | k + 1 => by
    have := intoM_len t k
    have h := mset_len (nth t (k : Int)) (k : Int) (intoM t k)
    show (mset _ _ _).length ≤ _
    omega
def tal0 : colour_Tally := ⟨true, 0, (⟨0, 0⟩ : Arr2xInti64), 4611686018427387904⟩
structure Pl0 (m : api_Model) (c : api_Caps) (n : Int) (p : kernel_place) : Prop where
  ln : ∃ W hd, p.Lane = lnN (laneN m c n) W hd ∧ QOK W ∧ W.Perm (frsN m n m.Starts.length)
  ta : p.tally = tal0
  cl : p.clocks = ⟨true, List.replicate p.into.length 0⟩
  wa : p.ways = ways m n
  it : p.into = intoM (into m n) (into m n).length
def way0 (m : api_Model) (c : api_Caps) (k : Nat) : link_Way := ⟨nth m.Links (k : Int), c.Link, []⟩
def ker0 (m : api_Model) (c : api_Caps) (ps : List kernel_place) : kernel_Kernel := ⟨m, ps, (List.range m.Links.length).map (way0 m c), ⟨(m.Progs.length : Int), 0, false, 0, 4611686018427387904⟩, 0, 64, 64, [], 0⟩
theorem into_len {m : api_Model} (hC : chkM m = 0) (n : Int) : (into m n).length ≤ 1024 := by
  obtain ⟨_, _, h3, _⟩ := chkM_zero hC
  exact Nat.le_trans (idxs_len _ _) h3
theorem place_eq {m : api_Model} (h : ok_api_Model m) (hC : chkM m = 0) {ps : List kernel_place} (hps : ps.length < 16) {n : Int} (h0 : 0 ≤ n) (h1 : n < 16) (y : lane_Lane) (t : colour_Tally) (ws : List Int) :
    kernel_New.j132 m ps n y t ws = some (.inl (ps ++ [⟨y, t, ⟨true, List.replicate (intoM (into m n) (into m n).length).length 0⟩, ws, intoM (into m n) (into m n).length⟩], n + 1)) := by
  have hl := into_len hC n
  have hm := intoM_len (into m n) (into m n).length
  unfold kernel_New.j132
  rw [into_eq h]
  simp only [Option.bind_some]
  unfold kernel_New.l134
  refine (show loopR _ ((fun k : Nat => (intoM (into m n) k, (k : Int))) 0) = _ from loopR_steps (fun k : Nat => (intoM (into m n) k, (k : Int))) (into m n).length (fun k hk => ?_) ?_)
  · simp only [kernel_New.l134b]
    rw [if_pos (by omega), if_pos (by omega), w64 (by omega) (by omega)]
    rfl
  · simp only [kernel_New.l134b]
    rw [if_neg (by omega)]
    unfold clock_New.f
    rw [if_neg (by omega), if_neg (by omega), if_pos (by omega)]
    simp only [Option.bind_some]
    rw [if_pos (by omega), w64 (by omega) (by omega)]
    simp
theorem way_ok {m : api_Model} (hC : chkM m = 0) {c : api_Caps} (hc : capsB c = true) {k : Nat} (hk : k < m.Links.length) : link_New.f (nth m.Links (k : Int)) c.Link = some (.inr (way0 m c k, 0)) := by
  have hc : 1 ≤ c.Link ∧ c.Link ≤ 1024 ∧ 1 ≤ c.Wait ∧ c.Wait ≤ 4096 ∧ 1 ≤ c.Log ∧ c.Log ≤ 4096 := by
    unfold capsB at hc; exact of_decide_eq_true hc
  obtain ⟨_, _, _, h4, _⟩ := chkM_zero hC
  have hp := sizes_progs hC
  have hb := List.any_eq_false.1 h4 k (List.mem_range.2 hk)
  simp only [linkBad, Bool.or_eq_true, Bool.not_eq_true', not_or, Bool.not_eq_false] at hb
  obtain ⟨⟨f0, f1⟩, ⟨t0, t1⟩, _⟩ := linkOK_of hb.1
  unfold link_New.f link_lane.f
  rw [if_pos f0]
  simp only [Option.bind_some]
  rw [if_pos (by simp; omega), if_pos t0]
  simp only [Option.bind_some]
  rw [if_pos (by simp; omega), if_neg (by omega), if_neg (by omega)]
  rfl
theorem ways_made {m : api_Model} (hC : chkM m = 0) {c : api_Caps} (hc : capsB c = true) (ps : List kernel_place) : kernel_New.l136 m c ps ([], 0) = some (.inr (ker0 m c ps, 0)) := by
  obtain ⟨_, _, h3, _⟩ := chkM_zero hC
  have hp := sizes_progs hC
  unfold kernel_New.l136
  refine loop_map (way0 m c) m.Links.length (fun k hk l hl => ?_) ?_
  · simp only [kernel_New.l136b]
    rw [if_pos (by omega), if_pos (by omega), way_ok hC hc hk]
    simp only [Option.bind_some]
    rw [if_pos (by omega), w64 (by omega) (by omega)]
    rfl
  · simp only [kernel_New.l136b]
    rw [if_neg (by omega)]
    unfold colour_NewToken.f
    rw [if_neg (by omega), if_neg (by omega)]
    rfl
theorem places_made {m : api_Model} (h : ok_api_Model m) (hC : chkM m = 0) {c : api_Caps} (hc : capsB c = true) : ∀ (d k : Nat) (ps : List kernel_place), d + k = m.Progs.length → ps.length = k → (∀ i : Nat, i < k → Pl0 m c (i : Int) (nth ps (i : Int))) →
    ∃ qs, loopR (kernel_New.l126b m c) (ps, (k : Int)) = some (.inr (ker0 m c qs, 0)) ∧ qs.length = m.Progs.length ∧ ∀ i : Nat, i < m.Progs.length → Pl0 m c (i : Int) (nth qs (i : Int))
  | 0, k, ps, e, hl, hp => by
    have : k = m.Progs.length := by omega
    subst this
    refine ⟨ps, ?_, hl, hp⟩
    rw [loopR_eq]
    simp only [kernel_New.l126b]
    rw [if_neg (by omega), ways_made hC hc]
    rfl
  | d + 1, k, ps, e, hl, hp => by
    have h16 := sizes_progs hC
    obtain ⟨W, hd, eN, hq, hw⟩ := NewN_eq h hC (n := (k : Int)) (by omega) (by omega) hc
    rw [loopR_eq]
    simp only [kernel_New.l126b]
    rw [if_pos (by omega), eN]
    simp only [Option.bind_some, if_true]
    unfold colour_New.f
    simp only [Option.bind_some]
    rw [ways_eq h]
    simp only [Option.bind_some]
    rw [place_eq h hC (by omega) (by omega) (by omega)]
    refine places_made h hC hc d (k + 1) _ (by omega) (by simp [hl]) fun i hi => ?_
    by_cases hik : i < k
    · rw [nth_nat (by simp; omega), List.getElem_append_left (by omega), ← nth_nat]
      exact hp i hik
    · have : i = k := by omega
      subst this
      rw [nth_nat (by simp; omega), List.getElem_append_right (by omega)]
      simp only [hl, Nat.sub_self, List.getElem_cons_zero]
      exact ⟨⟨W, hd, rfl, hq, hw⟩, rfl, rfl, rfl, rfl⟩
theorem kNew_eq {m : api_Model} (h : ok_api_Model m) (hC : chkM m = 0) {c : api_Caps} (hc : capsB c = true) :
    ∃ ps, kernel_New.f m c = some (.inr (ker0 m c ps, 0)) ∧ ps.length = m.Progs.length ∧ ∀ i : Nat, i < m.Progs.length → Pl0 m c (i : Int) (nth ps (i : Int)) := by
  obtain ⟨ps, e, hl, hp⟩ := places_made h hC hc m.Progs.length 0 [] (by omega) rfl (fun i hi => by omega)
  refine ⟨ps, ?_, hl, hp⟩
  have hb := links_bound h
  unfold kernel_New.f
  rw [model_check_eq]
  simp only [Option.bind_some]
  rw [if_pos hC, if_pos (by simp only [List.length_nil]; omega)]
  exact e
theorem kNew_chk {m : api_Model} (hC : chkM m ≠ 0) (c : api_Caps) : kernel_New.f m c = some (.inl (chkM m)) := by
  unfold kernel_New.f
  rw [model_check_eq]
  simp only [Option.bind_some]
  rw [if_neg hC]
theorem kNew_caps {m : api_Model} (h : ok_api_Model m) (hC : chkM m = 0) {c : api_Caps} (hc : capsB c = false) : kernel_New.f m c = some (.inl 1) := by
  have hb := links_bound h
  have h16 := sizes_progs hC
  unfold kernel_New.f
  rw [model_check_eq]
  simp only [Option.bind_some]
  rw [if_pos hC, if_pos (by simp only [List.length_nil]; omega)]
  unfold kernel_New.l126
  rw [loopR_eq]
  simp only [kernel_New.l126b]
  rw [if_pos (by omega), NewN_bad h hC (by omega) (by omega) hc]
  rfl
theorem way_least {m : api_Model} {c : api_Caps} (hc : capsB c = true) (k : Nat) : link_Way_Least.f (way0 m c k) = some 4611686018427387904 := by
  have hc : 1 ≤ c.Link ∧ c.Link ≤ 1024 ∧ 1 ≤ c.Wait ∧ c.Wait ≤ 4096 ∧ 1 ≤ c.Log ∧ c.Log ≤ 4096 := by
    unfold capsB at hc; exact of_decide_eq_true hc
  unfold link_Way_Least.f
  rw [least_nil]
  simp only [Option.bind_some]
  unfold link_Way_All.f link_Way_none.f
  simp only [Option.bind_some]
  rw [if_neg (by show ¬ decide (c.Link = 0) = true; rw [decide_eq_true_eq]; omega), if_pos (by simp [way0])]
  simp only [Option.bind_some]
  unfold link_Way_Least.l2
  rw [loopR_eq]
  simp [link_Way_Least.l2b, way0]
theorem least_ker {m : api_Model} (hC : chkM m = 0) {c : api_Caps} (hc : capsB c = true) {ps : List kernel_place} (hl : ps.length = m.Progs.length) (hp : ∀ i : Nat, i < m.Progs.length → Pl0 m c (i : Int) (nth ps (i : Int))) :
    ∃ t, kernel_Kernel_Least.f (ker0 m c ps) = some t := by
  have h16 := sizes_progs hC
  obtain ⟨_, _, h3, _⟩ := chkM_zero hC
  have hw : ∀ (d k : Nat) (x : Int), d + k = m.Links.length → ∃ t, loopR (kernel_Kernel_Least.l6b (ker0 m c ps)) (x, (k : Int)) = some t := by
    intro d
    induction d with
    | zero =>
      intro k x e
      refine ⟨x, ?_⟩
      rw [loopR_eq]
      simp only [kernel_Kernel_Least.l6b]
      rw [if_neg (by simp [ker0]; omega)]; rfl
    | succ d ih =>
      intro k x e
      obtain ⟨y, hy⟩ := least_tot [x, 4611686018427387904] (by simp)
      obtain ⟨t, ht⟩ := ih (k + 1) y (by omega)
      refine ⟨t, ?_⟩
      have hk : k < ((List.range m.Links.length).map (way0 m c)).length := by simp; omega
      have ek : nth (ker0 m c ps).ways (k : Int) = way0 m c k := by
        show nth ((List.range m.Links.length).map (way0 m c)) (k : Int) = _
        rw [nth_nat hk]; simp
      rw [loopR_eq]
      simp only [kernel_Kernel_Least.l6b]
      rw [if_pos (by simp [ker0]; omega), if_pos (by omega), ek, way_least hc]
      simp only [Option.bind_some]
      rw [hy]
      simp only [Option.bind_some]
      rw [w64 (by omega) (by omega)]
      exact ht
  have hq : ∀ (d k : Nat) (x : Int), d + k = m.Progs.length → ∃ t, loopR (kernel_Kernel_Least.l5b (ker0 m c ps)) (x, (k : Int)) = some t := by
    intro d
    induction d with
    | zero =>
      intro k x e
      obtain ⟨t, ht⟩ := hw m.Links.length 0 x (by omega)
      refine ⟨t, ?_⟩
      rw [loopR_eq]
      simp only [kernel_Kernel_Least.l5b]
      rw [if_neg (by simp [ker0]; omega), inr_bind]
      exact ht
    | succ d ih =>
      intro k x e
      obtain ⟨W, hd, eL, _, _⟩ := (hp k (by omega)).ln
      obtain ⟨z, hz⟩ := local_new (x := (nth ps (k : Int)).Lane) (W := W) (by rw [eL]; rfl) (by rw [eL]; rfl)
      obtain ⟨y, hy⟩ := least_tot [x, z] (by simp)
      obtain ⟨t, ht⟩ := ih (k + 1) y (by omega)
      refine ⟨t, ?_⟩
      rw [loopR_eq]
      simp only [kernel_Kernel_Least.l5b]
      rw [if_pos (by simp [ker0]; omega), if_pos (by omega), show (nth (ker0 m c ps).at_ (k : Int)).Lane = (nth ps (k : Int)).Lane from rfl, hz]
      simp only [Option.bind_some]
      rw [hy]
      simp only [Option.bind_some]
      rw [w64 (by omega) (by omega)]
      exact ht
  obtain ⟨t, ht⟩ := hq m.Progs.length 0 4611686018427387904 (by omega)
  refine ⟨t, ?_⟩
  unfold kernel_Kernel_Least.f kernel_Kernel_none.f
  rw [least_nil]
  exact ht
theorem do_what {k : kernel_Kernel} (hs : k.stop = 0) {p : api_Pick} (h : p.What < 0 ∨ 11 < p.What) : kernel_Kernel_Do.f k p = some (1, k) := by
  unfold kernel_Kernel_Do.f kernel_Kernel_none.f kernel_Kernel_picks.f
  simp only [Option.bind_some]
  rw [if_pos hs, if_neg (by omega), if_neg (by omega), if_neg (by omega), if_neg (by omega), if_neg (by omega), if_neg (by omega), if_neg (by omega), if_neg (by omega), if_neg (by omega), if_neg (by omega), if_neg (by omega), if_neg (by omega)]
theorem who_none {k : kernel_Kernel} {n : Int} (h : n < 0 ∨ (k.at_.length : Int) ≤ n) : kernel_Kernel_who.f k n = some 1 := by
  unfold kernel_Kernel_who.f
  by_cases a : n < 0
  · rw [if_pos a]
  · rw [if_neg a, if_pos (by omega)]
theorem do_who {k : kernel_Kernel} (hs : k.stop = 0) {p : api_Pick} (hw : p.What = 0 ∨ p.What = 3 ∨ p.What = 11) (h : p.A < 0 ∨ (k.at_.length : Int) ≤ p.A) : kernel_Kernel_Do.f k p = some (1, k) := by
  have e1 : kernel_Kernel_step.f k p = some 1 := by
    unfold kernel_Kernel_step.f; rw [who_none h]; rfl
  have e2 : kernel_Kernel_promise.f k p = some 1 := by
    unfold kernel_Kernel_promise.f; rw [who_none h]; rfl
  have e3 : kernel_Kernel_set.f k p = some 1 := by
    unfold kernel_Kernel_set.f; rw [who_none h]; rfl
  unfold kernel_Kernel_Do.f kernel_Kernel_none.f kernel_Kernel_picks.f
  simp only [Option.bind_some]
  rw [if_pos hs, e1, e2, e3]
  rcases hw with hw | hw | hw <;> rw [hw] <;> rfl
theorem do_link {k : kernel_Kernel} (hs : k.stop = 0) {p : api_Pick} (hw : p.What = 1) (h : p.A < 0 ∨ (k.ways.length : Int) ≤ p.A) : kernel_Kernel_Do.f k p = some (1, k) := by
  have e1 : kernel_Kernel_deliver.f k p = some 1 := by
    unfold kernel_Kernel_deliver.f
    by_cases a : p.A < 0
    · rw [if_pos a]
    · rw [if_neg a, if_pos (by omega)]
  unfold kernel_Kernel_Do.f kernel_Kernel_none.f kernel_Kernel_picks.f
  simp only [Option.bind_some]
  rw [if_pos hs, e1, hw]
  rfl
end
section
open Go.Sl
set_option linter.unusedVariables false
set_option linter.unusedSimpArgs false
def mNon : api_Model := ⟨[([] : List api_Instr)], [], [], 0, 0, 0⟩
theorem mNon_ok : ok_api_Model mNon := by
  refine ⟨⟨fun x hx => ?_, by decide⟩, ⟨fun x hx => (by cases hx), by decide⟩, ⟨fun x hx => (by cases hx), by decide⟩, by decide, by decide, by decide⟩
  obtain rfl := List.mem_singleton.1 hx
  exact ⟨fun y hy => (by cases hy), by decide⟩
theorem mNon_chk : chkM mNon = 0 := rfl
theorem drop_nil {x : lane_Lane} (hl : x.log.l = []) (hm : x.log.made = true) (t : Int) : lane_Lane_Drop.f x t = some ([], x) := by
  unfold lane_Lane_Drop.f lane_Lane_none.f log_Log_Drop.f log_Log_none.f
  simp only [Option.bind_some, hm, Bool.not_true, Bool.false_eq_true, if_false]
  unfold log_Log_Drop.l6
  rw [loopR_eq]
  simp only [log_Log_Drop.l6b, hl]
  rw [if_neg (by simp), inr_bind]
  unfold log_Log_Drop.j5 log_Log_states.f log_Log_states_1.f log_Log_states_1.l16
  simp only [Option.bind_some]
  rw [loopR_eq]
  simp only [log_Log_states_1.l16b]
  rw [if_neg (by omega), inr_bind]
  unfold log_Log_states_1.j10 log_Log_states_1.l13
  rw [loopR_eq]
  simp only [log_Log_states_1.l13b, hl]
  rw [if_neg (by simp)]
  simp only [Option.bind_some, Sum.elim_inr]
  rw [if_pos (by simp), if_pos (by simp [subL])]
  have e : ([] : List log_done) ++ subL ([] : List log_done) 0 ((([] : List log_done).length : Nat) : Int) = x.log.l := by rw [hl]; rfl
  rw [e]
  rfl
theorem sort_nil : slices_SortStableFunc_api_Entry_api_Entry.f [] = some () := by
  have hi : ∀ a : Int, 0 ≤ a → slices_insertionSortCmpFunc_api_Entry.f [] 0 0 = some () := fun a _ => by
    unfold slices_insertionSortCmpFunc_api_Entry.f slices_insertionSortCmpFunc_api_Entry.l12
    rw [loopR_eq, w64 (by omega) (by omega)]
    simp only [slices_insertionSortCmpFunc_api_Entry.l12b]
    rw [if_neg (by omega)]
    rfl
  unfold slices_SortStableFunc_api_Entry_api_Entry.f slices_stableCmpFunc_api_Entry.f slices_stableCmpFunc_api_Entry.l9
  rw [loopR_eq]
  simp only [slices_stableCmpFunc_api_Entry.l9b]
  rw [if_neg (by simp), inr_bind, show ((([] : List api_Entry).length : Nat) : Int) = 0 from rfl, hi 0 (by omega)]
  simp only [Option.bind_some]
  unfold slices_stableCmpFunc_api_Entry.l12
  rw [loopR_eq]
  simp only [slices_stableCmpFunc_api_Entry.l12b]
  rw [if_neg (by omega)]
  rfl
theorem do_visit {k : kernel_Kernel} (hs : k.stop = 0) {p : api_Pick} (hw : p.What = 2) : kernel_Kernel_Do.f k p = kernel_Kernel_visit.f k p := by
  unfold kernel_Kernel_Do.f kernel_Kernel_none.f kernel_Kernel_picks.f
  simp only [Option.bind_some]
  rw [if_pos hs, if_neg (by omega), if_neg (by omega), if_pos hw]
  cases kernel_Kernel_visit.f k p <;> rfl
theorem nth_one {α : Type} [Inhabited α] (y : α) : nth [y] (0 : Int) = y := rfl
theorem set_one {α : Type} (x y : α) : setL [x] (0 : Int) y = [y] := rfl
section
variable {k k' : kernel_Kernel} {p : api_Pick} {ln : lane_Lane} {ta ta' : colour_Tally} {cl : clock_Clocks} {wa : List Int} {it : List (Int × Int)} {tk tk' : colour_Token} {t n e s : Int}
theorem visit_no (ha : k.at_ = [⟨ln, ta, cl, wa, it⟩]) (ht : k.token = tk) (hA : colour_Token_At.f tk = some 0) (hl : lane_Lane_Local.f ln = some n) (hV : colour_Token_Visit.f tk ta n = some (t, false, e, tk', ta')) :
    kernel_Kernel_visit.f k p = some (0, { k with at_ := [⟨ln, ta', cl, wa, it⟩], token := tk' }) := by
  unfold kernel_Kernel_visit.f
  rw [ht, hA]
  simp only [Option.bind_some]
  rw [ha, if_pos (by simp)]
  simp only [nth_one, set_one]
  rw [hl]
  simp only [Option.bind_some]
  rw [hV]
  simp only [Option.bind_some, Bool.false_eq_true, if_false]
theorem visit_over (ha : k.at_ = [⟨ln, ta, cl, wa, it⟩]) (ht : k.token = tk) (hA : colour_Token_At.f tk = some 0) (hl : lane_Lane_Local.f ln = some n) (hV : colour_Token_Visit.f tk ta n = some (t, true, e, tk', ta')) {q : Int}
    (hc : kernel_Kernel_commit.f { k with at_ := [⟨ln, ta', cl, wa, it⟩], token := tk', global := if k.global < t then t else k.global } = some (.inl (⟨s, q⟩, k'))) : kernel_Kernel_visit.f k p = some (0, { k' with stop := s }) := by
  unfold kernel_Kernel_visit.f
  rw [ht, hA]
  simp only [Option.bind_some]
  rw [ha, if_pos (by simp)]
  simp only [nth_one, set_one]
  rw [hl]
  simp only [Option.bind_some]
  rw [hV]
  simp only [Option.bind_some, if_true]
  rw [hc]
  rfl
theorem commit_nil (ha : k.at_ = [⟨ln, ta, cl, wa, it⟩]) (hd : lane_Lane_Drop.f ln k.global = some ([], ln)) (hE : k.m.End < k.global) : kernel_Kernel_commit.f k = some (.inl (⟨1, 6⟩, k)) := by
  unfold kernel_Kernel_commit.f kernel_Kernel_commit.l6
  rw [ha, loopR_eq]
  simp only [kernel_Kernel_commit.l6b, ha]
  rw [if_pos (by simp), if_pos (by omega)]
  simp only [nth_one, set_one]
  rw [hd]
  simp only [Option.bind_some]
  rw [if_pos (by simp), w64 (by omega) (by omega)]
  simp only [Option.bind_some, Sum.elim_inl]
  rw [loopR_eq]
  simp only [kernel_Kernel_commit.l6b, ha, List.append_nil]
  rw [if_neg (by simp), inr_bind, sort_nil]
  simp only [Option.bind_some]
  have ek : ({ k with at_ := [⟨ln, ta, cl, wa, it⟩] } : kernel_Kernel) = k := by rw [← ha]
  rw [ek]
  unfold kernel_Kernel_commit.l8
  rw [loopR_eq]
  simp only [kernel_Kernel_commit.l8b]
  rw [if_neg (by simp), inr_bind, if_pos hE]
end
def tal1 : colour_Tally := ⟨true, 1, (⟨0, 0⟩ : Arr2xInti64), 4611686018427387904⟩
theorem tok_at (b : Bool) : colour_Token_At.f ⟨1, 0, b, 0, 4611686018427387904⟩ = some 0 := rfl
theorem tok_turn : colour_Token_Visit.f ⟨1, 0, false, 0, 4611686018427387904⟩ tal0 4611686018427387904 = some (0, false, 0, ⟨1, 0, true, 0, 4611686018427387904⟩, tal1) := by
  have hx : IntKind.i64.wrap (BitVec.ofInt IntKind.i64.bits 0 ^^^ BitVec.ofInt IntKind.i64.bits 1).toNat = 1 := by decide
  unfold colour_Token_Visit.f colour_Token_none.f colour_Tally_none.f colour_Token_turn.f colour_Tally_Flip.f colour_Tally_none.f tal0
  simp only [Option.bind_some, hx]
  rfl
theorem tok_count : colour_Token_Visit.f ⟨1, 0, true, 0, 4611686018427387904⟩ tal1 4611686018427387904 = some (4611686018427387904, true, 0, ⟨1, 0, false, 0, 4611686018427387904⟩, tal1) := by
  have hy : IntKind.i64.wrap (BitVec.ofInt IntKind.i64.bits 1 ^^^ BitVec.ofInt IntKind.i64.bits 1).toNat = 0 := by decide
  have hl3 : vtime_Least.f [4611686018427387904, 4611686018427387904, 4611686018427387904] = some 4611686018427387904 := by
    unfold vtime_Least.f vtime_Least.l2
    exact (show loopR _ ((fun k : Nat => ((4611686018427387904 : Int), (k : Int))) 0) = _ from loopR_steps (fun k : Nat => ((4611686018427387904 : Int), (k : Int))) 3 (fun k hk => by
      simp only [vtime_Least.l2b]
      have : k = 0 ∨ k = 1 ∨ k = 2 := by omega
      rcases this with rfl | rfl | rfl <;> rfl) (by simp only [vtime_Least.l2b]; rfl))
  unfold colour_Token_Visit.f colour_Token_none.f colour_Tally_none.f colour_Token_count.f tal1
  simp only [Option.bind_some, hy, hl3]
  rfl
theorem awake_ker : isochronlaw18vawake.f = some true := by
  obtain ⟨ps, e, hl, hp⟩ := kNew_eq mNon_ok mNon_chk (c := ⟨1, 1, 1⟩) (by decide)
  have h0 := hp 0 (by decide)
  obtain ⟨W, hd, eL, hq, hw⟩ := h0.ln
  have hW : W = [] := by
    have := hw.length_eq
    have h0 := frsN_len mNon ((0 : Nat) : Int) mNon.Starts.length
    exact List.length_eq_zero_iff.1 (by have : mNon.Starts.length = 0 := rfl; omega)
  subst hW
  have hlen : ps.length = 1 := hl
  obtain ⟨p, rfl⟩ := List.length_eq_one_iff.1 hlen
  have ep : nth [p] ((0 : Nat) : Int) = p := rfl
  rw [ep] at h0 eL
  obtain ⟨ln, ta, cl, wa, it⟩ := p
  have hta : ta = tal0 := h0.ta
  subst hta
  have eL : ln = lnN (laneN mNon ⟨1, 1, 1⟩ 0) [] hd := eL
  have hloc : lane_Lane_Local.f ln = some 4611686018427387904 := local_nilN (by rw [eL]; rfl) (by rw [eL]; rfl)
  have hdrop : lane_Lane_Drop.f ln 4611686018427387904 = some ([], ln) := drop_nil (by rw [eL]; rfl) (by rw [eL]; rfl) _
  have v1 : kernel_Kernel_Do.f (ker0 mNon ⟨1, 1, 1⟩ [⟨ln, tal0, cl, wa, it⟩]) ⟨2, 0, 0⟩ = some (0, ⟨mNon, [⟨ln, tal1, cl, wa, it⟩], [], ⟨1, 0, true, 0, 4611686018427387904⟩, 0, 64, 64, [], 0⟩) := by
    rw [do_visit (k := ker0 mNon ⟨1, 1, 1⟩ [⟨ln, tal0, cl, wa, it⟩]) rfl rfl]
    exact visit_no (k := ker0 mNon ⟨1, 1, 1⟩ [⟨ln, tal0, cl, wa, it⟩]) rfl rfl (tok_at false) hloc tok_turn
  have c2 : kernel_Kernel_commit.f ⟨mNon, [⟨ln, tal1, cl, wa, it⟩], [], ⟨1, 0, false, 0, 4611686018427387904⟩, 4611686018427387904, 64, 64, [], 0⟩ = some (.inl (⟨1, 6⟩, ⟨mNon, [⟨ln, tal1, cl, wa, it⟩], [], ⟨1, 0, false, 0, 4611686018427387904⟩, 4611686018427387904, 64, 64, [], 0⟩)) :=
    commit_nil (k := ⟨mNon, [⟨ln, tal1, cl, wa, it⟩], [], ⟨1, 0, false, 0, 4611686018427387904⟩, 4611686018427387904, 64, 64, [], 0⟩) rfl hdrop (by show (0 : Int) < 4611686018427387904; omega)
  have v2 : kernel_Kernel_Do.f ⟨mNon, [⟨ln, tal1, cl, wa, it⟩], [], ⟨1, 0, true, 0, 4611686018427387904⟩, 0, 64, 64, [], 0⟩ ⟨2, 0, 0⟩ = some (0, ⟨mNon, [⟨ln, tal1, cl, wa, it⟩], [], ⟨1, 0, false, 0, 4611686018427387904⟩, 4611686018427387904, 64, 64, [], 1⟩) := by
    rw [do_visit (k := ⟨mNon, [⟨ln, tal1, cl, wa, it⟩], [], ⟨1, 0, true, 0, 4611686018427387904⟩, 0, 64, 64, [], 0⟩) rfl rfl]
    refine visit_over (k := ⟨mNon, [⟨ln, tal1, cl, wa, it⟩], [], ⟨1, 0, true, 0, 4611686018427387904⟩, 0, 64, 64, [], 0⟩) (q := 6) (k' := ⟨mNon, [⟨ln, tal1, cl, wa, it⟩], [], ⟨1, 0, false, 0, 4611686018427387904⟩, 4611686018427387904, 64, 64, [], 0⟩) rfl rfl (tok_at true) hloc tok_count ?_
    rw [show (if (⟨mNon, [⟨ln, tal1, cl, wa, it⟩], [], ⟨1, 0, true, 0, 4611686018427387904⟩, 0, 64, 64, [], 0⟩ : kernel_Kernel).global < 4611686018427387904 then (4611686018427387904 : Int) else (⟨mNon, [⟨ln, tal1, cl, wa, it⟩], [], ⟨1, 0, true, 0, 4611686018427387904⟩, 0, 64, 64, [], 0⟩ : kernel_Kernel).global) = 4611686018427387904 from if_pos (by show (0 : Int) < _; omega)]
    exact c2
  unfold isochronlaw18vawake.f
  rw [show kernel_New.f (⟨[([] : List api_Instr)], [], [], 0, 0, 0⟩ : api_Model) (⟨1, 1, 1⟩ : api_Caps) = _ from e]
  simp only [Option.bind_some, if_true]
  rw [v1]
  simp only [Option.bind_some]
  rw [v2]
  rfl
end
section
open Go.Sl
set_option linter.unusedVariables false
set_option linter.unusedSimpArgs false
theorem caps_iff (c : api_Caps) : capsB c = true ↔ 1 ≤ c.Link ∧ c.Link ≤ 1024 ∧ 1 ≤ c.Wait ∧ c.Wait ≤ 4096 ∧ 1 ≤ c.Log ∧ c.Log ≤ 4096 := by
  unfold capsB; exact decide_eq_true_iff
theorem refuses_j3 (m : api_Model) {e : Int} {q : Bool} (h : e = chkM m ∧ e ≠ 0 ∨ chkM m = 0 ∧ q = true ∧ e = 1) : isochronlaw18vKernelRefuses.j3 m e q = some true := by
  unfold isochronlaw18vKernelRefuses.j3
  rw [model_check_eq, awake_ker]
  simp only [Option.bind_some]
  rcases h with ⟨h, hn⟩ | ⟨h, hq, he⟩
  · rw [if_neg hn, if_pos h]
  · subst he
    rw [if_neg (by omega), if_neg (by omega), if_pos h, if_pos hq, if_pos rfl]
theorem refuses_j4 {m : api_Model} (hC : chkM m = 0) {c : api_Caps} (hc : capsB c = true) {ps : List kernel_place} (hl : ps.length = m.Progs.length) (hp : ∀ i : Nat, i < m.Progs.length → Pl0 m c (i : Int) (nth ps (i : Int))) (what a : Int) :
    isochronlaw18vKernelRefuses.j4 m what a (ker0 m c ps) 0 false = some true := by
  obtain ⟨t, eL⟩ := least_ker hC hc hl hp
  have eG : kernel_Kernel_Global.f (ker0 m c ps) = some 0 := rfl
  have eS : kernel_Kernel_Stop.f (ker0 m c ps) = some 0 := rfl
  have eH : kernel_Kernel_History.f (ker0 m c ps) = some [] := by
    unfold kernel_Kernel_History.f kernel_Kernel_none.f
    simp [ker0]
  have hw : ((ker0 m c ps).ways.length : Int) = (m.Links.length : Int) := by simp [ker0]
  have d1 : ∀ b, (what < 0 ∨ 11 < what) → kernel_Kernel_Do.f (ker0 m c ps) ⟨what, b, 0⟩ = some (1, ker0 m c ps) := fun b h => do_what rfl h
  have d2 : ∀ w, (w = 0 ∨ w = 3 ∨ w = 11) → (a < 0 ∨ (m.Progs.length : Int) ≤ a) → kernel_Kernel_Do.f (ker0 m c ps) ⟨w, a, 0⟩ = some (1, ker0 m c ps) := fun w hw h => do_who rfl hw (by rw [← hl] at h; exact h)
  have d3 : (a < 0 ∨ (m.Links.length : Int) ≤ a) → kernel_Kernel_Do.f (ker0 m c ps) ⟨1, a, 0⟩ = some (1, ker0 m c ps) := fun h => do_link rfl rfl (by rw [hw]; exact h)
  unfold isochronlaw18vKernelRefuses.j4
  by_cases h1 : what < 0 <;> by_cases h2 : 11 < what <;> by_cases h3 : a < 0 <;> by_cases h4 : (m.Progs.length : Int) ≤ a <;> by_cases h5 : (m.Links.length : Int) ≤ a <;>
    simp [h1, h2, h3, h4, h5, d1, d2, d3, eL, eG, eS, eH, awake_ker]
theorem Pure.kernelRefuses (x0 : api_Model) (h0 : ok_api_Model x0) (x1 : api_Caps) (h1 : ok_api_Caps x1) (x2 : Int) (h2 : (fun n => (Lit.int .i64 n).wf = true) x2) (x3 : Int) (h3 : (fun n => (Lit.int .i64 n).wf = true) x3) : isochronlaw18vKernelRefuses.f x0 x1 x2 x3 = some true := by
  have hcap := caps_iff x1
  unfold isochronlaw18vKernelRefuses.f
  by_cases hC : chkM x0 = 0
  · cases hc : capsB x1 with
    | true =>
      have hc' := hcap.1 hc
      obtain ⟨ps, e, hl, hp⟩ := kNew_eq h0 hC hc
      rw [e]
      simp only [Option.bind_some]
      rw [if_neg (by omega), if_neg (by omega), if_neg (by omega), if_neg (by omega), if_neg (by omega), show decide (4096 < x1.Log) = false from decide_eq_false (by omega)]
      exact refuses_j4 hC hc hl hp x2 x3
    | false =>
      have hc' : ¬ (1 ≤ x1.Link ∧ x1.Link ≤ 1024 ∧ 1 ≤ x1.Wait ∧ x1.Wait ≤ 4096 ∧ 1 ≤ x1.Log ∧ x1.Log ≤ 4096) := fun h => by rw [hcap.2 h] at hc; cases hc
      rw [kNew_caps h0 hC hc]
      simp only [Option.bind_some]
      have j := refuses_j3 x0 (e := 1) (q := true) (.inr ⟨hC, rfl, rfl⟩)
      by_cases a1 : x1.Link < 1
      · rw [if_pos a1]; exact j
      rw [if_neg a1]
      by_cases a2 : 1024 < x1.Link
      · rw [if_pos a2]; exact j
      rw [if_neg a2]
      by_cases a3 : x1.Wait < 1
      · rw [if_pos a3]; exact j
      rw [if_neg a3]
      by_cases a4 : 4096 < x1.Wait
      · rw [if_pos a4]; exact j
      rw [if_neg a4]
      by_cases a5 : x1.Log < 1
      · rw [if_pos a5]; exact j
      rw [if_neg a5, show decide (4096 < x1.Log) = true from decide_eq_true (by omega)]
      exact j
  · rw [kNew_chk hC]
    simp only [Option.bind_some]
    have j : ∀ q, isochronlaw18vKernelRefuses.j3 x0 (chkM x0) q = some true := fun q => refuses_j3 x0 (.inl ⟨rfl, hC⟩)
    simp only [j, ite_self]
end
end Go.Proofs.Gx
