/-
  The order of messages, and a message put into a list that is in order: the program's and the reference's, told plainly.
-/
import Derived.Test.YtofgeidjbfmmdaaGreatDoorLoops
import Derived.Test.YtofgeidjbfmmdaaGreatDoorW4
namespace Go.Proofs.Gx
open Go.Sl
set_option linter.unusedVariables false
set_option linter.unusedSimpArgs false
def sgn (a b : Int) : Int := if a < b then -1 else if b < a then 1 else 0
def cmpK (a b : api_Key) : Int := if sgn a.Time b.Time ≠ 0 then sgn a.Time b.Time else if sgn a.From b.From ≠ 0 then sgn a.From b.From else sgn a.Seq b.Seq
def bef (a b : api_Message) : Bool := decide (cmpK a.Key b.Key < 0 ∨ cmpK a.Key b.Key = 0 ∧ a.Uid < b.Uid)
theorem cmp64 (a b : Int) : cmp_Compare_int64.f a b = some (sgn a b) := by
  unfold cmp_Compare_int64.f cmp_isNaN_int64.f sgn
  simp only [decide_true, Bool.not_true, Option.bind_some, Bool.false_eq_true, if_false]
  split
  · rfl
  · split <;> rfl
theorem cmpI (a b : Int) : cmp_Compare_int.f a b = some (sgn a b) := by
  unfold cmp_Compare_int.f cmp_isNaN_int.f sgn
  simp only [decide_true, Bool.not_true, Option.bind_some, Bool.false_eq_true, if_false]
  split
  · rfl
  · split <;> rfl
theorem or_first (l : List Int) (k : Nat) (hk : k < l.length) (hl : l.length < 1000) (h0 : ∀ j, j < k → nth l (j : Int) = 0) (h : nth l (k : Int) ≠ 0) : cmp_Or_int.f l = some (nth l (k : Int)) := by
  unfold cmp_Or_int.f cmp_Or_int.l2
  refine loopR_steps (fun k => ((k : Nat) : Int)) k (fun j hj => ?_) ?_
  · simp only [cmp_Or_int.l2b]
    rw [if_pos (by omega), if_pos (by omega), if_pos (h0 j hj), w64 (by omega) (by omega)]
    rfl
  · simp only [cmp_Or_int.l2b]
    rw [if_pos (by omega), if_pos (by omega), if_neg h]
theorem or_none (l : List Int) (hl : l.length < 1000) (h0 : ∀ j, j < l.length → nth l (j : Int) = 0) : cmp_Or_int.f l = some 0 := by
  unfold cmp_Or_int.f cmp_Or_int.l2
  refine loopR_steps (fun k => ((k : Nat) : Int)) l.length (fun j hj => ?_) ?_
  · simp only [cmp_Or_int.l2b]
    rw [if_pos (by omega), if_pos (by omega), if_pos (h0 j hj), w64 (by omega) (by omega)]
    rfl
  · simp only [cmp_Or_int.l2b]
    rw [if_neg (by omega)]
theorem or3 (a b c : Int) : cmp_Or_int.f ([a, b, c] : List Int) = some (if a ≠ 0 then a else if b ≠ 0 then b else c) := by
  by_cases ha : a = 0
  · by_cases hb : b = 0
    · by_cases hc : c = 0
      · subst ha; subst hb; subst hc
        exact or_none _ (by decide) (fun j hj => by
          have : j = 0 ∨ j = 1 ∨ j = 2 := by simp at hj; omega
          rcases this with rfl | rfl | rfl <;> rfl)
      · rw [if_neg (by simpa using ha), if_neg (by simpa using hb)]
        exact or_first [a, b, c] 2 (by simp) (by simp) (fun j hj => by
          have : j = 0 ∨ j = 1 := by omega
          rcases this with rfl | rfl
          · exact ha
          · exact hb) hc
    · rw [if_neg (by simpa using ha), if_pos hb]
      exact or_first [a, b, c] 1 (by simp) (by simp) (fun j hj => by
          obtain rfl : j = 0 := by omega
          exact ha) hb
  · rw [if_pos ha]
    exact or_first [a, b, c] 0 (by simp) (by simp) (fun j hj => by omega) ha
theorem or2 (a b : Int) : cmp_Or_int.f ([a, b] : List Int) = some (if a ≠ 0 then a else b) := by
  by_cases ha : a = 0
  · rw [if_neg (by simpa using ha)]
    by_cases hb : b = 0
    · subst ha; subst hb
      exact or_none _ (by decide) (fun j hj => by
          have : j = 0 ∨ j = 1 := by simp at hj; omega
          rcases this with rfl | rfl <;> rfl)
    · exact or_first [a, b] 1 (by simp) (by simp) (fun j hj => by
          obtain rfl : j = 0 := by omega
          exact ha) hb
  · rw [if_pos ha]
    exact or_first [a, b] 0 (by simp) (by simp) (fun j hj => by omega) ha
theorem sgn_self (a : Int) : sgn a a = 0 := by unfold sgn; rw [if_neg (by omega), if_neg (by omega)]
theorem sgn_zero {a b : Int} : sgn a b = 0 ↔ a = b := by
  unfold sgn
  constructor
  · intro h
    split at h
    · cases h
    · split at h
      · cases h
      · omega
  · rintro rfl; rw [if_neg (by omega), if_neg (by omega)]
theorem cmpK_self (a : api_Key) : cmpK a a = 0 := by simp [cmpK, sgn_self]
theorem compare_eq (a b : api_Key) : event_Compare.f a b = some (cmpK a b) := by
  unfold event_Compare.f
  by_cases h : a = b
  · subst h; rw [if_pos rfl, cmpK_self]
  · rw [if_neg h, cmp64]
    simp only [Option.bind_some, cmpI, or3]
    rfl
theorem before_eq (a b : api_Message) : event_Before.f a b = some (bef a b) := by
  unfold event_Before.f event_order.f
  simp only [compare_eq, cmpI, Option.bind_some, or2, bef]
  congr 1
  rw [decide_eq_decide]
  by_cases h : cmpK a.Key b.Key = 0
  · rw [if_neg (by simpa using h), h]
    unfold sgn
    constructor
    · intro h1
      refine .inr ⟨rfl, ?_⟩
      split at h1
      · assumption
      · split at h1 <;> omega
    · rintro (h1 | ⟨_, h1⟩)
      · omega
      · rw [if_pos h1]; omega
  · rw [if_pos h]
    constructor
    · exact .inl
    · rintro (h1 | ⟨h1, _⟩)
      · exact h1
      · exact absurd h1 h
/-- where a message comes in a list that is in order -/
def posI (x : api_Message) (l : List api_Message) : Nat → Nat
  | 0 => 0
  | k + 1 => if bef x (nth l (k : Int)) then posI x l k else k + 1
def ins (l : List api_Message) (x : api_Message) : List api_Message := l.take (posI x l l.length) ++ x :: l.drop (posI x l l.length)
theorem posI_le (x : api_Message) (l : List api_Message) : ∀ k, posI x l k ≤ k
  | 0 => Nat.le_refl _
  | k + 1 => by
    unfold posI
    split
    · exact Nat.le_succ_of_le (posI_le x l k)
    · exact Nat.le_refl _
theorem ins_len (l : List api_Message) (x : api_Message) : (ins l x).length = l.length + 1 := by
  have := posI_le x l l.length
  simp only [ins, List.length_append, List.length_take, List.length_cons, List.length_drop]; omega
theorem ins_mem {l : List api_Message} {x y : api_Message} : y ∈ ins l x ↔ y = x ∨ y ∈ l := by
  unfold ins
  rw [List.mem_append, List.mem_cons]
  conv => rhs; rw [← List.take_append_drop (posI x l l.length) l, List.mem_append]
  constructor
  · rintro (h | h | h)
    · exact .inr (.inl h)
    · exact .inl h
    · exact .inr (.inr h)
  · rintro (h | h | h)
    · exact .inr (.inl h)
    · exact .inl h
    · exact .inr (.inr h)
theorem inr_bind {S R : Type} {f : S → Option R} (o : Option R) : (Option.map (Sum.inr : R → S ⊕ R) o).bind (Sum.elim f some) = o := by cases o <;> rfl
theorem set_mov {l : List api_Message} {x : api_Message} {k : Nat} (hk : k ≤ l.length) :
    (movL (l ++ [x]) (k + 1) k (min ((l ++ [x]).length - k) ((l ++ [x]).length - (k + 1)))).set k x = l.take k ++ x :: l.drop k := by
  have hm : min ((l ++ [x]).length - k) ((l ++ [x]).length - (k + 1)) = l.length - k := by simp only [List.length_append, List.length_singleton]; omega
  rw [hm]
  unfold movL
  apply List.ext_getElem?
  intro j
  simp only [List.getElem?_set, List.getElem?_append, List.getElem?_take, List.getElem?_drop, List.length_append, List.length_take, List.length_drop, List.length_singleton, List.getElem?_cons]
  repeat' split
  all_goals first | rfl | (exfalso; omega) | (congr 1; omega) | (congr 2; omega) | skip
  all_goals first | (simp; done) | (exfalso; omega) | (symm; apply List.getElem?_eq_none; omega) | (apply List.getElem?_eq_none; omega) | skip
theorem put_eq (p : List (List api_Instr)) (q : List api_Link) (r : List api_Start) (a b c : Int) (ws : List api_World) (st : List api_State) (l : List api_Message) (d : List api_Done) (x : api_Message) (hl : l.length ≤ 1000000) :
    seq_line_api_Message_put.f p q r a b c ws st l d x = some (ins l x) := by
  have hj : ∀ k : Nat, k ≤ l.length → seq_line_api_Message_put.j5 l x (k : Int) = some (l.take k ++ x :: l.drop k) := fun k hk => by
    have e1 : IntKind.i64.wrap ((k : Int) + 1) = ((k + 1 : Nat) : Int) := by rw [w64 (by omega) (by omega)]; rfl
    have hlen : (l ++ [x]).length = l.length + 1 := by simp
    unfold seq_line_api_Message_put.j5
    rw [e1, if_pos (by omega), if_pos (by rw [hlen]; omega), if_pos (by rw [hlen]; omega)]
    rw [Int.toNat_natCast, Int.toNat_natCast, movL_len (by rw [hlen]; omega) (by rw [hlen]; omega), if_pos (by rw [hlen]; omega)]
    unfold setL
    rw [Int.toNat_natCast, set_mov hk]
  have key : ∀ k : Nat, k ≤ l.length → loopR (seq_line_api_Message_put.l6b l x) (k : Int) = some (l.take (posI x l k) ++ x :: l.drop (posI x l k)) := by
    intro k
    induction k with
    | zero =>
      intro _
      rw [loopR_eq]
      simp only [seq_line_api_Message_put.l6b]
      rw [if_neg (by omega), inr_bind]
      exact hj 0 (Nat.zero_le _)
    | succ k ih =>
      intro hk
      rw [loopR_eq]
      simp only [seq_line_api_Message_put.l6b]
      have e1 : IntKind.i64.wrap (((k + 1 : Nat) : Int) - 1) = (k : Int) := by rw [w64 (by omega) (by omega)]; omega
      rw [if_pos (by omega), e1, if_pos (by omega), before_eq]
      simp only [Option.bind_some]
      show Option.bind (if bef x (nth l (k : Int)) = true then _ else _) _ = _
      unfold posI
      by_cases h : bef x (nth l (k : Int)) = true
      · rw [if_pos h, if_pos h]
        exact ih (by omega)
      · rw [if_neg h, if_neg h, inr_bind]
        exact hj (k + 1) hk
  exact key l.length (Nat.le_refl _)
end Go.Proofs.Gx
