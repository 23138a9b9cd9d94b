/-
  The own separation logic for the walks, part 1.
-/
import Derived.Tactics2
import Derived.OrdersHeld
set_option linter.unusedVariables false
set_option linter.unusedSimpArgs false
namespace Go.Sl

/-! ### 1. Heaplets -/
abbrev Hp := Nat → Option Obj
abbrev HProp := Hp → Prop
def hp (w : World) : Hp := fun b => w.heap[b]?
def Sub (h g : Hp) : Prop := ∀ b o, h b = some o → g b = some o
def Dis (h g : Hp) : Prop := ∀ b, h b = none ∨ g b = none
structure Base where
  os : Os
  tape : Nat → Question → Nat
  output : Array (Nat × ByteArray)
def base (w : World) : Base := ⟨w.os, w.tape, w.output⟩
/-- The pieces `l` lie in `w`, apart from one another and from all heaplets of `av`. -/
def Own (w : World) : List HProp → List Hp → Prop
  | [], _ => True
  | A :: l, av => ∃ h, A h ∧ Sub h (hp w) ∧ (∀ g ∈ av, Dis g h) ∧ Own w l (h :: av)
structure St (B : Base) (w : World) (l : List HProp) (hf : Hp) : Prop where
  base : base w = B
  sub : Sub hf (hp w)
  own : Own w l [hf]

theorem Dis.symm {h g : Hp} (d : Dis h g) : Dis g h := fun b => (d b).symm
theorem Sub.refl (h : Hp) : Sub h h := fun _ _ e => e
theorem Sub.trans {a b c : Hp} (x : Sub a b) (y : Sub b c) : Sub a c := fun _ _ e => y _ _ (x _ _ e)
theorem Own.weaken {w : World} {l : List HProp} : ∀ {av av' : List Hp}, Own w l av → (∀ g ∈ av', g ∈ av) → Own w l av' := by
  induction l with
  | nil => intro _ _ _ _; trivial
  | cons A l ih =>
    intro av av' ⟨h, hA, hs, hd, hr⟩ hsub
    refine ⟨h, hA, hs, fun g hg => hd g (hsub g hg), ih hr fun g hg => ?_⟩
    rcases List.mem_cons.1 hg with rfl | hg
    · exact List.mem_cons_self
    · exact List.mem_cons_of_mem _ (hsub g hg)
theorem Own.swap {w : World} {A B : HProp} {l : List HProp} {av : List Hp} (h : Own w (A :: B :: l) av) : Own w (B :: A :: l) av := by
  obtain ⟨h1, hA, s1, d1, h2, hB, s2, d2, hr⟩ := h
  refine ⟨h2, hB, s2, fun g hg => d2 g (List.mem_cons_of_mem _ hg), h1, hA, s1, fun g hg => ?_, hr.weaken fun g hg => ?_⟩
  · rcases List.mem_cons.1 hg with rfl | hg
    · exact (d2 h1 List.mem_cons_self).symm
    · exact d1 g hg
  · rcases List.mem_cons.1 hg with rfl | hg
    · exact List.mem_cons_of_mem _ List.mem_cons_self
    · rcases List.mem_cons.1 hg with rfl | hg
      · exact List.mem_cons_self
      · exact List.mem_cons_of_mem _ (List.mem_cons_of_mem _ hg)
theorem Own.perm {w : World} {l l' : List HProp} (p : l.Perm l') : ∀ {av : List Hp}, Own w l av → Own w l' av := by
  induction p with
  | nil => exact fun h => h
  | cons A p ih => exact fun ⟨h, hA, hs, hd, hr⟩ => ⟨h, hA, hs, hd, ih hr⟩
  | swap A B l => exact fun h => h.swap
  | trans p q ih1 ih2 => exact fun h => ih2 (ih1 h)
theorem St.perm {B : Base} {w : World} {l l' : List HProp} {hf : Hp} (h : St B w l hf) (p : l.Perm l') : St B w l' hf := ⟨h.base, h.sub, h.own.perm p⟩
theorem Own.drop {w : World} {A : HProp} {l : List HProp} {av : List Hp} (h : Own w (A :: l) av) : Own w l av := by
  obtain ⟨h1, _, _, _, hr⟩ := h
  exact hr.weaken fun g hg => List.mem_cons_of_mem _ hg
theorem St.drop {B : Base} {w : World} {A : HProp} {l : List HProp} {hf : Hp} (h : St B w (A :: l) hf) : St B w l hf := ⟨h.base, h.sub, h.own.drop⟩
theorem erase_perm {α : Type} : ∀ (l : List α) (i : Nat) (hi : i < l.length), (l[i] :: l.eraseIdx i).Perm l
  | x :: l, 0, _ => by simp
  | x :: l, i + 1, hi => by
    simp only [List.getElem_cons_succ, List.eraseIdx_cons_succ]
    exact (List.Perm.swap x _ _).trans ((erase_perm l i (by simpa using hi)).cons x)
theorem St.dropAt {B : Base} {w : World} {l : List HProp} {hf : Hp} (i : Nat) {l' : List HProp} (h : St B w l hf) (e : l.eraseIdx i = l') : St B w l' hf := by
  subst e
  rcases Nat.lt_or_ge i l.length with hi | hi
  · have p : l.Perm (l[i] :: l.eraseIdx i) := (erase_perm l i hi).symm
    exact (h.perm p).drop
  · rw [List.eraseIdx_of_length_le hi]; exact h
/-- pull piece i to the front -/
theorem St.pull {B : Base} {w : World} {l : List HProp} {hf : Hp} (i : Nat) {A : HProp} {l' : List HProp} (h : St B w l hf) (e : l[i]? = some A) (e' : l.eraseIdx i = l') : St B w (A :: l') hf := by
  subst e'
  obtain ⟨hi, rfl⟩ := List.getElem?_eq_some_iff.1 e
  exact h.perm (erase_perm l i hi).symm
/-- what lies in the pieces' blocks is left alone: the pieces stay -/
theorem Own.keep {w w' : World} {l : List HProp} : ∀ {av : List Hp}, Own w l av → (∀ b o, hp w b = some o → (∃ g ∈ av, g b ≠ none) ∨ hp w' b = some o) → Own w' l av := by
  induction l with
  | nil => intro _ _ _; trivial
  | cons A l ih =>
    intro av ⟨h, hA, hs, hd, hr⟩ hk
    refine ⟨h, hA, fun b o e => ?_, hd, ih hr fun b o e => ?_⟩
    · rcases hk b o (hs b o e) with ⟨g, hg, hn⟩ | h'
      · rcases hd g hg b with h0 | h0
        · exact absurd h0 hn
        · rw [h0] at e; cases e
      · exact h'
    · rcases hk b o e with ⟨g, hg, hn⟩ | h'
      · exact .inl ⟨g, List.mem_cons_of_mem _ hg, hn⟩
      · exact .inr h'
theorem Own.add {w : World} {g : Hp} (hg : ∀ b, g b ≠ none → hp w b = none) {l : List HProp} : ∀ {av : List Hp}, Own w l av → Own w l (av ++ [g]) := by
  induction l with
  | nil => intro _ _; trivial
  | cons A l ih =>
    intro av ⟨h, hA, hs, hd, hr⟩
    refine ⟨h, hA, hs, fun k hk => ?_, ih hr⟩
    rcases List.mem_append.1 hk with hk | hk
    · exact hd k hk
    · obtain rfl : k = g := by simpa using hk
      intro b
      by_cases hb : k b = none
      · exact .inl hb
      · refine .inr ?_
        cases e : h b with
        | none => rfl
        | some o => have := hs b o e; rw [hg b hb] at this; cases this
/-- one block -/
def pts (b : Nat) (o : Obj) : HProp := fun h => h b = some o ∧ ∀ b', b' ≠ b → h b' = none
def one (b : Nat) (o : Obj) : Hp := fun b' => if b' = b then some o else none
theorem pts_one (b : Nat) (o : Obj) : pts b o (one b o) := ⟨by simp [one], fun b' h => by simp [one, h]⟩
theorem St.new {B : Base} {w w' : World} {l : List HProp} {hf : Hp} (h : St B w l hf) (o : Obj) (hb : Sl.base w' = Sl.base w) (hh : w'.heap = w.heap.push o) : St B w' (pts w.heap.size o :: l) hf := by
  have hn : hp w w.heap.size = none := by simp [hp]
  have hold : ∀ b o', hp w b = some o' → hp w' b = some o' := by
    intro b o' e
    have hlt : b < w.heap.size := by
      rcases Nat.lt_or_ge b w.heap.size with hl | hl
      · exact hl
      · simp [hp, Array.getElem?_eq_none hl] at e
    simp only [hp, hh] at e ⊢
    rw [Array.getElem?_push_lt hlt]
    simpa [Array.getElem?_eq_getElem hlt] using e
  have hsz : ∀ b, one w.heap.size o b ≠ none → hp w b = none := by
    intro b hb
    by_cases hbe : b = w.heap.size
    · rw [hbe]; exact hn
    · simp [one, hbe] at hb
  refine ⟨hb.trans h.base, h.sub.trans hold, one w.heap.size o, pts_one _ _, ?_, ?_, ?_⟩
  · intro b o' e
    by_cases hbe : b = w.heap.size
    · subst hbe
      have : o = o' := by simpa [one] using e
      subst this
      simp [hp, hh]
    · simp [one, hbe] at e
  · intro g hg b
    obtain rfl : g = hf := by simpa using hg
    by_cases hbe : b = w.heap.size
    · refine .inl ?_
      cases e : g b with
      | none => rfl
      | some o' => have := h.sub b o' e; rw [hbe, hn] at this; cases this
    · exact .inr (by simp [one, hbe])
  · have h2 := (h.own.add (g := one w.heap.size o) hsz).keep (w' := w') (fun b o' e => .inr (hold b o' e))
    exact h2.weaken fun g hg => by
      simp only [List.mem_cons, List.not_mem_nil, or_false, List.mem_append] at hg ⊢
      exact hg.symm
/-- a block that a piece holds is written -/
theorem St.put {B : Base} {w w' : World} {l : List HProp} {hf : Hp} {b : Nat} {o o' : Obj} (h : St B w (pts b o :: l) hf) (hb : Sl.base w' = Sl.base w)
    (hsame : ∀ b', b' ≠ b → hp w' b' = hp w b') (hnew : hp w' b = some o') : St B w' (pts b o' :: l) hf := by
  obtain ⟨h1, ⟨hA, hA'⟩, hs, hd, hr⟩ := h.own
  have hfb : hf b = none := by
    rcases hd hf List.mem_cons_self b with h0 | h0
    · exact h0
    · rw [h0] at hA; cases hA
  refine ⟨hb.trans h.base, fun b' x e => ?_, one b o', pts_one _ _, fun b' x e => ?_, fun g hg => ?_, ?_⟩
  · have hne : b' ≠ b := by rintro rfl; rw [hfb] at e; cases e
    rw [hsame b' hne]; exact h.sub b' x e
  · by_cases hbe : b' = b
    · subst hbe
      have : o' = x := by simpa [one] using e
      rw [← this]; exact hnew
    · simp [one, hbe] at e
  · obtain rfl : g = hf := by simpa using hg
    intro b'
    by_cases hbe : b' = b
    · rw [hbe]; exact .inl hfb
    · exact .inr (by simp [one, hbe])
  · have hk : Own w' l [h1, hf] := hr.keep fun b' x e => by
      by_cases hbe : b' = b
      · subst hbe; exact .inl ⟨h1, List.mem_cons_self, by rw [hA]; simp⟩
      · exact .inr (by rw [hsame b' hbe]; exact e)
    clear hr hs
    -- the heaplet h1 and the new one hold the same block
    have key : ∀ (l : List HProp) (av av' : List Hp), Own w' l av → (∀ g ∈ av', ∃ k ∈ av, ∀ b', k b' = none → g b' = none) → Own w' l av' := by
      intro l
      induction l with
      | nil => intro _ _ _ _; trivial
      | cons A l ih =>
        intro av av' ⟨k, kA, ks, kd, kr⟩ hsub
        refine ⟨k, kA, ks, fun g hg b' => ?_, ih _ _ kr fun g hg => ?_⟩
        · obtain ⟨m, hm, hi⟩ := hsub g hg
          rcases kd m hm b' with h0 | h0
          · exact .inl (hi b' h0)
          · exact .inr h0
        · rcases List.mem_cons.1 hg with rfl | hg
          · exact ⟨g, List.mem_cons_self, fun _ e => e⟩
          · obtain ⟨m, hm, hi⟩ := hsub g hg
            exact ⟨m, List.mem_cons_of_mem _ hm, hi⟩
    refine key l [h1, hf] _ hk fun g hg => ?_
    rcases List.mem_cons.1 hg with rfl | hg
    · refine ⟨h1, List.mem_cons_self, fun b' e => ?_⟩
      by_cases hbe : b' = b
      · subst hbe; rw [hA] at e; cases e
      · simp [one, hbe]
    · exact ⟨g, List.mem_cons_of_mem _ hg, fun _ e => e⟩
/-- only the count of draws has moved -/
theorem St.same {B : Base} {w w' : World} {l : List HProp} {hf : Hp} (h : St B w l hf) (hb : Sl.base w' = Sl.base w) (hh : w'.heap = w.heap) : St B w' l hf := by
  have e : hp w' = hp w := by funext b; simp [hp, hh]
  exact ⟨hb.trans h.base, by rw [e]; exact h.sub, h.own.keep fun b o x => .inr (by rw [e]; exact x)⟩
theorem St.blk {B : Base} {w : World} {l : List HProp} {hf : Hp} {b : Nat} {o : Obj} (h : St B w l hf) (i : Nat) (e : l[i]? = some (pts b o)) : w.heap[b]? = some o := by
  obtain ⟨h1, ⟨hA, _⟩, hs, _⟩ := (h.pull i e rfl).own
  exact hs b o hA
/-- an entailment at a piece -/
theorem St.imp {B : Base} {w : World} {A A' : HProp} {l : List HProp} {hf : Hp} (h : St B w (A :: l) hf) (hi : ∀ k, A k → A' k) : St B w (A' :: l) hf := by
  obtain ⟨h1, hA, hs, hd, hr⟩ := h.own
  exact ⟨h.base, h.sub, h1, hi _ hA, hs, hd, hr⟩
def un (h g : Hp) : Hp := fun b => (h b).or (g b)
theorem sub_un_left (h g : Hp) : Sub h (un h g) := fun b o e => by simp [un, e]
theorem sub_un_right {h g : Hp} (d : Dis h g) : Sub g (un h g) := fun b o e => by
  rcases d b with h0 | h0
  · simp [un, h0, e]
  · rw [h0] at e; cases e
/-- a piece is lent to the frame: whoever reads may read it -/
theorem St.lend {B : Base} {w : World} {A : HProp} {l : List HProp} {hf : Hp} (h : St B w (A :: l) hf) :
    ∃ h1, A h1 ∧ Dis hf h1 ∧ St B w l (un hf h1) := by
  obtain ⟨h1, hA, hs, hd, hr⟩ := h.own
  refine ⟨h1, hA, hd hf List.mem_cons_self, h.base, fun b o e => ?_, ?_⟩
  · simp only [un] at e
    cases e1 : hf b with
    | some x => rw [e1] at e; simp at e; subst e; exact h.sub b x e1
    | none => rw [e1] at e; simp at e; exact hs b o e
  · clear hs hd hA
    have key : ∀ (l : List HProp) (av av' : List Hp), Own w l av → (∀ g ∈ av', ∀ b, g b ≠ none → ∃ k ∈ av, k b ≠ none) → Own w l av' := by
      intro l
      induction l with
      | nil => intro _ _ _ _; trivial
      | cons A l ih =>
        intro av av' ⟨k, kA, ks, kd, kr⟩ hsub
        refine ⟨k, kA, ks, fun g hg b' => ?_, ih _ _ kr fun g hg b' hb' => ?_⟩
        · by_cases hb' : g b' = none
          · exact .inl hb'
          · obtain ⟨m, hm, hi⟩ := hsub g hg b' hb'
            rcases kd m hm b' with h0 | h0
            · exact absurd h0 hi
            · exact .inr h0
        · rcases List.mem_cons.1 hg with rfl | hg
          · exact ⟨g, List.mem_cons_self, hb'⟩
          · obtain ⟨m, hm, hi⟩ := hsub g hg b' hb'
            exact ⟨m, List.mem_cons_of_mem _ hm, hi⟩
    refine key l [h1, hf] _ hr fun g hg b hb => ?_
    obtain rfl : g = un hf h1 := by simpa using hg
    by_cases e1 : hf b = none
    · refine ⟨h1, List.mem_cons_self, fun e2 => hb (by simp [un, e1, e2])⟩
    · exact ⟨hf, List.mem_cons_of_mem _ List.mem_cons_self, e1⟩
/-- and given back -/
theorem St.back {B : Base} {w : World} {l : List HProp} {hf h1 : Hp} (h : St B w l (un hf h1)) (d : Dis hf h1) : St B w ((fun h => h = h1) :: l) hf := by
  refine ⟨h.base, (sub_un_left _ _).trans h.sub, h1, rfl, (sub_un_right d).trans h.sub, fun g hg => ?_, ?_⟩
  · obtain rfl : g = hf := by simpa using hg
    exact d
  · have key : ∀ (l : List HProp) (av av' : List Hp), Own w l av → (∀ g ∈ av', ∀ b, g b ≠ none → ∃ k ∈ av, k b ≠ none) → Own w l av' := by
      intro l
      induction l with
      | nil => intro _ _ _ _; trivial
      | cons A l ih =>
        intro av av' ⟨k, kA, ks, kd, kr⟩ hsub
        refine ⟨k, kA, ks, fun g hg b' => ?_, ih _ _ kr fun g hg b' hb' => ?_⟩
        · by_cases hb' : g b' = none
          · exact .inl hb'
          · obtain ⟨m, hm, hi⟩ := hsub g hg b' hb'
            rcases kd m hm b' with h0 | h0
            · exact absurd h0 hi
            · exact .inr h0
        · rcases List.mem_cons.1 hg with rfl | hg
          · exact ⟨g, List.mem_cons_self, hb'⟩
          · obtain ⟨m, hm, hi⟩ := hsub g hg b' hb'
            exact ⟨m, List.mem_cons_of_mem _ hm, hi⟩
    refine key l [un hf h1] _ h.own fun g hg b hb => ⟨un hf h1, List.mem_cons_self, ?_⟩
    simp only [List.mem_cons, List.not_mem_nil, or_false] at hg
    rcases hg with e | e
    · subst e; cases e1 : hf b <;> simp_all [un]
    · subst e; cases e1 : g b <;> simp_all [un]
end Go.Sl
