/-
  The own separation logic for the walks, part 20.
-/
import Derived.Test.YtpheghebfodiiaaGreatDoorSl19
set_option linter.unusedVariables false
set_option linter.unusedSimpArgs false
set_option linter.unusedSectionVars false
namespace Go.Sl
/-! ### 32. Objects: all that belongs to one is one piece -/
def spl : List HProp → HProp
  | [] => fun h => ∀ b, h b = none
  | A :: l => fun h => ∃ h1 h2, A h1 ∧ spl l h2 ∧ Dis h1 h2 ∧ h = un h1 h2
section
variable {B : Base} {w : World} {l : List HProp} {hf : Hp}
theorem Own.cover : ∀ {l : List HProp} {av av' : List Hp}, Own w l av → (∀ k, (∀ g ∈ av, Dis g k) → ∀ g ∈ av', Dis g k) → Own w l av'
  | [], _, _, _, _ => trivial
  | A :: l, av, av', ⟨h, hA, hs, hd, hr⟩, c => by
    refine ⟨h, hA, hs, c h hd, Own.cover hr fun k hk g hg => ?_⟩
    rcases List.mem_cons.1 hg with rfl | hg
    · exact hk g List.mem_cons_self
    · exact c k (fun g' hg' => hk g' (List.mem_cons_of_mem _ hg')) g hg
theorem dis_un {k h1 h2 : Hp} (d1 : Dis h1 k) (d2 : Dis h2 k) : Dis (un h1 h2) k := fun b => by
  rcases d1 b with h | h
  · rcases d2 b with h' | h'
    · left; simp [un, h, h']
    · exact .inr h'
  · exact .inr h
theorem dis_unL {k h1 h2 : Hp} (d : Dis (un h1 h2) k) : Dis h1 k := fun b => by
  rcases d b with h | h
  · left
    cases e : h1 b with
    | none => rfl
    | some o => simp [un, e] at h
  · exact .inr h
theorem dis_unR {k h1 h2 : Hp} (d : Dis (un h1 h2) k) : Dis h2 k := fun b => by
  rcases d b with h | h
  · left
    cases e : h2 b with
    | none => rfl
    | some o => cases e1 : h1 b <;> simp [un, e, e1] at h
  · exact .inr h
theorem St.merge {A C : HProp} (hS : St B w (A :: C :: l) hf) : St B w ((fun h => ∃ h1 h2, A h1 ∧ C h2 ∧ Dis h1 h2 ∧ h = un h1 h2) :: l) hf := by
  obtain ⟨h1, hA, s1, d1, h2, hC, s2, d2, hr⟩ := hS.own
  refine ⟨hS.base, hS.sub, un h1 h2, ⟨h1, h2, hA, hC, d2 h1 List.mem_cons_self, rfl⟩, fun b o e => ?_, fun g hg => ?_, hr.cover fun k hk g hg => ?_⟩
  · cases e1 : h1 b with
    | some o' => rw [show un h1 h2 b = some o' by simp [un, e1]] at e; cases e; exact s1 b o e1
    | none => exact s2 b o (by simpa [un, e1] using e)
  · exact (dis_un (d1 g hg).symm (d2 g (List.mem_cons_of_mem _ hg)).symm).symm
  · rcases List.mem_cons.1 hg with rfl | hg
    · exact dis_un (hk h1 (List.mem_cons_of_mem _ List.mem_cons_self)) (hk h2 List.mem_cons_self)
    · exact hk g (List.mem_cons_of_mem _ (List.mem_cons_of_mem _ hg))
theorem St.unmerge {A C : HProp} (hS : St B w ((fun h => ∃ h1 h2, A h1 ∧ C h2 ∧ Dis h1 h2 ∧ h = un h1 h2) :: l) hf) : St B w (A :: C :: l) hf := by
  obtain ⟨h, ⟨h1, h2, hA, hC, d, rfl⟩, hs, hd, hr⟩ := hS.own
  have s1 : Sub h1 (hp w) := fun b o e => hs b o (by simp [un, e])
  have s2 : Sub h2 (hp w) := fun b o e => hs b o (by
    rcases d b with h | h
    · simp [un, h, e]
    · rw [h] at e; cases e)
  refine ⟨hS.base, hS.sub, h1, hA, s1, fun g hg => (dis_unL (hd g hg).symm).symm, h2, hC, s2, fun g hg => ?_, hr.cover fun k hk g hg => ?_⟩
  · rcases List.mem_cons.1 hg with rfl | hg
    · exact d
    · exact (dis_unR (hd g hg).symm).symm
  · have hu := hk (un h1 h2) List.mem_cons_self
    rcases List.mem_cons.1 hg with rfl | hg
    · exact dis_unR hu
    · rcases List.mem_cons.1 hg with rfl | hg
      · exact dis_unL hu
      · exact hk g (List.mem_cons_of_mem _ hg)
theorem St.emp0 (hS : St B w l hf) : St B w (spl [] :: l) hf :=
  ⟨hS.base, hS.sub, fun _ => none, fun _ => rfl, (fun b o e => by cases e), fun g _ b => .inr rfl, hS.own.cover fun k hk g hg => by
    rcases List.mem_cons.1 hg with rfl | hg
    · exact fun b => .inl rfl
    · exact hk g hg⟩
theorem St.splC : ∀ {ps l : List HProp}, St B w (ps ++ l) hf → St B w (spl ps :: l) hf
  | [], l, h => h.emp0
  | A :: ps, l, h => by
    have h1 : St B w (ps ++ (A :: l)) hf := h.perm (List.perm_middle.symm)
    exact (St.splC h1).perm (List.Perm.swap _ _ _) |>.merge
theorem St.splO : ∀ {ps l : List HProp}, St B w (spl ps :: l) hf → St B w (ps ++ l) hf
  | [], l, h => h.drop
  | A :: ps, l, h => by
    have h1 : St B w (A :: spl ps :: l) hf := St.unmerge h
    have h2 : St B w (spl ps :: A :: l) hf := h1.perm (List.Perm.swap _ _ _)
    exact (St.splO h2).perm List.perm_middle
def PI : List HProp → List HProp → Prop
  | [], [] => True
  | A :: l, C :: m => (∀ h, A h → C h) ∧ PI l m
  | _, _ => False
theorem PI.n : PI [] [] := trivial
theorem PI.c {A C : HProp} {l m : List HProp} (h : ∀ h, A h → C h) (t : PI l m) : PI (A :: l) (C :: m) := ⟨h, t⟩
theorem spl_imp : ∀ {ps qs : List HProp}, PI ps qs → ∀ h, spl ps h → spl qs h
  | [], [], _, _, h => h
  | A :: ps, C :: qs, ⟨p1, p2⟩, h, ⟨h1, h2, a, b, c, d⟩ => ⟨h1, h2, p1 _ a, spl_imp p2 _ b, c, d⟩
/-- a piece becomes another that it implies -/
theorem St.lift {A C : HProp} (hS : St B w l hf) (i : Nat) (hi : l[i]? = some A) (h : ∀ k, A k → C k) {l' : List HProp} (el : l.set i C = l') : St B w l' hf := by
  subst el
  exact ((hS.pull i hi rfl).imp h).perm (perm_set l i C (List.getElem?_eq_some_iff.1 hi).1)
end
end Go.Sl
