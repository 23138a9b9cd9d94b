/-
  The own separation logic for the walks, part 25.
-/
import Derived.Test.YtpheghebfodiiaaGreatDoorSl24
set_option linter.unusedVariables false
set_option linter.unusedSimpArgs false
set_option linter.unusedSectionVars false
namespace Go.Sl
/-! ### 40. Rows of own rows: the row of their headers, and the rows themselves -/
def FSl : Fl (Option Addr × Nat × Nat) := ⟨fun h => [.slice h.1 h.2.1 h.2.2], 1, fun _ => rfl, fun x v h => by
  simp only [List.mem_cons, List.not_mem_nil, or_false] at h
  subst h; rfl⟩
section
variable {α : Type} {E : Fl α} {et eo : TypeId} {B : Base} {w : World} {l : List HProp} {hf : Hp}
/-- a row of one's own at a header -/
def ORw (E : Fl α) (et : TypeId) (x : List α) (h : Option Addr × Nat × Nat) : HProp := fun g => h.2.1 = x.length ∧ OSf E et (.slice h.1 h.2.1 h.2.2) x g
theorem St.orO {x : List α} {h : Option Addr × Nat × Nat} (hS : St B w (ORw E et x h :: l) hf) : ∃ A c, h = (A, x.length, c) ∧ St B w (OSf E et (.slice A x.length c) x :: l) hf := by
  obtain ⟨A, n, c⟩ := h
  obtain ⟨e, hS⟩ := hS.fact (p := n = x.length) (C := OSf E et (.slice A n c) x) fun _ h => h
  subst e
  exact ⟨A, c, rfl, hS⟩
theorem St.orC {x : List α} {A : Option Addr} {c : Nat} (hS : St B w (OSf E et (.slice A x.length c) x :: l) hf) : St B w (ORw E et x (A, x.length, c) :: l) hf := hS.imp fun _ h => ⟨rfl, h⟩
theorem St.orB {x : List α} {A : Option Addr} {c : Nat} {h : Option Addr × Nat × Nat} (e : h = (A, x.length, c)) (hS : St B w (OSf E et (.slice A x.length c) x :: l) hf) : St B w (ORw E et x h :: l) hf := by rw [e]; exact hS.orC
theorem setL_other {β : Type} {bs : List β} {i : Int} {b : β} {O : α → β → HProp} {xs : List α} (hl : xs.length = bs.length) (hi : i.toNat < xs.length) : (List.zipWith O xs (setL bs i b)).eraseIdx i.toNat = (List.zipWith O xs bs).eraseIdx i.toNat := by
  apply List.ext_getElem?
  intro j
  rw [List.getElem?_eraseIdx, List.getElem?_eraseIdx]
  split
  · rename_i hj
    rw [List.getElem?_zipWith, List.getElem?_zipWith]
    unfold setL
    rw [List.getElem?_set_ne (by omega)]
  · rename_i hj
    rw [List.getElem?_zipWith, List.getElem?_zipWith]
    unfold setL
    rw [List.getElem?_set_ne (by omega)]
theorem St.sepPutB {β : Type} [Inhabited β] {O : α → β → HProp} {xs : List α} {bs : List β} {i : Int} {x : α} {b : β} (hS : St B w (O x b :: SepH O xs bs i :: l) hf) (h0 : 0 ≤ i) (h1 : i < (xs.length : Int)) : St B w (SepL O (setL xs i x) (setL bs i b) :: l) hf := by
  have hS := hS.perm (List.Perm.swap _ _ _)
  have hl : xs.length = bs.length := (hS.fact (C := SepH O xs bs i) fun _ h => ⟨h.1, h⟩).1
  have hS := hS.perm (List.Perm.swap _ _ _)
  have e : nth (setL bs i b) i = b := by
    simp only [nth, setL, List.getD_eq_getElem?_getD]
    rw [List.getElem?_set_self (by omega)]
    rfl
  have hS : St B w (O x (nth (setL bs i b) i) :: SepH O xs (setL bs i b) i :: l) hf := by
    rw [e]
    exact (((hS.perm (List.Perm.swap _ _ _)).imp (A' := SepH O xs (setL bs i b) i) fun _ h => ⟨by rw [setL_len]; exact h.1, by rw [setL_other hl (by omega)]; exact h.2⟩)).perm (List.Perm.swap _ _ _)
  exact hS.sepPut h0 h1
theorem freezeZip : ∀ {xs : List (List α)} {hs : List (Option Addr × Nat × Nat)} {l : List HProp} {hf : Hp}, xs.length = hs.length → St B w (List.zipWith (ORw E et) xs hs ++ l) hf →
    ∃ hf', Sub hf hf' ∧ St B w l hf' ∧ ∀ i (h : i < xs.length), ∃ A c, hs[i]? = some (A, xs[i].length, c) ∧ SlR E.rep hf' A c xs[i]
  | [], _, l, hf, hl, hS => ⟨hf, Sub.refl _, by simpa using hS, fun i h => absurd h (Nat.not_lt_zero i)⟩
  | _ :: _, [], _, _, hl, _ => by cases hl
  | x :: xs, h :: hs, l, hf, hl, hS => by
    obtain ⟨A, c, e, hS⟩ := St.orO (show St B w (ORw E et x h :: (List.zipWith (ORw E et) xs hs ++ l)) hf from hS)
    obtain ⟨hf1, s1, hS, hr⟩ := St.promote hS
    obtain ⟨hf2, s2, hS, hk⟩ := freezeZip (by simpa using hl) hS
    refine ⟨hf2, s1.trans s2, hS, fun i hi => ?_⟩
    cases i with
    | zero => exact ⟨A, c, by rw [e]; rfl, hr.mono s2⟩
    | succ i => exact hk i (by simpa using hi)
/-- all of it is only read from here on -/
theorem St.promoteRows {xs : List (List α)} {hs : List (Option Addr × Nat × Nat)} {A : Option Addr} {c : Nat} (hS : St B w (OSf FSl eo (.slice A hs.length c) hs :: SepL (ORw E et) xs hs :: l) hf) :
    ∃ hf', Sub hf hf' ∧ St B w l hf' ∧ hs.length = xs.length ∧ SlR (Rep.sl E.rep) hf' A c xs := by
  obtain ⟨hf1, s1, hS, hr⟩ := St.promote hS
  have hl := hS.sepLen
  have hS := (hS.imp (A' := spl (List.zipWith (ORw E et) xs hs)) fun _ h => h.2).splO
  obtain ⟨hf2, s2, hS, hk⟩ := freezeZip hl hS
  refine ⟨hf2, s1.trans s2, hS, hl.symm, by rw [hl]; exact hr.1, fun i hi => ?_⟩
  obtain ⟨a, cs, e, hc⟩ := hr.2 i (by omega)
  obtain ⟨A', c', e', hx⟩ := hk i hi
  refine ⟨a, cs, ⟨A', c', ?_, hx⟩, fun j v hj => cellH_mono s2 (hc j v hj)⟩
  have e2 : hs[i]'(by omega) = (A', xs[i].length, c') := by
    rw [List.getElem?_eq_getElem (by omega)] at e'
    exact Option.some.inj e'
  have e : cs = FSl.enc (hs[i]'(by omega)) := e
  rw [e, e2]
  rfl
end
end Go.Sl
