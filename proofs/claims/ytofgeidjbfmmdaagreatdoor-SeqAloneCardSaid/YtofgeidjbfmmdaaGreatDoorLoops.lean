/-
  Loops, told plainly: what the plain laws use.
-/
import Derived.Test.YtofgeidjbfmmdaaGreatDoorOpen
namespace Go.Proofs.Gx
open Go.Sl
set_option linter.unusedVariables false
/-- a loop over states that looks for something -/
theorem loopR_findS {S R : Type} {body : S → Option (S ⊕ R)} (st : Nat → S) (p : Nat → Bool) (g : Nat → R) (e : R) (n : Nat) (h : ∀ k, k < n → (∀ j, j < k → p j = false) → body (st k) = some (if p k then .inr (g k) else .inl (st (k + 1)))) (he : (∀ j, j < n → p j = false) → body (st n) = some (.inr e)) :
    loopR body (st 0) = some (match (List.range n).find? p with | some k => g k | none => e) := by
  cases hf : (List.range n).find? p with
  | none =>
    have hn : ∀ k, k < n → p k = false := fun k hk => by
      have := List.find?_eq_none.1 hf k (List.mem_range.2 hk)
      simpa using this
    exact loopR_steps st n (fun k hk => by rw [h k hk (fun j hj => hn j (by omega)), hn k hk]; rfl) (he hn)
  | some k =>
    obtain ⟨hp, hm⟩ := List.find?_range_eq_some.1 hf
    obtain ⟨hk, hbef⟩ := hm
    have hb : ∀ j, j < k → p j = false := fun j hj => by
      have := hbef j hj
      simpa using this
    have hkn := List.mem_range.1 hk
    exact loopR_steps st k (fun j hj => by rw [h j (by omega) (fun i hi => hb i (by omega)), hb j hj]; rfl) (by rw [h k hkn hb, hp]; rfl)
/-- whether a search finds is whether there is one -/
theorem find_any (p : Nat → Bool) (n : Nat) {R : Type} (a b : R) : (match (List.range n).find? p with | some _ => a | none => b) = if (List.range n).any p then a else b := by
  cases hf : (List.range n).find? p with
  | none =>
    have : (List.range n).any p = false := by
      rw [List.any_eq_false]
      exact fun x hx => List.find?_eq_none.1 hf x hx
    rw [this]; rfl
  | some k =>
    have h1 := List.find?_some hf
    have h2 := List.mem_of_find?_eq_some hf
    have : (List.range n).any p = true := List.any_eq_true.2 ⟨k, h2, h1⟩
    rw [this]; rfl
theorem loopR_any {R : Type} {body : Int → Option (Int ⊕ R)} (p : Nat → Bool) (a e : R) (n : Nat) (h : ∀ k, k < n → body (k : Int) = some (if p k then .inr a else .inl ((k + 1 : Nat) : Int))) (he : body (n : Int) = some (.inr e)) :
    loopR body 0 = some (if (List.range n).any p then a else e) := (loopR_find p (fun _ => a) e n h he).trans (congrArg some (find_any p n a e))
theorem nth_nat {α : Type} [Inhabited α] {xs : List α} {k : Nat} (h : k < xs.length) : nth xs (k : Int) = xs[k] := by
  simp [nth, List.getD_eq_getElem?_getD, h]
theorem nth_mem {α : Type} [Inhabited α] {xs : List α} {i : Int} (h0 : 0 ≤ i) (h1 : i < xs.length) : nth xs i ∈ xs := by
  obtain ⟨h, e⟩ := nth_eq h0 h1
  rw [e]; exact List.getElem_mem h
end Go.Proofs.Gx
