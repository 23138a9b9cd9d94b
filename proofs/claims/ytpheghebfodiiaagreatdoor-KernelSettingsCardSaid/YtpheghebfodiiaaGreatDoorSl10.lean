/-
  The own separation logic for the walks, part 10.
-/
import Derived.Test.YtpheghebfodiiaaGreatDoorSl9
set_option linter.unusedVariables false
set_option linter.unusedSimpArgs false
namespace Go.Sl

/-! ### 17. For the plain laws -/
theorem w64 {x : Int} (h0 : -9223372036854775808 ≤ x) (h1 : x ≤ 9223372036854775807) : IntKind.i64.wrap x = x := by rw [IntKind.wrap_i64]; omega
theorem wu8 {x : Int} (h0 : 0 ≤ x) (h1 : x ≤ 255) : IntKind.u8.wrap x = x := by rw [IntKind.wrap_u8]; omega
theorem wf64 {x : Int} (h : (Lit.int .i64 x).wf = true) : -9223372036854775808 ≤ x ∧ x ≤ 9223372036854775807 := by
  simp [Lit.wf, IntKind.min, IntKind.max, IntKind.signed, IntKind.bits] at h; omega
theorem wf8 {x : Int} (h : (Lit.int .u8 x).wf = true) : 0 ≤ x ∧ x ≤ 255 := by
  simp [Lit.wf, IntKind.min, IntKind.max, IntKind.signed, IntKind.bits] at h; omega
theorem tdiv_neg' {n : Int} (h : n ≤ 0) (k : Int) : Int.tdiv n k = -((-n) / k) := by
  have : n = -(-n) := by omega
  rw [this, Int.neg_tdiv, Int.tdiv_eq_ediv_of_nonneg (by omega)]; simp
theorem tmod_neg' {n : Int} (h : n ≤ 0) (k : Int) : Int.tmod n k = -((-n) % k) := by
  have : n = -(-n) := by omega
  rw [this, Int.neg_tmod, Int.tmod_eq_emod_of_nonneg (by omega)]; simp
theorem tdiv_pos' {n : Int} (h : 0 ≤ n) (k : Int) : Int.tdiv n k = n / k := Int.tdiv_eq_ediv_of_nonneg h
theorem tmod_pos' {n : Int} (h : 0 ≤ n) (k : Int) : Int.tmod n k = n % k := Int.tmod_eq_emod_of_nonneg h
theorem strOf_one (n : Int) : strOf [n] = ⟨[UInt8.ofNat n.toNat].toArray⟩ := rfl
/-- a loop's way, told: the states one after the other, and how it ends -/
theorem loopR_steps {S R : Type} {body : S → Option (S ⊕ R)} (f : Nat → S) : ∀ (n : Nat) {r : R}, (∀ k, k < n → body (f k) = some (.inl (f (k + 1)))) → body (f n) = some (.inr r) → loopR body (f 0) = some r := by
  intro n
  induction n generalizing f with
  | zero => intro r _ he; rw [loopR_eq, he]; rfl
  | succ n ih =>
    intro r h he
    rw [loopR_eq, h 0 (Nat.succ_pos n)]
    exact ih (fun k => f (k + 1)) (fun k hk => h (k + 1) (by omega)) he
/-- a loop over numbers that looks for something -/
theorem loopR_find {R : Type} {body : Int → Option (Int ⊕ R)} (p : Nat → Bool) (g : Nat → R) (e : R) (n : Nat) (h : ∀ k, k < n → body (k : Int) = some (if p k then .inr (g k) else .inl ((k + 1 : Nat) : Int))) (he : body (n : Int) = some (.inr e)) :
    loopR body 0 = some (match (List.range n).find? p with | some k => g k | none => e) := by
  cases hf : (List.range n).find? p with
  | none =>
    have hn : ∀ k, k < n → p k = false := fun k hk => by
      have := List.find?_eq_none.1 hf k (List.mem_range.2 hk)
      simpa using this
    exact loopR_steps (fun k => ((k : Nat) : Int)) n (fun k hk => by rw [h k hk, hn k hk]; rfl) he
  | some k =>
    obtain ⟨hp, hm⟩ := List.find?_range_eq_some.1 hf
    obtain ⟨hk, hbef⟩ := hm
    exact loopR_steps (fun k => ((k : Nat) : Int)) k (fun j hj => by
      rw [h j (by have := List.mem_range.1 hk; omega)]
      have := hbef j hj
      simp only [Bool.not_eq_true'] at this
      rw [this]; rfl) (by rw [h k (List.mem_range.1 hk), hp]; rfl)
end Go.Sl
