/-
  The own separation logic for the walks, part 8.
-/
import Derived.Test.YtpheghebfodiiaaGreatDoorSl7
import Derived.Lib.LaidTab
import Derived.Lib.ItoaNum
import Derived.Sort.Grow
import Derived.Deep.Draws
set_option linter.unusedVariables false
set_option linter.unusedSimpArgs false
namespace Go.Sl

/-! ### 14. Decimal numerals -/
/-- the library's table of powers of ten lies in the frame -/
def TabH (P : Program) (h : Hp) : Prop := ∀ w, Sub h (hp w) → Lib.TabIs P w "internal/strconv.uint64pow10" .u64 Lib.pow10Tab
theorem TabH.mono {P : Program} {h g : Hp} (s : Sub h g) (x : TabH P h) : TabH P g := fun w k => x w (s.trans k)
def itoaB (n : Int) : ByteArray := ⟨(Lib.itoa n).toArray⟩
theorem St.grow {B : Base} {w : World} {l : List HProp} {hf : Hp} (h : St B w l hf) (k : Nat) (os : Array Obj) : St B (Go.Sort.grow (w.drewN k) os) l hf := by
  have hold : ∀ b o', hp w b = some o' → hp (Go.Sort.grow (w.drewN k) os) b = some o' := by
    intro b o' e
    have hlt : b < w.heap.size := by
      rcases Nat.lt_or_ge b w.heap.size with hl | hl
      · exact hl
      · simp [hp, Array.getElem?_eq_none hl] at e
    simp only [hp, Go.Sort.grow, World.drewN] at e ⊢
    rw [Array.getElem?_append_left hlt]
    exact e
  exact ⟨h.base, h.sub.trans hold, h.own.keep fun b o e => .inr (hold b o e)⟩
theorem itoa_ok {P : Program} {F : FuncId} (hI : ∀ (n : Int), -9223372036854775808 ≤ n → n ≤ 9223372036854775807 → ∀ (w : World), Lib.TabIs P w "internal/strconv.uint64pow10" .u64 Lib.pow10Tab →
    Calls P F #[.int .i64 n] w fun e w' => e = .returned (.string ⟨(Lib.itoa n).toArray⟩) ∧ ∃ k os, w' = Go.Sort.grow (w.drewN k) os)
    {B : Base} {w : World} {l : List HProp} {hf : Hp} (n : Int) (h0 : -9223372036854775808 ≤ n) (h1 : n ≤ 9223372036854775807) (hT : TabH P hf) (hS : St B w l hf) :
    Calls P F #[.int .i64 n] w (Ret fun v w' => v = .string (itoaB n) ∧ St B w' l hf) :=
  Calls.mono (hI n h0 h1 w (hT w hS.sub)) fun e w' ⟨he, k, os, hw⟩ => by
    subst he
    subst hw
    exact ⟨rfl, hS.grow k os⟩
theorem ba_append (x y : List UInt8) : (⟨x.toArray⟩ : ByteArray) ++ ⟨y.toArray⟩ = ⟨(x ++ y).toArray⟩ := by
  apply ByteArray.ext
  simp
theorem dec_small {u : Nat} (h : u < 10) : Lib.decDigits u = [UInt8.ofNat (48 + u)] := by rw [Lib.decDigits, dif_pos h]
theorem dec_big {u : Nat} (h : ¬ u < 10) : Lib.decDigits u = Lib.decDigits (u / 10) ++ [UInt8.ofNat (48 + u % 10)] := by rw [Lib.decDigits, dif_neg h]
theorem itoa_nonneg {n : Int} (h : 0 ≤ n) : itoaB n = ⟨(Lib.decDigits n.toNat).toArray⟩ := by
  rw [itoaB, Lib.itoa, if_neg (by omega)]
theorem itoa_neg {n : Int} (h : n < 0) : itoaB n = ⟨(45 :: Lib.decDigits n.natAbs).toArray⟩ := by
  rw [itoaB, Lib.itoa, if_pos h]
theorem dec_len (u : Nat) : (Lib.decDigits u).length = Lib.nDigits u := by rw [Lib.decDigits_eq]; simp
theorem nDigits_mono : ∀ (u v : Nat), u ≤ v → Lib.nDigits u ≤ Lib.nDigits v := by
  intro u
  induction u using Nat.strongRecOn with
  | _ u ih =>
    intro v h
    by_cases hu : u < 10
    · rw [Lib.nDigits_small hu]; exact Lib.nDigits_pos v
    · rw [Lib.nDigits_big hu, Lib.nDigits_big (u := v) (by omega)]
      exact Nat.succ_le_succ (ih (u / 10) (by omega) (v / 10) (by omega))
/-- what grows smaller from call to call -/
def numM (n : Int) : Nat := 2 * n.natAbs + (if n < 0 then 1 else 0)
theorem itoa_size {n : Int} (h0 : -9223372036854775808 ≤ n) (h1 : n ≤ 9223372036854775807) : (itoaB n).size ≤ 20 := by
  have key : ∀ u : Nat, u ≤ 9223372036854775808 → (Lib.decDigits u).length ≤ 19 := fun u h => by
    rw [dec_len]
    exact Nat.le_trans (nDigits_mono u _ h) (Nat.le_of_eq (Lib.nDigits_unique 18 9223372036854775808 (by decide) (by decide)))
  have hs : ∀ l : List UInt8, (⟨l.toArray⟩ : ByteArray).size = l.length := fun l => by simp [ByteArray.size]
  rcases Int.lt_or_le n 0 with h | h
  · rw [itoa_neg h, hs]
    have := key n.natAbs (by omega)
    simp only [List.length_cons]; omega
  · rw [itoa_nonneg h, hs]
    have := key n.toNat (by omega)
    omega
end Go.Sl
