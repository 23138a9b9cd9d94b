/-
  Four bytes and a number of 32 bits: there and back.
-/
import Derived.Test.YtdiaknplnonddaaDoorDec
namespace Go.Proofs.Gx
open Go.Sl
set_option linter.unusedVariables false
theorem wu32 {x : Int} (h0 : 0 ≤ x) (h1 : x < 4294967296) : IntKind.u32.wrap x = x := by
  simp [IntKind.wrap, IntKind.bits, IntKind.signed]; omega
theorem wi32 (x : Int) : IntKind.i32.wrap x = (x + 2147483648) % 4294967296 - 2147483648 := by
  simp [IntKind.wrap, IntKind.bits, IntKind.signed]
  split <;> omega
theorem wu32' (x : Int) : IntKind.u32.wrap x = x % 4294967296 := by
  simp [IntKind.wrap, IntKind.bits, IntKind.signed]
theorem or32 (a : Int) (k : Nat) (b : Int) (ha : 0 ≤ a) (hb : 0 ≤ b) (hk : b < 2 ^ k) (h : a * 2 ^ k + b < 4294967296) :
    (((BitVec.ofInt IntKind.u32.bits (a * 2 ^ k) ||| BitVec.ofInt IntKind.u32.bits b).toNat : Nat) : Int) = a * 2 ^ k + b := by
  obtain ⟨m, rfl⟩ := Int.eq_ofNat_of_zero_le ha
  obtain ⟨n, rfl⟩ := Int.eq_ofNat_of_zero_le hb
  have e1 : ((m : Int) * 2 ^ k) = ((m * 2 ^ k : Nat) : Int) := by simp
  rw [e1] at h ⊢
  have hn : n < 2 ^ k := by
    have : ((n : Nat) : Int) < ((2 ^ k : Nat) : Int) := by simpa using hk
    exact Int.ofNat_lt.1 this
  have hs : m * 2 ^ k + n < 4294967296 := by omega
  have b32 : IntKind.u32.bits = 32 := rfl
  rw [b32, BitVec.toNat_or, BitVec.ofInt_natCast, BitVec.ofInt_natCast, BitVec.toNat_ofNat, BitVec.toNat_ofNat]
  rw [Nat.mod_eq_of_lt (by omega), Nat.mod_eq_of_lt (by omega), Nat.mul_comm, ← Nat.two_pow_add_eq_or_of_lt hn]
  simp
theorem dU_eq {b2 b3 b4 b5 : Int} (h2 : 0 ≤ b2 ∧ b2 ≤ 255) (h3 : 0 ≤ b3 ∧ b3 ≤ 255) (h4 : 0 ≤ b4 ∧ b4 ≤ 255) (h5 : 0 ≤ b5 ∧ b5 ≤ 255) :
    dU b2 b3 b4 b5 = (b2 * 16777216 + b3 * 65536 + b4 * 256 + b5 + 2147483648) % 4294967296 - 2147483648 := by
  unfold dU
  have m24 : ((2 : Int) ^ (min (24 : Int).toNat IntKind.u32.bits)) = 16777216 := rfl
  have m16 : ((2 : Int) ^ (min (16 : Int).toNat IntKind.u32.bits)) = 65536 := rfl
  have m8 : ((2 : Int) ^ (min (8 : Int).toNat IntKind.u32.bits)) = 256 := rfl
  rw [m24, m16, m8, wu32 (x := b2) (by omega) (by omega), wu32 (x := b3) (by omega) (by omega), wu32 (x := b4) (by omega) (by omega), wu32 (x := b5) (by omega) (by omega),
    wu32 (x := b2 * 16777216) (by omega) (by omega), wu32 (x := b3 * 65536) (by omega) (by omega), wu32 (x := b4 * 256) (by omega) (by omega)]
  have o1 := or32 b2 24 (b3 * 65536) (by omega) (by omega) (by omega) (by omega)
  rw [show ((2 : Int) ^ 24) = 16777216 from rfl] at o1
  rw [o1, wu32 (x := b2 * 16777216 + b3 * 65536) (by omega) (by omega)]
  have o2 := or32 (b2 * 256 + b3) 16 (b4 * 256) (by omega) (by omega) (by omega) (by omega)
  rw [show ((2 : Int) ^ 16) = 65536 from rfl, show (b2 * 256 + b3) * 65536 = b2 * 16777216 + b3 * 65536 by omega] at o2
  rw [o2, wu32 (x := b2 * 16777216 + b3 * 65536 + b4 * 256) (by omega) (by omega)]
  have o3 := or32 (b2 * 65536 + b3 * 256 + b4) 8 b5 (by omega) (by omega) (by omega) (by omega)
  rw [show ((2 : Int) ^ 8) = 256 from rfl, show (b2 * 65536 + b3 * 256 + b4) * 256 = b2 * 16777216 + b3 * 65536 + b4 * 256 by omega] at o3
  rw [o3, wu32 (x := b2 * 16777216 + b3 * 65536 + b4 * 256 + b5) (by omega) (by omega), wi32, w64 (by omega) (by omega)]
def by24 (b : Int) : Int := IntKind.u8.wrap (Int.fdiv (IntKind.u32.wrap (IntKind.i32.wrap b)) (2 ^ (min (24 : Int).toNat IntKind.u32.bits)))
def by16 (b : Int) : Int := IntKind.u8.wrap (Int.fdiv (IntKind.u32.wrap (IntKind.i32.wrap b)) (2 ^ (min (16 : Int).toNat IntKind.u32.bits)))
def by8 (b : Int) : Int := IntKind.u8.wrap (Int.fdiv (IntKind.u32.wrap (IntKind.i32.wrap b)) (2 ^ (min (8 : Int).toNat IntKind.u32.bits)))
def by0 (b : Int) : Int := IntKind.u8.wrap (IntKind.u32.wrap (IntKind.i32.wrap b))
theorem u32_of (b : Int) (h0 : -2147483648 ≤ b) (h1 : b ≤ 2147483647) : IntKind.u32.wrap (IntKind.i32.wrap b) = b % 4294967296 := by
  rw [wi32, wu32']; omega
theorem by_eq (b : Int) (h0 : -2147483648 ≤ b) (h1 : b ≤ 2147483647) : by24 b = (b % 4294967296) / 16777216 ∧ by16 b = (b % 4294967296) / 65536 % 256 ∧ by8 b = (b % 4294967296) / 256 % 256 ∧ by0 b = (b % 4294967296) % 256 := by
  have m24 : ((2 : Int) ^ (min (24 : Int).toNat IntKind.u32.bits)) = 16777216 := rfl
  have m16 : ((2 : Int) ^ (min (16 : Int).toNat IntKind.u32.bits)) = 65536 := rfl
  have m8 : ((2 : Int) ^ (min (8 : Int).toNat IntKind.u32.bits)) = 256 := rfl
  unfold by24 by16 by8 by0
  rw [m24, m16, m8, u32_of b h0 h1, Int.fdiv_eq_ediv_of_nonneg _ (by omega), Int.fdiv_eq_ediv_of_nonneg _ (by omega), Int.fdiv_eq_ediv_of_nonneg _ (by omega), IntKind.wrap_u8, IntKind.wrap_u8, IntKind.wrap_u8, IntKind.wrap_u8]
  omega
theorem dU_by (b : Int) (h0 : -2147483648 ≤ b) (h1 : b ≤ 2147483647) : dU (by24 b) (by16 b) (by8 b) (by0 b) = b := by
  obtain ⟨e1, e2, e3, e4⟩ := by_eq b h0 h1
  rw [e1, e2, e3, e4, dU_eq (by omega) (by omega) (by omega) (by omega)]
  omega
theorem by_dU {b2 b3 b4 b5 : Int} (h2 : 0 ≤ b2 ∧ b2 ≤ 255) (h3 : 0 ≤ b3 ∧ b3 ≤ 255) (h4 : 0 ≤ b4 ∧ b4 ≤ 255) (h5 : 0 ≤ b5 ∧ b5 ≤ 255) :
    by24 (dU b2 b3 b4 b5) = b2 ∧ by16 (dU b2 b3 b4 b5) = b3 ∧ by8 (dU b2 b3 b4 b5) = b4 ∧ by0 (dU b2 b3 b4 b5) = b5 := by
  have e := dU_eq h2 h3 h4 h5
  obtain ⟨e1, e2, e3, e4⟩ := by_eq (dU b2 b3 b4 b5) (by omega) (by omega)
  rw [e1, e2, e3, e4, e]
  omega
end Go.Proofs.Gx
