/-
  What code.Check and the reference's Check compute: the same.
-/
import Derived.Test.YtofgeidjbfmmdaaGreatDoorLoops
import Derived.Test.YtofgeidjbfmmdaaGreatDoorW1
import Derived.Test.YtofgeidjbfmmdaaGreatDoorW10
namespace Go.Proofs.Gx
open Go.Sl
set_option linter.unusedVariables false
def shapeOf (op : Int) : ByteArray := nth ([lit_2d2d2d, lit_726e2d, lit_72722d, lit_rrr, lit_rrr, lit_rrr, lit_rrr, lit_rrr, lit_rrr, lit_rrr, lit_702d2d, lit_72702d, lit_rrr, lit_72722d, lit_722d2d, lit_722d2d, lit_722d2d] : List ByteArray) op
theorem ops17 {p : Int → Prop} (op : Int) (h0 : 0 ≤ op) (h1 : op < 17) (h : ∀ k : Fin 17, p (k.val : Int)) : p op := by
  have := h ⟨op.toNat, by omega⟩
  have e : ((op.toNat : Nat) : Int) = op := Int.toNat_of_nonneg h0
  exact e ▸ this
theorem op_facts (op : Int) (h0 : 0 ≤ op) (h1 : op < 17) : (shapeOf op).size = 3 ∧ True ∧ True ∧ True ∧ True :=
  ops17 (p := fun op => (shapeOf op).size = 3 ∧ True ∧ True ∧ True ∧ True) op h0 h1 (by decide)
def rightB (n kind many : Int) : Bool := if kind = 110 then decide (-2147483648 ≤ n ∧ n ≤ 2147483647) else if kind = 112 then decide (0 ≤ n ∧ n ≤ many) else if kind = 114 then decide (0 ≤ n ∧ n ≤ 15) else decide (0 ≤ n ∧ n ≤ 0)
theorem code_right_eq (n kind many : Int) : code_right.f n kind many = some (rightB n kind many) := by
  unfold code_right.f rightB code_right.j2
  split
  · split <;> simp_all <;> omega
  · split
    · split <;> simp_all <;> omega
    · split
      · split <;> simp_all <;> omega
      · split <;> simp_all <;> omega
def mayB (i : api_Instr) (n : Int) : Bool := if 0 ≤ i.Op ∧ i.Op < 17 then rightB i.A (bt (shapeOf i.Op) 0) n && (rightB i.B (bt (shapeOf i.Op) 1) n && rightB i.C (bt (shapeOf i.Op) 2) n) else false
theorem code_may_eq (i : api_Instr) (n : Int) : code_may.f i n = some (mayB i n) := by
  unfold code_may.f mayB
  by_cases h0 : i.Op < 0
  · rw [if_pos h0, if_neg (by omega)]
  · by_cases h1 : 17 ≤ i.Op
    · rw [if_neg h0, if_pos h1, if_neg (by omega)]
    · obtain ⟨f1, -, -, -, -⟩ := op_facts i.Op (by omega) (by omega)
      have hsh : nth ([lit_2d2d2d, lit_726e2d, lit_72722d, lit_rrr, lit_rrr, lit_rrr, lit_rrr, lit_rrr, lit_rrr, lit_rrr, lit_702d2d, lit_72702d, lit_rrr, lit_72722d, lit_722d2d, lit_722d2d, lit_722d2d] : List ByteArray) i.Op = shapeOf i.Op := rfl
      rw [if_neg h0, if_neg h1]
      simp only [code_shapes.f, Option.bind_some, hsh, code_right_eq]
      have hp : 0 ≤ i.Op ∧ i.Op < 17 := by omega
      rw [if_pos hp, if_pos hp, if_pos (by omega)]
      by_cases a1 : rightB i.A (bt (shapeOf i.Op) 0) n = true
      · rw [if_pos a1, if_pos (by omega)]
        by_cases a2 : rightB i.B (bt (shapeOf i.Op) 1) n = true
        · rw [if_pos a2, if_pos (by omega)]
          simp [a1, a2]
        · rw [if_neg a2]
          simp [a2]
      · rw [if_neg a1]
        simp [a1]
theorem reg_eq (n : Int) : isochronref03vreg.f n = some (decide (0 ≤ n ∧ n ≤ 15)) := by
  unfold isochronref03vreg.f
  by_cases h : 0 ≤ n <;> simp [h]
theorem op_cases {op : Int} (h0 : 0 ≤ op) (h1 : op < 17) : op = 0 ∨ op = 1 ∨ op = 2 ∨ op = 3 ∨ op = 4 ∨ op = 5 ∨ op = 6 ∨ op = 7 ∨ op = 8 ∨ op = 9 ∨ op = 10 ∨ op = 11 ∨ op = 12 ∨ op = 13 ∨ op = 14 ∨ op = 15 ∨ op = 16 := by omega
theorem ref_may_eq (i : api_Instr) (n : Int) : isochronref03vmay.f i n = some (mayB i n) := by
  by_cases hr : 0 ≤ i.Op ∧ i.Op < 17
  · have hc : mayB i n = (rightB i.A (bt (shapeOf i.Op) 0) n && (rightB i.B (bt (shapeOf i.Op) 1) n && rightB i.C (bt (shapeOf i.Op) 2) n)) := by unfold mayB; rw [if_pos hr]
    rw [hc]
    obtain ⟨Op, A, B, C⟩ := i
    simp only at hr ⊢
    have b45 : ∀ m, rightB m 45 n = decide (m = 0) := fun m => by
      have : (0 ≤ m ∧ m ≤ 0) ↔ m = 0 := by omega
      simp [rightB, this]
    have b114 : ∀ m, rightB m 114 n = decide (0 ≤ m ∧ m ≤ 15) := fun m => rfl
    have b110 : ∀ m, rightB m 110 n = decide (-2147483648 ≤ m ∧ m ≤ 2147483647) := fun m => rfl
    have b112 : ∀ m, rightB m 112 n = decide (0 ≤ m ∧ m ≤ n) := fun m => rfl
    rcases op_cases hr.1 hr.2 with h | h | h | h | h | h | h | h | h | h | h | h | h | h | h | h | h <;> subst h <;> simp only [isochronref03vmay.f, isochronref03vmay.j4, isochronref03vmay.j5, isochronref03vmay.j6, reg_eq, Option.bind_some]
    · rw [show bt (shapeOf 0) 0 = 45 from rfl, show bt (shapeOf 0) 1 = 45 from rfl, show bt (shapeOf 0) 2 = 45 from rfl, b45 A, b45 B, b45 C]
      by_cases hA : A = 0 <;> by_cases hB : B = 0 <;> by_cases hC : C = 0 <;> simp [hA, hB, hC]
    · rw [show bt (shapeOf 1) 0 = 114 from rfl, show bt (shapeOf 1) 1 = 110 from rfl, show bt (shapeOf 1) 2 = 45 from rfl, b114 A, b110 B, b45 C]
      by_cases hA : 0 ≤ A ∧ A ≤ 15 <;> by_cases hB : -2147483648 ≤ B <;> by_cases gB : B ≤ 2147483647 <;> by_cases hC : C = 0 <;> simp [hA, hB, gB, hC]
    · rw [show bt (shapeOf 2) 0 = 114 from rfl, show bt (shapeOf 2) 1 = 114 from rfl, show bt (shapeOf 2) 2 = 45 from rfl, b114 A, b114 B, b45 C]
      by_cases hA : 0 ≤ A ∧ A ≤ 15 <;> by_cases hB : 0 ≤ B ∧ B ≤ 15 <;> by_cases hC : C = 0 <;> simp [hA, hB, hC]
    · rw [show bt (shapeOf 3) 0 = 114 from rfl, show bt (shapeOf 3) 1 = 114 from rfl, show bt (shapeOf 3) 2 = 114 from rfl, b114 A, b114 B, b114 C]
      by_cases hA : 0 ≤ A ∧ A ≤ 15 <;> by_cases hB : 0 ≤ B ∧ B ≤ 15 <;> by_cases hC : 0 ≤ C ∧ C ≤ 15 <;> simp [hA, hB, hC]
    · rw [show bt (shapeOf 4) 0 = 114 from rfl, show bt (shapeOf 4) 1 = 114 from rfl, show bt (shapeOf 4) 2 = 114 from rfl, b114 A, b114 B, b114 C]
      by_cases hA : 0 ≤ A ∧ A ≤ 15 <;> by_cases hB : 0 ≤ B ∧ B ≤ 15 <;> by_cases hC : 0 ≤ C ∧ C ≤ 15 <;> simp [hA, hB, hC]
    · rw [show bt (shapeOf 5) 0 = 114 from rfl, show bt (shapeOf 5) 1 = 114 from rfl, show bt (shapeOf 5) 2 = 114 from rfl, b114 A, b114 B, b114 C]
      by_cases hA : 0 ≤ A ∧ A ≤ 15 <;> by_cases hB : 0 ≤ B ∧ B ≤ 15 <;> by_cases hC : 0 ≤ C ∧ C ≤ 15 <;> simp [hA, hB, hC]
    · rw [show bt (shapeOf 6) 0 = 114 from rfl, show bt (shapeOf 6) 1 = 114 from rfl, show bt (shapeOf 6) 2 = 114 from rfl, b114 A, b114 B, b114 C]
      by_cases hA : 0 ≤ A ∧ A ≤ 15 <;> by_cases hB : 0 ≤ B ∧ B ≤ 15 <;> by_cases hC : 0 ≤ C ∧ C ≤ 15 <;> simp [hA, hB, hC]
    · rw [show bt (shapeOf 7) 0 = 114 from rfl, show bt (shapeOf 7) 1 = 114 from rfl, show bt (shapeOf 7) 2 = 114 from rfl, b114 A, b114 B, b114 C]
      by_cases hA : 0 ≤ A ∧ A ≤ 15 <;> by_cases hB : 0 ≤ B ∧ B ≤ 15 <;> by_cases hC : 0 ≤ C ∧ C ≤ 15 <;> simp [hA, hB, hC]
    · rw [show bt (shapeOf 8) 0 = 114 from rfl, show bt (shapeOf 8) 1 = 114 from rfl, show bt (shapeOf 8) 2 = 114 from rfl, b114 A, b114 B, b114 C]
      by_cases hA : 0 ≤ A ∧ A ≤ 15 <;> by_cases hB : 0 ≤ B ∧ B ≤ 15 <;> by_cases hC : 0 ≤ C ∧ C ≤ 15 <;> simp [hA, hB, hC]
    · rw [show bt (shapeOf 9) 0 = 114 from rfl, show bt (shapeOf 9) 1 = 114 from rfl, show bt (shapeOf 9) 2 = 114 from rfl, b114 A, b114 B, b114 C]
      by_cases hA : 0 ≤ A ∧ A ≤ 15 <;> by_cases hB : 0 ≤ B ∧ B ≤ 15 <;> by_cases hC : 0 ≤ C ∧ C ≤ 15 <;> simp [hA, hB, hC]
    · rw [show bt (shapeOf 10) 0 = 112 from rfl, show bt (shapeOf 10) 1 = 45 from rfl, show bt (shapeOf 10) 2 = 45 from rfl, b112 A, b45 B, b45 C]
      by_cases hA : 0 ≤ A <;> by_cases gA : A ≤ n <;> by_cases hB : B = 0 <;> by_cases hC : C = 0 <;> simp [hA, gA, hB, hC]
    · rw [show bt (shapeOf 11) 0 = 114 from rfl, show bt (shapeOf 11) 1 = 112 from rfl, show bt (shapeOf 11) 2 = 45 from rfl, b114 A, b112 B, b45 C]
      by_cases hA : 0 ≤ A ∧ A ≤ 15 <;> by_cases hB : 0 ≤ B <;> by_cases gB : B ≤ n <;> by_cases hC : C = 0 <;> simp [hA, hB, gB, hC]
    · rw [show bt (shapeOf 12) 0 = 114 from rfl, show bt (shapeOf 12) 1 = 114 from rfl, show bt (shapeOf 12) 2 = 114 from rfl, b114 A, b114 B, b114 C]
      by_cases hA : 0 ≤ A ∧ A ≤ 15 <;> by_cases hB : 0 ≤ B ∧ B ≤ 15 <;> by_cases hC : 0 ≤ C ∧ C ≤ 15 <;> simp [hA, hB, hC]
    · rw [show bt (shapeOf 13) 0 = 114 from rfl, show bt (shapeOf 13) 1 = 114 from rfl, show bt (shapeOf 13) 2 = 45 from rfl, b114 A, b114 B, b45 C]
      by_cases hA : 0 ≤ A ∧ A ≤ 15 <;> by_cases hB : 0 ≤ B ∧ B ≤ 15 <;> by_cases hC : C = 0 <;> simp [hA, hB, hC]
    · rw [show bt (shapeOf 14) 0 = 114 from rfl, show bt (shapeOf 14) 1 = 45 from rfl, show bt (shapeOf 14) 2 = 45 from rfl, b114 A, b45 B, b45 C]
      by_cases hA : 0 ≤ A ∧ A ≤ 15 <;> by_cases hB : B = 0 <;> by_cases hC : C = 0 <;> simp [hA, hB, hC]
    · rw [show bt (shapeOf 15) 0 = 114 from rfl, show bt (shapeOf 15) 1 = 45 from rfl, show bt (shapeOf 15) 2 = 45 from rfl, b114 A, b45 B, b45 C]
      by_cases hA : 0 ≤ A ∧ A ≤ 15 <;> by_cases hB : B = 0 <;> by_cases hC : C = 0 <;> simp [hA, hB, hC]
    · rw [show bt (shapeOf 16) 0 = 114 from rfl, show bt (shapeOf 16) 1 = 45 from rfl, show bt (shapeOf 16) 2 = 45 from rfl, b114 A, b45 B, b45 C]
      by_cases hA : 0 ≤ A ∧ A ≤ 15 <;> by_cases hB : B = 0 <;> by_cases hC : C = 0 <;> simp [hA, hB, hC]
  · have hc : mayB i n = false := by unfold mayB; rw [if_neg hr]
    rw [hc]
    obtain ⟨Op, A, B, C⟩ := i
    simp only at hr ⊢
    simp only [isochronref03vmay.f, isochronref03vmay.j4, isochronref03vmay.j5, isochronref03vmay.j6]
    repeat' (first | rw [if_neg (by omega)] | rw [if_neg (by simp only [decide_eq_true_eq]; omega)])
def chk (l : List api_Instr) : Int := if 256 < (l.length : Int) then 2 else match (List.range l.length).find? (fun k : Nat => !mayB (nth l (k : Int)) (l.length : Int)) with | some _ => 130 | none => 0
theorem code_check_eq (l : List api_Instr) : code_Check.f l = some (chk l) := by
  unfold code_Check.f code_check.f chk
  by_cases h : 256 < (l.length : Int)
  · rw [if_pos h, if_pos h]; rfl
  · rw [if_neg h, if_neg h]
    unfold code_check.l2
    rw [loopR_find (fun k : Nat => !mayB (nth l (k : Int)) (l.length : Int)) (fun k => .inr (.inl ((k : Int), 130))) (.inr (.inr ())) l.length (fun k hk => by
      simp only [code_check.l2b, code_may_eq, Option.bind_some]
      rw [if_pos (by omega), if_pos (by omega), w64 (by omega) (by omega)]
      by_cases hm : mayB (nth l (k : Int)) (l.length : Int) = true
      · rw [if_pos hm]; simp [hm]
      · rw [if_neg hm]; simp [hm]) (by simp only [code_check.l2b]; rw [if_neg (by omega)])]
    cases (List.range l.length).find? (fun k : Nat => !mayB (nth l (k : Int)) (l.length : Int)) with
    | none => rfl
    | some k => rfl
theorem ref_check_eq (l : List api_Instr) : isochronref03vCheck.f l = some (chk l) := by
  unfold isochronref03vCheck.f chk
  by_cases h : 256 < (l.length : Int)
  · rw [if_pos h, if_pos h]
  · rw [if_neg h, if_neg h]
    unfold isochronref03vCheck.l2
    rw [loopR_find (fun k : Nat => !mayB (nth l (k : Int)) (l.length : Int)) (fun _ => 130) 0 l.length (fun k hk => by
      simp only [isochronref03vCheck.l2b, ref_may_eq, Option.bind_some]
      rw [if_pos (by omega), if_pos (by omega), w64 (by omega) (by omega)]
      by_cases hm : mayB (nth l (k : Int)) (l.length : Int) = true
      · rw [if_pos hm]; simp [hm]
      · rw [if_neg hm]; simp [hm]) (by simp only [isochronref03vCheck.l2b]; rw [if_neg (by omega)])]
    cases (List.range l.length).find? (fun k : Nat => !mayB (nth l (k : Int)) (l.length : Int)) <;> rfl
end Go.Proofs.Gx
