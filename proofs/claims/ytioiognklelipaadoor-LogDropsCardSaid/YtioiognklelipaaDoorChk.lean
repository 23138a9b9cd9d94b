/-
  What code.Check and the reference's Check compute: the same.
-/
import Derived.Test.YtioiognklelipaaDoorLoops
import Derived.Test.YtioiognklelipaaDoorW1
namespace Go.Proofs.Gx
open Go.Sl
set_option linter.unusedVariables false
def shapeOf (op : Int) : ByteArray := nth ([lit_2d2d2d, lit_726e2d, lit_72722d, lit_rrr, lit_rrr, lit_rrr, lit_rrr, lit_rrr, lit_rrr, lit_rrr, lit_702d2d, lit_72702d, lit_rrr, lit_72722d, lit_722d2d, lit_722d2d, lit_722d2d] : List ByteArray) op
theorem ops17 {p : Int → Prop} (op : Int) (h0 : 0 ≤ op) (h1 : op < 17) (h : ∀ k : Fin 17, p (k.val : Int)) : p op := by
  have := h ⟨op.toNat, by omega⟩
  have e : ((op.toNat : Nat) : Int) = op := Int.toNat_of_nonneg h0
  exact e ▸ this
theorem op_facts (op : Int) (h0 : 0 ≤ op) (h1 : op < 17) : (shapeOf op).size = 3 ∧ True ∧ True ∧ True ∧ True :=
  ops17 (p := fun op => (shapeOf op).size = 3 ∧ True ∧ True ∧ True ∧ True) op h0 h1 (by decide)
def rightB (n kind many : Int) : Bool := if kind = 110 then decide (-2147483648 ≤ n ∧ n ≤ 2147483647) else if kind = 112 then decide (0 ≤ n ∧ n ≤ many) else if kind = 114 then decide (0 ≤ n ∧ n ≤ 15) else decide (0 ≤ n ∧ n ≤ 0)
theorem code_right_eq (n kind many : Int) : code_right.f n kind many = some (rightB n kind many) := by
  unfold code_right.f rightB code_right.j2
  split
  · split <;> simp_all <;> omega
  · split
    · split <;> simp_all <;> omega
    · split
      · split <;> simp_all <;> omega
      · split <;> simp_all <;> omega
def mayB (i : api_Instr) (n : Int) : Bool := if 0 ≤ i.Op ∧ i.Op < 17 then rightB i.A (bt (shapeOf i.Op) 0) n && (rightB i.B (bt (shapeOf i.Op) 1) n && rightB i.C (bt (shapeOf i.Op) 2) n) else false
theorem code_may_eq (i : api_Instr) (n : Int) : code_may.f i n = some (mayB i n) := by
  unfold code_may.f mayB
  by_cases h0 : i.Op < 0
  · rw [if_pos h0, if_neg (by omega)]
  · by_cases h1 : 17 ≤ i.Op
    · rw [if_neg h0, if_pos h1, if_neg (by omega)]
    · obtain ⟨f1, -, -, -, -⟩ := op_facts i.Op (by omega) (by omega)
      have hsh : nth ([lit_2d2d2d, lit_726e2d, lit_72722d, lit_rrr, lit_rrr, lit_rrr, lit_rrr, lit_rrr, lit_rrr, lit_rrr, lit_702d2d, lit_72702d, lit_rrr, lit_72722d, lit_722d2d, lit_722d2d, lit_722d2d] : List ByteArray) i.Op = shapeOf i.Op := rfl
      rw [if_neg h0, if_neg h1]
      simp only [code_shapes.f, Option.bind_some, hsh, code_right_eq]
      have hp : 0 ≤ i.Op ∧ i.Op < 17 := by omega
      rw [if_pos hp, if_pos hp, if_pos (by omega)]
      by_cases a1 : rightB i.A (bt (shapeOf i.Op) 0) n = true
      · rw [if_pos a1, if_pos (by omega)]
        by_cases a2 : rightB i.B (bt (shapeOf i.Op) 1) n = true
        · rw [if_pos a2, if_pos (by omega)]
          simp [a1, a2]
        · rw [if_neg a2]
          simp [a2]
      · rw [if_neg a1]
        simp [a1]
theorem op_cases {op : Int} (h0 : 0 ≤ op) (h1 : op < 17) : op = 0 ∨ op = 1 ∨ op = 2 ∨ op = 3 ∨ op = 4 ∨ op = 5 ∨ op = 6 ∨ op = 7 ∨ op = 8 ∨ op = 9 ∨ op = 10 ∨ op = 11 ∨ op = 12 ∨ op = 13 ∨ op = 14 ∨ op = 15 ∨ op = 16 := by omega
def chk (l : List api_Instr) : Int := if 256 < (l.length : Int) then 2 else match (List.range l.length).find? (fun k : Nat => !mayB (nth l (k : Int)) (l.length : Int)) with | some _ => 130 | none => 0
theorem code_check_eq (l : List api_Instr) : code_Check.f l = some (chk l) := by
  unfold code_Check.f code_check.f chk
  by_cases h : 256 < (l.length : Int)
  · rw [if_pos h, if_pos h]; rfl
  · rw [if_neg h, if_neg h]
    unfold code_check.l2
    rw [loopR_find (fun k : Nat => !mayB (nth l (k : Int)) (l.length : Int)) (fun k => .inr (.inl ((k : Int), 130))) (.inr (.inr ())) l.length (fun k hk => by
      simp only [code_check.l2b, code_may_eq, Option.bind_some]
      rw [if_pos (by omega), if_pos (by omega), w64 (by omega) (by omega)]
      by_cases hm : mayB (nth l (k : Int)) (l.length : Int) = true
      · rw [if_pos hm]; simp [hm]
      · rw [if_neg hm]; simp [hm]) (by simp only [code_check.l2b]; rw [if_neg (by omega)])]
    cases (List.range l.length).find? (fun k : Nat => !mayB (nth l (k : Int)) (l.length : Int)) with
    | none => rfl
    | some k => rfl
end Go.Proofs.Gx
