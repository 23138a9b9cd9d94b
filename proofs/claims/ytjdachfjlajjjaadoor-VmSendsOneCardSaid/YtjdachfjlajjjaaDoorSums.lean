/-
  Small programs may be.
-/
import Derived.Test.YtjdachfjlajjjaaDoorAwake
namespace Go.Proofs.Gx
open Go.Sl
set_option linter.unusedVariables false
theorem chk_of {l : List api_Instr} (h1 : (l.length : Int) ≤ 256) (h2 : ∀ k : Nat, k < l.length → mayB (nth l (k : Int)) (l.length : Int) = true) : chk l = 0 := by
  unfold chk
  rw [if_neg (by omega)]
  have : (List.range l.length).find? (fun k : Nat => !mayB (nth l (k : Int)) (l.length : Int)) = none := by
    rw [List.find?_eq_none]
    intro k hk
    simp [h2 k (List.mem_range.1 hk)]
  rw [this]
theorem wf32 {x : Int} (h : (Lit.int .i32 x).wf = true) : -2147483648 ≤ x ∧ x ≤ 2147483647 := by
  simp [Lit.wf, IntKind.min, IntKind.max, IntKind.signed, IntKind.bits] at h; omega
theorem may_set {r v n : Int} (hr : 0 ≤ r ∧ r ≤ 15) (hv : -2147483648 ≤ v ∧ v ≤ 2147483647) : mayB ⟨1, r, v, 0⟩ n = true := by
  unfold mayB
  rw [if_pos (show (0 : Int) ≤ 1 ∧ (1 : Int) < 17 by decide)]
  have e0 : rightB r 114 n = true := decide_eq_true hr
  have e1 : rightB v 110 n = true := decide_eq_true hv
  have e2 : rightB 0 45 n = true := rfl
  show (rightB r 114 n && (rightB v 110 n && rightB 0 45 n)) = true
  rw [e0, e1, e2]
  rfl
end Go.Proofs.Gx
