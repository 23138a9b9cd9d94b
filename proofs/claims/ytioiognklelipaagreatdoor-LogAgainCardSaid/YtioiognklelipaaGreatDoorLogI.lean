/-
  What Back leaves, without the states that are kept.
-/
import Derived.Test.YtioiognklelipaaGreatDoorLogH
import Derived.Test.YtioiognklelipaaGreatDoorLogE
namespace Go.Proofs.Gx
open Go.Sl
set_option linter.unusedVariables false
set_option linter.unusedSimpArgs false
theorem qAt_false (a : log_Log) (es : List api_Entry) (x : Nat) : ∀ k, a.stuck = false → qAt a es x k = false
  | 0, h => h
  | k + 1, h => by
    rw [qAt, qAt_false a es x k h]
    split <;> rfl
theorem Has2.back {a : log_Log} {A : AL} {b : Int} (h : Has2 a A b) {x : Nat} (hx : x < A.1.length) : Has2 (backL a A.1 x) (A.1.take x, (nth A.1 (x : Int)).Before, false) b := by
  have hn := h.lg.len
  have hf := h.ok.few
  have hq : qAt a A.1 x A.1.length = false := by
    by_cases hs : A.2.2 = true
    · have he := h.ends hs (by omega)
      obtain ⟨n, en⟩ : ∃ n, A.1.length = n + 1 := ⟨A.1.length - 1, by omega⟩
      rw [show (A.1.length : Int) - 1 = (n : Int) by omega] at he
      rw [en, qAt, if_pos (by omega), decide_eq_false he, Bool.and_false]
    · exact qAt_false _ _ _ _ (by rw [h.sk]; simpa using hs)
  refine ⟨h.lg.back hx, ⟨h.ok.made, h.ok.chk, h.bd x hx, h.ok.low, ?_⟩, rfl, hq, fun k hk => ?_, fun hs _ => by cases hs⟩
  · show (subL a.l 0 (x : Int)).length ≤ _
    rw [subL_len (by omega) (by omega) (by omega)]; omega
  · have hk' : k < x := by simp only [List.length_take] at hk; omega
    have e : nth (A.1.take x) (k : Int) = nth A.1 (k : Int) := by
      rw [nth_nat (by rw [List.length_take]; omega), nth_nat (by omega), List.getElem_take]
    show Sok (nth (A.1.take x) (k : Int)).Before b
    rw [e]; exact h.bd k (by omega)
end Go.Proofs.Gx
