/-
  The plain law SeqEnds: later ends go on.
-/
import Derived.Test.YtofgeidjbfmmdaaGreatDoorRise
import Derived.Test.YtofgeidjbfmmdaaGreatDoorSame14
import Derived.Test.YtofgeidjbfmmdaaGreatDoorW17
namespace Go.Proofs.Gx
open Go.Sl
set_option linter.unusedVariables false
def laterM (m : api_Model) (e b : Int) : api_Model := ⟨m.Progs, m.Links, m.Starts, m.Seed, e, b⟩
theorem later_chk {m : api_Model} (hC : chkM m = 0) {e b : Int} (he : 0 ≤ e ∧ e ≤ 4611686018427387903) (hb : 0 ≤ b ∧ b ≤ 4096) : chkM (laterM m e b) = 0 := by
  have h1 := (chkM_zero hC).1
  have h2 : sizesB (laterM m e b) = true := by
    have hz := sizes_of hC
    unfold sizesB timeB
    simp only [laterM, Bool.and_eq_true]
    exact ⟨⟨decide_eq_true hz.1, decide_eq_true he⟩, decide_eq_true hb⟩
  unfold chkM at *
  rw [if_pos h1] at hC
  rw [if_pos h2]
  exact hC
theorem later_worlds {m : api_Model} (hC : chkM m = 0) {e b : Int} (hC' : chkM (laterM m e b) = 0) : worldsP (laterM m e b) = worldsP m := by
  unfold worldsP
  refine List.map_congr_left fun k hk => ?_
  unfold wldW wld
  rw [if_pos hC, if_pos hC']
  rfl
theorem wf_of64 {x : Int} (h0 : -9223372036854775808 ≤ x) (h1 : x ≤ 9223372036854775807) : (Lit.int .i64 x).wf = true := by
  simp [Lit.wf, IntKind.min, IntKind.max, IntKind.signed, IntKind.bits]; omega
theorem sub_take {α : Type} (l : List α) (k : Nat) : subL l 0 (k : Int) = l.take k := by simp [subL]
theorem ends_j {m : api_Model} (h : ok_api_Model m) (hC : chkM m = 0) (x : Int) (hx : 0 ≤ x ∧ x ≤ 255) {e : Int} (he : m.End ≤ e) (he' : e ≤ 4611686018427387903) : isochronlaw14vSeqEnds.j2 m x (runM m (-1)).1.2.2 e = some true := by
  have hz := sizes_of hC
  obtain ⟨hsz, _⟩ := chkM_zero hC
  unfold sizesB timeB at hsz
  simp only [Bool.and_eq_true, decide_eq_true_eq] at hsz
  have e1 : IntKind.i64.wrap x = x := w64 (by omega) (by omega)
  have e2 : IntKind.i64.wrap (m.Budget + x) = m.Budget + x := w64 (by omega) (by omega)
  unfold isochronlaw14vSeqEnds.j2
  rw [e1, e2]
  generalize hb : (if m.Budget + x < 4096 then m.Budget + x else 4096) = b
  have hb1 : m.Budget ≤ b ∧ b ≤ 4096 := by
    rw [← hb]
    split <;> omega
  have hC' : chkM (laterM m e b) = 0 := later_chk hC (by omega) (by omega)
  have hok : ok_api_Model (laterM m e b) := ⟨h.1, h.2.1, h.2.2.1, h.2.2.2.1, wf_of64 (x := e) (by omega) (by omega), wf_of64 (x := b) (by omega) (by omega)⟩
  rw [show seq_Run.f (⟨m.Progs, m.Links, m.Starts, m.Seed, e, b⟩ : api_Model) = some (resP (laterM m e b)) from Run_eq hok]
  simp only [Option.bind_some]
  unfold resP
  rw [if_pos hC']
  simp only
  rw [if_pos trivial]
  have hpre : (runM m (-1)).1.2.2 <+: (runM (laterM m e b) (-1)).1.2.2 := by
    unfold runM
    rw [later_worlds hC hC']
    exact run_later he hb1.1 _ _ _ (by show b - ((0 : Nat) : Int) < ((b.toNat + 1 : Nat) : Int); omega)
  have hf := runM_few hok hC' (-1)
  obtain ⟨t, ht⟩ := hpre
  have hlen : (runM m (-1)).1.2.2.length ≤ (runM (laterM m e b) (-1)).1.2.2.length := by rw [← ht]; simp
  rw [if_pos (by omega), if_pos (by omega), sub_take, history_eq _ _ (by rw [List.length_take]; omega)]
  rw [show (runM (laterM m e b) (-1)).1.2.2.take (runM m (-1)).1.2.2.length = (runM m (-1)).1.2.2 by rw [← ht]; simp]
  simp [awake_true]
theorem Pure.seqEnds (x0 : api_Model) (h0 : ok_api_Model x0) (x1 : Int) (h1 : (fun n => (Lit.int .u8 n).wf = true) x1) (x2 : Int) (h2 : (fun n => (Lit.int .u8 n).wf = true) x2) : isochronlaw14vSeqEnds.f x0 x1 x2 = some true := by
  have b1 := wf8 h1
  have b2 := wf8 h2
  unfold isochronlaw14vSeqEnds.f
  rw [Run_eq h0]
  simp only [Option.bind_some]
  unfold resP
  by_cases hC : chkM x0 = 0
  · obtain ⟨hsz, _⟩ := chkM_zero hC
    unfold sizesB timeB at hsz
    simp only [Bool.and_eq_true, decide_eq_true_eq] at hsz
    rw [if_pos hC]
    simp only
    rw [if_pos trivial]
    by_cases he : x0.End ≤ 1000
    · rw [if_pos he, w64 (x := x1) (by omega) (by omega), w64 (by omega) (by omega)]
      exact ends_j h0 hC x2 b2 (by omega) (by omega)
    · rw [if_neg he]
      exact ends_j h0 hC x2 b2 (Int.le_refl _) (by omega)
  · rw [if_neg hC]
    simp only
    rw [if_neg hC, awake_true]
    rfl
end Go.Proofs.Gx
