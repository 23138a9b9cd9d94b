/-
  The plain law VmSums: sums and differences.
-/
import Derived.Test.YtjdachfjlajjjaaDoorAwake
import Derived.Test.YtjdachfjlajjjaaDoorW6
namespace Go.Proofs.Gx
open Go.Sl
set_option linter.unusedVariables false
theorem chk_of {l : List api_Instr} (h1 : (l.length : Int) ≤ 256) (h2 : ∀ k : Nat, k < l.length → mayB (nth l (k : Int)) (l.length : Int) = true) : chk l = 0 := by
  unfold chk
  rw [if_neg (by omega)]
  have : (List.range l.length).find? (fun k : Nat => !mayB (nth l (k : Int)) (l.length : Int)) = none := by
    rw [List.find?_eq_none]
    intro k hk
    simp [h2 k (List.mem_range.1 hk)]
  rw [this]
theorem wf32 {x : Int} (h : (Lit.int .i32 x).wf = true) : -2147483648 ≤ x ∧ x ≤ 2147483647 := by
  simp [Lit.wf, IntKind.min, IntKind.max, IntKind.signed, IntKind.bits] at h; omega
def wSums (a b o : Int) : api_World := ⟨[(⟨1, 8, a, 0⟩ : api_Instr), (⟨1, 9, b, 0⟩ : api_Instr), (⟨o, 0, 8, 9⟩ : api_Instr)], 0, [], 0⟩
theorem may_set {r v n : Int} (hr : 0 ≤ r ∧ r ≤ 15) (hv : -2147483648 ≤ v ∧ v ≤ 2147483647) : mayB ⟨1, r, v, 0⟩ n = true := by
  unfold mayB
  rw [if_pos (show (0 : Int) ≤ 1 ∧ (1 : Int) < 17 by decide)]
  have e0 : rightB r 114 n = true := decide_eq_true hr
  have e1 : rightB v 110 n = true := decide_eq_true hv
  have e2 : rightB 0 45 n = true := rfl
  show (rightB r 114 n && (rightB v 110 n && rightB 0 45 n)) = true
  rw [e0, e1, e2]
  rfl
theorem wSums_ok {a b o : Int} (ha : -2147483648 ≤ a ∧ a ≤ 2147483647) (hb : -2147483648 ≤ b ∧ b ≤ 2147483647) (ho : o = 3 ∨ o = 4 ∨ o = 5 ∨ o = 6 ∨ o = 7 ∨ o = 8 ∨ o = 9) : chkW (wSums a b o) = 0 := by
  have hc : chk (wSums a b o).Prog = 0 := by
    refine chk_of (show ((3 : Nat) : Int) ≤ 256 by decide) fun k hk => ?_
    have hk : k < 3 := hk
    match k, hk with
    | 0, _ => exact may_set (by decide) ha
    | 1, _ => exact may_set (by decide) hb
    | 2, _ => show mayB ⟨o, 0, 8, 9⟩ 3 = true; rcases ho with h | h | h | h | h | h | h <;> subst h <;> rfl
  unfold chkW
  rw [if_pos hc]
  rfl
theorem sums_j2 (a b c : Int) (x : Int) (ha : -2147483648 ≤ a ∧ a ≤ 2147483647) (hb : -2147483648 ≤ b ∧ b ≤ 2147483647) (o : Int) (hn : nth ([3, 4, 5, 8, 9, 6, 7] : List Int) (Int.tmod c 7) = o) (ho : o = 3 ∨ o = 4 ∨ o = 5 ∨ o = 6 ∨ o = 7 ∨ o = 8 ∨ o = 9) (hx : alu o a b = x) : isochronlaw05vVmSums.j2 a b c x = some true := by
  unfold isochronlaw05vVmSums.j2
  rw [hn, w64 (x := a) (by omega) (by omega), w64 (x := b) (by omega) (by omega)]
  change (vm_Run.f (wSums a b o) zst m0).bind _ = some true
  rw [vm_run_eq (wSums a b o) zst m0 rgs_zst (by decide)]
  have hw := wSums_ok ha hb ho
  have hst : ∀ f d os t, stp (wSums a b o) m0 (⟨o, 0, 8, 9⟩ : api_Instr) f d os t = .inl (upR f 0 (alu o (rdR f 8) (rdR f 9)), d, os, t) := fun f d os t => by
    rcases ho with h | h | h | h | h | h | h <;> subst h <;> rfl
  have hr : runF (wSums a b o) m0 4096 (rgs zst, zst.Draws, [], 0) = .inl (upR (upR (upR (rgs zst) 8 a) 9 b) 0 (alu o a b), 0, [], 3) := by
    rw [show (4096 : Nat) = 4093 + 1 + 1 + 1 from rfl, runF_go' (s' := (upR (rgs zst) 8 a, 0, [], 1)) 3 rfl (by decide) rfl, runF_go' (s' := (upR (upR (rgs zst) 8 a) 9 b, 0, [], 2)) 3 rfl (by decide) rfl,
      runF_go' (s' := (upR (upR (upR (rgs zst) 8 a) 9 b) 0 (alu o a b), 0, [], 3)) 3 rfl (by decide) (hst _ _ _ _), runF_stop' 3 rfl (by decide)]
  rw [vmRun_ok hw rfl rfl hr]
  simp only [Option.bind_some, if_true]
  rw [decide_eq_true (show (stOf zst (upR (upR (upR (rgs zst) 8 a) 9 b) 0 (alu o a b)) 0 ([] : List api_Out).length).Regs.c0 = x from hx)]
theorem Pure.vmSums (x0 : Int) (h0 : (fun n => (Lit.int .i32 n).wf = true) x0) (x1 : Int) (h1 : (fun n => (Lit.int .i32 n).wf = true) x1) (x2 : Int) (h2 : (fun n => (Lit.int .u8 n).wf = true) x2) : isochronlaw05vVmSums.f x0 x1 x2 = some true := by
  have ha := wf32 h0
  have hb := wf32 h1
  have hc := wf8 h2
  have e7 : Int.tmod x2 7 = x2 % 7 := tmod_pos' hc.1 7
  have w0 : IntKind.i64.wrap x0 = x0 := w64 (by omega) (by omega)
  have w1 : IntKind.i64.wrap x1 = x1 := w64 (by omega) (by omega)
  have key : ∀ x o, nth ([3, 4, 5, 8, 9, 6, 7] : List Int) (Int.tmod x2 7) = o → (o = 3 ∨ o = 4 ∨ o = 5 ∨ o = 6 ∨ o = 7 ∨ o = 8 ∨ o = 9) → alu o x0 x1 = x → isochronlaw05vVmSums.j2 x0 x1 x2 x = some true := fun x o => sums_j2 x0 x1 x2 x ha hb o
  unfold isochronlaw05vVmSums.f
  rw [if_pos (by rw [e7]; show 0 ≤ x2 % 7 ∧ x2 % 7 < ((7 : Nat) : Int); omega), w0, w1]
  have h7 : x2 % 7 = 0 ∨ x2 % 7 = 1 ∨ x2 % 7 = 2 ∨ x2 % 7 = 3 ∨ x2 % 7 = 4 ∨ x2 % 7 = 5 ∨ x2 % 7 = 6 := by omega
  rw [e7] at key ⊢
  rcases h7 with h | h | h | h | h | h | h <;> rw [h] at key ⊢
  · rw [if_pos (by decide)]; exact key _ 3 rfl (by decide) rfl
  · rw [if_neg (by decide), if_pos (by decide)]; exact key _ 4 rfl (by decide) rfl
  · rw [if_neg (by decide), if_neg (by decide), if_pos (by decide)]; exact key _ 5 rfl (by decide) rfl
  · rw [if_neg (by decide), if_neg (by decide), if_neg (by decide), if_pos (by decide)]
    by_cases hl : x0 < x1
    · rw [if_pos hl]; exact key _ 8 rfl (by decide) (by show (if x0 < x1 then (1 : Int) else 0) = 1; rw [if_pos hl])
    · rw [if_neg hl]; exact key _ 8 rfl (by decide) (by show (if x0 < x1 then (1 : Int) else 0) = 0; rw [if_neg hl])
  · rw [if_neg (by decide), if_neg (by decide), if_neg (by decide), if_neg (by decide), if_pos (by decide)]
    by_cases hl : x0 = x1
    · rw [if_pos hl]; exact key _ 9 rfl (by decide) (by show (if x0 = x1 then (1 : Int) else 0) = 1; rw [if_pos hl])
    · rw [if_neg hl]; exact key _ 9 rfl (by decide) (by show (if x0 = x1 then (1 : Int) else 0) = 0; rw [if_neg hl])
  · rw [if_neg (by decide), if_neg (by decide), if_neg (by decide), if_neg (by decide), if_neg (by decide), if_pos (by decide)]
    by_cases hz : x1 = 0
    · rw [if_pos hz]; exact key _ 6 rfl (by decide) (by show dv x0 x1 = 0; unfold dv; rw [if_pos hz])
    · rw [if_neg hz, if_pos hz]; exact key _ 6 rfl (by decide) (by show dv x0 x1 = _; unfold dv; rw [if_neg hz, if_neg (by omega)])
  · rw [if_neg (by decide), if_neg (by decide), if_neg (by decide), if_neg (by decide), if_neg (by decide), if_neg (by decide)]
    by_cases hz : x1 = 0
    · rw [if_pos hz]; exact key _ 7 rfl (by decide) (by show md x0 x1 = 0; unfold md; rw [if_pos hz])
    · rw [if_neg hz, if_pos hz]; exact key _ 7 rfl (by decide) (by show md x0 x1 = _; unfold md; rw [if_neg hz, if_neg (by omega)])
end Go.Proofs.Gx
