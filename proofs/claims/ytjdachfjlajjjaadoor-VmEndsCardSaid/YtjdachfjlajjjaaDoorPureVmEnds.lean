/-
  The plain law VmEnds: each program ends.
-/
import Derived.Test.YtjdachfjlajjjaaDoorSums
import Derived.Test.YtjdachfjlajjjaaDoorW9
namespace Go.Proofs.Gx
open Go.Sl
set_option linter.unusedVariables false
def addI : api_Instr := ⟨3, 0, 0, 8⟩
def setI : api_Instr := ⟨1, 8, 1, 0⟩
def jmpI : api_Instr := ⟨10, 1, 0, 0⟩
def progE (k : Nat) : List api_Instr := ([setI] ++ List.replicate k addI) ++ [jmpI]
theorem progE_len (k : Nat) : (progE k).length = k + 2 := by simp [progE]
theorem progE_0 (k : Nat) : nth (progE k) 0 = setI := rfl
theorem progE_add (k r : Nat) (h : r < k) : nth (progE k) ((1 + r : Nat) : Int) = addI := by
  rw [nth_nat (by rw [progE_len]; omega)]
  simp only [progE]
  rw [List.getElem_append_left (by simp; omega), List.getElem_append_right (by simp)]
  simp
theorem progE_jmp (k : Nat) : nth (progE k) ((1 + k : Nat) : Int) = jmpI := by
  rw [nth_nat (by rw [progE_len]; omega)]
  simp only [progE]
  rw [List.getElem_append_right (by simp; omega)]
  simp
def wEnds (k : Nat) : api_World := ⟨progE k, 0, [], 0⟩
theorem wEnds_ok (k : Nat) (h : k ≤ 20) : chkW (wEnds k) = 0 := by
  have hc : chk (wEnds k).Prog = 0 := by
    refine chk_of (by show ((progE k).length : Int) ≤ 256; rw [progE_len]; omega) fun j hj => ?_
    have hj : j < k + 2 := by rw [← progE_len]; exact hj
    show mayB (nth (progE k) (j : Int)) ((progE k).length : Int) = true
    rw [progE_len]
    rcases Nat.eq_zero_or_pos j with rfl | hp
    · exact may_set (by decide) (by decide)
    · by_cases hk : j = k + 1
      · subst hk
        rw [Nat.add_comm k 1, progE_jmp]
        have e0 : rightB 1 112 ((k + 2 : Nat) : Int) = true := decide_eq_true (by omega)
        show (rightB 1 112 ((k + 2 : Nat) : Int) && (rightB 0 45 ((k + 2 : Nat) : Int) && rightB 0 45 ((k + 2 : Nat) : Int))) = true
        rw [e0]; rfl
      · rw [show j = 1 + (j - 1) by omega, progE_add k (j - 1) (by omega)]
        rfl
  unfold chkW
  rw [if_pos hc]
  rfl
theorem ends_steps (k : Nat) (hk : 1 ≤ k) (m : api_Message) (f1 : Rg) (h0 : f1 0 = 0) (h8 : f1 8 = 1) : ∀ t, t ≤ 4095 → ∃ (f : Rg) (q r : Nat), t = (k + 1) * q + r ∧ r ≤ k ∧ f 0 = ((q * k + r : Nat) : Int) ∧ f 8 = 1 ∧
    runF (wEnds k) m 4095 (f1, 0, [], 1) = runF (wEnds k) m (4095 - t) (f, 0, [], ((1 + r : Nat) : Int))
  | 0, _ => ⟨f1, 0, 0, by simp, Nat.zero_le _, by simpa using h0, h8, rfl⟩
  | t + 1, ht => by
    obtain ⟨f, q, r, e1, e2, e3, e4, e5⟩ := ends_steps k hk m f1 h0 h8 t (by omega)
    have hq : (k + 1) * q = q * k + q := by rw [Nat.add_mul, Nat.one_mul, Nat.mul_comm]
    rw [e5, show 4095 - t = (4095 - (t + 1)) + 1 by omega]
    by_cases hr : r < k
    · refine ⟨upR f 0 ((q * k + (r + 1) : Nat) : Int), q, r + 1, by omega, hr, rfl, e4, ?_⟩
      refine runF_go' (k + 2) (progE_len k) (by omega) ?_
      rw [show nth (wEnds k).Prog ((1 + r : Nat) : Int) = addI from progE_add k r hr]
      show Sum.inl (upR f 0 (IntKind.i64.wrap (f 0 + f 8)), (0 : Int), ([] : List api_Out), ((1 + r : Nat) : Int) + 1) = _
      rw [e3, e4, w64 (by omega) (by omega)]
      congr 3
    · obtain rfl : r = k := by omega
      refine ⟨f, q + 1, 0, by rw [Nat.mul_add]; omega, Nat.zero_le _, ?_, e4, ?_⟩
      · rw [e3, Nat.add_mul]; omega
      · refine runF_go' (r + 2) (progE_len r) (by omega) ?_
        rw [show nth (wEnds r).Prog ((1 + r : Nat) : Int) = jmpI from progE_jmp r]
        rfl
theorem Pure.vmEnds (x0 : Int) (h0 : (fun n => (Lit.int .u8 n).wf = true) x0) : isochronlaw05vVmEnds.f x0 = some true := by
  have hx := wf8 h0
  obtain ⟨a, ha⟩ : ∃ a : Nat, Int.tmod x0 20 = (a : Int) ∧ a < 20 := ⟨(x0 % 20).toNat, by rw [tmod_pos' hx.1 20]; omega, by omega⟩
  unfold isochronlaw05vVmEnds.f isochronlaw05vVmEnds.l4
  have hK : IntKind.i64.wrap (IntKind.i64.wrap (Int.tmod x0 20) + 1) = ((a + 1 : Nat) : Int) := by
    rw [ha.1, w64 (x := (a : Int)) (by omega) (by omega), w64 (by omega) (by omega)]; omega
  have hK1 : IntKind.i64.wrap (((a + 1 : Nat) : Int) + 1) = ((a + 2 : Nat) : Int) := by rw [w64 (by omega) (by omega)]; omega
  refine (show loopR (isochronlaw05vVmEnds.l4b x0) ((fun j : Nat => ([setI] ++ List.replicate j addI, ((j : Nat) : Int))) 0) = _ from loopR_steps (fun j : Nat => ([setI] ++ List.replicate j addI, ((j : Nat) : Int))) (a + 1) (fun j hj => ?_) ?_)
  · simp only [isochronlaw05vVmEnds.l4b, hK]
    rw [if_pos (by omega), if_pos (by simp only [List.length_append, List.length_singleton, List.length_replicate]; omega), w64 (by omega) (by omega), List.replicate_succ', ← List.append_assoc]
    rfl
  · simp only [isochronlaw05vVmEnds.l4b, hK, hK1]
    rw [if_neg (by omega), if_pos (by simp only [List.length_append, List.length_singleton, List.length_replicate]; omega)]
    have hw := wEnds_ok (a + 1) (by omega)
    obtain ⟨f, q, r, e1, e2, e3, e4, e5⟩ := ends_steps (a + 1) (by omega) m0 (upR (rgs zst) 8 1) rfl rfl 4095 (Nat.le_refl _)
    have hr : runF (wEnds (a + 1)) m0 4096 (rgs zst, zst.Draws, [], 0) = .inl (f, 0, [], ((1 + r : Nat) : Int)) := by
      rw [show (4096 : Nat) = 4095 + 1 from rfl, runF_go' (s' := (upR (rgs zst) 8 1, 0, [], 1)) (a + 1 + 2) (progE_len (a + 1)) (by omega) (by rw [show nth (wEnds (a + 1)).Prog 0 = setI from rfl]; rfl), e5]
      rfl
    have hv : vm_Run.f (⟨([setI] ++ List.replicate (a + 1) addI) ++ [jmpI], 0, [], 0⟩ : api_World) zst m0 = some (vmRun (wEnds (a + 1)) zst m0) := vm_run_eq (wEnds (a + 1)) zst m0 rgs_zst (by decide)
    have hv' : vm_Run.f (⟨([setI] ++ List.replicate (a + 1) addI) ++ ([(⟨10, 1, 0, 0⟩ : api_Instr)]), 0, [], 0⟩ : api_World) (⟨(⟨0, 0, 0, 0, 0, 0, 0, 0⟩ : Arr8xInti64), 0, 0⟩ : api_State) (⟨(⟨0, 0, 0⟩ : api_Key), 0, 0, 0, false⟩ : api_Message) = _ := hv
    rw [hv', vmRun_ok hw rfl rfl hr]
    simp only [Option.bind_some, if_true]
    rw [if_pos (by omega)]
    have hq : (a + 1 + 1) * q = q * (a + 1) + q := by rw [Nat.add_mul, Nat.one_mul, Nat.mul_comm]
    have hdiv : Int.tdiv 4095 ((a + 2 : Nat) : Int) = (q : Int) := by
      rw [tdiv_pos' (by decide)]
      have : 4095 / (a + 2) = q := by
        rw [e1, show a + 2 = a + 1 + 1 by omega, Nat.mul_add_div (by omega), Nat.div_eq_of_lt (by omega)]; omega
      have h := congrArg (Nat.cast : Nat → Int) this
      rw [Int.natCast_ediv] at h
      exact h
    have hmod : Int.tmod 4095 ((a + 2 : Nat) : Int) = (r : Int) := by
      rw [tmod_pos' (by decide)]
      have : 4095 % (a + 2) = r := by
        rw [e1, show a + 2 = a + 1 + 1 by omega, Nat.mul_add_mod, Nat.mod_eq_of_lt (by omega)]
      have h := congrArg (Nat.cast : Nat → Int) this
      rw [Int.natCast_emod] at h
      exact h
    rw [hdiv, hmod, if_neg (by omega), w64 (x := (q : Int)) (by omega) (by omega)]
    have hm : (q : Int) * ((a + 1 : Nat) : Int) = ((q * (a + 1) : Nat) : Int) := by rw [Int.natCast_mul]
    rw [hm, w64 (x := ((q * (a + 1) : Nat) : Int)) (by omega) (by omega), w64 (by omega) (by omega)]
    have hfin : (stOf zst f 0 ([] : List api_Out).length).Regs.c0 = ((q * (a + 1) : Nat) : Int) + (r : Int) := by
      show f 0 = _
      rw [e3]; omega
    rw [decide_eq_true hfin]
    rfl
end Go.Proofs.Gx
