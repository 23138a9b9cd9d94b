/-
  A log without the states it keeps: what all logs that hold the same entries have in common.
-/
import Derived.Test.YtioiognklelipaaDoorLogF
namespace Go.Proofs.Gx
open Go.Sl
set_option linter.unusedVariables false
set_option linter.unusedSimpArgs false
/-- the entries, the state, whether it is stuck -/
abbrev AL := List api_Entry × api_State × Bool
def aMay (A : AL) (m : api_Message) (u : Int) : Int :=
  if evB m = true then if m.Anti = true then 1 else if u < 0 then 1 else if 1099511627776 < u then 1 else
    if A.1.length ≠ 0 ∧ bef (nth A.1 ((A.1.length : Int) - 1)).Event m = false then 1 else if A.2.2 = true then 5 else if 16384 ≤ (A.1.length : Int) then 9 else 0 else 1
noncomputable def aEnt (w : api_World) (A : AL) (m : api_Message) (u : Int) : api_Entry := ⟨m, A.2.1, (vmRun w A.2.1 m).2.2, named u (sendsU w A.2.1 m (vmRun w A.2.1 m).2.1) []⟩
noncomputable def aDo (w : api_World) (A : AL) (m : api_Message) (u : Int) : AL := if aMay A m u = 0 then (A.1 ++ [aEnt w A m u], (vmRun w A.2.1 m).1, !decide ((vmRun w A.2.1 m).2.2 = 0)) else A
structure Has2 (a : log_Log) (A : AL) (b : Int) : Prop where
  lg : Lg a A.1
  ok : LogOK a b
  st : a.state = A.2.1
  sk : a.stuck = A.2.2
  bd : ∀ k : Nat, k < A.1.length → Sok (nth A.1 (k : Int)).Before b
  ends : A.2.2 = true → 0 < A.1.length → (nth A.1 ((A.1.length : Int) - 1)).Fault ≠ 0
theorem may_abs {a : log_Log} {A : AL} {b : Int} (h : Has2 a A b) (m : api_Message) (u : Int) : mayS a m u = aMay A m u := by
  have hn := h.lg.len
  unfold mayS aMay lastE
  rw [h.sk, ← hn]
  by_cases h0 : A.1.length = 0
  · simp [h0]
  · have := h.lg.ev (A.1.length - 1) (by omega)
    rw [show ((A.1.length - 1 : Nat) : Int) = (A.1.length : Int) - 1 by omega] at this
    rw [this]
theorem ent_abs {a : log_Log} {A : AL} {b : Int} (h : Has2 a A b) (m : api_Message) (u : Int) : entS a m u [] = aEnt a.w A m u := by
  unfold entS aEnt sentS; rw [h.st]
theorem Sok.more {s : api_State} {b c : Int} (h : Sok s b) (hbc : b ≤ c) : Sok s c := ⟨h.regs, ⟨h.draws.1, Int.le_trans h.draws.2 hbc⟩, ⟨h.sent.1, Int.le_trans h.sent.2 hbc⟩⟩
theorem Has2.more {a : log_Log} {A : AL} {b c : Int} (h : Has2 a A b) (hbc : b ≤ c) (hc : c ≤ 1125899906842624) : Has2 a A c :=
  ⟨h.lg, ⟨h.ok.made, h.ok.chk, h.ok.st.more hbc, hc, h.ok.few⟩, h.st, h.sk, fun k hk => (h.bd k hk).more hbc, h.ends⟩
/-- what Do makes of a log -/
noncomputable def nextL (a : log_Log) (A : AL) (m : api_Message) (u : Int) : log_Log := if aMay A m u = 0 then doS a m u [] else a
theorem do_abs {a : log_Log} {A : AL} {b : Int} (h : Has2 a A b) {m : api_Message} (hv : -9223372036854775808 ≤ m.Value ∧ m.Value ≤ 9223372036854775807) {u : Int} :
    log_Log_Do.f a m u [] = some (if aMay A m u = 0 then aEnt a.w A m u else zent, aMay A m u, nextL a A m u) := by
  rw [do_eq h.ok hv (by simp), may_abs h, ent_abs h]
  unfold nextL
  by_cases h0 : aMay A m u = 0
  · simp only [h0, if_true]
  · simp only [h0, if_false]
theorem Has2.did {a : log_Log} {A : AL} {b : Int} (h : Has2 a A b) {m : api_Message} (hv : -9223372036854775808 ≤ m.Value ∧ m.Value ≤ 9223372036854775807) (u : Int) (hb : b + 4096 ≤ 1125899906842624) (hl : A.1.length < 20000) :
    Has2 (nextL a A m u) (aDo a.w A m u) (b + 4096) ∧ (nextL a A m u).w = a.w ∧ (nextL a A m u).every = a.every ∧ (nextL a A m u).made = a.made := by
  have hn := h.lg.len
  unfold nextL aDo
  by_cases h0 : aMay A m u = 0
  · rw [if_pos h0, if_pos h0]
    have hm : evB m = true := (may_zero ((may_abs h m u).trans h0)).1
    refine ⟨⟨?_, h.ok.did hm hv u [] hb (by omega), ?_, ?_, fun k hk => ?_, fun hs _ => ?_⟩, rfl, rfl, rfl⟩
    · have := h.lg.did h.ok hm hv u []
      rw [ent_abs h] at this
      exact this
    · show (vmRun a.w a.state m).1 = _; rw [h.st]
    · show (!decide ((vmRun a.w a.state m).2.2 = 0)) = _; rw [h.st]
    · rw [List.length_append, List.length_singleton] at hk
      show Sok (nth (A.1 ++ [aEnt a.w A m u]) (k : Int)).Before _
      rcases Nat.lt_or_ge k A.1.length with h1 | h1
      · rw [nth_sn _ _ _ h1]; exact (h.bd k h1).more (by omega)
      · rw [show k = A.1.length by omega, nth_sl]
        show Sok A.2.1 _
        rw [← h.st]; exact h.ok.st.more (by omega)
    · have e : (((A.1 ++ [aEnt a.w A m u]).length : Int) - 1) = (A.1.length : Int) := by simp
      show (nth (A.1 ++ [aEnt a.w A m u]) (((A.1 ++ [aEnt a.w A m u]).length : Int) - 1)).Fault ≠ 0
      rw [e, nth_sl]
      simpa [aEnt] using hs
  · rw [if_neg h0, if_neg h0]
    exact ⟨h.more (by omega) hb, rfl, rfl, rfl⟩
end Go.Proofs.Gx
