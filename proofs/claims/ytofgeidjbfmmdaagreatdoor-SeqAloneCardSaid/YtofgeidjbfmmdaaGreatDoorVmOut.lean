/-
  What a handler's run that has no fault leads to.
-/
import Derived.Test.YtofgeidjbfmmdaaGreatDoorAwakeV
namespace Go.Proofs.Gx
open Go.Sl
set_option linter.unusedVariables false
def OutOK (w : api_World) (m : api_Message) (l : List api_Out) : Prop := ∀ o ∈ l, ((0 ≤ o.Link ∧ o.Link < (w.Links.length : Int)) ∧ (nth w.Links o.Link).Look ≤ o.Delay ∧ o.Delay ≤ 4611686018427387903 - m.Key.Time) ∧ -9223372036854775808 ≤ o.Value ∧ o.Value ≤ 9223372036854775807
theorem send_out {w : api_World} {m : api_Message} (hF : Fine w m) {i : api_Instr} {rg : Rg} (hr : Rin rg) {outs o : List api_Out} (ho : OutOK w m outs) (e : sendS w m i rg outs = .inl o) : OutOK w m o := by
  unfold sendS at e
  split at e
  · cases e; exact ho
  · rename_i h0
    split at e
    · cases e; exact ho
    · split at e
      · cases e
      · rename_i h1
        split at e
        · cases e
        · rename_i h2
          cases e
          intro x hx
          rcases List.mem_append.1 hx with hx | hx
          · exact ho x hx
          · obtain rfl := List.mem_singleton.1 hx
            have := lkof_in (rdR rg i.A) (n := (w.Links.length : Int)) (by omega) hF.links
            exact ⟨⟨this, by show (nth w.Links (lkof (rdR rg i.A) (w.Links.length : Int))).Look ≤ rdR rg i.B; omega, by show rdR rg i.B ≤ _; omega⟩, hr _⟩
theorem stp_out {w : api_World} {m : api_Message} (hF : Fine w m) {i : api_Instr} {rg : Rg} (hr : Rin rg) {dr at1 : Int} {outs : List api_Out} {s' : Sv} (ho : OutOK w m outs) (hd : -9223372036854775808 ≤ dr ∧ dr < 9223372036854775807) (e : stp w m i rg dr outs at1 = .inl s') : OutOK w m s'.2.2.1 ∧ dr ≤ s'.2.1 ∧ s'.2.1 ≤ dr + 1 := by
  unfold stp at e
  split at e
  · cases e; exact ⟨ho, Int.le_refl _, by show dr ≤ dr + 1; omega⟩
  split at e
  · cases e; exact ⟨ho, Int.le_refl _, by show dr ≤ dr + 1; omega⟩
  split at e
  · cases e; exact ⟨ho, Int.le_refl _, by show dr ≤ dr + 1; omega⟩
  split at e
  · cases e; exact ⟨ho, Int.le_refl _, by show dr ≤ dr + 1; omega⟩
  split at e
  · cases e; exact ⟨ho, Int.le_refl _, by show dr ≤ dr + 1; omega⟩
  split at e
  · cases e; exact ⟨ho, Int.le_refl _, by show dr ≤ dr + 1; omega⟩
  split at e
  · cases hs : sendS w m i rg outs with
    | inl o => rw [hs] at e; cases e; exact ⟨send_out hF hr ho hs, Int.le_refl _, by show dr ≤ dr + 1; omega⟩
    | inr c => rw [hs] at e; cases e
  split at e
  · cases e
    refine ⟨ho, ?_, ?_⟩
    · show dr ≤ IntKind.i64.wrap (dr + 1); rw [w64 (by omega) (by omega)]; omega
    · show IntKind.i64.wrap (dr + 1) ≤ dr + 1; rw [w64 (by omega) (by omega)]; exact Int.le_refl _
  split at e
  · cases e; exact ⟨ho, Int.le_refl _, by show dr ≤ dr + 1; omega⟩
  split at e
  · cases e; exact ⟨ho, Int.le_refl _, by show dr ≤ dr + 1; omega⟩
  · cases e; exact ⟨ho, Int.le_refl _, by show dr ≤ dr + 1; omega⟩
theorem runF_out {w : api_World} {m : api_Message} (hF : Fine w m) : ∀ (k : Nat) (x : Sv), Inv w x → OutOK w m x.2.2.1 → 0 ≤ x.2.1 → x.2.1 + (k : Int) ≤ 4611686018427387904 →
    (∀ y, runF w m k x = .inl y → Inv w y ∧ OutOK w m y.2.2.1 ∧ x.2.1 ≤ y.2.1 ∧ y.2.1 ≤ x.2.1 + (k : Int))
  | 0, x, hI, ho, h0, h1 => fun y e => by cases e; exact ⟨hI, ho, Int.le_refl _, by simp⟩
  | k + 1, (rg, dr, outs, at_), hI, ho, h0, h1 => by
    simp only at h0 h1 ho
    simp only [runF]
    by_cases ha : at_ < (w.Prog.length : Int)
    · rw [if_pos ha]
      cases hs : stp w m (nth w.Prog at_) rg dr outs (at_ + 1) with
      | inl s' =>
        obtain ⟨a1, a2, a3⟩ := stp_out hF hI.rg ho (by omega) hs
        have ih := runF_out hF k s' (step_inv hF hI ha hs) a1 (by omega) (by omega)
        intro y e
        obtain ⟨b1, b2, b3, b4⟩ := ih y e
        exact ⟨b1, b2, by omega, by omega⟩
      | inr d => exact fun y e => (by cases e)
    · rw [if_neg ha]
      exact fun y e => (by cases e; exact ⟨hI, ho, Int.le_refl _, by show dr ≤ dr + ((k + 1 : Nat) : Int); omega⟩)
theorem send_err {w : api_World} {m : api_Message} {i : api_Instr} {rg : Rg} {outs : List api_Out} {c : Int} (e : sendS w m i rg outs = .inr c) : c = 50 ∨ c = 10 := by
  unfold sendS at e
  split at e
  · cases e
  · split at e
    · cases e
    · split at e
      · cases e; exact .inl rfl
      · split at e
        · cases e; exact .inr rfl
        · cases e
theorem stp_err {w : api_World} {m : api_Message} {i : api_Instr} {rg : Rg} {dr at1 : Int} {outs : List api_Out} {c : Int} (e : stp w m i rg dr outs at1 = .inr c) : c = 50 ∨ c = 10 := by
  unfold stp at e
  split at e
  · cases e
  split at e
  · cases e
  split at e
  · cases e
  split at e
  · cases e
  split at e
  · cases e
  split at e
  · cases e
  split at e
  · cases hs : sendS w m i rg outs with
    | inl o => rw [hs] at e; cases e
    | inr d => rw [hs] at e; cases e; exact send_err hs
  split at e
  · cases e
  split at e
  · cases e
  split at e
  · cases e
  · cases e
theorem runF_err {w : api_World} {m : api_Message} : ∀ (k : Nat) (x : Sv) {c : Int}, runF w m k x = .inr c → c = 50 ∨ c = 10
  | 0, x, c, e => by cases e
  | k + 1, (rg, dr, outs, at_), c, e => by
    simp only [runF] at e
    by_cases ha : at_ < (w.Prog.length : Int)
    · rw [if_pos ha] at e
      cases hs : stp w m (nth w.Prog at_) rg dr outs (at_ + 1) with
      | inl s' => rw [hs] at e; exact runF_err k s' e
      | inr d => rw [hs] at e; cases e; exact stp_err hs
    · rw [if_neg ha] at e; cases e
theorem runF_no0 {w : api_World} {m : api_Message} {k : Nat} {x : Sv} (e : runF w m k x = .inr 0) : False := by
  rcases runF_err k x e with h | h <;> cases h
theorem rgs_of {f : Rg} (hf : Rin f) (s : api_State) (dr : Int) (n : Nat) : Rin (rgs (stOf s f dr n)) := fun j => by
  unfold rgs ovl stOf
  rcases j with _ | _ | _ | _ | _ | _ | _ | _ | j
  · exact hf 0
  · exact hf 1
  · exact hf 2
  · exact hf 3
  · exact hf 4
  · exact hf 5
  · exact hf 6
  · exact hf 7
  · show -9223372036854775808 ≤ zfn (j + 8) ∧ zfn (j + 8) ≤ 9223372036854775807
    unfold zfn; omega
/-- a run without a fault -/
structure RunOK (w : api_World) (s : api_State) (m : api_Message) : Prop where
  chk : chkW w = 0
  ev : evB m = true
  st : (0 ≤ s.Draws ∧ s.Draws ≤ 1125899906842624) ∧ 0 ≤ s.Sent ∧ s.Sent ≤ 1125899906842624
  fine : Fine w m
  outs : OutOK w m (vmRun w s m).2.1
  few : (vmRun w s m).2.1.length ≤ 8
  regs : Rin (rgs (vmRun w s m).1)
  sent : (vmRun w s m).1.Sent = s.Sent + ((vmRun w s m).2.1.length : Int)
theorem vmRun_zero {w : api_World} {s : api_State} {m : api_Message} (hs : Rin (rgs s)) (hv : -9223372036854775808 ≤ m.Value ∧ m.Value ≤ 9223372036854775807) (h : (vmRun w s m).2.2 = 0) : RunOK w s m := by
  by_cases hw : chkW w = 0
  · by_cases hm : evB m = true ∧ stB s = true
    · have hF := fine_of hw hm.1 hv
      have hb : (0 ≤ s.Draws ∧ s.Draws ≤ 1125899906842624) ∧ 0 ≤ s.Sent ∧ s.Sent ≤ 1125899906842624 := by simpa [stB] using hm.2
      have hI : Inv w (rgs s, s.Draws, [], 0) := ⟨hs, Nat.zero_le _, Int.le_refl _, by show (0 : Int) ≤ _; omega⟩
      have hO := runF_out hF 4096 (rgs s, s.Draws, [], 0) hI (fun o ho => by cases ho) hb.1.1 (by show s.Draws + _ ≤ _; omega)
      cases hr : runF w m 4096 (rgs s, s.Draws, [], 0) with
      | inr c =>
        exfalso
        rw [vmRun_err hw hm.1 hm.2 hr] at h
        simp only at h
        subst h
        exact runF_no0 hr
      | inl y =>
        obtain ⟨f, dr, outs, at_⟩ := y
        obtain ⟨b1, b2, b3, b4⟩ := hO _ hr
        have e := vmRun_ok hw hm.1 hm.2 hr
        have b5 : outs.length ≤ 8 := b1.outs
        refine ⟨hw, hm.1, hb, hF, ?_, ?_, ?_, ?_⟩
        · rw [e]; exact b2
        · rw [e]; exact b5
        · rw [e]; exact rgs_of b1.rg s dr _
        · rw [e]; show IntKind.i64.wrap _ = _; rw [w64 (by omega) (by omega)]
    · exfalso
      rw [vmRun_bad hw hm] at h
      cases h
  · exfalso
    have : vmRun w s m = (zst, [], chkW w) := by unfold vmRun; rw [if_neg hw]
    rw [this] at h
    exact hw h
end Go.Proofs.Gx
