/-
  The plain law VmLater: never earlier.
-/
import Derived.Test.YtjdachfjlajjjaaDoorAwake
import Derived.Test.YtjdachfjlajjjaaDoorW14
namespace Go.Proofs.Gx
open Go.Sl
set_option linter.unusedVariables false
def OutOK (w : api_World) (m : api_Message) (l : List api_Out) : Prop := ∀ o ∈ l, (0 ≤ o.Link ∧ o.Link < (w.Links.length : Int)) ∧ (nth w.Links o.Link).Look ≤ o.Delay ∧ o.Delay ≤ 4611686018427387903 - m.Key.Time
theorem send_out {w : api_World} {m : api_Message} (hF : Fine w m) {i : api_Instr} {rg : Rg} {outs o : List api_Out} (ho : OutOK w m outs) (e : sendS w m i rg outs = .inl o) : OutOK w m o := by
  unfold sendS at e
  split at e
  · cases e; exact ho
  · rename_i h0
    split at e
    · cases e; exact ho
    · split at e
      · cases e
      · rename_i h1
        split at e
        · cases e
        · rename_i h2
          cases e
          intro x hx
          rcases List.mem_append.1 hx with hx | hx
          · exact ho x hx
          · obtain rfl := List.mem_singleton.1 hx
            have := lkof_in (rdR rg i.A) (n := (w.Links.length : Int)) (by omega) hF.links
            exact ⟨this, by show (nth w.Links (lkof (rdR rg i.A) (w.Links.length : Int))).Look ≤ rdR rg i.B; omega, by show rdR rg i.B ≤ _; omega⟩
theorem send_err {w : api_World} {m : api_Message} {i : api_Instr} {rg : Rg} {outs : List api_Out} {c : Int} (e : sendS w m i rg outs = .inr c) : c = 50 ∨ c = 10 := by
  unfold sendS at e
  split at e
  · cases e
  · split at e
    · cases e
    · split at e
      · cases e; exact .inl rfl
      · split at e
        · cases e; exact .inr rfl
        · cases e
theorem stp_out {w : api_World} {m : api_Message} (hF : Fine w m) {i : api_Instr} {rg : Rg} {dr at1 : Int} {outs : List api_Out} {s' : Sv} (ho : OutOK w m outs) (hd : -9223372036854775808 ≤ dr ∧ dr < 9223372036854775807) (e : stp w m i rg dr outs at1 = .inl s') : OutOK w m s'.2.2.1 ∧ dr ≤ s'.2.1 ∧ s'.2.1 ≤ dr + 1 := by
  unfold stp at e
  split at e
  · cases e; exact ⟨ho, Int.le_refl _, by show dr ≤ dr + 1; omega⟩
  split at e
  · cases e; exact ⟨ho, Int.le_refl _, by show dr ≤ dr + 1; omega⟩
  split at e
  · cases e; exact ⟨ho, Int.le_refl _, by show dr ≤ dr + 1; omega⟩
  split at e
  · cases e; exact ⟨ho, Int.le_refl _, by show dr ≤ dr + 1; omega⟩
  split at e
  · cases e; exact ⟨ho, Int.le_refl _, by show dr ≤ dr + 1; omega⟩
  split at e
  · cases e; exact ⟨ho, Int.le_refl _, by show dr ≤ dr + 1; omega⟩
  split at e
  · cases hs : sendS w m i rg outs with
    | inl o => rw [hs] at e; cases e; exact ⟨send_out hF ho hs, Int.le_refl _, by show dr ≤ dr + 1; omega⟩
    | inr c => rw [hs] at e; cases e
  split at e
  · cases e
    refine ⟨ho, ?_, ?_⟩
    · show dr ≤ IntKind.i64.wrap (dr + 1); rw [w64 (by omega) (by omega)]; omega
    · show IntKind.i64.wrap (dr + 1) ≤ dr + 1; rw [w64 (by omega) (by omega)]; exact Int.le_refl _
  split at e
  · cases e; exact ⟨ho, Int.le_refl _, by show dr ≤ dr + 1; omega⟩
  split at e
  · cases e; exact ⟨ho, Int.le_refl _, by show dr ≤ dr + 1; omega⟩
  · cases e; exact ⟨ho, Int.le_refl _, by show dr ≤ dr + 1; omega⟩
theorem stp_err {w : api_World} {m : api_Message} {i : api_Instr} {rg : Rg} {dr at1 : Int} {outs : List api_Out} {c : Int} (e : stp w m i rg dr outs at1 = .inr c) : c = 50 ∨ c = 10 := by
  unfold stp at e
  split at e
  · cases e
  split at e
  · cases e
  split at e
  · cases e
  split at e
  · cases e
  split at e
  · cases e
  split at e
  · cases e
  split at e
  · cases hs : sendS w m i rg outs with
    | inl o => rw [hs] at e; cases e
    | inr d => rw [hs] at e; cases e; exact send_err hs
  split at e
  · cases e
  split at e
  · cases e
  split at e
  · cases e
  · cases e
theorem runF_out {w : api_World} {m : api_Message} (hF : Fine w m) : ∀ (k : Nat) (x : Sv), Inv w x → OutOK w m x.2.2.1 → 0 ≤ x.2.1 → x.2.1 + (k : Int) ≤ 4611686018427387904 →
    (∀ y, runF w m k x = .inl y → Inv w y ∧ OutOK w m y.2.2.1 ∧ x.2.1 ≤ y.2.1 ∧ y.2.1 ≤ x.2.1 + (k : Int)) ∧ (∀ c, runF w m k x = .inr c → c = 50 ∨ c = 10)
  | 0, x, hI, ho, h0, h1 => ⟨fun y e => by cases e; exact ⟨hI, ho, Int.le_refl _, by simp⟩, fun c e => by cases e⟩
  | k + 1, (rg, dr, outs, at_), hI, ho, h0, h1 => by
    simp only at h0 h1 ho
    simp only [runF]
    by_cases ha : at_ < (w.Prog.length : Int)
    · rw [if_pos ha]
      cases hs : stp w m (nth w.Prog at_) rg dr outs (at_ + 1) with
      | inl s' =>
        obtain ⟨a1, a2, a3⟩ := stp_out hF ho (by omega) hs
        have ih := runF_out hF k s' (step_inv hF hI ha hs) a1 (by omega) (by omega)
        refine ⟨fun y e => ?_, ih.2⟩
        obtain ⟨b1, b2, b3, b4⟩ := ih.1 y e
        exact ⟨b1, b2, by omega, by omega⟩
      | inr d => exact ⟨fun y e => (by cases e), fun c e => (by cases e; exact stp_err hs)⟩
    · rw [if_neg ha]
      exact ⟨fun y e => (by cases e; exact ⟨hI, ho, Int.le_refl _, by show dr ≤ dr + ((k + 1 : Nat) : Int); omega⟩), fun c e => (by cases e)⟩
theorem chkW_code (w : api_World) : chkW w = 0 ∨ chkW w = 1 ∨ chkW w = 2 ∨ chkW w = 130 := by
  unfold chkW
  split
  · split
    · split
      · exact .inr (.inl rfl)
      · split
        · exact .inr (.inl rfl)
        · exact .inl rfl
    · exact .inr (.inl rfl)
  · unfold chk
    split
    · exact .inr (.inr (.inl rfl))
    · split
      · exact .inr (.inr (.inr rfl))
      · exact .inl rfl
theorem or3 (a b c : Int) (h : ¬ a = 0) : cmp_Or_int.f ([a, b, c] : List Int) = some a := by
  unfold cmp_Or_int.f cmp_Or_int.l2
  rw [loopR_eq]
  simp only [cmp_Or_int.l2b]
  rw [if_pos (show (0 : Int) < ((([a, b, c] : List Int).length : Nat) : Int) by simp only [List.length_cons, List.length_nil]; omega), if_pos (Int.le_refl 0), if_neg (show ¬ nth ([a, b, c] : List Int) 0 = 0 from h)]
  rfl
theorem cmp64 (a b : Int) : cmp_Compare_int64.f a b = some (if a < b then -1 else if b < a then 1 else 0) := by
  unfold cmp_Compare_int64.f cmp_isNaN_int64.f
  simp only [decide_true, Bool.not_true, Option.bind_some, Bool.false_eq_true, if_false]
  split
  · rfl
  · split <;> rfl
theorem cmpI (a b : Int) : cmp_Compare_int.f a b = some (if a < b then -1 else if b < a then 1 else 0) := by
  unfold cmp_Compare_int.f cmp_isNaN_int.f
  simp only [decide_true, Bool.not_true, Option.bind_some, Bool.false_eq_true, if_false]
  split
  · rfl
  · split <;> rfl
theorem compare_earlier {a b : api_Key} (h : a.Time < b.Time) : event_Compare.f a b = some (-1) := by
  unfold event_Compare.f
  rw [if_neg (by rintro rfl; omega), cmp64, if_pos h]
  simp only [Option.bind_some, cmpI]
  rw [or3 _ _ _ (by decide)]
  rfl
def snd_ (w : api_World) (s : api_State) (m : api_Message) (l : List api_Out) (k : Nat) : api_Message := ⟨⟨m.Key.Time + (nth l (k : Int)).Delay, w.Self, s.Sent + (k : Int)⟩, (nth w.Links (nth l (k : Int)).Link).To, (nth l (k : Int)).Value, 5 + (k : Int), false⟩
theorem Pure.vmLater (x0 : api_World) (h0 : ok_api_World x0) (x1 : api_State) (h1 : ok_api_State x1) (x2 : api_Message) (h2 : ok_api_Message x2) : isochronlaw05vVmLater.f x0 x1 x2 = some true := by
  have hs := rgs_in h1
  have hv := wf64 h2.2.2.1
  unfold isochronlaw05vVmLater.f
  rw [vm_run_eq x0 x1 x2 hs hv]
  simp only [Option.bind_some, awake_true]
  by_cases hw : chkW x0 = 0
  · by_cases hm : evB x2 = true ∧ stB x1 = true
    · have hF := fine_of hw hm.1 hv
      have hb : (0 ≤ x1.Draws ∧ x1.Draws ≤ 1125899906842624) ∧ 0 ≤ x1.Sent ∧ x1.Sent ≤ 1125899906842624 := by simpa [stB] using hm.2
      have hI : Inv x0 (rgs x1, x1.Draws, [], 0) := ⟨hs, Nat.zero_le _, Int.le_refl _, by show (0 : Int) ≤ _; omega⟩
      have hO := runF_out hF 4096 (rgs x1, x1.Draws, [], 0) hI (fun o ho => by cases ho) hb.1.1 (by show x1.Draws + _ ≤ _; omega)
      cases hr : runF x0 x2 4096 (rgs x1, x1.Draws, [], 0) with
      | inr c =>
        rw [vmRun_err hw hm.1 hm.2 hr]
        rcases hO.2 c hr with rfl | rfl
        · simp
        · simp
      | inl y =>
        obtain ⟨f, dr, outs, at_⟩ := y
        obtain ⟨b1, b2, b3, b4⟩ := hO.1 _ hr
        have b5 := b1.outs
        simp only at b2 b3 b4 b5
        rw [vmRun_ok hw hm.1 hm.2 hr]
        simp only
        rw [if_neg (by decide), if_neg (by decide), if_pos trivial]
        have ht := hF.time
        have hout : ∀ k : Nat, k < outs.length → (0 ≤ (nth outs (k : Int)).Link ∧ (nth outs (k : Int)).Link < (x0.Links.length : Int)) ∧ (nth x0.Links (nth outs (k : Int)).Link).Look ≤ (nth outs (k : Int)).Delay ∧ (nth outs (k : Int)).Delay ≤ 4611686018427387903 - x2.Key.Time := fun k hk => b2 _ (nth_mem (by omega) (by omega))
        have hlook : ∀ k : Nat, k < outs.length → 1 ≤ (nth outs (k : Int)).Delay := fun k hk => by
          obtain ⟨⟨c1, c2⟩, c3, _⟩ := hout k hk
          have := hF.look (nth outs (k : Int)).Link.toNat (by omega)
          rw [Int.toNat_of_nonneg c1] at this
          omega
        have hto : ∀ k : Nat, k < outs.length → laneW (nth x0.Links (nth outs (k : Int)).Link).To = true := fun k hk => by
          obtain ⟨⟨c1, c2⟩, _⟩ := hout k hk
          unfold chkW at hw
          split at hw
          · split at hw
            · split at hw
              · cases hw
              · split at hw
                · cases hw
                · rename_i h4
                  simp only [Bool.not_eq_true] at h4
                  have := List.any_eq_false.1 h4 (nth outs (k : Int)).Link.toNat (List.mem_range.2 (by omega))
                  rw [Bool.not_eq_true] at this
                  unfold linkBadW at this
                  rw [Int.toNat_of_nonneg c1] at this
                  simp only [Bool.not_eq_false', Bool.and_eq_true] at this
                  exact this.1
            · cases hw
          · rename_i h4
            exact absurd hw h4
        have hsends : vm_Sends.f x0 x1 x2 outs 5 = some ((List.range outs.length).map (snd_ x0 x1 x2 outs)) := by
          unfold vm_Sends.f vm_Sends.l2
          refine (show loopR (vm_Sends.l2b x0 x1 x2 outs 5) ((fun k : Nat => ((List.range k).map (snd_ x0 x1 x2 outs), ((k : Nat) : Int))) 0) = _ from loopR_steps (fun k : Nat => ((List.range k).map (snd_ x0 x1 x2 outs), ((k : Nat) : Int))) outs.length (fun k hk => ?_) ?_)
          · obtain ⟨⟨c1, c2⟩, c3, c4⟩ := hout k hk
            have c5 := hlook k hk
            simp only [vm_Sends.l2b]
            rw [if_pos (by omega), if_pos (by omega), if_pos c1, if_pos c2, w64 (x := 4611686018427387903 - x2.Key.Time) (by omega) (by omega), if_pos c4, if_pos (by simp only [List.length_map, List.length_range]; omega),
              w64 (x := x2.Key.Time + (nth outs (k : Int)).Delay) (by omega) (by omega), w64 (x := x1.Sent + (k : Int)) (by omega) (by omega), w64 (x := 5 + (k : Int)) (by omega) (by omega), w64 (x := (k : Int) + 1) (by omega) (by omega), List.range_succ, List.map_append]
            rfl
          · simp only [vm_Sends.l2b]
            rw [if_neg (by omega)]
        have hl8 : isochronlaw05vVmLater.l8 x1 x2 (stOf x1 f dr outs.length) outs ((List.range outs.length).map (snd_ x0 x1 x2 outs)) 0 = some true := by
          unfold isochronlaw05vVmLater.l8
          refine loopR_steps (fun k => ((k : Nat) : Int)) outs.length (fun k hk => ?_) ?_
          · obtain ⟨⟨c1, c2⟩, c3, c4⟩ := hout k hk
            have c5 := hlook k hk
            have hg : nth ((List.range outs.length).map (snd_ x0 x1 x2 outs)) (k : Int) = snd_ x0 x1 x2 outs k := by
              rw [nth_nat (by simpa using hk)]; simp
            have hev : evB (snd_ x0 x1 x2 outs k) = true := by
              have a1 : timeB (snd_ x0 x1 x2 outs k).Key.Time = true := decide_eq_true (by show 0 ≤ x2.Key.Time + (nth outs (k : Int)).Delay ∧ _; constructor; omega; show x2.Key.Time + (nth outs (k : Int)).Delay ≤ _; omega)
              have a2 : decide (-1 ≤ (snd_ x0 x1 x2 outs k).Key.From ∧ (snd_ x0 x1 x2 outs k).Key.From < 16) = true := decide_eq_true (by have := hF.self; constructor; show -1 ≤ x0.Self; omega; show x0.Self < 16; omega)
              have a3 : laneW (snd_ x0 x1 x2 outs k).To = true := hto k hk
              have a4 : decide (0 ≤ (snd_ x0 x1 x2 outs k).Key.Seq ∧ 0 ≤ (snd_ x0 x1 x2 outs k).Uid) = true := decide_eq_true (by constructor; show 0 ≤ x1.Sent + (k : Int); omega; show 0 ≤ 5 + (k : Int); omega)
              unfold evB
              rw [a1, a2, a3, a4]
              rfl
            have hcmp : event_Compare.f x2.Key (snd_ x0 x1 x2 outs k).Key = some (-1) := compare_earlier (by show x2.Key.Time < x2.Key.Time + _; omega)
            simp only [isochronlaw05vVmLater.l8b, hg]
            rw [if_pos (by simp only [List.length_map, List.length_range]; omega), if_pos (by omega), show event_Check.f (⟨(snd_ x0 x1 x2 outs k).Key, (snd_ x0 x1 x2 outs k).To, (snd_ x0 x1 x2 outs k).Value, (snd_ x0 x1 x2 outs k).Uid, (snd_ x0 x1 x2 outs k).Anti⟩ : api_Message) = _ from event_check_eq (snd_ x0 x1 x2 outs k), hev, hcmp]
            simp only [if_true, Option.bind_some]
            rw [w64 (x := x1.Sent + (k : Int)) (by omega) (by omega), w64 (x := 5 + (k : Int)) (by omega) (by omega), w64 (x := (k : Int) + 1) (by omega) (by omega), if_pos (show (snd_ x0 x1 x2 outs k).Key.Seq = x1.Sent + (k : Int) from rfl), if_pos (show (snd_ x0 x1 x2 outs k).Uid = 5 + (k : Int) from rfl), if_neg (show ¬ (snd_ x0 x1 x2 outs k).Anti = true from (by decide : ¬ (false = true)))]
            rfl
          · simp only [isochronlaw05vVmLater.l8b, awake_true]
            rw [if_neg (by simp only [List.length_map, List.length_range]; omega), if_pos (by omega), if_pos (show (stOf x1 f dr outs.length).Sent = IntKind.i64.wrap (x1.Sent + (outs.length : Int)) from rfl), if_pos (show x1.Draws ≤ (stOf x1 f dr outs.length).Draws from b3), w64 (x := x1.Draws + 4096) (by omega) (by omega), if_pos (show (stOf x1 f dr outs.length).Draws ≤ x1.Draws + 4096 from b4), if_pos (by simp)]
            rfl
        unfold isochronlaw05vVmLater.l6
        refine loopR_steps (fun k => ((k : Nat) : Int)) outs.length (fun k hk => ?_) ?_
        · obtain ⟨⟨c1, c2⟩, c3, c4⟩ := hout k hk
          simp only [isochronlaw05vVmLater.l6b]
          rw [if_pos (by omega), if_pos (by omega), if_neg (by omega), if_neg (by omega), if_pos ⟨c1, c2⟩, if_neg (by omega), w64 (x := 4611686018427387903 - x2.Key.Time) (by omega) (by omega), if_neg (by omega), w64 (by omega) (by omega)]
          rfl
        · simp only [isochronlaw05vVmLater.l6b, hsends, Option.bind_some, hl8]
          rw [if_neg (by omega)]
          rfl
    · rw [vmRun_bad hw hm]
      rfl
  · have hv' : vmRun x0 x1 x2 = (zst, [], chkW x0) := by unfold vmRun; rw [if_neg hw]
    rw [hv']
    rcases chkW_code x0 with h | h | h | h
    · exact absurd h hw
    all_goals rw [h]; rfl
end Go.Proofs.Gx
