/-
  The plain law SeqAlone: without links the history is the starts that are not later than the end, in order, as far as the budget goes.
-/
import Derived.Test.YtofgeidjbfmmdaaGreatDoorRise
import Derived.Test.YtofgeidjbfmmdaaGreatDoorAwake14
import Derived.Test.YtofgeidjbfmmdaaGreatDoorSort3
import Derived.Test.YtofgeidjbfmmdaaGreatDoorW22
namespace Go.Proofs.Gx
open Go.Sl
set_option linter.unusedVariables false
set_option linter.unusedSimpArgs false
/-! ### a handler without links -/
structure Sok (s : api_State) (b : Int) : Prop where
  regs : Rin (rgs s)
  draws : 0 ≤ s.Draws ∧ s.Draws ≤ b
  sent : 0 ≤ s.Sent ∧ s.Sent ≤ b
theorem stp_alone {w : api_World} (hl : w.Links = []) (m : api_Message) (i : api_Instr) (rg : Rg) (dr : Int) (outs : List api_Out) (at1 : Int) : ∃ s', stp w m i rg dr outs at1 = .inl s' ∧ s'.2.2.1 = outs := by
  have hs : sendS w m i rg outs = .inl outs := by unfold sendS; rw [if_pos (by rw [hl]; rfl)]
  unfold stp
  simp only [hs]
  repeat' split
  all_goals exact ⟨_, rfl, rfl⟩
theorem runF_alone {w : api_World} (hl : w.Links = []) (m : api_Message) : ∀ (k : Nat) (s : Sv), ∃ s', runF w m k s = .inl s' ∧ s'.2.2.1 = s.2.2.1
  | 0, s => ⟨s, rfl, rfl⟩
  | k + 1, s => by
    simp only [runF]
    by_cases h : s.2.2.2 < (w.Prog.length : Int)
    · rw [if_pos h]
      obtain ⟨s', e1, e2⟩ := stp_alone hl m (nth w.Prog s.2.2.2) s.1 s.2.1 s.2.2.1 (s.2.2.2 + 1)
      rw [e1]
      obtain ⟨s'', f1, f2⟩ := runF_alone hl m k s'
      exact ⟨s'', f1, f2.trans e2⟩
    · rw [if_neg h]; exact ⟨s, rfl, rfl⟩
theorem alone_run {w : api_World} (hl : w.Links = []) {s : api_State} {m : api_Message} {b : Int} (hw : chkW w = 0) (hm : evB m = true) (hv : -9223372036854775808 ≤ m.Value ∧ m.Value ≤ 9223372036854775807) (hs : Sok s b) (hb : b ≤ 1125899906842624) :
    (vmRun w s m).2.2 = 0 ∧ (vmRun w s m).2.1 = [] ∧ Sok (vmRun w s m).1 (b + 4096) := by
  have hF := fine_of hw hm hv
  have h1 := hs.draws
  have h2 := hs.sent
  have hst : stB s = true := by simp only [stB, decide_eq_true_eq]; omega
  have hI : Inv w (rgs s, s.Draws, [], 0) := ⟨hs.regs, Nat.zero_le _, Int.le_refl _, by show (0 : Int) ≤ _; omega⟩
  have hO := runF_out hF 4096 (rgs s, s.Draws, [], 0) hI (fun o ho => by cases ho) h1.1 (by show s.Draws + _ ≤ _; omega)
  obtain ⟨⟨f, dr, outs, at_⟩, hr, ho⟩ := runF_alone hl m 4096 (rgs s, s.Draws, [], 0)
  have ho : outs = [] := ho
  obtain ⟨b1, b2, b3, b4⟩ := hO _ hr
  have e := vmRun_ok hw hm hst hr
  simp only at b3 b4
  rw [e, ho]
  refine ⟨rfl, rfl, rgs_of b1.rg s dr _, ?_, ?_⟩
  · show 0 ≤ dr ∧ dr ≤ _; omega
  · show 0 ≤ IntKind.i64.wrap _ ∧ IntKind.i64.wrap _ ≤ _
    simp only [List.length_nil]
    rw [w64 (by omega) (by omega)]; omega
/-! ### what waits at the beginning -/
theorem ins_perm (l : List api_Message) (x : api_Message) : (ins l x).Perm (x :: l) := by
  unfold ins
  refine List.perm_middle.trans ?_
  rw [List.take_append_drop]
theorem insAll_perm : ∀ (xs l : List api_Message), (insAll l xs).Perm (xs ++ l)
  | [], l => by simp [insAll]
  | x :: xs, l => by
    have : insAll l (x :: xs) = insAll (ins l x) xs := rfl
    rw [this]
    refine (insAll_perm xs (ins l x)).trans ?_
    refine (List.Perm.append_left xs (ins_perm l x)).trans ?_
    exact List.perm_middle
theorem srt_le {l : List api_Message} (h : Srt l) : SrtM l := List.Pairwise.imp (fun {a b} hab => by
  rw [leM_iff]; unfold klt at hab; omega) h
theorem sorted_starts {m : api_Model} (hC : chkM m = 0) : event_Sorted.f (startMsgs m) = some (insAll [] (startMsgs m)) := by
  have hz := sizes_of hC
  obtain ⟨W, w1, w2, w3⟩ := Sorted_eq (startMsgs m) (by rw [starts_len]; omega)
  rw [w3]
  have hp : (insAll [] (startMsgs m)).Perm (startMsgs m) := by simpa using insAll_perm (startMsgs m) []
  congr 1
  refine List.Perm.eq_of_pairwise (le := leM) (fun a b ha hb h1 h2 => ?_) w1 (srt_le (ris_begin m).srt) (w2.trans hp.symm)
  obtain ⟨i, _, rfl⟩ := List.mem_map.1 (w2.mem_iff.1 ha)
  obtain ⟨j, _, rfl⟩ := List.mem_map.1 (hp.mem_iff.1 hb)
  have h1 := leM_iff.1 h1
  have h2 := leM_iff.1 h2
  have : i = j := by
    have e1 : (msg m i).Key.Seq = (i : Int) := rfl
    have e2 : (msg m j).Key.Seq = (j : Int) := rfl
    have e3 : (msg m i).Key.From = -1 := rfl
    have e4 : (msg m j).Key.From = -1 := rfl
    rw [e1, e2, e3, e4] at h1 h2
    omega
  rw [this]
/-! ### the run -/
def dn (x : api_Message) : api_Done := ⟨x.Key, x.To, x.Value⟩
structure Al (m : api_Model) (L : List api_Message) (s : SS) (k : Nat) : Prop where
  wait : s.2.1 = L.drop k
  done : s.2.2 = (L.take k).map dn
  le : k ≤ L.length
  st : ∀ p : Nat, p < m.Progs.length → Sok (nth s.1 (p : Int)) (4096 * (k : Int))
  n : s.1.length = m.Progs.length
theorem world_chk {m : api_Model} (hC : chkM m = 0) (hl : m.Links = []) {p : Nat} (hp : p < m.Progs.length) : chkW (wldW m p) = 0 ∧ (wldW m p).Links = [] := by
  obtain ⟨h1, h2, _⟩ := chkM_zero hC
  have hz := sizes_of hC
  obtain ⟨e1, e2, e3⟩ := wldW_ok hC hp
  have hw : wlinks m (p : Int) = [] := by
    have : (ways m (p : Int)).length ≤ m.Links.length := idxs_len _ _
    rw [hl] at this
    unfold wlinks
    have h0 : (ways m (p : Int)).length = 0 := by simpa using this
    rw [h0]
    rfl
  rw [hw] at e2
  have hpb := List.any_eq_false.1 h2 p (List.mem_range.2 hp)
  have hpc : chk (nth m.Progs (p : Int)) = 0 := by
    unfold progBad at hpb
    simpa using hpb
  refine ⟨?_, e2⟩
  unfold chkW
  rw [e3, if_pos hpc, e1, if_pos (by simp only [laneW, decide_eq_true_eq]; omega), e2]
  simp
structure Fit (m : api_Model) (x : api_Message) : Prop where
  ev : evB x = true
  to : 0 ≤ x.To ∧ x.To < (m.Progs.length : Int)
  val : -9223372036854775808 ≤ x.Value ∧ x.Value ≤ 9223372036854775807
theorem starts_fit {m : api_Model} (h : ok_api_Model m) (hC : chkM m = 0) : ∀ x ∈ startMsgs m, Fit m x := fun x hx => by
  obtain ⟨_, _, _, _, h5, h6⟩ := chkM_zero hC
  have hz := sizes_of hC
  obtain ⟨k, hk, rfl⟩ := List.mem_map.1 hx
  have hk := List.mem_range.1 hk
  have hb := List.any_eq_false.1 h6 k (List.mem_range.2 hk)
  rw [Bool.not_eq_true] at hb
  unfold startBad startOK laneB timeB at hb
  simp only [Bool.not_eq_false', Bool.and_eq_true, decide_eq_true_eq] at hb
  have hv := h.2.2.1.1 _ (nth_mem (xs := m.Starts) (i := (k : Int)) (by omega) (by omega))
  refine ⟨?_, hb.1, wf64 hv.2.2⟩
  simp only [evB, msg, timeB, laneW, Bool.and_eq_true]
  refine ⟨⟨⟨?_, ?_⟩, ?_⟩, ?_⟩ <;> exact decide_eq_true (by omega)
theorem drop_head {L : List api_Message} {k : Nat} (h : k < L.length) : nth (L.drop k) 0 = nth L (k : Int) := by
  have : nth (L.drop k) ((0 : Nat) : Int) = _ := nth_nat (by rw [List.length_drop]; omega)
  rw [show (0 : Int) = ((0 : Nat) : Int) from rfl, this, nth_nat h, List.getElem_drop]; simp
theorem alone_step {m : api_Model} (hC : chkM m = 0) (hl : m.Links = []) {L : List api_Message} (hL : ∀ x ∈ L, Fit m x) {s : SS} {k : Nat} (hA : Al m L s k) (hk : k < L.length) (ht : (nth L (k : Int)).Key.Time ≤ m.End) (hb : (k : Int) < m.Budget) :
    ∃ s', oneStep (worldsP m) m.End m.Budget s = .inr s' ∧ Al m L s' (k + 1) := by
  have hz := sizes_of hC
  have hf := hL _ (nth_mem (xs := L) (i := (k : Int)) (by omega) (by omega))
  obtain ⟨p, hp⟩ : ∃ p : Nat, (nth L (k : Int)).To = (p : Int) := ⟨(nth L (k : Int)).To.toNat, by have := hf.to; omega⟩
  have hpl : p < m.Progs.length := by have := hf.to; omega
  obtain ⟨c1, c2⟩ := world_chk hC hl hpl
  obtain ⟨r1, r2, r3⟩ := alone_run c2 c1 hf.ev hf.val (hA.st p hpl) (by omega)
  have hd : s.2.2.length = k := by rw [hA.done, List.length_map, List.length_take]; omega
  have hw : s.2.1.length = L.length - k := by rw [hA.wait, List.length_drop]
  have h0 : nth s.2.1 0 = nth L (k : Int) := by rw [hA.wait]; exact drop_head hk
  refine ⟨(setL s.1 (p : Int) (vmRun (wldW m p) (nth s.1 (p : Int)) (nth L (k : Int))).1, L.drop (k + 1), (L.take (k + 1)).map dn), ?_, ?_⟩
  · unfold oneStep
    rw [if_neg (by omega), h0, if_neg (by omega), if_neg (by omega)]
    simp only [hp, worlds_nth hpl, r1, r2, if_true]
    have e1 : sendsZ (wldW m p) (nth s.1 (p : Int)) (nth L (k : Int)) [] = [] := rfl
    rw [e1, hA.wait, hA.done]
    congr 2
    · rw [show L.take (k + 1) = L.take k ++ [nth L (k : Int)] by rw [List.take_succ_eq_append_getElem hk, nth_nat hk], List.map_append]
      simp [insAll, dn, hp]
  · refine ⟨rfl, rfl, hk, fun q hq => ?_, ?_⟩
    · show Sok (nth (setL s.1 (p : Int) _) (q : Int)) _
      rw [nth_setL (by omega) (by rw [hA.n]; omega) (by omega), show 4096 * ((k + 1 : Nat) : Int) = 4096 * (k : Int) + 4096 by omega]
      split
      · exact r3
      · have := hA.st q hq
        exact ⟨this.regs, ⟨this.draws.1, by have := this.draws.2; omega⟩, ⟨this.sent.1, by have := this.sent.2; omega⟩⟩
    · show (setL s.1 (p : Int) _).length = _
      rw [setL_len]; exact hA.n
theorem alone_runP {m : api_Model} (hC : chkM m = 0) (hl : m.Links = []) {L : List api_Message} (hL : ∀ x ∈ L, Fit m x) : ∀ (j : Nat) (s : SS) (k : Nat), Al m L s k → m.Budget - (k : Int) < (j : Int) → (k : Int) ≤ m.Budget →
    ∃ s' k' x, runP (worldsP m) m.End m.Budget (-1) j s = (s', x) ∧ Al m L s' k' ∧ k ≤ k' ∧ (k' : Int) ≤ m.Budget ∧ (∀ i : Nat, k ≤ i → i < k' → (nth L (i : Int)).Key.Time ≤ m.End) ∧
      ((x = 1 ∧ (k' = L.length ∨ k' < L.length ∧ m.End < (nth L (k' : Int)).Key.Time)) ∨ (x = 4 ∧ k' < L.length ∧ (nth L (k' : Int)).Key.Time ≤ m.End ∧ m.Budget ≤ (k' : Int)))
  | 0, s, k, hA, hj, hb => by omega
  | j + 1, s, k, hA, hj, hb => by
    have hd : s.2.2.length = k := by rw [hA.done, List.length_map, List.length_take]; have := hA.le; omega
    have hw : s.2.1.length = L.length - k := by rw [hA.wait, List.length_drop]
    simp only [runP]
    rw [if_neg (by omega)]
    by_cases c1 : k = L.length
    · have e : oneStep (worldsP m) m.End m.Budget s = .inl (1, 6) := by unfold oneStep; rw [if_pos (by omega)]
      rw [e]
      exact ⟨s, k, 1, rfl, hA, Nat.le_refl _, hb, fun i h1 h2 => by omega, .inl ⟨rfl, .inl c1⟩⟩
    · have hk : k < L.length := by have := hA.le; omega
      have h0 : nth s.2.1 0 = nth L (k : Int) := by rw [hA.wait]; exact drop_head hk
      by_cases c2 : m.End < (nth L (k : Int)).Key.Time
      · have e : oneStep (worldsP m) m.End m.Budget s = .inl (1, 6) := by unfold oneStep; rw [if_neg (by omega), h0, if_pos c2]
        rw [e]
        exact ⟨s, k, 1, rfl, hA, Nat.le_refl _, hb, fun i h1 h2 => by omega, .inl ⟨rfl, .inr ⟨hk, c2⟩⟩⟩
      · by_cases c3 : m.Budget ≤ (k : Int)
        · have e : oneStep (worldsP m) m.End m.Budget s = .inl (4, 9) := by unfold oneStep; rw [if_neg (by omega), h0, if_neg c2, if_pos (by omega)]
          rw [e]
          exact ⟨s, k, 4, rfl, hA, Nat.le_refl _, hb, fun i h1 h2 => by omega, .inr ⟨rfl, hk, by omega, c3⟩⟩
        · obtain ⟨s', e, hA'⟩ := alone_step hC hl hL hA hk (by omega) (by omega)
          rw [e]
          obtain ⟨s2, k2, x, f1, f2, f3, f4, f5, f6⟩ := alone_runP hC hl hL j s' (k + 1) hA' (by omega) (by omega)
          refine ⟨s2, k2, x, f1, f2, by omega, f4, fun i h1 h2 => ?_, f6⟩
          by_cases hi : i = k
          · subst hi; omega
          · exact f5 i (by omega) h2
theorem first_not (P : Nat → Bool) : ∀ n, ∃ q, q ≤ n ∧ (∀ i, i < q → P i = true) ∧ (q = n ∨ P q = false)
  | 0 => ⟨0, Nat.le_refl _, fun i h => by omega, .inl rfl⟩
  | n + 1 => by
    obtain ⟨q, h1, h2, h3⟩ := first_not P n
    rcases h3 with rfl | h3
    · cases hp : P q with
      | true => exact ⟨q + 1, Nat.le_refl _, fun i h => by
          by_cases e : i = q
          · rw [e]; exact hp
          · exact h2 i (by omega), .inl rfl⟩
      | false => exact ⟨q, by omega, h2, .inr hp⟩
    · exact ⟨q, by omega, h2, .inr h3⟩
theorem Pure.seqAlone (x0 : api_Model) (h0 : ok_api_Model x0) : isochronlaw14vSeqAlone.f x0 = some true := by
  unfold isochronlaw14vSeqAlone.f
  have hm : ok_api_Model (⟨x0.Progs, [], x0.Starts, x0.Seed, x0.End, x0.Budget⟩ : api_Model) := ⟨h0.1, ⟨fun x hx => (by cases hx), show 0 * 32 ≤ reachBytes from by decide⟩, h0.2.2.1, h0.2.2.2.1, h0.2.2.2.2.1, h0.2.2.2.2.2⟩
  have hE : (⟨x0.Progs, [], x0.Starts, x0.Seed, x0.End, x0.Budget⟩ : api_Model).End = x0.End := rfl
  have hB : (⟨x0.Progs, [], x0.Starts, x0.Seed, x0.End, x0.Budget⟩ : api_Model).Budget = x0.Budget := rfl
  have hLk : (⟨x0.Progs, [], x0.Starts, x0.Seed, x0.End, x0.Budget⟩ : api_Model).Links = [] := rfl
  generalize (⟨x0.Progs, [], x0.Starts, x0.Seed, x0.End, x0.Budget⟩ : api_Model) = m at *
  rw [show seq_Run.f m = some (resP m) from Run_eq hm]
  simp only [Option.bind_some]
  unfold resP
  by_cases hC : chkM m = 0
  · have hz := sizes_of hC
    rw [if_pos hC]
    simp only [if_true]
    rw [starts_list (by omega)]
    simp only [Option.bind_some]
    have hsrt := sorted_starts hC
    unfold startMsgs at hsrt
    rw [hsrt]
    simp only [Option.bind_some]
    generalize hL : insAll [] ((List.range m.Starts.length).map (msg m)) = L
    have hLf : ∀ x ∈ L, Fit m x := fun x hx => by
      rw [← hL] at hx
      rcases insAll_mem.1 hx with hx | hx
      · exact starts_fit hm hC x hx
      · cases hx
    have hLl : L.length ≤ 4096 := by rw [← hL, insAll_len]; simp; omega
    have hA0 : Al m L (beginS m) 0 := by
      refine ⟨?_, rfl, Nat.zero_le _, fun p hp => ?_, by simp [beginS, zeroS]⟩
      · show insAll [] (startMsgs m) = _; rw [← hL]; rfl
      · have : nth (zeroS m) (p : Int) = zst := by rw [nth_nat (by simpa [zeroS] using hp)]; simp [zeroS]
        show Sok (nth (zeroS m) (p : Int)) _
        rw [this]
        exact ⟨rgs_zst, ⟨by decide, by decide⟩, ⟨by decide, by decide⟩⟩
    obtain ⟨s', k', x, f1, f2, f3, f4, f5, f6⟩ := alone_runP hC hLk hLf (m.Budget.toNat + 1) (beginS m) 0 hA0 (by omega) (by omega)
    have hR : runM m (-1) = (s', x) := f1
    rw [hR]
    have hH : s'.2.2.length = k' := by rw [f2.done, List.length_map, List.length_take]; have := f2.le; omega
    have hHn : ∀ i : Nat, i < k' → nth s'.2.2 (i : Int) = dn (nth L (i : Int)) := fun i hi => by
      have := f2.le
      rw [nth_nat (by omega), nth_nat (by omega)]
      simp only [f2.done, List.getElem_map, List.getElem_take]
    obtain ⟨q, q1, q2, q3⟩ := first_not (fun i => decide ((nth L (i : Int)).Key.Time ≤ m.End)) L.length
    have hj : isochronlaw14vSeqAlone.j5 x0 (⟨s'.2.2, s'.1, x⟩ : api_Result) (q : Int) = some true := by
      unfold isochronlaw14vSeqAlone.j5
      simp only [hH, ← hB]
      rcases f6 with ⟨rfl, hx⟩ | ⟨rfl, hx1, hx2, hx3⟩
      · have hq : q = k' := by
          rcases Nat.lt_trichotomy q k' with h | h | h
          · have hle := f2.le
            rcases q3 with h3 | h3
            · omega
            · have := f5 q (Nat.zero_le _) h
              simp only [decide_eq_false_iff_not] at h3
              exact absurd this h3
          · exact h
          · rcases hx with hx | ⟨hx, hx'⟩
            · omega
            · have := q2 k' h
              simp only [decide_eq_true_eq] at this
              omega
        rw [if_neg (by omega), if_pos (by omega)]
        simp
      · have hq : k' < q := by
          rcases Nat.lt_or_ge k' q with h | h
          · exact h
          · rcases q3 with h3 | h3
            · omega
            · simp only [decide_eq_false_iff_not] at h3
              by_cases e : q = k'
              · rw [e] at h3; exact absurd hx2 h3
              · exact absurd (f5 q (Nat.zero_le _) (by omega)) h3
        rw [if_pos (by omega), if_pos (by omega)]
        simp
    unfold isochronlaw14vSeqAlone.l6
    refine (show loopR _ ((fun k : Nat => ((k : Int), (k : Int))) 0) = _ from loopR_steps (fun k : Nat => ((k : Int), (k : Int))) q (fun i hi => ?_) ?_)
    · have ht := q2 i hi
      simp only [decide_eq_true_eq] at ht
      rw [hE] at ht
      simp only [isochronlaw14vSeqAlone.l6b]
      rw [if_pos (by omega), if_pos (by omega), if_pos ht, w64 (by omega) (by omega)]
      by_cases hk : (i : Int) < (s'.2.2.length : Int)
      · rw [if_pos hk, hHn i (by omega)]
        simp [dn]
      · rw [if_neg hk]
        rfl
    · simp only [isochronlaw14vSeqAlone.l6b]
      rcases q3 with h3 | h3
      · rw [if_neg (by omega), hj]; rfl
      · simp only [decide_eq_false_iff_not] at h3
        rw [hE] at h3
        by_cases hq : (q : Int) < (L.length : Int)
        · rw [if_pos hq, if_pos (by omega), if_neg h3, hj]; rfl
        · rw [if_neg hq, hj]; rfl
  · rw [if_neg hC]
    simp only
    rw [if_neg hC, model_check_eq]
    simp [awake_true]
end Go.Proofs.Gx
