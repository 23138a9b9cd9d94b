/-
  The sequential simulator, told plainly: its beginning and its step; the program's and the reference's are the same.
-/
import Derived.Test.YtofgeidjbfmmdaaGreatDoorOrd
import Derived.Test.YtofgeidjbfmmdaaGreatDoorStarts
import Derived.Test.YtofgeidjbfmmdaaGreatDoorVmOut
import Derived.Test.YtofgeidjbfmmdaaGreatDoorW9
namespace Go.Proofs.Gx
open Go.Sl
set_option linter.unusedVariables false
set_option linter.unusedSimpArgs false
def wldW (m : api_Model) (k : Nat) : api_World := ⟨(wld m (k : Int)).1, (wld m (k : Int)).2.1, (wld m (k : Int)).2.2.1, (wld m (k : Int)).2.2.2.1⟩
def worldsP (m : api_Model) : List api_World := (List.range m.Progs.length).map (wldW m)
abbrev SS := List api_State × List api_Message × List api_Done
def sendU (w : api_World) (s : api_State) (m : api_Message) (l : List api_Out) (k : Nat) (u : Int) : api_Message := ⟨⟨m.Key.Time + (nth l (k : Int)).Delay, w.Self, s.Sent + (k : Int)⟩, (nth w.Links (nth l (k : Int)).Link).To, (nth l (k : Int)).Value, u, false⟩
def sendsU (w : api_World) (s : api_State) (m : api_Message) (l : List api_Out) : List api_Message := (List.range l.length).map (fun k => sendU w s m l k (k : Int))
def sendsZ (w : api_World) (s : api_State) (m : api_Message) (l : List api_Out) : List api_Message := (List.range l.length).map (fun k => sendU w s m l k 0)
def insAll (l xs : List api_Message) : List api_Message := xs.foldl ins l
theorem insAll_len (xs : List api_Message) : ∀ l, (insAll l xs).length = l.length + xs.length := by
  induction xs with
  | nil => intro l; rfl
  | cons x xs ih => intro l; unfold insAll at *; rw [List.foldl_cons, ih, ins_len, List.length_cons]; omega
theorem insAll_mem {xs : List api_Message} {y : api_Message} : ∀ {l : List api_Message}, y ∈ insAll l xs ↔ y ∈ xs ∨ y ∈ l := by
  induction xs with
  | nil => intro l; simp [insAll]
  | cons x xs ih =>
    intro l
    unfold insAll at *
    rw [List.foldl_cons, ih, ins_mem, List.mem_cons]
    constructor
    · rintro (h | h | h)
      · exact .inl (.inr h)
      · exact .inl (.inl h)
      · exact .inr h
    · rintro ((h | h) | h)
      · exact .inr (.inl h)
      · exact .inl h
      · exact .inr (.inr h)
theorem insAll_snoc (l xs : List api_Message) (x : api_Message) : insAll l (xs ++ [x]) = ins (insAll l xs) x := by unfold insAll; rw [List.foldl_append]; rfl
noncomputable def oneStep (ws : List api_World) (e b : Int) (s : SS) : (Int × Int) ⊕ SS :=
  if (s.2.1.length : Int) = 0 then .inl (1, 6) else if e < (nth s.2.1 0).Key.Time then .inl (1, 6) else if b ≤ (s.2.2.length : Int) then .inl (4, 9) else
  let x := nth s.2.1 0
  let r := vmRun (nth ws x.To) (nth s.1 x.To) x
  if r.2.2 = 0 then .inr (setL s.1 x.To r.1, insAll (s.2.1.drop 1) (sendsZ (nth ws x.To) (nth s.1 x.To) x r.2.1), s.2.2 ++ [⟨x.Key, x.To, x.Value⟩])
  else if r.2.2 = 10 then .inl (2, r.2.2) else .inl (3, r.2.2)
/-! ### the worlds -/
theorem wld_ok {m : api_Model} (hC : chkM m = 0) {p : Nat} (hp : p < m.Progs.length) : wld m (p : Int) = (nth m.Progs (p : Int), (p : Int), wlinks m (p : Int), m.Seed, 0) := by
  unfold wld
  rw [if_pos hC, if_pos (show laneB m (p : Int) = true from decide_eq_true (by omega))]
theorem worlds_len (m : api_Model) : (worldsP m).length = m.Progs.length := by simp [worldsP]
theorem worlds_nth {m : api_Model} {p : Nat} (hp : p < m.Progs.length) : nth (worldsP m) (p : Int) = wldW m p := by
  rw [nth_nat (by rw [worlds_len]; exact hp)]
  simp [worldsP]
theorem wl_to {m : api_Model} (hC : chkM m = 0) {n : Int} {j : Int} (h0 : 0 ≤ j) (h1 : j < ((wlinks m n).length : Int)) : 0 ≤ (nth (wlinks m n) j).To ∧ (nth (wlinks m n) j).To < (m.Progs.length : Int) := by
  obtain ⟨_, _, _, h4, _⟩ := chkM_zero hC
  have hl : (wlinks m n).length = (ways m n).length := by simp [wlinks]
  have e : nth (wlinks m n) j = nth m.Links (nth (ways m n) j) := by
    have hj : j = ((j.toNat : Nat) : Int) := by omega
    rw [hj, nth_nat (by omega)]
    simp [wlinks]
  obtain ⟨k, e1, e2, _⟩ := idxs_get (fromB m n) m.Links.length j.toNat (by have : (ways m n) = idxs (fromB m n) m.Links.length := rfl; rw [← this]; omega)
  have hj : j = ((j.toNat : Nat) : Int) := by omega
  rw [e, hj]
  show 0 ≤ (nth m.Links (nth (idxs (fromB m n) m.Links.length) (j.toNat : Int))).To ∧ _
  have e1' : nth (ways m n) (j.toNat : Int) = (k : Int) := e1
  rw [show nth (idxs (fromB m n) m.Links.length) (j.toNat : Int) = (k : Int) from e1, e1']
  have hb := List.any_eq_false.1 h4 k (List.mem_range.2 e2)
  rw [Bool.not_eq_true] at hb
  unfold linkBad at hb
  simp only [Bool.or_eq_false_iff, Bool.not_eq_false'] at hb
  have := linkOK_of hb.1
  exact this.2.1
theorem wldW_ok {m : api_Model} (hC : chkM m = 0) {p : Nat} (hp : p < m.Progs.length) : (wldW m p).Self = (p : Int) ∧ (wldW m p).Links = wlinks m (p : Int) ∧ (wldW m p).Prog = nth m.Progs (p : Int) := by
  unfold wldW
  rw [wld_ok hC hp]
  exact ⟨rfl, rfl, rfl⟩
/-! ### what is sent -/
theorem sends_eq {w : api_World} {s : api_State} {m : api_Message} {l : List api_Out} (hF : Fine w m) (ho : OutOK w m l) (hl : l.length ≤ 8) (hs : 0 ≤ s.Sent ∧ s.Sent ≤ 1125899906842624) : vm_Sends.f w s m l 0 = some (sendsU w s m l) := by
  have ht := hF.time
  unfold vm_Sends.f vm_Sends.l2
  refine (show loopR (vm_Sends.l2b w s m l 0) ((fun k : Nat => ((List.range k).map (fun k => sendU w s m l k (k : Int)), ((k : Nat) : Int))) 0) = _ from loopR_steps (fun k : Nat => ((List.range k).map (fun k => sendU w s m l k (k : Int)), ((k : Nat) : Int))) l.length (fun k hk => ?_) ?_)
  · obtain ⟨⟨⟨c1, c2⟩, c3, c4⟩, _⟩ := ho _ (nth_mem (xs := l) (i := (k : Int)) (by omega) (by omega))
    have c5 : 1 ≤ (nth l (k : Int)).Delay := by
      have := hF.look (nth l (k : Int)).Link.toNat (by omega)
      rw [Int.toNat_of_nonneg c1] at this
      omega
    simp only [vm_Sends.l2b]
    rw [if_pos (by omega), if_pos (by omega), if_pos c1, if_pos c2, w64 (x := 4611686018427387903 - m.Key.Time) (by omega) (by omega), if_pos c4, if_pos (by simp only [List.length_map, List.length_range]; omega),
      w64 (x := m.Key.Time + (nth l (k : Int)).Delay) (by omega) (by omega), w64 (x := s.Sent + (k : Int)) (by omega) (by omega), w64 (x := 0 + (k : Int)) (by omega) (by omega), w64 (x := (k : Int) + 1) (by omega) (by omega), List.range_succ, List.map_append, Int.zero_add]
    rfl
  · simp only [vm_Sends.l2b]
    rw [if_neg (by omega)]
    rfl
/-! ### what holds all along -/
structure Good (m : api_Model) (s : SS) : Prop where
  n : s.1.length = m.Progs.length
  regs : ∀ p : Nat, p < m.Progs.length → Rin (rgs (nth s.1 (p : Int)))
  to : ∀ x ∈ s.2.1, (0 ≤ x.To ∧ x.To < (m.Progs.length : Int)) ∧ -9223372036854775808 ≤ x.Value ∧ x.Value ≤ 9223372036854775807
  many : s.2.1.length ≤ 4096 + 8 * s.2.2.length
  done : (s.2.2.length : Int) ≤ m.Budget
theorem sizes_of {m : api_Model} (hC : chkM m = 0) : (1 ≤ m.Progs.length ∧ m.Progs.length ≤ 16) ∧ (0 ≤ m.Budget ∧ m.Budget ≤ 4096) ∧ m.Starts.length ≤ 4096 := by
  obtain ⟨h1, _, _, _, h5, _⟩ := chkM_zero hC
  unfold sizesB at h1
  simp only [Bool.and_eq_true, decide_eq_true_eq] at h1
  exact ⟨h1.1.1, h1.2, h5⟩
/-- the first that waits, and how it is done -/
structure First (m : api_Model) (s : SS) (p : Nat) : Prop where
  lt : p < m.Progs.length
  to : (nth s.2.1 0).To = (p : Int)
  val : -9223372036854775808 ≤ (nth s.2.1 0).Value ∧ (nth s.2.1 0).Value ≤ 9223372036854775807
theorem first_of {m : api_Model} {s : SS} (hg : Good m s) (h : ¬ (s.2.1.length : Int) = 0) : ∃ p, First m s p := by
  obtain ⟨⟨h1, h2⟩, h3⟩ := hg.to (nth s.2.1 0) (nth_mem (Int.le_refl 0) (by omega))
  exact ⟨(nth s.2.1 0).To.toNat, by omega, by omega, h3⟩
theorem good_step {m : api_Model} (hC : chkM m = 0) {s s' : SS} (hg : Good m s) (h : oneStep (worldsP m) m.End m.Budget s = .inr s') :
    ∃ p, First m s p ∧ RunOK (wldW m p) (nth s.1 (p : Int)) (nth s.2.1 0) ∧ Good m s' ∧ ¬ (s.2.1.length : Int) = 0 ∧ ¬ m.End < (nth s.2.1 0).Key.Time ∧ (s.2.2.length : Int) < m.Budget ∧
      s' = (setL s.1 (p : Int) (vmRun (wldW m p) (nth s.1 (p : Int)) (nth s.2.1 0)).1, insAll (s.2.1.drop 1) (sendsZ (wldW m p) (nth s.1 (p : Int)) (nth s.2.1 0) (vmRun (wldW m p) (nth s.1 (p : Int)) (nth s.2.1 0)).2.1), s.2.2 ++ [⟨(nth s.2.1 0).Key, (nth s.2.1 0).To, (nth s.2.1 0).Value⟩]) := by
  unfold oneStep at h
  split at h
  · cases h
  rename_i h1
  split at h
  · cases h
  rename_i h2
  split at h
  · cases h
  rename_i h3
  obtain ⟨p, hf⟩ := first_of hg h1
  have hp := hf.lt
  simp only [hf.to, worlds_nth hp] at h
  split at h
  · rename_i h4
    cases h
    have hR := vmRun_zero (hg.regs p hp) hf.val h4
    refine ⟨p, hf, hR, ?_, h1, h2, by omega, by rw [hf.to]⟩
    have hz := sizes_of hC
    obtain ⟨ws, wl, _⟩ := wldW_ok hC hp
    refine ⟨?_, fun q hq => ?_, fun x hx => ?_, ?_, ?_⟩
    · show (setL s.1 (p : Int) _).length = _
      rw [setL_len]; exact hg.n
    · show Rin (rgs (nth (setL s.1 (p : Int) _) (q : Int)))
      rw [nth_setL (by omega) (by rw [hg.n]; omega) (by omega)]
      split
      · exact hR.regs
      · exact hg.regs q hq
    · rcases insAll_mem.1 hx with hx | hx
      · unfold sendsZ at hx
        obtain ⟨k, hk, rfl⟩ := List.mem_map.1 hx
        have hk := List.mem_range.1 hk
        obtain ⟨⟨⟨c1, c2⟩, _⟩, c5⟩ := hR.outs _ (nth_mem (i := (k : Int)) (by omega) (by omega))
        exact ⟨by show 0 ≤ (nth (wldW m p).Links _).To ∧ (nth (wldW m p).Links _).To < _; rw [wl]; rw [wl] at c2; exact wl_to hC c1 c2, c5⟩
      · exact hg.to x (List.mem_of_mem_drop hx)
    · show (insAll _ _).length ≤ _ + 8 * (s.2.2 ++ [_]).length
      rw [insAll_len]
      have := hg.many
      have := hR.few
      simp only [sendsZ, List.length_drop, List.length_map, List.length_range, List.length_append, List.length_singleton]
      omega
    · show ((s.2.2 ++ [_]).length : Int) ≤ _
      simp only [List.length_append, List.length_singleton]; omega
  · split at h <;> cases h
/-! ### the program's step -/
theorem step_eq {m : api_Model} (hC : chkM m = 0) {s : SS} (hg : Good m s) :
    seq_sim_step.f m.Progs m.Links m.Starts m.Seed m.End m.Budget (worldsP m) s.1 s.2.1 s.2.2 = some (oneStep (worldsP m) m.End m.Budget s) := by
  obtain ⟨st, wt, dn⟩ := s
  have hz := sizes_of hC
  have hmany := hg.many
  have hdone := hg.done
  simp only at hmany hdone
  unfold seq_sim_step.f oneStep
  simp only
  by_cases h1 : (wt.length : Int) = 0
  · rw [if_pos h1, if_pos h1]
  rw [if_neg h1, if_neg h1, if_pos (by omega)]
  by_cases h2 : m.End < (nth wt 0).Key.Time
  · rw [if_pos h2, if_pos h2]
  rw [if_neg h2, if_neg h2]
  by_cases h3 : m.Budget ≤ (dn.length : Int)
  · rw [if_pos h3, if_pos h3]
  rw [if_neg h3, if_neg h3]
  obtain ⟨p, hf⟩ := first_of hg h1
  have hp := hf.lt
  have ht : (nth wt 0).To = (p : Int) := hf.to
  have hn : st.length = m.Progs.length := hg.n
  have hmsg : (⟨(nth wt 0).Key, (p : Int), (nth wt 0).Value, (nth wt 0).Uid, (nth wt 0).Anti⟩ : api_Message) = nth wt 0 := by rw [← ht]
  rw [ht, if_pos ⟨by omega, by rw [worlds_len]; omega⟩, if_pos (by rw [hn]; omega), worlds_nth hp,
    show vm_Run.f (wldW m p) (nth st (p : Int)) (⟨(nth wt 0).Key, (p : Int), (nth wt 0).Value, (nth wt 0).Uid, (nth wt 0).Anti⟩ : api_Message) = some (vmRun (wldW m p) (nth st (p : Int)) (nth wt 0)) by
      rw [hmsg]; exact vm_run_eq _ _ _ (hg.regs p hp) hf.val]
  simp only [Option.bind_some]
  generalize hr : vmRun (wldW m p) (nth st (p : Int)) (nth wt 0) = r
  obtain ⟨s', l, f⟩ := r
  simp only
  unfold seq_sim_step.j4
  by_cases h4 : f = 0
  · subst h4
    have hR := vmRun_zero (hg.regs p hp) hf.val (by show (vmRun (wldW m p) (nth st (p : Int)) (nth wt 0)).2.2 = 0; rw [hr])
    have hR : RunOK (wldW m p) (nth st (p : Int)) (nth wt 0) := hR
    have hout := hR.outs
    have hfew := hR.few
    rw [hr] at hout hfew
    simp only at hout hfew
    rw [if_pos rfl, if_pos rfl, if_pos (by omega), if_pos (by rw [ht, worlds_len]; omega), if_pos (by rw [ht, hn]; omega)]
    rw [show vm_Sends.f (nth (worldsP m) (nth wt 0).To) (nth st (nth wt 0).To) (⟨(nth wt 0).Key, (nth wt 0).To, (nth wt 0).Value, (nth wt 0).Uid, (nth wt 0).Anti⟩ : api_Message) l 0 = some (sendsU (wldW m p) (nth st (p : Int)) (nth wt 0) l) by
      rw [ht, worlds_nth hp, hmsg]; exact sends_eq hR.fine hout hfew hR.st.2]
    simp only [Option.bind_some]
    unfold seq_sim_step.l6
    have hd : subL wt 1 (wt.length : Int) = wt.drop 1 := by simp only [subL, Int.toNat_natCast]; exact List.take_of_length_le (by simp)
    rw [hd]
    have hsl : (sendsU (wldW m p) (nth st (p : Int)) (nth wt 0) l).length = l.length := by simp [sendsU]
    have hin : ∀ k : Nat, k ≤ l.length → (insAll (wt.drop 1) ((List.range k).map (fun k => sendU (wldW m p) (nth st (p : Int)) (nth wt 0) l k 0))).length ≤ 1000000 := fun k hk => by
      rw [insAll_len]; simp only [List.length_drop, List.length_map, List.length_range]; omega
    refine (show loopR _ ((fun k : Nat => (insAll (wt.drop 1) ((List.range k).map (fun k => sendU (wldW m p) (nth st (p : Int)) (nth wt 0) l k 0)), ((k : Nat) : Int))) 0) = _ from loopR_steps (fun k : Nat => (insAll (wt.drop 1) ((List.range k).map (fun k => sendU (wldW m p) (nth st (p : Int)) (nth wt 0) l k 0)), ((k : Nat) : Int))) l.length (fun k hk => ?_) ?_)
    · have hg' : nth (sendsU (wldW m p) (nth st (p : Int)) (nth wt 0) l) (k : Int) = sendU (wldW m p) (nth st (p : Int)) (nth wt 0) l k (k : Int) := by
        rw [nth_nat (by rw [hsl]; exact hk)]; simp [sendsU]
      simp only [seq_sim_step.l6b, hg']
      rw [if_pos (by rw [hsl]; omega), if_pos (by omega), put_eq _ _ _ _ _ _ _ _ _ _ _ (hin k (by omega))]
      simp only [Option.bind_some]
      rw [w64 (by omega) (by omega), List.range_succ, List.map_append, List.map_singleton, insAll_snoc]
      rfl
    · simp only [seq_sim_step.l6b]
      rw [if_neg (by rw [hsl]; omega), if_pos (by omega), ht]
      rfl
  · rw [if_neg h4, if_neg h4]
    by_cases h5 : f = 10
    · rw [if_pos h5, if_pos h5]
    · rw [if_neg h5, if_neg h5]
end Go.Proofs.Gx
