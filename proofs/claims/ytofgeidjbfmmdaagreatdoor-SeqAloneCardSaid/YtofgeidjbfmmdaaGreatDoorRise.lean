/-
  What waits is in order, and what is done rises.
-/
import Derived.Test.YtofgeidjbfmmdaaGreatDoorPlay
namespace Go.Proofs.Gx
open Go.Sl
set_option linter.unusedVariables false
def klt (a b : api_Key) : Prop := a.Time < b.Time ∨ a.Time = b.Time ∧ (a.From < b.From ∨ a.From = b.From ∧ a.Seq < b.Seq)
theorem cmpK_lt (a b : api_Key) : cmpK a b = -1 ↔ klt a b := by
  unfold cmpK klt sgn
  constructor
  · intro h
    repeat' split at h
    all_goals first | omega | (exfalso; simp_all; done) | simp_all
    all_goals omega
  · intro h
    repeat' split
    all_goals first | rfl | (exfalso; omega) | skip
    all_goals (exfalso; simp_all; omega)
theorem klt_trans {a b c : api_Key} (h1 : klt a b) (h2 : klt b c) : klt a c := by
  unfold klt at *
  omega
theorem klt_tri (a b : api_Key) : klt a b ∨ (a.Time = b.Time ∧ a.From = b.From ∧ a.Seq = b.Seq) ∨ klt b a := by
  unfold klt
  omega
theorem bef_lt {a b : api_Message} (h : bef a b = true) (hne : ¬ (a.Key.Time = b.Key.Time ∧ a.Key.From = b.Key.From ∧ a.Key.Seq = b.Key.Seq)) : klt a.Key b.Key := by
  have h' : cmpK a.Key b.Key < 0 ∨ cmpK a.Key b.Key = 0 ∧ a.Uid < b.Uid := of_decide_eq_true h
  rcases klt_tri a.Key b.Key with h1 | h1 | h1
  · exact h1
  · exact absurd h1 hne
  · exfalso
    have h2 := (cmpK_lt b.Key a.Key).2 h1
    unfold cmpK sgn at h' h2
    unfold klt at h1
    repeat' split at h'
    all_goals first | omega | skip
theorem not_bef_lt {a b : api_Message} (h : ¬ bef a b = true) (hne : ¬ (a.Key.Time = b.Key.Time ∧ a.Key.From = b.Key.From ∧ a.Key.Seq = b.Key.Seq)) : klt b.Key a.Key := by
  rcases klt_tri a.Key b.Key with h1 | h1 | h1
  · exfalso
    refine h (decide_eq_true (.inl ?_))
    rw [(cmpK_lt _ _).2 h1]; omega
  · exact absurd h1 hne
  · exact h1
abbrev Srt (l : List api_Message) : Prop := l.Pairwise (fun a b => klt a.Key b.Key)
def Apart (x : api_Message) (l : List api_Message) : Prop := ∀ y ∈ l, ¬ (x.Key.Time = y.Key.Time ∧ x.Key.From = y.Key.From ∧ x.Key.Seq = y.Key.Seq)
theorem posI_spec (x : api_Message) (l : List api_Message) : ∀ k, k ≤ l.length → (∀ j, posI x l k ≤ j → j < k → bef x (nth l (j : Int)) = true) ∧ (∀ j, posI x l k = j + 1 → ¬ bef x (nth l (j : Int)) = true)
  | 0, _ => ⟨fun j _ h => absurd h (Nat.not_lt_zero j), fun j h => by cases h⟩
  | k + 1, hk => by
    obtain ⟨h1, h2⟩ := posI_spec x l k (by omega)
    unfold posI
    by_cases h : bef x (nth l (k : Int)) = true
    · rw [if_pos h]
      refine ⟨fun j hj hk' => ?_, h2⟩
      by_cases hj' : j = k
      · subst hj'; exact h
      · exact h1 j hj (by omega)
    · rw [if_neg h]
      exact ⟨fun j hj hk' => by omega, fun j e => by obtain rfl : j = k := by omega
                                                     exact h⟩
theorem ins_srt {l : List api_Message} {x : api_Message} (hl : Srt l) (hx : Apart x l) : Srt (ins l x) := by
  obtain ⟨h1, h2⟩ := posI_spec x l l.length (Nat.le_refl _)
  have hp := posI_le x l l.length
  unfold ins
  generalize posI x l l.length = k at *
  have hsplit : l = l.take k ++ l.drop k := (List.take_append_drop k l).symm
  have hl' : (l.take k ++ l.drop k).Pairwise (fun a b => klt a.Key b.Key) := by rw [List.take_append_drop]; exact hl
  obtain ⟨p1, p2, p3⟩ := List.pairwise_append.1 hl'
  have hlow : ∀ y ∈ l.take k, klt y.Key x.Key := by
    intro y hy
    cases k with
    | zero => simp at hy
    | succ j =>
      have hj : j < l.length := by omega
      have hlast : klt (l[j]).Key x.Key := by
        have := h2 j rfl
        rw [nth_nat hj] at this
        exact not_bef_lt this (hx _ (List.getElem_mem hj))
      rw [List.take_succ_eq_append_getElem hj] at hy
      rcases List.mem_append.1 hy with hy | hy
      · refine klt_trans ?_ hlast
        have hp' : (l.take j ++ [l[j]]).Pairwise (fun a b => klt a.Key b.Key) := by rw [← List.take_succ_eq_append_getElem hj]; exact p1
        exact (List.pairwise_append.1 hp').2.2 y hy _ (List.mem_singleton.2 rfl)
      · rw [List.mem_singleton.1 hy]; exact hlast
  have hhigh : ∀ y ∈ l.drop k, klt x.Key y.Key := by
    intro y hy
    obtain ⟨i, hi, rfl⟩ := List.mem_iff_getElem.1 hy
    rw [List.getElem_drop]
    have hk : k + i < l.length := by rw [List.length_drop] at hi; omega
    have := h1 (k + i) (by omega) hk
    rw [nth_nat hk] at this
    exact bef_lt this (hx _ (List.getElem_mem hk))
  refine List.pairwise_append.2 ⟨p1, List.pairwise_cons.2 ⟨hhigh, p2⟩, fun a ha b hb => ?_⟩
  rcases List.mem_cons.1 hb with rfl | hb
  · exact hlow a ha
  · exact p3 a ha b hb
theorem insAll_srt : ∀ {xs l : List api_Message}, Srt l → (∀ x ∈ xs, Apart x l) → xs.Pairwise (fun a b => ¬ (b.Key.Time = a.Key.Time ∧ b.Key.From = a.Key.From ∧ b.Key.Seq = a.Key.Seq)) → Srt (insAll l xs)
  | [], l, hl, _, _ => hl
  | x :: xs, l, hl, hx, hp => by
    have hp' := List.pairwise_cons.1 hp
    unfold insAll
    rw [List.foldl_cons]
    refine insAll_srt (ins_srt hl (hx x List.mem_cons_self)) (fun y hy z hz => ?_) hp'.2
    rcases ins_mem.1 hz with rfl | hz
    · exact hp'.1 y hy
    · exact hx y (List.mem_cons_of_mem _ hy) z hz
/-! ### what holds all along, of the order -/
structure Ris (m : api_Model) (s : SS) : Prop where
  srt : Srt s.2.1
  frm : ∀ x ∈ s.2.1, x.Key.From = -1 ∨ ∃ p : Nat, p < m.Progs.length ∧ x.Key.From = (p : Int) ∧ x.Key.Seq < (nth s.1 (p : Int)).Sent
  hist : s.2.2.Pairwise (fun a b => klt a.Key b.Key)
  last : ∀ d ∈ s.2.2, ∀ x ∈ s.2.1, klt d.Key x.Key
  tms : ∀ d ∈ s.2.2, d.Key.Time ≤ m.End ∧ 0 ≤ d.To ∧ d.To < (m.Progs.length : Int)
theorem ris_begin (m : api_Model) : Ris m (beginS m) := by
  refine ⟨?_, fun x hx => ?_, List.Pairwise.nil, fun d hd => (by cases hd), fun d hd => (by cases hd)⟩
  · show Srt (insAll [] (startMsgs m))
    refine insAll_srt List.Pairwise.nil (fun x _ y hy => (by cases hy)) ?_
    unfold startMsgs
    rw [List.pairwise_map]
    refine List.Pairwise.imp (R := fun a b : Nat => a < b) (fun {a b} hab h => ?_) List.pairwise_lt_range
    have : ((b : Nat) : Int) = (a : Int) := h.2.2
    omega
  · rcases insAll_mem.1 hx with hx | hx
    · obtain ⟨k, _, rfl⟩ := List.mem_map.1 hx
      exact .inl rfl
    · cases hx
theorem nth_zero {α : Type} [Inhabited α] {x : α} {l : List α} : nth (x :: l) 0 = x := rfl
theorem ris_step {m : api_Model} (hC : chkM m = 0) {s s' : SS} (hg : Good m s) (hr : Ris m s) (h : oneStep (worldsP m) m.End m.Budget s = .inr s') : Ris m s' := by
  obtain ⟨p, hf, hR, hg', h1, h2, h3, e⟩ := good_step hC hg h
  obtain ⟨st, wt, dn⟩ := s
  have hp := hf.lt
  have hn : st.length = m.Progs.length := hg.n
  obtain ⟨ws, wl, _⟩ := wldW_ok hC hp
  cases wt with
  | nil => exact absurd rfl h1
  | cons x rest =>
  have hx0 : nth (x :: rest) 0 = x := rfl
  simp only [hx0] at e hR h2
  generalize hw : wldW m p = w at *
  generalize hv : vmRun w (nth st (p : Int)) x = v at *
  obtain ⟨s1, l, f⟩ := v
  have hsent : s1.Sent = (nth st (p : Int)).Sent + (l.length : Int) := by have := hR.sent; rw [hv] at this; exact this
  have hout := hR.outs
  rw [hv] at hout
  simp only at hout
  have hs0 := hR.st.2
  have hto : x.To = (p : Int) := hf.to
  have hsrt : (∀ y ∈ rest, klt x.Key y.Key) ∧ rest.Pairwise (fun a b => klt a.Key b.Key) := List.pairwise_cons.1 hr.srt
  have hz : ∀ z ∈ sendsZ w (nth st (p : Int)) x l, ∃ k : Nat, k < l.length ∧ z = sendU w (nth st (p : Int)) x l k 0 := fun z hz => by
    obtain ⟨k, hk, rfl⟩ := List.mem_map.1 hz
    exact ⟨k, List.mem_range.1 hk, rfl⟩
  have hlater : ∀ z ∈ sendsZ w (nth st (p : Int)) x l, klt x.Key z.Key := fun z hz' => by
    obtain ⟨k, hk, rfl⟩ := hz z hz'
    obtain ⟨⟨⟨c1, c2⟩, c3, c4⟩, _⟩ := hout _ (nth_mem (xs := l) (i := (k : Int)) (by omega) (by omega))
    have c5 : 1 ≤ (nth l (k : Int)).Delay := by
      have := hR.fine.look (nth l (k : Int)).Link.toNat (by omega)
      rw [Int.toNat_of_nonneg c1] at this
      omega
    exact .inl (by show x.Key.Time < x.Key.Time + _; omega)
  subst e
  refine ⟨?_, fun y hy => ?_, ?_, fun d hd y hy => ?_, fun d hd => ?_⟩
  · show Srt (insAll rest (sendsZ w (nth st (p : Int)) x l))
    refine insAll_srt hsrt.2 (fun z hz' y hy => ?_) ?_
    · obtain ⟨k, hk, rfl⟩ := hz z hz'
      rintro ⟨_, e2, e3⟩
      have e2 : w.Self = y.Key.From := e2
      have e3 : (nth st (p : Int)).Sent + (k : Int) = y.Key.Seq := e3
      rcases hr.frm y (List.mem_cons_of_mem _ hy) with h' | ⟨q, hq, h', h''⟩
      · omega
      · have hqp : q = p := by omega
        subst hqp
        have h'' : y.Key.Seq < (nth st (q : Int)).Sent := h''
        omega
    · unfold sendsZ
      rw [List.pairwise_map]
      refine List.Pairwise.imp (R := fun a b : Nat => a < b) (fun {a b} hab h => ?_) List.pairwise_lt_range
      have : (nth st (p : Int)).Sent + (b : Int) = (nth st (p : Int)).Sent + (a : Int) := h.2.2
      omega
  · have hy : y ∈ insAll rest (sendsZ w (nth st (p : Int)) x l) := hy
    show y.Key.From = -1 ∨ ∃ q : Nat, q < m.Progs.length ∧ y.Key.From = (q : Int) ∧ y.Key.Seq < (nth (setL st (p : Int) s1) (q : Int)).Sent
    rcases insAll_mem.1 hy with hy | hy
    · obtain ⟨k, hk, rfl⟩ := hz y hy
      refine .inr ⟨p, hp, ws, ?_⟩
      rw [nth_setL (by omega) (by rw [hn]; omega) (by omega), if_pos rfl, hsent]
      show (nth st (p : Int)).Sent + (k : Int) < _
      omega
    · rcases hr.frm y (List.mem_cons_of_mem _ hy) with h' | ⟨q, hq, h', h''⟩
      · exact .inl h'
      · refine .inr ⟨q, hq, h', ?_⟩
        rw [nth_setL (by omega) (by rw [hn]; omega) (by omega)]
        have h'' : y.Key.Seq < (nth st (q : Int)).Sent := h''
        split
        · rename_i e
          rw [hsent]
          rw [e] at h''
          omega
        · exact h''
  · show (dn ++ [(⟨x.Key, x.To, x.Value⟩ : api_Done)]).Pairwise _
    refine List.pairwise_append.2 ⟨hr.hist, List.pairwise_singleton _ _, fun a ha b hb => ?_⟩
    rw [List.mem_singleton.1 hb]
    exact hr.last a ha x List.mem_cons_self
  · have hd : d ∈ dn ++ [(⟨x.Key, x.To, x.Value⟩ : api_Done)] := hd
    have hy : y ∈ insAll rest (sendsZ w (nth st (p : Int)) x l) := hy
    have hxy : klt x.Key y.Key := by
      rcases insAll_mem.1 hy with hy | hy
      · exact hlater y hy
      · exact hsrt.1 y hy
    rcases List.mem_append.1 hd with hd | hd
    · exact klt_trans (hr.last d hd x List.mem_cons_self) hxy
    · rw [List.mem_singleton.1 hd]; exact hxy
  · have hd : d ∈ dn ++ [(⟨x.Key, x.To, x.Value⟩ : api_Done)] := hd
    rcases List.mem_append.1 hd with hd | hd
    · exact hr.tms d hd
    · rw [List.mem_singleton.1 hd]
      exact ⟨by show x.Key.Time ≤ m.End; omega, by show 0 ≤ x.To; omega, by show x.To < _; omega⟩
theorem run_ris {m : api_Model} (hC : chkM m = 0) (n : Int) : ∀ (k : Nat) (s : SS), Good m s → Ris m s → Ris m (runP (worldsP m) m.End m.Budget n k s).1
  | 0, s, hg, hr => hr
  | k + 1, s, hg, hr => by
    simp only [runP]
    split
    · exact hr
    · cases hs : oneStep (worldsP m) m.End m.Budget s with
      | inl x => exact hr
      | inr s' => exact run_ris hC n k s' (step_more hC hg hs).1 (ris_step hC hg hr hs)
theorem runM_ris {m : api_Model} (h : ok_api_Model m) (hC : chkM m = 0) (n : Int) : Ris m (runM m n).1 := run_ris hC n _ _ (good_begin h hC) (ris_begin m)
/-! ### a part is a beginning -/
theorem step_done {ws : List api_World} {e b : Int} {s s' : SS} (h : oneStep ws e b s = .inr s') : s'.2.2 = s.2.2 ++ [⟨(nth s.2.1 0).Key, (nth s.2.1 0).To, (nth s.2.1 0).Value⟩] ∧ 0 < s.2.1.length ∧ (s.2.2.length : Int) < b := by
  unfold oneStep at h
  simp only at h
  split at h
  · cases h
  rename_i h1
  split at h
  · cases h
  split at h
  · cases h
  rename_i h3
  split at h
  · cases h; exact ⟨rfl, by omega, by omega⟩
  split at h <;> cases h
theorem run_pre (ws : List api_World) (e b n : Int) : ∀ (k : Nat) (s : SS), s.2.2 <+: (runP ws e b n k s).1.2.2
  | 0, s => List.prefix_refl _
  | k + 1, s => by
    simp only [runP]
    split
    · exact List.prefix_refl _
    · cases hs : oneStep ws e b s with
      | inl x => exact List.prefix_refl _
      | inr s' =>
        have := run_pre ws e b n k s'
        rw [(step_done hs).1] at this
        exact (List.prefix_append _ _).trans this
theorem run_take (ws : List api_World) (e b : Int) (n : Nat) : ∀ (k : Nat) (s : SS), s.2.2.length ≤ n → (runP ws e b n k s).1.2.2 = (runP ws e b (-1) k s).1.2.2.take n
  | 0, s, h => (List.take_of_length_le h).symm
  | k + 1, s, h => by
    by_cases hn : (s.2.2.length : Int) = (n : Int)
    · obtain ⟨t, ht⟩ := run_pre ws e b (-1) (k + 1) s
      rw [← ht]
      simp only [runP]
      rw [if_pos hn]
      rw [List.take_append_of_le_length (by omega), List.take_of_length_le (by omega)]
    · simp only [runP]
      rw [if_neg hn, if_neg (by omega)]
      cases hs : oneStep ws e b s with
      | inl x => exact (List.take_of_length_le h).symm
      | inr s' => exact run_take ws e b n k s' (by rw [(step_done hs).1]; simp only [List.length_append, List.length_singleton]; omega)
theorem runM_take (m : api_Model) (n : Nat) : (runM m n).1.2.2 = (runM m (-1)).1.2.2.take n := run_take _ _ _ n _ _ (Nat.zero_le _)
/-- the stop of a whole run -/
theorem run_stop {m : api_Model} (hC : chkM m = 0) : ∀ (k : Nat) (s : SS), Good m s → m.Budget - (s.2.2.length : Int) < (k : Int) →
    (runP (worldsP m) m.End m.Budget (-1) k s).2 ≠ 0 ∧ ((runP (worldsP m) m.End m.Budget (-1) k s).2 = 4 → ((runP (worldsP m) m.End m.Budget (-1) k s).1.2.2.length : Int) = m.Budget)
  | 0, s, hg, hk => by have := hg.done; omega
  | k + 1, s, hg, hk => by
    simp only [runP]
    rw [if_neg (by omega)]
    cases hs : oneStep (worldsP m) m.End m.Budget s with
    | inl x =>
      simp only
      refine ⟨by rcases stop_is hs with h | h | h | h <;> rw [h] <;> decide, fun h4 => ?_⟩
      have hd := hg.done
      unfold oneStep at hs
      simp only at hs
      split at hs
      · cases hs; exact absurd h4 (by decide)
      split at hs
      · cases hs; exact absurd h4 (by decide)
      split at hs
      · omega
      split at hs
      · cases hs
      split at hs
      · cases hs; exact absurd h4 (show ¬ (2 : Int) = 4 by decide)
      · cases hs; exact absurd h4 (show ¬ (3 : Int) = 4 by decide)
    | inr s' =>
      obtain ⟨h2, h3, _⟩ := step_more hC hg hs
      exact run_stop hC k s' h2 (by omega)
/-- one event more -/
theorem run_next (ws : List api_World) (e b : Int) (n : Nat) : ∀ (k : Nat) (s : SS), s.2.2.length ≤ n →
    (runP ws e b ((n : Int) + 1) k s).1.2.2 = (runP ws e b n k s).1.2.2 ∨ 0 < (runP ws e b n k s).1.2.1.length ∧ (runP ws e b ((n : Int) + 1) k s).1.2.2 = (runP ws e b n k s).1.2.2 ++ [⟨(nth (runP ws e b n k s).1.2.1 0).Key, (nth (runP ws e b n k s).1.2.1 0).To, (nth (runP ws e b n k s).1.2.1 0).Value⟩]
  | 0, s, h => .inl rfl
  | k + 1, s, h => by
    by_cases hn : (s.2.2.length : Int) = (n : Int)
    · simp only [runP]
      rw [if_neg (by omega), if_pos hn]
      cases hs : oneStep ws e b s with
      | inl x => exact .inl rfl
      | inr s' =>
        obtain ⟨e1, e2, _⟩ := step_done hs
        refine .inr ⟨e2, ?_⟩
        have hl : ((s'.2.2.length : Nat) : Int) = (n : Int) + 1 := by rw [e1]; simp only [List.length_append, List.length_singleton]; omega
        have : runP ws e b ((n : Int) + 1) k s' = (s', 0) := by
          cases k with
          | zero => rfl
          | succ k => simp only [runP]; rw [if_pos hl]
        simp only [this]
        exact e1
    · simp only [runP]
      rw [if_neg (by omega), if_neg hn]
      cases hs : oneStep ws e b s with
      | inl x => exact .inl rfl
      | inr s' => exact run_next ws e b n k s' (by rw [(step_done hs).1]; simp only [List.length_append, List.length_singleton]; omega)
/-- a later end, a greater budget -/
theorem step_later {ws : List api_World} {e b e' b' : Int} (he : e ≤ e') (hb : b ≤ b') {s s' : SS} (h : oneStep ws e b s = .inr s') : oneStep ws e' b' s = .inr s' := by
  unfold oneStep at *
  simp only at *
  split at h
  · cases h
  rename_i h1
  split at h
  · cases h
  rename_i h2
  split at h
  · cases h
  rename_i h3
  rw [if_neg h1, if_neg (by omega), if_neg (by omega)]
  exact h
theorem run_later {ws : List api_World} {e b e' b' : Int} (he : e ≤ e') (hb : b ≤ b') : ∀ (k k' : Nat) (s : SS), b' - (s.2.2.length : Int) < (k' : Int) → (runP ws e b (-1) k s).1.2.2 <+: (runP ws e' b' (-1) k' s).1.2.2
  | 0, k', s, _ => run_pre ws e' b' (-1) k' s
  | k + 1, k', s, hk => by
    rw [show runP ws e b (-1) (k + 1) s = if (s.2.2.length : Int) = -1 then (s, 0) else match oneStep ws e b s with
      | .inl x => (s, x.1)
      | .inr s' => runP ws e b (-1) k s' from rfl, if_neg (by omega)]
    cases hs : oneStep ws e b s with
    | inl x => exact run_pre ws e' b' (-1) k' s
    | inr s' =>
      obtain ⟨e1, _, e3⟩ := step_done hs
      cases k' with
      | zero => omega
      | succ k' =>
        rw [show runP ws e' b' (-1) (k' + 1) s = if (s.2.2.length : Int) = -1 then (s, 0) else match oneStep ws e' b' s with
          | .inl x => (s, x.1)
          | .inr s' => runP ws e' b' (-1) k' s' from rfl, if_neg (by omega), step_later he hb hs]
        exact run_later he hb k k' s' (by rw [e1]; simp only [List.length_append, List.length_singleton]; omega)
end Go.Proofs.Gx
