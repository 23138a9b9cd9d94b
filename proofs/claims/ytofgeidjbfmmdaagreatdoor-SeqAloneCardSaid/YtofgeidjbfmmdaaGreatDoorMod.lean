/-
  What model.Check and the reference's Check compute: the same.
-/
import Derived.Test.YtofgeidjbfmmdaaGreatDoorChk
import Derived.Test.YtofgeidjbfmmdaaGreatDoorW10
import Derived.Test.YtofgeidjbfmmdaaGreatDoorW3
namespace Go.Proofs.Gx
open Go.Sl
set_option linter.unusedVariables false
set_option linter.unusedSimpArgs false
def timeB (n : Int) : Bool := decide (0 ≤ n ∧ n ≤ 4611686018427387903)
theorem valid_eq (n : Int) : vtime_Valid.f n = some (timeB n) := by
  unfold vtime_Valid.f timeB
  by_cases h : 0 ≤ n <;> simp [h]
theorem ref_valid_eq (n : Int) : isochronref01vValid.f n = some (timeB n) := by
  unfold isochronref01vValid.f timeB
  by_cases h : 0 ≤ n <;> simp [h]
def laneB (m : api_Model) (n : Int) : Bool := decide (0 ≤ n ∧ n < (m.Progs.length : Int))
theorem lane_eq (m : api_Model) (n : Int) : model_lane.f m n = some (laneB m n) := by
  unfold model_lane.f laneB
  by_cases h : 0 ≤ n <;> simp [h]
def sizesB (m : api_Model) : Bool := decide (1 ≤ m.Progs.length ∧ m.Progs.length ≤ 16) && timeB m.End && decide (0 ≤ m.Budget ∧ m.Budget ≤ 4096)
theorem sizes_eq (m : api_Model) : model_sizes.f m = some (if sizesB m then .inr () else .inl 1) := by
  unfold model_sizes.f sizesB
  rw [valid_eq]
  by_cases h1 : (m.Progs.length : Int) < 1
  · rw [if_pos h1]; simp [show ¬ (1 ≤ m.Progs.length) by omega]
  rw [if_neg h1]
  by_cases h2 : 16 < (m.Progs.length : Int)
  · rw [if_pos h2]; simp [show ¬ (m.Progs.length ≤ 16) by omega]
  rw [if_neg h2]
  simp only [Option.bind_some]
  cases h3 : timeB m.End with
  | false => simp
  | true =>
    rw [if_pos rfl]
    have h12 : (1 ≤ m.Progs.length ∧ m.Progs.length ≤ 16) := by omega
    by_cases h4 : m.Budget < 0
    · rw [if_pos h4]; simp [show ¬ (0 ≤ m.Budget) by omega]
    rw [if_neg h4]
    by_cases h5 : 4096 < m.Budget
    · rw [if_pos h5]; simp [show ¬ (m.Budget ≤ 4096) by omega]
    rw [if_neg h5]
    simp [h12, show 0 ≤ m.Budget by omega, show m.Budget ≤ 4096 by omega]
def progBad (m : api_Model) (k : Nat) : Bool := !decide (chk (nth m.Progs (k : Int)) = 0)
theorem join_eq (a : model_flaw) (e : Int) : errors_Join.f a e = some (a, e) := by
  unfold errors_Join.f
  rfl
theorem programs_eq (m : api_Model) (hp : m.Progs.length ≤ 16) : model_programs.f m = some (match (List.range m.Progs.length).find? (progBad m) with | some k => .inl (⟨(k : Int), 130⟩, chk (nth m.Progs (k : Int))) | none => .inr ()) := by
  unfold model_programs.f model_programs.l2
  refine (loopR_findS (fun k => ((k : Nat) : Int)) (progBad m) (fun k => .inl (⟨(k : Int), 130⟩, chk (nth m.Progs (k : Int)))) (.inr ()) m.Progs.length (fun k hk _ => ?_) (fun _ => ?_)).trans (by cases (List.range m.Progs.length).find? (progBad m) <;> rfl)
  · simp only [model_programs.l2b, code_check_eq, Option.bind_some, join_eq]
    rw [if_pos (by omega), if_pos (by omega), w64 (by omega) (by omega)]
    unfold progBad
    by_cases h : chk (nth m.Progs (k : Int)) = 0 <;> simp [h]
  · simp only [model_programs.l2b]
    rw [if_neg (by omega)]
def linkOK (m : api_Model) (l : api_Link) : Bool := laneB m l.From && laneB m l.To && decide (1 ≤ l.Look ∧ l.Look ≤ 4611686018427387903)
def same2 (a b : api_Link) : Bool := decide (a.From = b.From ∧ a.To = b.To)
def linkBad (m : api_Model) (k : Nat) : Bool := !linkOK m (nth m.Links (k : Int)) || (List.range k).any (fun j => same2 (nth m.Links (j : Int)) (nth m.Links (k : Int)))
def adr (l : api_Link) : Nat := l.From.toNat * 16 + l.To.toNat * 1
def seen (m : api_Model) : Nat → Nat → Bool
  | 0 => fun _ => false
  | k + 1 => upd (seen m k) (adr (nth m.Links (k : Int))) true
theorem seen_eq (m : api_Model) (a : Nat) : ∀ k, seen m k a = (List.range k).any (fun j => decide (adr (nth m.Links (j : Int)) = a))
  | 0 => rfl
  | k + 1 => by
    rw [List.range_succ, List.any_append, ← seen_eq m a k]
    show upd (seen m k) (adr (nth m.Links (k : Int))) true a = _
    unfold upd
    by_cases h : a = adr (nth m.Links (k : Int))
    · rw [if_pos h]; simp [h]
    · rw [if_neg h]; simp [Ne.symm h]
theorem linkOK_of {m : api_Model} {l : api_Link} (h : linkOK m l = true) : (0 ≤ l.From ∧ l.From < (m.Progs.length : Int)) ∧ (0 ≤ l.To ∧ l.To < (m.Progs.length : Int)) ∧ 1 ≤ l.Look ∧ l.Look ≤ 4611686018427387903 := by
  simpa [linkOK, laneB, and_assoc] using h
theorem links_eq (m : api_Model) (hp : m.Progs.length ≤ 16) : model_links.f m = some (if 1024 < (m.Links.length : Int) then .inl 131 else match (List.range m.Links.length).find? (linkBad m) with | some k => .inr (.inl ⟨(k : Int), 131⟩) | none => .inr (.inr ())) := by
  unfold model_links.f
  by_cases h : 1024 < (m.Links.length : Int)
  · rw [if_pos h, if_pos h]
  rw [if_neg h, if_neg h]
  unfold model_links.l2
  refine (loopR_findS (fun k => (seen m k, ((k : Nat) : Int))) (linkBad m) (fun k => .inr (.inl ⟨(k : Int), 131⟩)) (.inr (.inr ())) m.Links.length (fun k hk hb => ?_) (fun _ => ?_)).trans (by cases (List.range m.Links.length).find? (linkBad m) <;> rfl)
  · simp only [model_links.l2b, lane_eq, Option.bind_some]
    rw [if_pos (by omega), if_pos (by omega)]
    generalize hl : nth m.Links (k : Int) = l
    have hbad : linkBad m k = (!linkOK m l || (List.range k).any (fun j => same2 (nth m.Links (j : Int)) l)) := by rw [← hl]; rfl
    rw [hbad]
    by_cases h1 : laneB m l.From = true
    · rw [if_pos h1]
      by_cases h2 : laneB m l.To = true
      · rw [if_pos h2]
        by_cases h3 : l.Look < 1
        · rw [if_pos h3]; simp [linkOK, show ¬ (1 ≤ l.Look) by omega]
        rw [if_neg h3]
        by_cases h4 : 4611686018427387903 < l.Look
        · rw [if_pos h4]; simp [linkOK, show ¬ (l.Look ≤ 4611686018427387903) by omega]
        rw [if_neg h4]
        have hok : linkOK m l = true := by simp [linkOK, h1, h2, show 1 ≤ l.Look by omega, show l.Look ≤ 4611686018427387903 by omega]
        obtain ⟨⟨f0, f1⟩, ⟨t0, t1⟩, _⟩ := linkOK_of hok
        rw [if_pos (by omega), if_pos (by omega)]
        have hseen : seen m k (l.From.toNat * 16 + l.To.toNat * 1) = (List.range k).any (fun j => same2 (nth m.Links (j : Int)) l) := by
          rw [seen_eq]
          apply Bool.eq_iff_iff.2
          simp only [List.any_eq_true, List.mem_range, decide_eq_true_eq, same2]
          refine exists_congr fun j => and_congr_right fun hj => ?_
          have hjb := hb j hj
          have hjo : linkOK m (nth m.Links (j : Int)) = true := by
            unfold linkBad at hjb
            simp only [Bool.or_eq_false_iff, Bool.not_eq_false'] at hjb
            exact hjb.1
          obtain ⟨⟨g0, g1⟩, ⟨u0, u1⟩, _⟩ := linkOK_of hjo
          unfold adr
          constructor
          · intro e; constructor <;> omega
          · rintro ⟨e1, e2⟩; rw [e1, e2]
        rw [hseen, hok]
        by_cases h5 : (List.range k).any (fun j => same2 (nth m.Links (j : Int)) l) = true
        · rw [if_pos h5, h5]; rfl
        · rw [if_neg h5]
          simp only [Bool.not_eq_true] at h5
          rw [h5, w64 (by omega) (by omega)]
          show some (Sum.inl (upd (seen m k) _ true, (k : Int) + 1)) = some (Sum.inl (upd (seen m k) (adr (nth m.Links (k : Int))) true, _))
          rw [hl]; rfl
      · rw [if_neg h2]; simp [linkOK, h2]
    · rw [if_neg h1]; simp [linkOK, h1]
  · simp only [model_links.l2b]
    rw [if_neg (by omega)]
def startOK (m : api_Model) (s : api_Start) : Bool := laneB m s.To && timeB s.Time
def startBad (m : api_Model) (k : Nat) : Bool := !startOK m (nth m.Starts (k : Int))
theorem starts_eq (m : api_Model) : model_starts.f m = some (if 4096 < (m.Starts.length : Int) then .inl 132 else match (List.range m.Starts.length).find? (startBad m) with | some k => .inr (.inl ⟨(k : Int), 132⟩) | none => .inr (.inr ())) := by
  unfold model_starts.f
  by_cases h : 4096 < (m.Starts.length : Int)
  · rw [if_pos h, if_pos h]
  rw [if_neg h, if_neg h]
  unfold model_starts.l2
  refine (loopR_findS (fun k => ((k : Nat) : Int)) (startBad m) (fun k => .inr (.inl ⟨(k : Int), 132⟩)) (.inr (.inr ())) m.Starts.length (fun k hk hb => ?_) (fun _ => ?_)).trans (by cases (List.range m.Starts.length).find? (startBad m) <;> rfl)
  · simp only [model_starts.l2b, lane_eq, valid_eq, Option.bind_some]
    rw [if_pos (by omega), if_pos (by omega), w64 (by omega) (by omega)]
    unfold startBad startOK
    cases laneB m (nth m.Starts (k : Int)).To <;> cases timeB (nth m.Starts (k : Int)).Time <;> rfl
  · simp only [model_starts.l2b]
    rw [if_neg (by omega)]
/-- may a model be? -/
def chkM (m : api_Model) : Int :=
  if sizesB m then if (List.range m.Progs.length).any (progBad m) then 130 else if 1024 < (m.Links.length : Int) then 131 else if (List.range m.Links.length).any (linkBad m) then 131
    else if 4096 < (m.Starts.length : Int) then 132 else if (List.range m.Starts.length).any (startBad m) then 132 else 0
  else 1
theorem as_errno (n : Int) (f : model_flaw) : errors_As.f n f = some false := rfl
theorem model_check_eq (m : api_Model) : model_Check.f m = some (chkM m) := by
  unfold model_Check.f chkM
  simp only [model_rules.f, sizes_eq, Option.bind_some]
  cases hs : sizesB m with
  | false => rfl
  | true =>
    have hp : m.Progs.length ≤ 16 := by
      simp only [sizesB, Bool.and_eq_true, decide_eq_true_eq] at hs
      exact hs.1.1.2
    simp only [if_pos, programs_eq m hp, Option.bind_some]
    rw [← find_any (progBad m) m.Progs.length (130 : Int)]
    cases (List.range m.Progs.length).find? (progBad m) with
    | some k => rfl
    | none =>
      simp only [links_eq m hp, Option.bind_some]
      by_cases h : 1024 < (m.Links.length : Int)
      · rw [if_pos h, if_pos h]; rfl
      rw [if_neg h, if_neg h, ← find_any (linkBad m) m.Links.length (131 : Int)]
      cases (List.range m.Links.length).find? (linkBad m) with
      | some k => rfl
      | none =>
        simp only [starts_eq m, Option.bind_some]
        by_cases h : 4096 < (m.Starts.length : Int)
        · rw [if_pos h, if_pos h]; rfl
        rw [if_neg h, if_neg h, ← find_any (startBad m) m.Starts.length (132 : Int)]
        cases (List.range m.Starts.length).find? (startBad m) <;> rfl
theorem ref_links_eq (m : api_Model) : isochronref13vlinks.f m = some (if 1024 < (m.Links.length : Int) then false else !(List.range m.Links.length).any (linkBad m)) := by
  unfold isochronref13vlinks.f
  by_cases h : 1024 < (m.Links.length : Int)
  · rw [if_pos h, if_pos h]
  rw [if_neg h, if_neg h]
  unfold isochronref13vlinks.l12
  refine (loopR_findS (fun k => ((k : Nat) : Int)) (linkBad m) (fun k => false) true m.Links.length (fun k hk hb => ?_) (fun _ => ?_)).trans (by rw [find_any]; cases (List.range m.Links.length).any (linkBad m) <;> rfl)
  · simp only [isochronref13vlinks.l12b]
    rw [if_pos (by omega), if_pos (by omega)]
    unfold linkBad
    generalize hl : nth m.Links (k : Int) = l
    by_cases h1 : l.From < 0
    · rw [if_pos h1]; simp [linkOK, laneB, show ¬ (0 ≤ l.From) by omega]
    rw [if_neg h1]
    by_cases h2 : (m.Progs.length : Int) ≤ l.From
    · rw [if_pos h2]; simp [linkOK, laneB, show ¬ (l.From < (m.Progs.length : Int)) by omega]
    rw [if_neg h2]
    by_cases h3 : l.To < 0
    · rw [if_pos h3]; simp [linkOK, laneB, show ¬ (0 ≤ l.To) by omega]
    rw [if_neg h3]
    by_cases h4 : (m.Progs.length : Int) ≤ l.To
    · rw [if_pos h4]; simp [linkOK, laneB, show ¬ (l.To < (m.Progs.length : Int)) by omega]
    rw [if_neg h4]
    by_cases h5 : l.Look < 1
    · rw [if_pos h5]; simp [linkOK, show ¬ (1 ≤ l.Look) by omega]
    rw [if_neg h5]
    by_cases h6 : 4611686018427387903 < l.Look
    · rw [if_pos h6]; simp [linkOK, show ¬ (l.Look ≤ 4611686018427387903) by omega]
    rw [if_neg h6]
    have hok : linkOK m l = true := by simp [linkOK, laneB]; omega
    rw [hok]
    unfold isochronref13vlinks.l14
    rw [loopR_any (fun j => same2 (nth m.Links (j : Int)) l) (Sum.inr false) (Sum.inl (IntKind.i64.wrap ((k : Int) + 1))) k (fun j hj => by
      simp only [isochronref13vlinks.l14b, hl]
      rw [if_pos (by omega), if_pos (by omega), w64 (by omega) (by omega)]
      unfold same2
      by_cases e1 : (nth m.Links (j : Int)).From = l.From
      · rw [if_pos e1]
        by_cases e2 : (nth m.Links (j : Int)).To = l.To
        · rw [if_pos e2]; simp [e1, e2]
        · rw [if_neg e2]; simp [e2]
      · rw [if_neg e1]; simp [e1]) (by simp only [isochronref13vlinks.l14b]; rw [if_neg (by omega)]), w64 (by omega) (by omega)]
    cases (List.range k).any (fun j => same2 (nth m.Links (j : Int)) l) <;> rfl
  · simp only [isochronref13vlinks.l12b]
    rw [if_neg (by omega)]
theorem model_ref_eq (m : api_Model) : isochronref13vCheck.f m = some (chkM m) := by
  unfold isochronref13vCheck.f chkM
  rw [ref_valid_eq]
  by_cases h1 : (m.Progs.length : Int) = 0
  · rw [if_pos h1]; simp [sizesB, show ¬ (1 ≤ m.Progs.length) by omega]
  rw [if_neg h1]
  by_cases h2 : 16 < (m.Progs.length : Int)
  · rw [if_pos h2]; simp [sizesB, show ¬ (m.Progs.length ≤ 16) by omega]
  rw [if_neg h2]
  simp only [Option.bind_some]
  cases h3 : timeB m.End with
  | false => simp [sizesB, h3]
  | true =>
    rw [if_pos rfl]
    by_cases h4 : m.Budget < 0
    · rw [if_pos h4]; simp [sizesB, show ¬ (0 ≤ m.Budget) by omega]
    rw [if_neg h4]
    by_cases h5 : 4096 < m.Budget
    · rw [if_pos h5]; simp [sizesB, show ¬ (m.Budget ≤ 4096) by omega]
    rw [if_neg h5]
    have hs : sizesB m = true := by simp [sizesB, h3]; omega
    rw [hs, if_pos rfl, ← find_any (progBad m) m.Progs.length (130 : Int)]
    unfold isochronref13vCheck.l5
    refine (loopR_findS (fun k => ((k : Nat) : Int)) (progBad m) (fun k => (130 : Int)) _ m.Progs.length (fun k hk hb => ?_) (fun _ => ?_)).trans rfl
    · simp only [isochronref13vCheck.l5b, ref_check_eq, Option.bind_some]
      rw [if_pos (by omega), if_pos (by omega), w64 (by omega) (by omega)]
      unfold progBad
      by_cases h : chk (nth m.Progs (k : Int)) = 0 <;> simp [h]
    · simp only [isochronref13vCheck.l5b, ref_links_eq, Option.bind_some]
      rw [if_neg (by omega)]
      by_cases h : 1024 < (m.Links.length : Int)
      · rw [if_pos h, if_pos h]; rfl
      rw [if_neg h, if_neg h]
      cases (List.range m.Links.length).any (linkBad m) with
      | true => rfl
      | false =>
        simp only [Bool.not_false, if_pos, Bool.false_eq_true, if_false]
        by_cases h : 4096 < (m.Starts.length : Int)
        · rw [if_pos h, if_pos h]; rfl
        rw [if_neg h, if_neg h]
        unfold isochronref13vCheck.l6
        rw [loopR_any (startBad m) (132 : Int) 0 m.Starts.length (fun k hk => by
          simp only [isochronref13vCheck.l6b, ref_valid_eq, Option.bind_some]
          rw [if_pos (by omega), if_pos (by omega), w64 (by omega) (by omega)]
          unfold startBad startOK laneB
          by_cases a1 : (nth m.Starts (k : Int)).To < 0
          · rw [if_pos a1]; simp [show ¬ (0 ≤ (nth m.Starts (k : Int)).To) by omega]
          rw [if_neg a1]
          by_cases a2 : (m.Progs.length : Int) ≤ (nth m.Starts (k : Int)).To
          · rw [if_pos a2]; simp [show ¬ ((nth m.Starts (k : Int)).To < (m.Progs.length : Int)) by omega]
          rw [if_neg a2, decide_eq_true (show 0 ≤ (nth m.Starts (k : Int)).To ∧ (nth m.Starts (k : Int)).To < (m.Progs.length : Int) by omega)]
          cases timeB (nth m.Starts (k : Int)).Time <;> rfl) (by simp only [isochronref13vCheck.l6b]; rw [if_neg (by omega)])]
        rfl
end Go.Proofs.Gx
