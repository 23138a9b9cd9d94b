/-
  The plain law LogNames: a message that was sent already keeps its name.
-/
import Derived.Test.YtioiognklelipaaDoorLogA
import Derived.Test.YtioiognklelipaaDoorW8
namespace Go.Proofs.Gx
open Go.Sl
set_option linter.unusedVariables false
set_option linter.unusedSimpArgs false
/-! ### the names -/
theorem rnS_same (u : Int) (l kept : List api_Message) : ∀ k, k ≤ l.length → ∀ j : Nat, j < l.length → (nth (rnS u l kept k).2.1 (j : Int)).Key = (nth l (j : Int)).Key ∧ (nth (rnS u l kept k).2.1 (j : Int)).To = (nth l (j : Int)).To ∧ (nth (rnS u l kept k).2.1 (j : Int)).Value = (nth l (j : Int)).Value ∧ (nth (rnS u l kept k).2.1 (j : Int)).Anti = (nth l (j : Int)).Anti
  | 0, _, j, _ => ⟨rfl, rfl, rfl, rfl⟩
  | k + 1, hk, j, hj => by
    have c1 := (rnS_len u l kept k).1
    have ih := rnS_same u l kept k (by omega)
    rw [show (rnS u l kept (k + 1)).2.1 = setL (rnS u l kept k).2.1 (k : Int) (setUid (nth (rnS u l kept k).2.1 (k : Int)) (if (hadS (nth l (k : Int)) (rnS u l kept k).2.2).2.1 = true then (hadS (nth l (k : Int)) (rnS u l kept k).2.2).1 else (rnS u l kept k).1)) from rfl, nth_setL (by omega) (by omega) (by omega)]
    by_cases h : (j : Int) = (k : Int)
    · rw [if_pos h, ← h]; exact ih j hj
    · rw [if_neg h]; exact ih j hj
theorem rnS_uid (u : Int) (l kept : List api_Message) : ∀ k, k ≤ l.length → ∀ j : Nat, j < k → (nth (rnS u l kept k).2.1 (j : Int)).Uid = (if (hadS (nth l (j : Int)) (rnS u l kept j).2.2).2.1 = true then (hadS (nth l (j : Int)) (rnS u l kept j).2.2).1 else (rnS u l kept j).1)
  | 0, _, j, hj => by omega
  | k + 1, hk, j, hj => by
    have c1 := (rnS_len u l kept k).1
    rw [show (rnS u l kept (k + 1)).2.1 = setL (rnS u l kept k).2.1 (k : Int) (setUid (nth (rnS u l kept k).2.1 (k : Int)) (if (hadS (nth l (k : Int)) (rnS u l kept k).2.2).2.1 = true then (hadS (nth l (k : Int)) (rnS u l kept k).2.2).1 else (rnS u l kept k).1)) from rfl, nth_setL (by omega) (by omega) (by omega)]
    by_cases h : j = k
    · subst h; rw [if_pos rfl]; rfl
    · rw [if_neg (by omega)]; exact rnS_uid u l kept k (by omega) j (by omega)
/-! ### those that are kept -/
def kq (S : List api_Message) (O : Nat → Bool) : Nat → Nat → List api_Message
  | _, 0 => []
  | i, c + 1 => if O i = true then setUid (nth S (i : Int)) (i : Int) :: kq S O (i + 1) c else kq S O (i + 1) c
theorem kq_snoc (S : List api_Message) (O : Nat → Bool) : ∀ (c i : Nat), kq S O i (c + 1) = kq S O i c ++ (if O (i + c) = true then [setUid (nth S ((i + c : Nat) : Int)) ((i + c : Nat) : Int)] else [])
  | 0, i => by simp [kq]
  | c + 1, i => by
    rw [kq, kq_snoc S O c (i + 1), kq, show i + 1 + c = i + (c + 1) by omega]
    by_cases h : O i = true
    · rw [if_pos h, if_pos h, List.cons_append]
    · rw [if_neg h, if_neg h]
theorem kq_len (S : List api_Message) (O : Nat → Bool) : ∀ (c i : Nat), (kq S O i c).length ≤ c
  | 0, i => by simp [kq]
  | c + 1, i => by
    have := kq_len S O c (i + 1)
    rw [kq]
    split
    · rw [List.length_cons]; omega
    · omega
theorem kq_mem (S : List api_Message) (O : Nat → Bool) : ∀ (c i : Nat) (x : api_Message), x ∈ kq S O i c → ∃ j : Nat, i ≤ j ∧ j < i + c ∧ x = setUid (nth S (j : Int)) (j : Int)
  | 0, i, x, h => by simp [kq] at h
  | c + 1, i, x, h => by
    rw [kq] at h
    have go : x ∈ kq S O (i + 1) c → ∃ j : Nat, i ≤ j ∧ j < i + (c + 1) ∧ x = setUid (nth S (j : Int)) (j : Int) := fun h => by
      obtain ⟨j, h1, h2, h3⟩ := kq_mem S O c (i + 1) x h
      exact ⟨j, by omega, by omega, h3⟩
    by_cases h0 : O i = true
    · rw [if_pos h0] at h
      rcases List.mem_cons.1 h with h | h
      · exact ⟨i, by omega, by omega, h⟩
      · exact go h
    · rw [if_neg h0] at h; exact go h
def cn (O : Nat → Bool) : Nat → Int
  | 0 => 0
  | k + 1 => cn O k + (if O k = true then 1 else 0)
theorem cn_in (O : Nat → Bool) : ∀ k, 0 ≤ cn O k ∧ cn O k ≤ (k : Int)
  | 0 => ⟨Int.le_refl _, Int.le_refl _⟩
  | k + 1 => by
    have := cn_in O k
    show 0 ≤ cn O k + _ ∧ cn O k + _ ≤ _
    split <;> omega
theorem had_hit (x y : api_Message) (r : List api_Message) (h : sameM x y = true) : hadS x (y :: r) = (y.Uid, true, r) := by
  unfold hadS
  have e : (List.range (y :: r).length).find? (fun k : Nat => sameM x (nth (y :: r) (k : Int))) = some 0 := by
    rw [List.length_cons, List.range_succ_eq_map, List.find?_cons_of_pos (by exact h)]
  rw [e]
  show ((nth (y :: r) ((0 : Nat) : Int)).Uid, true, _) = _
  congr 2
  simp [subL]
theorem had_miss (x : api_Message) (l : List api_Message) (h : ∀ y ∈ l, sameM x y = false) : hadS x l = (0, false, l) := by
  unfold hadS
  have e : (List.range l.length).find? (fun k : Nat => sameM x (nth l (k : Int))) = none := by
    rw [List.find?_eq_none]
    intro k hk
    have hk' := List.mem_range.1 hk
    rw [h _ (nth_mem (xs := l) (i := (k : Int)) (by omega) (by omega))]
    simp
  rw [e]
/-- the keys of what is sent are all different -/
def Diff (S : List api_Message) : Prop := ∀ i j : Nat, i < S.length → j < S.length → (nth S (i : Int)).Key = (nth S (j : Int)).Key → i = j
theorem rnS_kq {S : List api_Message} (hd : Diff S) (O : Nat → Bool) (u : Int) : ∀ k, k ≤ S.length → (rnS u S (kq S O 0 S.length) k).1 = u + (k : Int) - cn O k ∧ (rnS u S (kq S O 0 S.length) k).2.2 = kq S O k (S.length - k)
  | 0, _ => ⟨by show u = u + ((0 : Nat) : Int) - 0; omega, rfl⟩
  | k + 1, hk => by
    obtain ⟨h1, h2⟩ := rnS_kq hd O u k (by omega)
    have hc : S.length - k = (S.length - (k + 1)) + 1 := by omega
    show (if (hadS (nth S (k : Int)) (rnS u S (kq S O 0 S.length) k).2.2).2.1 = true then (rnS u S (kq S O 0 S.length) k).1 else (rnS u S (kq S O 0 S.length) k).1 + 1) = _ ∧ (hadS (nth S (k : Int)) (rnS u S (kq S O 0 S.length) k).2.2).2.2 = _
    rw [h1, h2, hc, kq]
    show _ = u + ((k + 1 : Nat) : Int) - (cn O k + _) ∧ _
    by_cases h : O k = true
    · rw [if_pos h, had_hit _ _ _ (by simp [sameM, setUid]), if_pos h]
      refine ⟨?_, rfl⟩
      rw [if_pos rfl]; omega
    · rw [if_neg h, had_miss, if_neg h]
      · refine ⟨?_, rfl⟩
        rw [if_neg (by simp)]; omega
      · intro y hy
        obtain ⟨j, j1, j2, rfl⟩ := kq_mem S O _ _ _ hy
        simp only [sameM, decide_eq_false_iff_not]
        rintro ⟨e, -⟩
        have := hd k j (by omega) (by omega) e
        omega
theorem had_kq {S : List api_Message} (hd : Diff S) (O : Nat → Bool) (k : Nat) (hk : k < S.length) : hadS (nth S (k : Int)) (kq S O k (S.length - k)) = (if O k = true then ((k : Int), true, kq S O (k + 1) (S.length - (k + 1))) else (0, false, kq S O k (S.length - k))) := by
  have hc : S.length - k = (S.length - (k + 1)) + 1 := by omega
  by_cases h : O k = true
  · rw [if_pos h, hc, kq, if_pos h, had_hit _ _ _ (by simp [sameM, setUid])]; rfl
  · rw [if_neg h, had_miss]
    intro y hy
    rw [hc, kq, if_neg h] at hy
    obtain ⟨j, j1, j2, rfl⟩ := kq_mem S O _ _ _ hy
    simp only [sameM, decide_eq_false_iff_not]
    rintro ⟨e, -⟩
    have := hd k j (by omega) (by omega) e
    omega
/-- the names of what was sent before stay, others have new ones in order -/
theorem named_uid {S : List api_Message} (hd : Diff S) (O : Nat → Bool) (u : Int) (j : Nat) (hj : j < S.length) : (nth (named u S (kq S O 0 S.length)) (j : Int)).Uid = (if O j = true then (j : Int) else u + (j : Int) - cn O j) := by
  unfold named
  rw [rnS_uid u S _ S.length (Nat.le_refl _) j hj]
  obtain ⟨h1, h2⟩ := rnS_kq hd O u j (by omega)
  rw [h1, h2, had_kq hd O j hj]
  by_cases h : O j = true
  · rw [if_pos h, if_pos h, if_pos rfl]
  · rw [if_neg h, if_neg h, if_neg (by simp)]
/-! ### the law -/
theorem sends_diff {w : api_World} {s : api_State} {m : api_Message} {l : List api_Out} : Diff (sendsU w s m l) := fun i j hi hj h => by
  have hi' : i < l.length := by simpa [sendsU] using hi
  have hj' : j < l.length := by simpa [sendsU] using hj
  have e : ∀ k : Nat, k < l.length → nth (sendsU w s m l) (k : Int) = sendU w s m l k (k : Int) := fun k hk => by
    rw [nth_nat (by simpa [sendsU] using hk)]; simp [sendsU]
  rw [e i hi', e j hj'] at h
  have := congrArg api_Key.Seq h
  simp only [sendU] at this
  omega
theorem set_same {x y : api_Message} {u : Int} (h1 : x.Key = y.Key) (h2 : x.To = y.To) (h3 : x.Value = y.Value) (h4 : x.Anti = y.Anti) : (⟨x.Key, x.To, x.Value, u, x.Anti⟩ : api_Message) = setUid y u := by
  unfold setUid; rw [h1, h2, h3, h4]
def oddB (keep : List Int) (k : Nat) : Bool := decide ((k : Int) < (keep.length : Int) ∧ Int.tmod (nth keep (k : Int)) 2 = 1)
theorem Pure.logNames (x0 : api_World) (h0 : ok_api_World x0) (x1 : api_Message) (h1 : ok_api_Message x1) (x2 : (List Int)) (h2 : (okl (fun n => (Lit.int .u8 n).wf = true) 1) x2) : isochronlaw10vLogNames.f x0 x1 x2 = some true := by
  have hv : -9223372036854775808 ≤ x1.Value ∧ x1.Value ≤ 9223372036854775807 := wf64 h1.2.2.1
  unfold isochronlaw10vLogNames.f
  rw [show (⟨(⟨0, 0, 0, 0, 0, 0, 0, 0⟩ : Arr8xInti64), 0, 0⟩ : api_State) = zst from rfl, new_eq _ _ (by decide)]
  simp only [Option.bind_some]
  by_cases hC : chkW x0 = 0
  · rw [if_pos hC]
    show Option.bind (log_Log_Try.f (⟨x0, true, zst, 4, ([] : List log_done), false⟩ : log_Log) x1 100 []) _ = _
    generalize hA' : (⟨x0, true, zst, 4, ([] : List log_done), false⟩ : log_Log) = a
    have hA : LogOK a 0 := by rw [← hA']; exact new_ok hC 4
    rw [try_eq hA hv (by simp)]
    simp only [Option.bind_some]
    have hmay : mayS a x1 100 = if evB x1 = true then if x1.Anti = true then 1 else 0 else 1 := by
      rw [← hA']; unfold mayS; simp
    by_cases hm : mayS a x1 100 = 0
    · rw [if_pos hm]
      simp only [if_true]
      obtain ⟨hev, hanti, hu0, hu1⟩ := may_zero hm
      have hlen := fun kept => sentS_len hA hev hv 100 kept
      generalize hS : sendsU a.w a.state x1 (vmRun a.w a.state x1).2.1 = S
      have hSl : S.length = (vmRun a.w a.state x1).2.1.length := by rw [← hS]; simp [sendsU]
      have hX : ∀ kept, (entS a x1 100 kept).Sent = named 100 S kept := fun kept => by rw [← hS]; rfl
      have hXl : ∀ kept, (named 100 S kept).length = S.length := fun kept => (rnS_len _ _ _ _).1
      have hd : Diff S := by rw [← hS]; exact sends_diff
      have hS8 : S.length ≤ 8 := by have := hlen []; omega
      unfold isochronlaw10vLogNames.l6
      refine (show loopR _ ((fun k : Nat => (kq S (oddB x2) 0 k, cn (oddB x2) k, (k : Int))) 0) = _ from loopR_steps (fun k : Nat => (kq S (oddB x2) 0 k, cn (oddB x2) k, (k : Int))) S.length (fun k hk => ?_) ?_)
      · have hc := cn_in (oddB x2) k
        have hq := kq_len S (oddB x2) k 0
        simp only [isochronlaw10vLogNames.l6b, hX]
        obtain ⟨e1, e2, e3, e4⟩ := rnS_same 100 S [] S.length (Nat.le_refl _) k hk
        rw [if_pos (by rw [hXl]; omega), kq_snoc, Nat.zero_add]
        show _ = some (Sum.inl (_, cn (oddB x2) k + _, _))
        rw [w64 (x := (k : Int) + 1) (by omega) (by omega), w64 (x := cn (oddB x2) k + 1) (by omega) (by omega)]
        by_cases o1 : (k : Int) < (x2.length : Int)
        · rw [if_pos o1, if_pos (by omega)]
          by_cases o2 : Int.tmod (nth x2 (k : Int)) 2 = 1
          · have ho : oddB x2 k = true := by simp only [oddB, decide_eq_true_eq]; exact ⟨o1, o2⟩
            rw [if_pos o2, if_pos (by omega), if_pos ho, if_pos ho]
            unfold named
            rw [set_same e1 e2 e3 e4]
            rfl
          · have ho : oddB x2 k = false := by simp only [oddB, decide_eq_false_iff_not]; exact fun h => o2 h.2
            rw [if_neg o2, ho]
            simp
        · have ho : oddB x2 k = false := by simp only [oddB, decide_eq_false_iff_not]; exact fun h => o1 h.1
          rw [if_neg o1, ho]
          simp
      · have hq := kq_len S (oddB x2) S.length 0
        simp only [isochronlaw10vLogNames.l6b, hX]
        rw [if_neg (by rw [hXl]; omega)]
        show Option.map Sum.inr (Option.bind (log_Log_Do.f (⟨a.w, a.made, a.state, a.every, ([] : List log_done), a.stuck⟩ : log_Log) x1 100 (kq S (oddB x2) 0 S.length)) _) = _
        rw [show (⟨a.w, a.made, a.state, a.every, ([] : List log_done), a.stuck⟩ : log_Log) = a from by rw [← hA'], do_eq hA hv (by omega), if_pos hm]
        simp only [Option.bind_some, hX, hXl, if_true]
        have hfin : isochronlaw10vLogNames.l8 x2 (entS a x1 100 []) (cn (oddB x2) S.length) (entS a x1 100 (kq S (oddB x2) 0 S.length)) (100, 0) = some true := by
          unfold isochronlaw10vLogNames.l8
          refine (show loopR _ ((fun k : Nat => (100 + (k : Int) - cn (oddB x2) k, (k : Int))) 0) = _ from loopR_steps (fun k : Nat => (100 + (k : Int) - cn (oddB x2) k, (k : Int))) S.length (fun k hk => ?_) ?_)
          · have hc := cn_in (oddB x2) k
            have hn := named_uid hd (oddB x2) 100 k hk
            simp only [isochronlaw10vLogNames.l8b, hX, hn]
            rw [if_pos (by rw [hXl]; omega)]
            show _ = some (Sum.inl (100 + ((k + 1 : Nat) : Int) - (cn (oddB x2) k + _), _))
            rw [w64 (x := (k : Int) + 1) (by omega) (by omega), w64 (x := 100 + (k : Int) - cn (oddB x2) k + 1) (by omega) (by omega)]
            by_cases o1 : (k : Int) < (x2.length : Int)
            · rw [if_pos o1, if_pos (by omega)]
              by_cases o2 : Int.tmod (nth x2 (k : Int)) 2 = 1
              · have ho : oddB x2 k = true := by simp only [oddB, decide_eq_true_eq]; exact ⟨o1, o2⟩
                rw [if_pos o2, if_pos ho, if_pos rfl, if_pos ho]
                congr 3
                · omega
              · have ho : oddB x2 k = false := by simp only [oddB, decide_eq_false_iff_not]; exact fun h => o2 h.2
                rw [if_neg o2, ho]
                simp only [Bool.false_eq_true, if_false, if_true]
                congr 3
                · omega
            · have ho : oddB x2 k = false := by simp only [oddB, decide_eq_false_iff_not]; exact fun h => o1 h.1
              rw [if_neg o1, if_pos (by omega), ho]
              simp only [Bool.false_eq_true, if_false, if_true]
              congr 3
              · omega
          · have hc := cn_in (oddB x2) S.length
            simp only [isochronlaw10vLogNames.l8b, hX, hXl]
            rw [if_neg (by omega), w64 (x := 100 + (S.length : Int)) (by omega) (by omega), w64 (x := 100 + (S.length : Int) - cn (oddB x2) S.length) (by omega) (by omega)]
            simp
        rw [hfin]
        rfl
    · rw [if_neg hm]
      rw [hmay] at hm ⊢
      by_cases hev : evB x1 = true
      · simp only [hev, if_true] at hm ⊢
        by_cases ha : x1.Anti = true
        · simp [ha, event_check_eq, hev]
        · simp [ha] at hm
      · simp [hev, event_check_eq]
  · rw [if_neg hC]
    simp [vm_check_eq, hC, awake_true]
end Go.Proofs.Gx
