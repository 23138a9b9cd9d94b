/-
  The plain law CodeWords: a name and numbers, one blank ahead of each number.
-/
import Derived.Test.YtdiaknplnonddaaDoorText
namespace Go.Proofs.Gx
open Go.Sl
set_option linter.unusedVariables false
def bl (s : ByteArray) : List UInt8 := s.data.toList
theorem bl_append (x y : ByteArray) : bl (x ++ y) = bl x ++ bl y := by simp [bl]
theorem bl_len (x : ByteArray) : (bl x).length = x.size := by
  unfold bl
  rw [Array.length_toList]
  rfl
theorem bt_bl (s : ByteArray) (k : Nat) : bt s (k : Int) = (((bl s).getD k 0).toNat : Int) := by
  unfold bt bl
  by_cases h : k < s.size
  · have h1 : ((k : Int)).toNat < s.size := by omega
    rw [dif_pos h1]
    have h2 : k < s.data.toList.length := by rw [Array.length_toList]; exact h
    rw [List.getD_eq_getElem?_getD, List.getElem?_eq_getElem h2]
    rfl
  · have h1 : ¬ ((k : Int)).toNat < s.size := by omega
    have h2 : s.data.toList.length ≤ k := by rw [Array.length_toList]; exact Nat.not_lt.1 h
    rw [dif_neg h1, List.getD_eq_getElem?_getD, List.getElem?_eq_none h2]
    rfl
theorem dec_dig (u : Nat) : ∀ b ∈ Lib.decDigits u, 48 ≤ b.toNat ∧ b.toNat ≤ 57 := by
  induction u using Nat.strongRecOn with
  | _ u ih =>
    have one : ∀ d, d < 10 → 48 ≤ (UInt8.ofNat (48 + d)).toNat ∧ (UInt8.ofNat (48 + d)).toNat ≤ 57 := fun d hd => by
      have : (UInt8.ofNat (48 + d)).toNat = 48 + d := by
        rw [UInt8.toNat_ofNat']
        omega
      omega
    by_cases h : u < 10
    · rw [dec_small h]
      intro b hb
      obtain rfl : b = UInt8.ofNat (48 + u) := by simpa using hb
      exact one u h
    · rw [dec_big h]
      intro b hb
      rcases List.mem_append.1 hb with hb | hb
      · exact ih (u / 10) (by omega) b hb
      · obtain rfl : b = UInt8.ofNat (48 + u % 10) := by simpa using hb
        exact one (u % 10) (by omega)
theorem dec_ne (u : Nat) : Lib.decDigits u ≠ [] := by
  by_cases h : u < 10
  · rw [dec_small h]; simp
  · rw [dec_big h]; simp
theorem bl_itoa (n : Int) : bl (itoaB n) = Lib.itoa n := by simp [bl, itoaB]
theorem itoa_mem (n : Int) : ∀ b ∈ Lib.itoa n, b ≠ 32 := by
  intro b hb e
  subst e
  unfold Lib.itoa at hb
  split at hb
  · rcases List.mem_cons.1 hb with h | h
    · exact absurd h (by decide)
    · have := dec_dig _ _ h
      exact absurd this.1 (by decide)
  · have := dec_dig _ _ hb
    exact absurd this.1 (by decide)
theorem itoa_ne (n : Int) : Lib.itoa n ≠ [] := by
  unfold Lib.itoa
  split
  · simp
  · exact dec_ne _
def cnt (s : ByteArray) : Nat := (bl s).count 32
theorem cnt_rtx (a : api_Instr) (s : ByteArray) : ∀ n, cnt (rtx a s n) = cnt s + n
  | 0 => rfl
  | n + 1 => by
    have ih := cnt_rtx a s n
    have h1 : cnt lit_20 = 1 := rfl
    have h2 : cnt (itoaB (arg a n)) = 0 := by
      unfold cnt
      rw [bl_itoa]
      exact List.count_eq_zero.2 fun h => itoa_mem _ _ h rfl
    unfold cnt at *
    simp only [rtx, bl_append, List.count_append]
    omega
theorem first_rtx (a : api_Instr) (s : ByteArray) (hs : bl s ≠ []) : ∀ n, bl (rtx a s n) ≠ [] ∧ (bl (rtx a s n)).getD 0 0 = (bl s).getD 0 0
  | 0 => ⟨hs, rfl⟩
  | n + 1 => by
    obtain ⟨h1, h2⟩ := first_rtx a s hs n
    simp only [rtx, bl_append]
    refine ⟨by simp [h1], ?_⟩
    rw [← h2]
    cases h : bl (rtx a s n) with
    | nil => exact absurd h h1
    | cons b l => rfl
theorem last_of {l : List UInt8} (h : l ≠ []) (hb : ∀ b ∈ l, b ≠ 32) (m : List UInt8) : (m ++ l).getD ((m ++ l).length - 1) 0 ≠ 32 := by
  have hl : 0 < l.length := List.length_pos_iff.2 h
  rw [List.getD_eq_getElem?_getD, List.length_append, List.getElem?_append_right (by omega), List.getElem?_eq_getElem (by omega)]
  exact hb _ (List.getElem_mem _)
theorem last_rtx (a : api_Instr) (s : ByteArray) (hs : bl s ≠ []) (hb : ∀ b ∈ bl s, b ≠ 32) : ∀ n, (bl (rtx a s n)).getD ((bl (rtx a s n)).length - 1) 0 ≠ 32
  | 0 => by
    have := last_of hs hb []
    simpa [rtx] using this
  | n + 1 => by
    simp only [rtx, bl_append, bl_itoa]
    exact last_of (itoa_ne _) (itoa_mem _) _
theorem name_facts (op : Int) (h0 : 0 ≤ op) (h1 : op < 17) : bl (nameOf op) ≠ [] ∧ cnt (nameOf op) = 0 ∧ (∀ b ∈ bl (nameOf op), b ≠ 32) ∧ (bl (nameOf op)).getD 0 0 ≠ 32 :=
  ops17 (p := fun op => bl (nameOf op) ≠ [] ∧ cnt (nameOf op) = 0 ∧ (∀ b ∈ bl (nameOf op), b ≠ 32) ∧ (bl (nameOf op)).getD 0 0 ≠ 32) op h0 h1 (by decide)
theorem count_take (s : ByteArray) (k : Nat) (hk : k < s.size) : ((((bl s).take (k + 1)).count 32 : Nat) : Int) = (((bl s).take k).count 32 : Nat) + (if bt s (k : Int) = 32 then 1 else 0) := by
  have hl : k < (bl s).length := by rw [bl_len]; exact hk
  rw [List.take_succ_eq_append_getElem hl, List.count_append, bt_bl, List.getD_eq_getElem?_getD, List.getElem?_eq_getElem hl]
  simp only [Option.getD_some]
  by_cases h : (bl s)[k] = 32
  · rw [h]; simp
  · have h2 : ¬ (((bl s)[k].toNat : Nat) : Int) = 32 := fun e => h (by
      have e1 : (bl s)[k].toNat = (32 : UInt8).toNat := by
        have : (32 : UInt8).toNat = 32 := rfl
        omega
      exact UInt8.toNat_inj.1 e1)
    rw [if_neg h2]
    simp [h]
theorem words_end {a : api_Instr} (s : ByteArray) (w : Int) (hw : ((cnt s : Nat) : Int) = w) (hs : bl s ≠ []) (hz : s.size ≤ 100) (hf : (bl s).getD 0 0 ≠ 32) (hl : (bl s).getD ((bl s).length - 1) 0 ≠ 32) :
    isochronlaw03vCodeWords.j18 s ((cnt s : Nat) : Int) w = some true := by
  have hn : 0 < s.size := by rw [← bl_len]; exact List.length_pos_iff.2 hs
  have ne : ∀ b : UInt8, b ≠ 32 → ¬ ((b.toNat : Nat) : Int) = 32 := fun b h e => h (by
    have e1 : b.toNat = (32 : UInt8).toNat := by
      have : (32 : UInt8).toNat = 32 := rfl
      omega
    exact UInt8.toNat_inj.1 e1)
  have b0 : ¬ bt s 0 = 32 := by
    have := bt_bl s 0
    rw [show ((0 : Nat) : Int) = 0 from rfl] at this
    rw [this]
    exact ne _ hf
  have b1 : ¬ bt s ((s.size : Int) - 1) = 32 := by
    rw [show (s.size : Int) - 1 = ((s.size - 1 : Nat) : Int) by omega, bt_bl, ← bl_len]
    exact ne _ hl
  unfold isochronlaw03vCodeWords.j18
  rw [if_pos hw, if_pos (by omega), if_neg b0, w64 (by omega) (by omega), if_pos (by omega)]
  simp [b1]
theorem Pure.codeWords (x0 : api_Instr) (h0 : ok_api_Instr x0) : isochronlaw03vCodeWords.f x0 = some true := by
  unfold isochronlaw03vCodeWords.f
  rw [code_text h0]
  simp only [Option.bind_some]
  -- what is known of the text
  obtain ⟨hne, hcnt, hfirst, hlast, hsize, hq⟩ : bl (txt x0) ≠ [] ∧ ((cnt (txt x0) : Nat) : Int) = (if 0 ≤ x0.Op ∧ x0.Op < 17 then manyOf x0.Op else 3) ∧ (bl (txt x0)).getD 0 0 ≠ 32 ∧ (bl (txt x0)).getD ((bl (txt x0)).length - 1) 0 ≠ 32 ∧ (txt x0).size ≤ 100 ∧ (¬ (0 ≤ x0.Op ∧ x0.Op < 17) → bt (txt x0) 0 = 63) := by
    unfold txt
    by_cases h : 0 ≤ x0.Op ∧ x0.Op < 17
    · obtain ⟨n1, n2, n3, n4⟩ := name_facts x0.Op h.1 h.2
      obtain ⟨f1, f2, f3, f4, f5⟩ := op_facts x0.Op h.1 h.2
      obtain ⟨q1, q2⟩ := first_rtx x0 (nameOf x0.Op) n1 (manyOf x0.Op).toNat
      have hz := rtx_size h0 (nameOf x0.Op) (manyOf x0.Op).toNat f3
      rw [if_pos h, if_pos h, cnt_rtx, n2]
      exact ⟨q1, by omega, by rw [q2]; exact n4, last_rtx x0 _ n1 n3 _, by omega, fun x => absurd h x⟩
    · obtain ⟨q1, q2⟩ := first_rtx x0 lit_3f (by decide) 3
      have hz := rtx_size h0 lit_3f 3 (Nat.le_refl _)
      have h1 : lit_3f.size = 1 := rfl
      rw [if_neg h, if_neg h, cnt_rtx]
      refine ⟨q1, rfl, by rw [q2]; decide, last_rtx x0 _ (by decide) (by decide) _, by omega, fun _ => ?_⟩
      have := bt_bl (rtx x0 lit_3f 3) 0
      rw [q2] at this
      exact this
  have hn : 0 < (txt x0).size := by rw [← bl_len]; exact List.length_pos_iff.2 hne
  rw [if_neg (fun e => by rw [e] at hn; exact absurd hn (by decide))]
  unfold isochronlaw03vCodeWords.l16
  refine loopR_steps (body := isochronlaw03vCodeWords.l16b x0 (txt x0)) (fun k : Nat => (((((bl (txt x0)).take k).count 32 : Nat) : Int), (k : Int))) (txt x0).size (fun k hk => ?_) ?_
  · have hc := count_take (txt x0) k hk
    have hb : ((bl (txt x0)).take k).count 32 ≤ k := Nat.le_trans List.count_le_length (by simp; omega)
    simp only [isochronlaw03vCodeWords.l16b, isochronlaw03vCodeWords.j17]
    rw [if_pos (by omega), if_pos (by omega), w64 (x := (k : Int) + 1) (by omega) (by omega)]
    by_cases hb2 : bt (txt x0) (k : Int) = 32
    · rw [if_pos hb2] at hc
      rw [if_pos hb2, w64 (by omega) (by omega), hc]
      rfl
    · rw [if_neg hb2] at hc
      rw [if_neg hb2, hc]
      simp
  · have ht : (((bl (txt x0)).take (txt x0).size).count 32 : Nat) = cnt (txt x0) := by
      unfold cnt
      rw [List.take_of_length_le (by rw [bl_len]; exact Nat.le_refl _)]
    have l2 : (([0, 2, 2, 3, 3, 3, 3, 3, 3, 3, 1, 2, 3, 2, 1, 1, 1]).length : Int) = 17 := rfl
    simp only [isochronlaw03vCodeWords.l16b, ht, l2]
    rw [if_neg (by omega)]
    by_cases h : 0 ≤ x0.Op
    · rw [if_pos h]
      by_cases h2 : x0.Op < 17
      · rw [if_pos h2]
        rw [if_pos ⟨h, h2⟩] at hcnt
        rw [show nth ([0, 2, 2, 3, 3, 3, 3, 3, 3, 3, 1, 2, 3, 2, 1, 1, 1]) x0.Op = manyOf x0.Op from rfl, words_end (a := x0) _ _ hcnt hne hsize hfirst hlast]
        rfl
      · rw [if_neg h2]
        rw [if_neg (fun x => h2 x.2)] at hcnt
        rw [if_pos (by omega), if_pos (hq (fun x => h2 x.2)), words_end (a := x0) _ _ hcnt hne hsize hfirst hlast]
        rfl
    · rw [if_neg h]
      rw [if_neg (fun x => h x.1)] at hcnt
      rw [if_pos (by omega), if_pos (hq (fun x => h x.1)), words_end (a := x0) _ _ hcnt hne hsize hfirst hlast]
      rfl
end Go.Proofs.Gx
