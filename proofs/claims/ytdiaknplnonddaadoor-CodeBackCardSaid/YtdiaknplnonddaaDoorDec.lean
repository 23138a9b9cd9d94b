/-
  What code.Decode and the reference's Decode compute: the same.
-/
import Derived.Test.YtdiaknplnonddaaDoorEnc
namespace Go.Proofs.Gx
open Go.Sl
set_option linter.unusedVariables false
theorem nth_subL (a : List Int) (k : Nat) (h : k + 9 ≤ a.length) (j : Nat) (hj : j < 9) : nth (subL a (k : Int) ((k : Int) + 9)) (j : Int) = nth a ((k : Int) + (j : Int)) := by
  unfold nth subL
  rw [show ((k : Int) + 9).toNat - (k : Int).toNat = 9 by omega, show (k : Int).toNat = k by omega, show ((k : Int) + (j : Int)).toNat = k + j by omega, show (j : Int).toNat = j by omega]
  rw [List.getD_eq_getElem?_getD, List.getD_eq_getElem?_getD, List.getElem?_take, if_pos hj, List.getElem?_drop]
/-- four bytes, as a number -/
def dU (b2 b3 b4 b5 : Int) : Int := IntKind.i64.wrap (IntKind.i32.wrap (IntKind.u32.wrap (BitVec.ofInt IntKind.u32.bits (IntKind.u32.wrap (BitVec.ofInt IntKind.u32.bits (IntKind.u32.wrap (BitVec.ofInt IntKind.u32.bits (IntKind.u32.wrap ((IntKind.u32.wrap b2) * 2 ^ (min (24 : Int).toNat IntKind.u32.bits))) ||| BitVec.ofInt IntKind.u32.bits (IntKind.u32.wrap ((IntKind.u32.wrap b3) * 2 ^ (min (16 : Int).toNat IntKind.u32.bits)))).toNat) ||| BitVec.ofInt IntKind.u32.bits (IntKind.u32.wrap ((IntKind.u32.wrap b4) * 2 ^ (min (8 : Int).toNat IntKind.u32.bits)))).toNat) ||| BitVec.ofInt IntKind.u32.bits (IntKind.u32.wrap b5)).toNat))
def dI (a : List Int) (k : Nat) : api_Instr :=
  if IntKind.i64.wrap (nth a (k : Int)) = 10 then ⟨IntKind.i64.wrap (nth a (k : Int)), dU (nth a ((k : Int) + 2)) (nth a ((k : Int) + 3)) (nth a ((k : Int) + 4)) (nth a ((k : Int) + 5)), 0, IntKind.i64.wrap (nth a ((k : Int) + 6))⟩
  else ⟨IntKind.i64.wrap (nth a (k : Int)), IntKind.i64.wrap (nth a ((k : Int) + 1)), dU (nth a ((k : Int) + 2)) (nth a ((k : Int) + 3)) (nth a ((k : Int) + 4)) (nth a ((k : Int) + 5)), IntKind.i64.wrap (nth a ((k : Int) + 6))⟩
def dF (a : List Int) (k : Nat) (n : Int) : Bool := (if IntKind.i64.wrap (nth a (k : Int)) = 10 then decide (IntKind.i64.wrap (nth a ((k : Int) + 1)) = 0) else true) && (decide (nth a ((k : Int) + 7) = 0) && (decide (nth a ((k : Int) + 8) = 0) && mayB (dI a k) n))
def dStep (a : List Int) (n : Int) (l : List api_Instr) (k : Nat) : (List api_Instr × Int) ⊕ (List api_Instr × Int × Int) := if dF a k n = true then .inl (l ++ [dI a k], ((k + 9 : Nat) : Int)) else .inr ([], (k : Int), 4)
theorem code_dec_step (a : List Int) (ha : a.length ≤ 2304) (l : List api_Instr) (hl : l.length ≤ 256) (k : Nat) (hk : k + 9 ≤ a.length) :
    code_Decode.l48b a (l, (k : Int)) = some (dStep a ((a.length : Int) / 9) l k) := by
  have hs := nth_subL a k hk
  have s0 := hs 0 (by omega); have s1 := hs 1 (by omega); have s2 := hs 2 (by omega); have s3 := hs 3 (by omega); have s4 := hs 4 (by omega); have s5 := hs 5 (by omega); have s6 := hs 6 (by omega); have s7 := hs 7 (by omega); have s8 := hs 8 (by omega)
  have w9 : IntKind.i64.wrap ((k : Int) + 9) = (k : Int) + 9 := w64 (by omega) (by omega)
  have wn : IntKind.i64.wrap (Int.tdiv (a.length : Int) 9) = (a.length : Int) / 9 := by rw [tdiv_pos' (by omega)]; exact w64 (by omega) (by omega)
  have sl : ((subL a (k : Int) ((k : Int) + 9)).length : Int) = 9 := by rw [subL_len (by omega) (by omega) (by omega)]; omega
  simp only [Int.add_zero, Int.cast_ofNat_Int] at s0 s1 s2 s3 s4 s5 s6 s7 s8
  unfold dStep dF dI
  simp only [code_Decode.l48b, code_Decode.j51, code_Decode.j52, w9, wn, sl, s0, s1, s2, s3, s4, s5, s6, s7, s8, code_may_eq, Option.bind_some]
  rw [if_pos (by omega), if_pos (by omega), if_pos (by omega), if_pos (by omega), if_pos (by omega), if_pos (by omega), if_pos (by omega), if_pos (by omega), if_pos (by omega), if_pos (by omega)]
  by_cases h7 : nth a ((k : Int) + 7) = 0
  · rw [if_pos h7, if_pos (by omega)]
    by_cases h10 : IntKind.i64.wrap (nth a (k : Int)) = 10
    · simp only [if_pos h10]
      by_cases h8 : nth a ((k : Int) + 8) = 0
      · rw [if_pos h8]
        by_cases h1 : IntKind.i64.wrap (nth a ((k : Int) + 1)) = 0
        · simp only [h1, h7, h8, decide_true, Bool.true_and, if_true]
          by_cases hm : mayB ⟨IntKind.i64.wrap (nth a (k : Int)), dU (nth a ((k : Int) + 2)) (nth a ((k : Int) + 3)) (nth a ((k : Int) + 4)) (nth a ((k : Int) + 5)), 0, IntKind.i64.wrap (nth a ((k : Int) + 6))⟩ ((a.length : Int) / 9) = true
          · rw [if_pos hm]
            unfold dU at hm
            rw [if_pos hm, if_pos (by omega)]
            rfl
          · rw [if_neg hm]
            unfold dU at hm
            rw [if_neg hm]
        · simp [h1, h7, h8]
      · rw [if_neg h8]
        simp [h8]
    · simp only [if_neg h10]
      by_cases h8 : nth a ((k : Int) + 8) = 0
      · simp only [h7, h8, decide_true, Bool.true_and, if_true]
        by_cases hm : mayB ⟨IntKind.i64.wrap (nth a (k : Int)), IntKind.i64.wrap (nth a ((k : Int) + 1)), dU (nth a ((k : Int) + 2)) (nth a ((k : Int) + 3)) (nth a ((k : Int) + 4)) (nth a ((k : Int) + 5)), IntKind.i64.wrap (nth a ((k : Int) + 6))⟩ ((a.length : Int) / 9) = true
        · rw [if_pos hm]
          unfold dU at hm
          rw [if_pos hm, if_pos (by omega)]
          rfl
        · rw [if_neg hm]
          unfold dU at hm
          rw [if_neg hm]
      · simp [h8]
  · rw [if_neg h7]
    by_cases h10 : IntKind.i64.wrap (nth a (k : Int)) = 10
    · simp [h7, h10]
    · simp [h7, h10]
theorem ref_dec_step (a : List Int) (ha : a.length ≤ 2304) (l : List api_Instr) (hl : l.length ≤ 256) (k : Nat) (hk : k + 9 ≤ a.length) :
    isochronref03vDecode.l26b a (l, (k : Int)) = some (dStep a ((a.length : Int) / 9) l k) := by
  have w : ∀ j : Int, 0 ≤ j → j ≤ 9 → IntKind.i64.wrap ((k : Int) + j) = (k : Int) + j := fun j h0 h1 => w64 (by omega) (by omega)
  have w1 := w 1 (by omega) (by omega); have w2 := w 2 (by omega) (by omega); have w3 := w 3 (by omega) (by omega); have w4 := w 4 (by omega) (by omega); have w5 := w 5 (by omega) (by omega); have w6 := w 6 (by omega) (by omega); have w7 := w 7 (by omega) (by omega); have w8 := w 8 (by omega) (by omega); have w9 := w 9 (by omega) (by omega)
  have wn : IntKind.i64.wrap (Int.tdiv (a.length : Int) 9) = (a.length : Int) / 9 := by rw [tdiv_pos' (by omega)]; exact w64 (by omega) (by omega)
  unfold dStep dF dI
  simp only [isochronref03vDecode.l26b, isochronref03vDecode.j28, w1, w2, w3, w4, w5, w6, w7, w8, w9, wn, ref_may_eq, Option.bind_some]
  rw [if_pos (by omega), if_pos (by omega), if_pos (by omega), if_pos (by omega), if_pos (by omega), if_pos (by omega), if_pos (by omega), if_pos (by omega)]
  have p7 : 0 ≤ (k : Int) + 7 ∧ (k : Int) + 7 < (a.length : Int) := by omega
  have p8 : 0 ≤ (k : Int) + 8 ∧ (k : Int) + 8 < (a.length : Int) := by omega
  simp only [if_pos p7, if_pos p8]
  by_cases h10 : IntKind.i64.wrap (nth a (k : Int)) = 10
  · simp only [if_pos h10]
    by_cases h1 : IntKind.i64.wrap (nth a ((k : Int) + 1)) = 0
    · by_cases h7 : nth a ((k : Int) + 7) = 0
      · by_cases h8 : nth a ((k : Int) + 8) = 0
        · simp only [h1, h7, h8, decide_true, Bool.true_and, if_true, Bool.not_true, Bool.false_eq_true, if_false]
          by_cases hm : mayB ⟨IntKind.i64.wrap (nth a (k : Int)), dU (nth a ((k : Int) + 2)) (nth a ((k : Int) + 3)) (nth a ((k : Int) + 4)) (nth a ((k : Int) + 5)), 0, IntKind.i64.wrap (nth a ((k : Int) + 6))⟩ ((a.length : Int) / 9) = true
          · rw [if_pos hm]
            unfold dU at hm
            rw [if_pos hm, if_pos (by omega)]
            rfl
          · rw [if_neg hm]
            unfold dU at hm
            rw [if_neg hm]
        · simp [h1, h7, h8]
      · simp [h1, h7]
    · simp [h1]
  · simp only [if_neg h10]
    by_cases h7 : nth a ((k : Int) + 7) = 0
    · by_cases h8 : nth a ((k : Int) + 8) = 0
      · simp only [h7, h8, decide_true, Bool.true_and, if_true, Bool.false_eq_true, if_false]
        by_cases hm : mayB ⟨IntKind.i64.wrap (nth a (k : Int)), IntKind.i64.wrap (nth a ((k : Int) + 1)), dU (nth a ((k : Int) + 2)) (nth a ((k : Int) + 3)) (nth a ((k : Int) + 4)) (nth a ((k : Int) + 5)), IntKind.i64.wrap (nth a ((k : Int) + 6))⟩ ((a.length : Int) / 9) = true
        · rw [if_pos hm]
          unfold dU at hm
          rw [if_pos hm, if_pos (by omega)]
          rfl
        · rw [if_neg hm]
          unfold dU at hm
          rw [if_neg hm]
      · simp [h7, h8]
    · simp [h7]
/-- the instructions of the first k nines -/
def decs (a : List Int) : Nat → List api_Instr
  | 0 => []
  | k + 1 => decs a k ++ [dI a (9 * k)]
theorem decs_len (a : List Int) : ∀ k, (decs a k).length = k
  | 0 => rfl
  | k + 1 => by simp only [decs, List.length_append, decs_len a k]; rfl
/-- how the whole ends -/
def decR (a : List Int) (m : Nat) : List api_Instr × Int × Int := match (List.range m).find? (fun k : Nat => !dF a (9 * k) ((a.length : Int) / 9)) with | some k => ([], ((9 * k : Nat) : Int), 4) | none => (decs a m, (a.length : Int), 0)
theorem dec_loop {body : List api_Instr × Int → Option ((List api_Instr × Int) ⊕ (List api_Instr × Int × Int))} (a : List Int) (m : Nat) (hm : a.length = 9 * m) (hm2 : m ≤ 256)
    (h : ∀ (l : List api_Instr) (k : Nat), l.length ≤ 256 → k + 9 ≤ a.length → body (l, (k : Int)) = some (dStep a ((a.length : Int) / 9) l k)) (he : ∀ l, body (l, (a.length : Int)) = some (.inr (l, (a.length : Int), 0))) :
    loopR body ([], 0) = some (decR a m) := by
  have step : ∀ k, k < m → dF a (9 * k) ((a.length : Int) / 9) = true → body (decs a k, ((9 * k : Nat) : Int)) = some (.inl (decs a (k + 1), ((9 * (k + 1) : Nat) : Int))) := fun k hk hd => by
    rw [h _ _ (by rw [decs_len]; omega) (by omega), dStep, if_pos hd]
    rfl
  unfold decR
  cases hf : (List.range m).find? (fun k : Nat => !dF a (9 * k) ((a.length : Int) / 9)) with
  | none =>
    have hno : ∀ k, k < m → dF a (9 * k) ((a.length : Int) / 9) = true := fun k hk => by
      have := List.find?_eq_none.1 hf k (List.mem_range.2 hk)
      simpa using this
    refine loopR_steps (fun k : Nat => (decs a k, ((9 * k : Nat) : Int))) m (fun k hk => step k hk (hno k hk)) ?_
    rw [← hm]
    exact he _
  | some j =>
    obtain ⟨hp, hmem, hbef⟩ := List.find?_range_eq_some.1 hf
    have hj := List.mem_range.1 hmem
    refine loopR_steps (fun k : Nat => (decs a k, ((9 * k : Nat) : Int))) j (fun k hk => step k (by omega) (by simpa using hbef k hk)) ?_
    rw [h _ _ (by rw [decs_len]; omega) (by omega), dStep, if_neg (by simpa using hp)]
def decAll (a : List Int) : List api_Instr × Int × Int := if 2304 < a.length then ([], 0, 2) else if a.length % 9 = 0 then decR a (a.length / 9) else ([], ((a.length / 9 * 9 : Nat) : Int), 3)
theorem code_dec (a : List Int) : code_Decode.f a = some (decAll a) := by
  unfold code_Decode.f decAll
  by_cases h : 2304 < a.length
  · rw [if_pos (by omega), if_pos h]
  · have wn : IntKind.i64.wrap (Int.tdiv (a.length : Int) 9) = (a.length : Int) / 9 := by rw [tdiv_pos' (by omega)]; exact w64 (by omega) (by omega)
    rw [if_neg (by omega), if_neg h, wn, w64 (x := (a.length : Int) / 9 * 9) (by omega) (by omega)]
    by_cases h9 : a.length % 9 = 0
    · rw [if_pos (by omega), if_pos h9, if_pos (by omega)]
      unfold code_Decode.l48
      refine dec_loop a (a.length / 9) (by omega) (by omega) (fun l k hl hk => code_dec_step a (by omega) l hl k hk) (fun l => ?_)
      simp only [code_Decode.l48b]
      rw [if_neg (by omega)]
    · rw [if_neg (by omega), if_neg h9]
      congr 3
theorem ref_dec (a : List Int) : isochronref03vDecode.f a = some (decAll a) := by
  unfold isochronref03vDecode.f decAll
  by_cases h : 2304 < a.length
  · rw [if_pos (by omega), if_pos h]
  · have wn : IntKind.i64.wrap (Int.tdiv (a.length : Int) 9) = (a.length : Int) / 9 := by rw [tdiv_pos' (by omega)]; exact w64 (by omega) (by omega)
    rw [if_neg (by omega), if_neg h, wn, w64 (x := (a.length : Int) / 9 * 9) (by omega) (by omega), tmod_pos' (by omega)]
    by_cases h9 : a.length % 9 = 0
    · rw [if_pos (by omega), if_pos h9]
      unfold isochronref03vDecode.l26
      refine dec_loop a (a.length / 9) (by omega) (by omega) (fun l k hl hk => ref_dec_step a (by omega) l hl k hk) (fun l => ?_)
      simp only [isochronref03vDecode.l26b]
      rw [if_neg (by omega)]
    · rw [if_neg (by omega), if_neg h9]
      congr 3
theorem same_self (l : List api_Instr) (h : l.length ≤ 256) : isochronlaw03vsame.f l l = some true := by
  unfold isochronlaw03vsame.f isochronlaw03vsame.l2
  rw [if_pos rfl]
  refine loopR_steps (fun k : Nat => (k : Int)) l.length (fun k hk => ?_) ?_
  · simp only [isochronlaw03vsame.l2b]
    rw [if_pos (by omega), if_pos (by omega), if_pos (by omega), if_pos trivial, w64 (by omega) (by omega)]
    rfl
  · simp only [isochronlaw03vsame.l2b]
    rw [if_neg (by omega)]
theorem decAll_len (a : List Int) : (decAll a).1.length ≤ 256 := by
  unfold decAll
  split
  · simp
  · split
    · unfold decR
      split
      · simp
      · rw [decs_len]; omega
    · simp
end Go.Proofs.Gx
