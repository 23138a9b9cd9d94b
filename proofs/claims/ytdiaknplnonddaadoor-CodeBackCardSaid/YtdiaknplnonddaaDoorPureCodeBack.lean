/-
  The plain law CodeBack: there and back.
-/
import Derived.Test.YtdiaknplnonddaaDoorBits
namespace Go.Proofs.Gx
open Go.Sl
set_option linter.unusedVariables false
theorem right_any {x kd n : Int} (hn : 0 ≤ n ∧ n ≤ 256) (h : rightB x kd n = true) : (-2147483648 ≤ x ∧ x ≤ 2147483647) ∧ (kd ≠ 110 → kd ≠ 112 → 0 ≤ x ∧ x ≤ 15) ∧ (kd = 112 → 0 ≤ x ∧ x ≤ n) ∧ (kd = 45 → x = 0) := by
  unfold rightB at h
  split at h
  · simp only [decide_eq_true_eq] at h
    refine ⟨by omega, fun a => by omega, fun a => by omega, fun a => by omega⟩
  · split at h
    · simp only [decide_eq_true_eq] at h
      refine ⟨by omega, fun a b => by omega, fun a => by omega, fun a => by omega⟩
    · split at h
      · simp only [decide_eq_true_eq] at h
        refine ⟨by omega, fun a b => by omega, fun a => by omega, fun a => by omega⟩
      · simp only [decide_eq_true_eq] at h
        refine ⟨by omega, fun a b => by omega, fun a => by omega, fun a => by omega⟩
theorem may_bounds {i : api_Instr} {n : Int} (hn : 0 ≤ n ∧ n ≤ 256) (h : mayB i n = true) :
    (0 ≤ i.Op ∧ i.Op < 17) ∧ (i.Op = 10 → 0 ≤ i.A ∧ i.A ≤ n ∧ i.B = 0 ∧ i.C = 0) ∧ (i.Op ≠ 10 → (0 ≤ i.A ∧ i.A ≤ 15) ∧ (-2147483648 ≤ i.B ∧ i.B ≤ 2147483647) ∧ (0 ≤ i.C ∧ i.C ≤ 15)) := by
  unfold mayB at h
  by_cases hr : 0 ≤ i.Op ∧ i.Op < 17
  · rw [if_pos hr] at h
    simp only [Bool.and_eq_true] at h
    obtain ⟨hA, hB, hC⟩ := h
    obtain ⟨k1, k2, k3, k4⟩ := ops17 (p := fun op => (op ≠ 10 → bt (shapeOf op) 0 ≠ 110 ∧ bt (shapeOf op) 0 ≠ 112) ∧ bt (shapeOf op) 2 ≠ 110 ∧ bt (shapeOf op) 2 ≠ 112 ∧ (op = 10 → bt (shapeOf op) 0 = 112 ∧ bt (shapeOf op) 1 = 45 ∧ bt (shapeOf op) 2 = 45)) i.Op hr.1 hr.2 (by decide)
    obtain ⟨a1, a2, a3, a4⟩ := right_any hn hA
    obtain ⟨b1, b2, b3, b4⟩ := right_any hn hB
    obtain ⟨c1, c2, c3, c4⟩ := right_any hn hC
    refine ⟨hr, fun e => ?_, fun e => ⟨a2 (k1 e).1 (k1 e).2, b1, c2 k2 k3⟩⟩
    obtain ⟨q1, q2, q3⟩ := k4 e
    exact ⟨(a3 q1).1, (a3 q1).2, b4 q2, c4 q3⟩
  · rw [if_neg hr] at h
    cases h
theorem enc_nth (l : List api_Instr) : ∀ (m k j : Nat), k < m → j < 9 → nth (encs l m) (((9 * k : Nat) : Int) + (j : Int)) = (enc9 (nth l (k : Int))).getD j 0
  | m + 1, k, j, hk, hj => by
    have hl := encs_len l m
    have e1 : (((9 * k : Nat) : Int) + (j : Int)).toNat = 9 * k + j := by omega
    unfold nth
    rw [e1]
    simp only [encs]
    by_cases hkm : k < m
    · have ih := enc_nth l m k j hkm hj
      unfold nth at ih
      rw [e1] at ih
      rw [List.getD_eq_getElem?_getD, List.getElem?_append_left (by omega), ← List.getD_eq_getElem?_getD]
      exact ih
    · have : k = m := by omega
      subst this
      rw [List.getD_eq_getElem?_getD, List.getElem?_append_right (by omega), hl, show 9 * k + j - 9 * k = j by omega, ← List.getD_eq_getElem?_getD]
      rfl
theorem back_one (l : List api_Instr) (m k : Nat) (n : Int) (hk : k < m) (hn : 0 ≤ n ∧ n ≤ 256) (h : mayB (nth l (k : Int)) n = true) : dI (encs l m) (9 * k) = nth l (k : Int) ∧ dF (encs l m) (9 * k) n = true := by
  have en := fun j hj => enc_nth l m k j hk hj
  have s0 := en 0 (by omega); have s1 := en 1 (by omega); have s2 := en 2 (by omega); have s3 := en 3 (by omega); have s4 := en 4 (by omega); have s5 := en 5 (by omega); have s6 := en 6 (by omega); have s7 := en 7 (by omega); have s8 := en 8 (by omega)
  simp only [Int.add_zero, Int.cast_ofNat_Int] at s0 s1 s2 s3 s4 s5 s6 s7 s8
  obtain ⟨hop, h10, hn10⟩ := may_bounds hn h
  have key : dI (encs l m) (9 * k) = nth l (k : Int) := by
    generalize hi : nth l (k : Int) = i at *
    unfold dI
    rw [s0, s1, s2, s3, s4, s5, s6]
    by_cases e : i.Op = 10
    · obtain ⟨x1, x2, x3, x4⟩ := h10 e
      have e9 : enc9 i = enc9' i.Op 0 i.A i.C := by unfold enc9; rw [if_pos e]
      rw [e9]
      show (if IntKind.i64.wrap (IntKind.u8.wrap i.Op) = 10 then (⟨IntKind.i64.wrap (IntKind.u8.wrap i.Op), dU (by24 i.A) (by16 i.A) (by8 i.A) (by0 i.A), 0, IntKind.i64.wrap (IntKind.u8.wrap i.C)⟩ : api_Instr) else _) = i
      rw [wu8 (x := i.Op) (by omega) (by omega), w64 (x := i.Op) (by omega) (by omega), if_pos e, dU_by i.A (by omega) (by omega), wu8 (x := i.C) (by omega) (by omega), w64 (x := i.C) (by omega) (by omega), ← x3]
    · obtain ⟨x1, x2, x3⟩ := hn10 e
      have e9 : enc9 i = enc9' i.Op i.A i.B i.C := by unfold enc9; rw [if_neg e]
      rw [e9]
      show (if IntKind.i64.wrap (IntKind.u8.wrap i.Op) = 10 then _ else (⟨IntKind.i64.wrap (IntKind.u8.wrap i.Op), IntKind.i64.wrap (IntKind.u8.wrap i.A), dU (by24 i.B) (by16 i.B) (by8 i.B) (by0 i.B), IntKind.i64.wrap (IntKind.u8.wrap i.C)⟩ : api_Instr)) = i
      rw [wu8 (x := i.Op) (by omega) (by omega), w64 (x := i.Op) (by omega) (by omega), if_neg e, dU_by i.B (by omega) (by omega), wu8 (x := i.C) (by omega) (by omega), w64 (x := i.C) (by omega) (by omega), wu8 (x := i.A) (by omega) (by omega), w64 (x := i.A) (by omega) (by omega)]
  refine ⟨key, ?_⟩
  unfold dF
  rw [key, h, s0, s1, s7, s8]
  generalize hi : nth l (k : Int) = i at *
  by_cases e : i.Op = 10
  · have e9 : enc9 i = enc9' i.Op 0 i.A i.C := by unfold enc9; rw [if_pos e]
    rw [e9]
    show ((if IntKind.i64.wrap (IntKind.u8.wrap i.Op) = 10 then decide (IntKind.i64.wrap (IntKind.u8.wrap 0) = 0) else true) && (decide ((0 : Int) = 0) && (decide ((0 : Int) = 0) && true))) = true
    rw [wu8 (x := 0) (by omega) (by omega), w64 (x := 0) (by omega) (by omega)]
    simp
  · have e9 : enc9 i = enc9' i.Op i.A i.B i.C := by unfold enc9; rw [if_neg e]
    rw [e9]
    show ((if IntKind.i64.wrap (IntKind.u8.wrap i.Op) = 10 then decide (IntKind.i64.wrap (IntKind.u8.wrap i.A) = 0) else true) && (decide ((0 : Int) = 0) && (decide ((0 : Int) = 0) && true))) = true
    rw [wu8 (x := i.Op) (by omega) (by omega), w64 (x := i.Op) (by omega) (by omega), if_neg e]
    simp
theorem decs_take (a : List Int) (l : List api_Instr) : ∀ m, m ≤ l.length → (∀ k, k < m → dI a (9 * k) = nth l (k : Int)) → decs a m = l.take m
  | 0, _, _ => rfl
  | m + 1, hm, h => by
    rw [decs, decs_take a l m (by omega) (fun k hk => h k (by omega)), h m (by omega), List.take_succ_eq_append_getElem (by omega), nth_mem l m (by omega)]
theorem there (l : List api_Instr) (h : chk l = 0) : decAll (encs l l.length) = (l, ((9 * l.length : Nat) : Int), 0) := by
  obtain ⟨hl, hm⟩ := (chk_zero l).1 h
  have hlen := encs_len l l.length
  have hb := fun k hk => back_one l l.length k (l.length : Int) hk ⟨by omega, by omega⟩ (hm k hk)
  unfold decAll decR
  rw [if_neg (by omega), if_pos (by omega), show (encs l l.length).length / 9 = l.length by omega, show ((encs l l.length).length : Int) / 9 = (l.length : Int) by omega]
  have hf : (List.range l.length).find? (fun k : Nat => !dF (encs l l.length) (9 * k) (l.length : Int)) = none := by
    refine List.find?_eq_none.2 fun k hk => ?_
    rw [(hb k (List.mem_range.1 hk)).2]
    simp
  rw [hf]
  simp only
  rw [decs_take _ l l.length (Nat.le_refl _) (fun k hk => (hb k hk).1), List.take_length, hlen]
/-- and back: the bytes of what was read -/
theorem list_nine {a : List Int} {m : Nat} (ha : a.length = 9 * m) (l : List api_Instr) (h : ∀ k, k < m → ∀ j, j < 9 → (enc9 (nth l (k : Int))).getD j 0 = nth a (((9 * k : Nat) : Int) + (j : Int))) : encs l m = a := by
  apply List.ext_getElem
  · rw [encs_len, ha]
  · intro i h1 h2
    have hk : i / 9 < m := by omega
    have e := enc_nth l m (i / 9) (i % 9) hk (by omega)
    rw [h (i / 9) hk (i % 9) (by omega)] at e
    unfold nth at e
    rw [show (((9 * (i / 9) : Nat) : Int) + ((i % 9 : Nat) : Int)).toNat = i by omega] at e
    rw [List.getD_eq_getElem?_getD, List.getD_eq_getElem?_getD, List.getElem?_eq_getElem h1, List.getElem?_eq_getElem h2] at e
    exact e
theorem bytes_one (a : List Int) (hb : ∀ x ∈ a, 0 ≤ x ∧ x ≤ 255) (k : Nat) (hk : k + 9 ≤ a.length) (n : Int) (hd : dF a k n = true) (j : Nat) (hj : j < 9) : (enc9 (dI a k)).getD j 0 = nth a ((k : Int) + (j : Int)) := by
  have bd : ∀ q : Nat, q < 9 → 0 ≤ nth a ((k : Int) + (q : Int)) ∧ nth a ((k : Int) + (q : Int)) ≤ 255 := fun q hq => by
    have e : nth a ((k : Int) + (q : Int)) = a[k + q] := by
      have := nth_mem a (k + q) (by omega)
      rw [← this]
      congr 1
    rw [e]
    exact hb _ (List.getElem_mem _)
  have b0 := bd 0 (by omega); have b1 := bd 1 (by omega); have b2 := bd 2 (by omega); have b3 := bd 3 (by omega); have b4 := bd 4 (by omega); have b5 := bd 5 (by omega); have b6 := bd 6 (by omega)
  simp only [Int.add_zero, Int.cast_ofNat_Int] at b0 b1 b2 b3 b4 b5 b6
  obtain ⟨y2, y3, y4, y5⟩ := by_dU b2 b3 b4 b5
  unfold dF at hd
  simp only [Bool.and_eq_true, decide_eq_true_eq] at hd
  obtain ⟨d1, d7, d8, -⟩ := hd
  unfold dI
  rw [w64 (x := nth a (k : Int)) (by omega) (by omega)] at d1 ⊢
  rw [w64 (x := nth a ((k : Int) + 1)) (by omega) (by omega)] at d1 ⊢
  rw [w64 (x := nth a ((k : Int) + 6)) (by omega) (by omega)]
  by_cases e : nth a (k : Int) = 10
  · rw [if_pos e] at d1 ⊢
    simp only [decide_eq_true_eq] at d1
    unfold enc9
    simp only [if_pos e]
    match j, hj with
    | 0, _ => show IntKind.u8.wrap _ = nth a ((k : Int) + 0); rw [Int.add_zero]; exact wu8 b0.1 b0.2
    | 1, _ => show IntKind.u8.wrap 0 = nth a ((k : Int) + 1); rw [d1]; rfl
    | 2, _ => exact y2
    | 3, _ => exact y3
    | 4, _ => exact y4
    | 5, _ => exact y5
    | 6, _ => exact wu8 b6.1 b6.2
    | 7, _ => exact d7.symm
    | 8, _ => exact d8.symm
  · rw [if_neg e]
    unfold enc9
    simp only [if_neg e]
    match j, hj with
    | 0, _ => show IntKind.u8.wrap _ = nth a ((k : Int) + 0); rw [Int.add_zero]; exact wu8 b0.1 b0.2
    | 1, _ => exact wu8 b1.1 b1.2
    | 2, _ => exact y2
    | 3, _ => exact y3
    | 4, _ => exact y4
    | 5, _ => exact y5
    | 6, _ => exact wu8 b6.1 b6.2
    | 7, _ => exact d7.symm
    | 8, _ => exact d8.symm
theorem decs_nth (a : List Int) : ∀ (m k : Nat), k < m → nth (decs a m) (k : Int) = dI a (9 * k)
  | m + 1, k, hk => by
    have hl := decs_len a m
    unfold nth
    rw [show (k : Int).toNat = k by omega]
    simp only [decs]
    by_cases hkm : k < m
    · have ih := decs_nth a m k hkm
      unfold nth at ih
      rw [show (k : Int).toNat = k by omega] at ih
      rw [List.getD_eq_getElem?_getD, List.getElem?_append_left (by omega), ← List.getD_eq_getElem?_getD]
      exact ih
    · have : k = m := by omega
      subst this
      rw [List.getD_eq_getElem?_getD, List.getElem?_append_right (by omega), hl, Nat.sub_self]
      rfl
theorem back (b : List Int) (hb : ∀ x ∈ b, 0 ≤ x ∧ x ≤ 255) (h : (decAll b).2.2 = 0) : encR (decAll b).1 = (b, 0) := by
  unfold decAll at h ⊢
  by_cases h1 : 2304 < b.length
  · rw [if_pos h1] at h; cases h
  · rw [if_neg h1] at h ⊢
    by_cases h9 : b.length % 9 = 0
    · rw [if_pos h9] at h ⊢
      unfold decR at h ⊢
      cases hf : (List.range (b.length / 9)).find? (fun k : Nat => !dF b (9 * k) ((b.length : Int) / 9)) with
      | some k => rw [hf] at h; cases h
      | none =>
        simp only
        have hno : ∀ k, k < b.length / 9 → dF b (9 * k) ((b.length : Int) / 9) = true := fun k hk => by
          have := List.find?_eq_none.1 hf k (List.mem_range.2 hk)
          simpa using this
        have hl := decs_len b (b.length / 9)
        have hc : chk (decs b (b.length / 9)) = 0 := by
          rw [chk_zero, hl]
          refine ⟨by omega, fun k hk => ?_⟩
          have := hno k hk
          unfold dF at this
          simp only [Bool.and_eq_true] at this
          rw [decs_nth b _ k hk, show ((b.length / 9 : Nat) : Int) = (b.length : Int) / 9 by omega]
          exact this.2.2.2
        unfold encR
        rw [if_pos hc, hl, list_nine (m := b.length / 9) (a := b) (by omega) _ (fun k hk j hj => by
          rw [decs_nth b _ k hk]
          exact bytes_one b hb (9 * k) (by omega) _ (hno k hk) j hj)]
    · rw [if_neg h9] at h; cases h
theorem Pure.codeBack (x0 : List api_Instr) (h0 : (okl ok_api_Instr 32) x0) (x1 : List Int) (h1 : (okl (fun n => (Lit.int .u8 n).wf = true) 1) x1) : isochronlaw03vCodeBack.f x0 x1 = some true := by
  have hj : isochronlaw03vCodeBack.j2 x1 = some true := by
    unfold isochronlaw03vCodeBack.j2
    rw [code_dec]
    simp only [Option.bind_some]
    by_cases e : (decAll x1).2.2 = 0
    · rw [if_pos e, code_enc, back x1 (fun x hx => wf8 (h1.1 x hx)) e]
      simp
    · rw [if_neg e]
      simp [awake_true]
  unfold isochronlaw03vCodeBack.f
  rw [code_enc]
  unfold encR
  by_cases h : chk x0 = 0
  · obtain ⟨hl, -⟩ := (chk_zero x0).1 h
    have hlen := encs_len x0 x0.length
    rw [if_pos h]
    simp only [Option.bind_some]
    rw [if_pos trivial, code_dec, there x0 h]
    simp only [Option.bind_some]
    rw [if_pos trivial, if_pos (by omega), same_self x0 hl]
    simp only [Option.bind_some]
    rw [if_pos trivial, w64 (by omega) (by omega), if_pos (by omega)]
    exact hj
  · rw [if_neg h]
    simp only [Option.bind_some]
    rw [if_neg h]
    exact hj
end Go.Proofs.Gx
