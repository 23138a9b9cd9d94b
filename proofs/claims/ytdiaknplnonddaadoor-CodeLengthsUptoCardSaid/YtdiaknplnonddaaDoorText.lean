/-
  What code.Text and the reference's Text compute: the same words.
-/
import Derived.Test.YtdiaknplnonddaaDoorOpen
namespace Go.Proofs.Gx
open Go.Sl
set_option linter.unusedVariables false
def arg (a : api_Instr) (k : Nat) : Int := nth ([a.A, a.B, a.C] : List Int) (k : Int)
theorem arg_ok {a : api_Instr} (h : ok_api_Instr a) (k : Nat) (hk : k < 3) : -9223372036854775808 ≤ arg a k ∧ arg a k ≤ 9223372036854775807 := by
  obtain ⟨_, hA, hB, hC⟩ := h
  match k, hk with
  | 0, _ => exact wf64 hA
  | 1, _ => exact wf64 hB
  | 2, _ => exact wf64 hC
def rtx (a : api_Instr) (s : ByteArray) : Nat → ByteArray
  | 0 => s
  | k + 1 => (rtx a s k ++ lit_20) ++ itoaB (arg a k)
theorem rtx_size {a : api_Instr} (h : ok_api_Instr a) (s : ByteArray) : ∀ k, k ≤ 3 → (rtx a s k).size ≤ s.size + 21 * k
  | 0, _ => by simp [rtx]
  | k + 1, hk => by
    have ih := rtx_size h s k (by omega)
    have hz := itoa_size (arg_ok h k (by omega)).1 (arg_ok h k (by omega)).2
    have h1 : lit_20.size = 1 := rfl
    simp only [rtx, ByteArray.size_append]
    omega
theorem ref_l4 {a : api_Instr} (h : ok_api_Instr a) (s : ByteArray) (hs : s.size ≤ 10) (n : Nat) (hn : n ≤ 3) : isochronref03vText.l4 a (n : Int) (s, 0) = some (rtx a s n) := by
  unfold isochronref03vText.l4
  refine loopR_steps (fun k => (rtx a s k, (k : Int))) n (fun k hk => ?_) ?_
  · have hz := itoa_size (arg_ok h k (by omega)).1 (arg_ok h k (by omega)).2
    have hr := rtx_size h s k (by omega)
    have h1 : lit_20.size = 1 := rfl
    have hl : (([a.A, a.B, a.C] : List Int).length : Int) = 3 := rfl
    have ha : nth ([a.A, a.B, a.C] : List Int) (k : Int) = arg a k := rfl
    simp only [isochronref03vText.l4b, ha]
    rw [if_pos (by omega), if_pos (by omega), if_pos (by rw [hl]; omega), if_pos (arg_ok h k (by omega)), if_pos (by rw [ByteArray.size_append]; omega), w64 (by omega) (by omega)]
    rfl
  · simp only [isochronref03vText.l4b]
    rw [if_neg (by omega)]
def addw (a : api_Instr) (sh s : ByteArray) (k : Nat) : ByteArray := if bt sh (k : Int) = 45 then s else s ++ (lit_20 ++ itoaB (arg a k))
theorem addw_size {a : api_Instr} (h : ok_api_Instr a) (sh s : ByteArray) (k : Nat) (hk : k < 3) : (addw a sh s k).size ≤ s.size + 21 := by
  have hz := itoa_size (arg_ok h k hk).1 (arg_ok h k hk).2
  have h1 : lit_20.size = 1 := rfl
  unfold addw
  split
  · omega
  · simp only [ByteArray.size_append]; omega
theorem code_step {a : api_Instr} (h : ok_api_Instr a) (sh s : ByteArray) (k : Nat) (hk : k < 3) (hs : sh.size = 3) (hz : s.size ≤ 100) : code_Text.l9b a sh (s, (k : Int)) = some (.inl (addw a sh s k, ((k + 1 : Nat) : Int))) := by
  have hi := itoa_size (arg_ok h k hk).1 (arg_ok h k hk).2
  have h1 : lit_20.size = 1 := rfl
  have ha : nth ([a.A, a.B, a.C] : List Int) (k : Int) = arg a k := rfl
  simp only [code_Text.l9b, code_Text.j10, addw, ha]
  rw [if_pos (by omega), if_pos (by omega), if_pos (by omega), w64 (by omega) (by omega)]
  by_cases hb : bt sh (k : Int) = 45
  · rw [if_pos hb, if_pos hb]; rfl
  · rw [if_neg hb, if_neg hb, if_pos (arg_ok h k hk), if_pos (by omega), if_pos (by rw [ByteArray.size_append]; omega)]
    rfl
def cst (a : api_Instr) (sh s : ByteArray) : Nat → ByteArray × Int
  | 0 => (s, 0)
  | 1 => (addw a sh s 0, 1)
  | 2 => (addw a sh (addw a sh s 0) 1, 2)
  | _ => (addw a sh (addw a sh (addw a sh s 0) 1) 2, 3)
theorem code_l9 {a : api_Instr} (h : ok_api_Instr a) (sh s : ByteArray) (hs : sh.size = 3) (hz : s.size ≤ 10) : code_Text.l9 a sh (s, 0) = some (addw a sh (addw a sh (addw a sh s 0) 1) 2) := by
  have z0 := addw_size h sh s 0 (by omega)
  have z1 := addw_size h sh (addw a sh s 0) 1 (by omega)
  unfold code_Text.l9
  refine (show loopR (code_Text.l9b a sh) (cst a sh s 0) = _ from loopR_steps (cst a sh s) 3 (fun k hk => ?_) ?_)
  · match k, hk with
    | 0, _ => exact code_step h sh s 0 (by omega) hs (by omega)
    | 1, _ => exact code_step h sh _ 1 (by omega) hs (by omega)
    | 2, _ => exact code_step h sh _ 2 (by omega) hs (by omega)
  · simp only [cst, code_Text.l9b]
    rw [if_neg (by omega)]
theorem addw_rtx {a : api_Instr} (sh s : ByteArray) (n : Nat) (hn : n ≤ 3) (hb : ∀ k : Nat, k < 3 → (bt sh (k : Int) = 45 ↔ n ≤ k)) : addw a sh (addw a sh (addw a sh s 0) 1) 2 = rtx a s n := by
  have b0 := hb 0 (by omega)
  have b1 := hb 1 (by omega)
  have b2 := hb 2 (by omega)
  unfold addw
  match n, hn with
  | 0, _ => rw [if_pos (b2.2 (by omega)), if_pos (b1.2 (by omega)), if_pos (b0.2 (by omega))]; rfl
  | 1, _ => rw [if_pos (b2.2 (by omega)), if_pos (b1.2 (by omega)), if_neg (fun x => by have := b0.1 x; omega)]; simp only [rtx, ByteArray.append_assoc]
  | 2, _ => rw [if_pos (b2.2 (by omega)), if_neg (fun x => by have := b1.1 x; omega), if_neg (fun x => by have := b0.1 x; omega)]; simp only [rtx, ByteArray.append_assoc]
  | 3, _ => rw [if_neg (fun x => by have := b2.1 x; omega), if_neg (fun x => by have := b1.1 x; omega), if_neg (fun x => by have := b0.1 x; omega)]; simp only [rtx, ByteArray.append_assoc]
/-- an instruction's name; how many numbers it has -/
def nameOf (op : Int) : ByteArray := nth ([lit_halt, lit_set, lit_move, lit_add, lit_sub, lit_mul, lit_div, lit_mod, lit_less, lit_same, lit_jump, lit_zero, lit_send, lit_draw, lit_value, lit_time, lit_self] : List ByteArray) op
def manyOf (op : Int) : Int := nth ([0, 2, 2, 3, 3, 3, 3, 3, 3, 3, 1, 2, 3, 2, 1, 1, 1] : List Int) op
def shapeOf (op : Int) : ByteArray := nth ([lit_2d2d2d, lit_726e2d, lit_72722d, lit_rrr, lit_rrr, lit_rrr, lit_rrr, lit_rrr, lit_rrr, lit_rrr, lit_702d2d, lit_72702d, lit_rrr, lit_72722d, lit_722d2d, lit_722d2d, lit_722d2d] : List ByteArray) op
def txt (a : api_Instr) : ByteArray := if 0 ≤ a.Op ∧ a.Op < 17 then rtx a (nameOf a.Op) (manyOf a.Op).toNat else rtx a lit_3f 3
theorem ops17 {p : Int → Prop} (op : Int) (h0 : 0 ≤ op) (h1 : op < 17) (h : ∀ k : Fin 17, p (k.val : Int)) : p op := by
  have := h ⟨op.toNat, by omega⟩
  have e : ((op.toNat : Nat) : Int) = op := Int.toNat_of_nonneg h0
  exact e ▸ this
theorem op_facts (op : Int) (h0 : 0 ≤ op) (h1 : op < 17) : (shapeOf op).size = 3 ∧ (nameOf op).size ≤ 10 ∧ (manyOf op).toNat ≤ 3 ∧ manyOf op = ((manyOf op).toNat : Int) ∧ ∀ k : Nat, k < 3 → (bt (shapeOf op) (k : Int) = 45 ↔ (manyOf op).toNat ≤ k) :=
  ops17 (p := fun op => (shapeOf op).size = 3 ∧ (nameOf op).size ≤ 10 ∧ (manyOf op).toNat ≤ 3 ∧ manyOf op = ((manyOf op).toNat : Int) ∧ ∀ k : Nat, k < 3 → (bt (shapeOf op) (k : Int) = 45 ↔ (manyOf op).toNat ≤ k)) op h0 h1 (by decide)
theorem code_text {a : api_Instr} (h : ok_api_Instr a) : code_Text.f a = some (txt a) := by
  unfold code_Text.f txt
  by_cases h0 : 0 ≤ a.Op
  · by_cases h1 : a.Op < 17
    · obtain ⟨f1, f2, f3, f4, f5⟩ := op_facts a.Op h0 h1
      rw [if_pos h0, if_pos h1, if_pos ⟨h0, h1⟩, ← addw_rtx (shapeOf a.Op) (nameOf a.Op) _ f3 f5]
      exact code_l9 h (shapeOf a.Op) (nameOf a.Op) f1 f2
    · rw [if_pos h0, if_neg h1, if_neg (fun x => h1 x.2), ← addw_rtx lit_nnn lit_3f 3 (Nat.le_refl _) (by decide)]
      exact code_l9 h lit_nnn lit_3f rfl (by decide)
  · rw [if_neg h0, if_neg (fun x => h0 x.1), ← addw_rtx lit_nnn lit_3f 3 (Nat.le_refl _) (by decide)]
    exact code_l9 h lit_nnn lit_3f rfl (by decide)
theorem ref_text {a : api_Instr} (h : ok_api_Instr a) : isochronref03vText.f a = some (txt a) := by
  unfold isochronref03vText.f txt
  have l1 : (([lit_halt, lit_set, lit_move, lit_add, lit_sub, lit_mul, lit_div, lit_mod, lit_less, lit_same, lit_jump, lit_zero, lit_send, lit_draw, lit_value, lit_time, lit_self]).length : Int) = 17 := rfl
  have l2 : (([0, 2, 2, 3, 3, 3, 3, 3, 3, 3, 1, 2, 3, 2, 1, 1, 1]).length : Int) = 17 := rfl
  rw [l1, l2]
  by_cases h0 : 0 ≤ a.Op
  · by_cases h1 : a.Op < 17
    · obtain ⟨f1, f2, f3, f4, f5⟩ := op_facts a.Op h0 h1
      rw [if_pos h0, if_pos h1, if_pos h1, if_pos ⟨h0, h1⟩]
      have := ref_l4 h (nameOf a.Op) f2 _ f3
      rw [← f4] at this
      exact this
    · rw [if_pos h0, if_neg h1, if_neg (fun x => h1 x.2)]
      exact ref_l4 h lit_3f (by decide) 3 (Nat.le_refl _)
  · rw [if_neg h0, if_neg (fun x => h0 x.1)]
    exact ref_l4 h lit_3f (by decide) 3 (Nat.le_refl _)
theorem awake_true : isochronlaw03vawake.f = some true := by
  unfold isochronlaw03vawake.f
  rw [code_text (a := ⟨1, 1, 5, 0⟩) ⟨rfl, rfl, rfl, rfl⟩]
  have e : txt ⟨1, 1, 5, 0⟩ = lit_73657420312035 := by
    have d1 : Lib.decDigits 1 = [49] := by rw [Lib.decDigits]; rfl
    have d5 : Lib.decDigits 5 = [53] := by rw [Lib.decDigits]; rfl
    have i1 : itoaB 1 = ⟨#[49]⟩ := by rw [itoa_nonneg (by omega)]; show (⟨(Lib.decDigits 1).toArray⟩ : ByteArray) = _; rw [d1]
    have i5 : itoaB 5 = ⟨#[53]⟩ := by rw [itoa_nonneg (by omega)]; show (⟨(Lib.decDigits 5).toArray⟩ : ByteArray) = _; rw [d5]
    show ((lit_set ++ lit_20) ++ itoaB 1 ++ lit_20) ++ itoaB 5 = _
    rw [i1, i5]
    rfl
  show some (decide (txt _ = lit_73657420312035)) = _
  rw [e]
  simp
end Go.Proofs.Gx
