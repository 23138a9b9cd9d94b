/-
  What code.Encode and the reference's Encode compute: the same bytes.
-/
import Derived.Test.YtdiaknplnonddaaDoorPureCodeParts
namespace Go.Proofs.Gx
open Go.Sl
set_option linter.unusedVariables false
/-- an instruction's nine bytes, from its numbers as they are put -/
def enc9' (op a b c : Int) : List Int := [IntKind.u8.wrap op, IntKind.u8.wrap a, IntKind.u8.wrap (Int.fdiv (IntKind.u32.wrap (IntKind.i32.wrap b)) (2 ^ (min (24 : Int).toNat IntKind.u32.bits))), IntKind.u8.wrap (Int.fdiv (IntKind.u32.wrap (IntKind.i32.wrap b)) (2 ^ (min (16 : Int).toNat IntKind.u32.bits))), IntKind.u8.wrap (Int.fdiv (IntKind.u32.wrap (IntKind.i32.wrap b)) (2 ^ (min (8 : Int).toNat IntKind.u32.bits))), IntKind.u8.wrap (IntKind.u32.wrap (IntKind.i32.wrap b)), IntKind.u8.wrap c, 0, 0]
def enc9 (i : api_Instr) : List Int := if i.Op = 10 then enc9' i.Op 0 i.A i.C else enc9' i.Op i.A i.B i.C
def encs (l : List api_Instr) : Nat → List Int
  | 0 => []
  | k + 1 => encs l k ++ enc9 (nth l (k : Int))
theorem enc9_len (i : api_Instr) : (enc9 i).length = 9 := by unfold enc9; split <;> rfl
theorem encs_len (l : List api_Instr) : ∀ k, (encs l k).length = 9 * k
  | 0 => rfl
  | k + 1 => by simp only [encs, List.length_append, enc9_len, encs_len l k]; omega
theorem code_enc_loop (l : List api_Instr) (h : l.length ≤ 256) : code_Encode.l26 l (([] : List Int), 0) = some (encs l l.length, 0) := by
  unfold code_Encode.l26
  refine loopR_steps (body := code_Encode.l26b l) (fun k : Nat => (encs l k, (k : Int))) l.length (fun k hk => ?_) ?_
  · have hl := encs_len l k
    simp only [code_Encode.l26b, code_Encode.j28, encs, enc9]
    rw [if_pos (by omega), if_pos (by omega), w64 (by omega) (by omega)]
    by_cases h10 : (nth l (k : Int)).Op = 10
    · rw [if_pos h10, if_pos h10, if_pos (by omega), if_pos (by simp; omega)]
      simp [enc9']
    · rw [if_neg h10, if_neg h10, if_pos (by omega), if_pos (by simp; omega)]
      simp [enc9']
  · simp only [code_Encode.l26b]
    rw [if_neg (by omega)]
theorem ref_enc_loop (l : List api_Instr) (h : l.length ≤ 256) : isochronref03vEncode.l26 l (([] : List Int), 0) = some (encs l l.length, 0) := by
  unfold isochronref03vEncode.l26
  refine loopR_steps (body := isochronref03vEncode.l26b l) (fun k : Nat => (encs l k, (k : Int))) l.length (fun k hk => ?_) ?_
  · have hl := encs_len l k
    simp only [isochronref03vEncode.l26b, isochronref03vEncode.j28, encs, enc9]
    rw [if_pos (by omega), if_pos (by omega), w64 (by omega) (by omega)]
    by_cases h10 : (nth l (k : Int)).Op = 10
    · rw [if_pos h10, if_pos h10, if_pos (by omega)]
      simp [enc9']
    · rw [if_neg h10, if_neg h10, if_pos (by omega)]
      simp [enc9']
  · simp only [isochronref03vEncode.l26b]
    rw [if_neg (by omega)]
def encR (l : List api_Instr) : List Int × Int := if chk l = 0 then (encs l l.length, 0) else ([], chk l)
theorem code_enc (l : List api_Instr) : code_Encode.f l = some (encR l) := by
  unfold code_Encode.f encR
  rw [code_check_eq]
  simp only [Option.bind_some]
  by_cases h : chk l = 0
  · have hl := ((chk_zero l).1 h).1
    rw [if_pos h, if_pos h, w64 (by omega) (by omega), if_pos (by omega)]
    exact code_enc_loop l hl
  · rw [if_neg h, if_neg h]
theorem ref_enc (l : List api_Instr) : isochronref03vEncode.f l = some (encR l) := by
  unfold isochronref03vEncode.f encR
  rw [ref_check_eq]
  simp only [Option.bind_some]
  by_cases h : chk l = 0
  · have hl := ((chk_zero l).1 h).1
    rw [if_pos h, if_pos h]
    exact ref_enc_loop l hl
  · rw [if_neg h, if_neg h]
end Go.Proofs.Gx
