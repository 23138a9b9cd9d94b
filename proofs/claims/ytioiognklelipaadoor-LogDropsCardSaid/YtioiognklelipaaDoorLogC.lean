/-
  A log as a list of entries: New, Do.
-/
import Derived.Test.YtioiognklelipaaDoorLogB
namespace Go.Proofs.Gx
open Go.Sl
set_option linter.unusedVariables false
set_option linter.unusedSimpArgs false
theorem nth_sn {α : Type} [Inhabited α] (l : List α) (x : α) (k : Nat) (h : k < l.length) : nth (l ++ [x]) (k : Int) = nth l (k : Int) := by
  rw [nth_nat (by simp; omega), nth_nat h, List.getElem_append_left h]
theorem nth_sl {α : Type} [Inhabited α] (l : List α) (x : α) : nth (l ++ [x]) (l.length : Int) = x := by
  rw [nth_nat (by simp)]; simp
theorem Lg.nil (w : api_World) (e : Int) : Lg ⟨w, true, zst, e, [], false⟩ [] := by
  constructor <;> intros <;> first | rfl | (simp at *) | (rename_i k hk; simp at hk)
theorem LogOK.did {a : log_Log} {b : Int} (hA : LogOK a b) {m : api_Message} (hm : evB m = true) (hv : -9223372036854775808 ≤ m.Value ∧ m.Value ≤ 9223372036854775807) (u : Int) (kept : List api_Message) (hb : b + 4096 ≤ 1125899906842624) (hl : a.l.length < 20000) : LogOK (doS a m u kept) (b + 4096) :=
  ⟨hA.made, hA.chk, (vm_step hA.chk hm hv hA.st hA.low).next, hb, by show (a.l ++ [_]).length ≤ _; simp; omega⟩
theorem Lg.did {a : log_Log} {es : List api_Entry} (h : Lg a es) {b : Int} (hA : LogOK a b) {m : api_Message} (hm : evB m = true) (hv : -9223372036854775808 ≤ m.Value ∧ m.Value ≤ 9223372036854775807) (u : Int) (kept : List api_Message) : Lg (doS a m u kept) (es ++ [entS a m u kept]) := by
  have hn := h.len
  have hL : ∀ k : Nat, k < es.length → nth (doS a m u kept).l (k : Int) = nth a.l (k : Int) := fun k hk => nth_sn _ _ _ (by omega)
  have hL' : nth (doS a m u kept).l (es.length : Int) = doneS a m u kept := by rw [hn]; exact nth_sl _ _
  have hE : ∀ k : Nat, k < es.length → nth (es ++ [entS a m u kept]) (k : Int) = nth es (k : Int) := fun k hk => nth_sn _ _ _ hk
  have hE' : nth (es ++ [entS a m u kept]) (es.length : Int) = entS a m u kept := nth_sl _ _
  have two : ∀ {p : Nat → Prop}, (∀ k, k < es.length → p k) → p es.length → ∀ k, k < (es ++ [entS a m u kept]).length → p k := fun h1 h2 k hk => by
    rw [List.length_append, List.length_singleton] at hk
    rcases Nat.lt_or_ge k es.length with h | h
    · exact h1 k h
    · rw [show k = es.length by omega]; exact h2
  refine ⟨by show _ = (a.l ++ [_]).length; simp; omega, two (fun k hk => ?_) ?_, two (fun k hk => ?_) ?_, two (fun k hk => ?_) ?_, two (fun k hk => ?_) ?_, fun _ => ?_, fun k hk => ?_, fun k hk => ?_, two (fun k hk => ?_) ?_, two (fun k hk => ?_) ?_, two (fun k hk => ?_) ?_⟩
  · rw [hL k hk, hE k hk]; exact h.ev k hk
  · rw [hL', hE']; rfl
  · rw [hL k hk, hE k hk]; exact h.fl k hk
  · rw [hL', hE']; rfl
  · rw [hL k hk, hE k hk]; exact h.sn k hk
  · rw [hL', hE']; rfl
  · rw [hL k hk, hE k hk]; exact h.ah k hk
  · rw [hL', hE']
    unfold doneS
    split
    · exact fun _ => rfl
    · exact fun h => by cases h
  · by_cases h0 : 0 < es.length
    · have := hL 0 h0
      rw [show ((0 : Nat) : Int) = 0 from rfl] at this
      rw [this]; exact h.first h0
    · have e : es.length = 0 := by omega
      rw [e] at hL'
      have hL' : nth (doS a m u kept).l 0 = doneS a m u kept := hL'
      rw [hL']
      have hd : dueS a = true := by
        unfold dueS
        rw [show a.l.length = 0 by omega]
        rfl
      unfold doneS
      rw [hd]
      rfl
  · rw [List.length_append, List.length_singleton] at hk
    show (vmRun a.w _ _).1 = _
    rw [hE k (by omega)]
    rcases Nat.lt_or_ge (k + 1) es.length with h1 | h1
    · rw [hE (k + 1) h1]; exact h.step k h1
    · rw [show k + 1 = es.length by omega, hE']; exact h.last k (by omega)
  · rw [List.length_append, List.length_singleton] at hk
    rw [show k = es.length by omega, hE']
    rfl
  · rw [hE k hk]; exact h.regs k hk
  · rw [hE']; exact hA.st.regs
  · rw [hE k hk]; exact h.val k hk
  · rw [hE']; exact hv
  · rw [hE k hk]; exact h.few k hk
  · rw [hE']; exact (sentS_len hA hm hv u kept).2
end Go.Proofs.Gx
