/-
  What the reference's Run computes: the same as vm.Run.
-/
import Derived.Test.YtofgeidjbfmmdaaGreatDoorVmChk
import Derived.Test.YtofgeidjbfmmdaaGreatDoorAwakeV
import Derived.Test.YtofgeidjbfmmdaaGreatDoorW13
namespace Go.Proofs.Gx
open Go.Sl
set_option linter.unusedVariables false
set_option linter.unusedSimpArgs false
theorem ref_event_eq (m : api_Message) : isochronref02vCheck.f m = some (if evB m then 0 else 1) := by
  unfold isochronref02vCheck.f evB
  simp only [ref_valid_eq, Option.bind_some]
  cases timeB m.Key.Time with
  | false => rfl
  | true =>
    rw [if_pos rfl]
    unfold laneW
    by_cases h1 : m.Key.From < -1
    · rw [if_pos h1]; simp [show ¬ (-1 ≤ m.Key.From) by omega]
    rw [if_neg h1]
    by_cases h2 : 16 ≤ m.Key.From
    · rw [if_pos h2]; simp [show ¬ (m.Key.From < 16) by omega]
    rw [if_neg h2]
    by_cases h3 : m.Key.Seq < 0
    · rw [if_pos h3]; simp [show ¬ (0 ≤ m.Key.Seq) by omega]
    rw [if_neg h3]
    by_cases h4 : m.Uid < 0
    · rw [if_pos h4]; simp [show ¬ (0 ≤ m.Uid) by omega]
    rw [if_neg h4]
    by_cases h5 : m.To < 0
    · rw [if_pos h5]; simp [show ¬ (0 ≤ m.To) by omega]
    rw [if_neg h5]
    by_cases h6 : 16 ≤ m.To
    · rw [if_pos h6]; simp [show ¬ (m.To < 16) by omega]
    rw [if_neg h6]
    simp [show -1 ≤ m.Key.From by omega, show m.Key.From < 16 by omega, show 0 ≤ m.Key.Seq by omega, show 0 ≤ m.Uid by omega, show 0 ≤ m.To by omega, show m.To < 16 by omega]
theorem ref_state_eq (s : api_State) : isochronref05vState.f s = some (stB s) := by
  unfold isochronref05vState.f stB
  by_cases h1 : 0 ≤ s.Draws <;> by_cases h2 : s.Draws ≤ 1125899906842624 <;> by_cases h3 : 0 ≤ s.Sent <;> simp [h1, h2, h3]
def fo (a k : Int) : Int := IntKind.u64.wrap (BitVec.ofInt IntKind.u64.bits a ^^^ BitVec.ofInt IntKind.u64.bits (Int.fdiv a (2 ^ (min (k : Int).toNat IntKind.u64.bits)))).toNat
theorem fold_eq (x : draw_word) (k : Int) (h : 0 ≤ k) : draw_word_fold.f x k = some (fo x.x k) := by unfold draw_word_fold.f; rw [if_pos h]; rfl
theorem times_eq (x : draw_mixer) (k c : Int) (h : 0 ≤ k) : draw_mixer_times.f x k c = some ⟨⟨IntKind.u64.wrap (fo x.word.x k * c)⟩⟩ := by
  unfold draw_mixer_times.f
  rw [fold_eq _ _ h]
  rfl
theorem draw_mix_eq (x : Int) : draw_Mix.f x = some (fo (IntKind.u64.wrap (fo (IntKind.u64.wrap (fo (IntKind.u64.wrap (x + 11400714819323198485)) 30 * 13787848793156543929)) 27 * 10723151780598845931)) 31) := by
  unfold draw_Mix.f
  rw [times_eq _ _ _ (by decide), Option.bind_some, times_eq _ _ _ (by decide), Option.bind_some, fold_eq _ _ (by decide), Option.bind_some]
theorem mix_eq (x : Int) : isochronref04vMix.f x = draw_Mix.f x := by
  rw [draw_mix_eq]
  unfold isochronref04vMix.f
  simp only [fo]
theorem ref_at_eq (a b c : Int) : isochronref04vAt.f a b c = draw_At.f a b c := by
  obtain ⟨x, h1⟩ := mix_some a
  obtain ⟨y, h2⟩ := mix_some (IntKind.u64.wrap (x + IntKind.u64.wrap b))
  obtain ⟨z, h3⟩ := mix_some (IntKind.u64.wrap (y + IntKind.u64.wrap c))
  rw [at_steps a b c x y z h1 h2 h3]
  unfold isochronref04vAt.f
  rw [mix_eq, h1, Option.bind_some, mix_eq, h2, Option.bind_some, mix_eq, h3, Option.bind_some]
theorem ref_below_eq (a b c d : Int) (hd : d ≤ 9223372036854775807) : isochronref04vBelow.f a b c d = some (below a b c d) := by
  refine Eq.trans ?_ (below_eq a b c d hd)
  unfold isochronref04vBelow.f draw_Below.f
  rw [ref_at_eq]
  generalize draw_At.f a b c = o
  by_cases h : d ≤ 0
  · rw [if_pos h, if_pos (by omega)]
  · rw [if_neg h, if_neg (by omega)]
theorem math_eq (op b c : Int) (h0 : 3 ≤ op) (h1 : op ≤ 9) : isochronref05vmath.f op b c = some (alu op b c) := by
  have key : op = 3 ∨ op = 4 ∨ op = 5 ∨ op = 6 ∨ op = 7 ∨ op = 8 ∨ op = 9 := by omega
  unfold isochronref05vmath.f isochronref05vmath.j2 isochronref05vleast.f alu dv md
  rcases key with h | h | h | h | h | h | h <;> subst h
  · rfl
  · rfl
  · rfl
  · by_cases a1 : c = 0
    · simp [a1]
    · by_cases a2 : b = -9223372036854775808 <;> by_cases a3 : c = -1 <;> simp [a1, a2, a3]
  · by_cases a1 : c = 0
    · simp [a1]
    · by_cases a2 : b = -9223372036854775808 <;> by_cases a3 : c = -1 <;> simp [a1, a2, a3]
  · show (if b < c then some 1 else some 0) = some (if b < c then (1 : Int) else 0)
    split <;> rfl
  · show (if b = c then some 1 else some 0) = some (if b = c then (1 : Int) else 0)
    split <;> rfl
def RefStep (w : api_World) (m : api_Message) (rg : Rg) (dr : Int) (outs : List api_Out) (at_ : Int) : Prop :=
  (∃ s', stp w m (nth w.Prog at_) rg dr outs (at_ + 1) = .inl s' ∧ isochronref05vrun_step.f w.Prog w.Self w.Links w.Seed m.Key.Time m.Key.From m.Key.Seq m.To m.Value m.Uid m.Anti rg dr outs at_ = some (0, true, s'.1, s'.2.1, s'.2.2.1, s'.2.2.2)) ∨
  (stp w m (nth w.Prog at_) rg dr outs (at_ + 1) = .inl (rg, dr, outs, (w.Prog.length : Int)) ∧ isochronref05vrun_step.f w.Prog w.Self w.Links w.Seed m.Key.Time m.Key.From m.Key.Seq m.To m.Value m.Uid m.Anti rg dr outs at_ = some (0, false, rg, dr, outs, at_ + 1)) ∨
  (∃ e, e ≠ 0 ∧ stp w m (nth w.Prog at_) rg dr outs (at_ + 1) = .inr e ∧ isochronref05vrun_step.f w.Prog w.Self w.Links w.Seed m.Key.Time m.Key.From m.Key.Seq m.To m.Value m.Uid m.Anti rg dr outs at_ = some (e, false, rg, dr, outs, at_ + 1))

theorem rstep_halt {w : api_World} {m : api_Message} (hF : Fine w m) {rg : Rg} {dr : Int} {outs : List api_Out} {at_ : Int} (hI : Inv w (rg, dr, outs, at_)) (ha : at_ < (w.Prog.length : Int)) (hop : (nth w.Prog at_).Op = 0) : RefStep w m rg dr outs at_ := by
  obtain ⟨i1, i2, i3, i4⟩ := hI
  simp only at i1 i2 i3 i4
  have hn := hF.many
  have hp := may_parts (by have := hF.may at_.toNat (by omega); rw [Int.toNat_of_nonneg i3] at this; exact this)
  refine .inr (.inl ⟨by unfold stp; rw [if_pos hop], ?_⟩)
  unfold isochronref05vrun_step.f
  rw [if_pos (by omega), if_pos hop]
  rw [w64 (x := at_ + 1) (by omega) (by omega)]

theorem rstep_set {w : api_World} {m : api_Message} (hF : Fine w m) {rg : Rg} {dr : Int} {outs : List api_Out} {at_ : Int} (hI : Inv w (rg, dr, outs, at_)) (ha : at_ < (w.Prog.length : Int)) (hop : (nth w.Prog at_).Op = 1) : RefStep w m rg dr outs at_ := by
  obtain ⟨i1, i2, i3, i4⟩ := hI
  simp only at i1 i2 i3 i4
  have hn := hF.many
  have hp := may_parts (by have := hF.may at_.toNat (by omega); rw [Int.toNat_of_nonneg i3] at this; exact this)
  have hA := rr (n := (w.Prog.length : Int)) (by have := hp.2.1; rw [hop] at this; exact this)
  have hB := rn (n := (w.Prog.length : Int)) (by have := hp.2.2.1; rw [hop] at this; exact this)
  refine .inl ⟨_, by unfold stp; rw [if_neg (by rw [hop]; decide), if_pos hop], ?_⟩
  unfold isochronref05vrun_step.f
  rw [if_pos (by omega), if_neg (by rw [hop]; decide), if_pos hop]
  rw [if_pos hA, w64 (x := at_ + 1) (by omega) (by omega)]
  try rfl

theorem rstep_move {w : api_World} {m : api_Message} (hF : Fine w m) {rg : Rg} {dr : Int} {outs : List api_Out} {at_ : Int} (hI : Inv w (rg, dr, outs, at_)) (ha : at_ < (w.Prog.length : Int)) (hop : (nth w.Prog at_).Op = 2) : RefStep w m rg dr outs at_ := by
  obtain ⟨i1, i2, i3, i4⟩ := hI
  simp only at i1 i2 i3 i4
  have hn := hF.many
  have hp := may_parts (by have := hF.may at_.toNat (by omega); rw [Int.toNat_of_nonneg i3] at this; exact this)
  have hA := rr (n := (w.Prog.length : Int)) (by have := hp.2.1; rw [hop] at this; exact this)
  have hB := rr (n := (w.Prog.length : Int)) (by have := hp.2.2.1; rw [hop] at this; exact this)
  refine .inl ⟨_, by unfold stp; rw [if_neg (by rw [hop]; decide), if_neg (by rw [hop]; decide), if_pos hop], ?_⟩
  unfold isochronref05vrun_step.f
  rw [if_pos (by omega), if_neg (by rw [hop]; decide), if_neg (by rw [hop]; decide), if_pos hop]
  rw [if_pos hB, if_pos hA, w64 (x := at_ + 1) (by omega) (by omega)]
  try rfl

theorem rstep_add {w : api_World} {m : api_Message} (hF : Fine w m) {rg : Rg} {dr : Int} {outs : List api_Out} {at_ : Int} (hI : Inv w (rg, dr, outs, at_)) (ha : at_ < (w.Prog.length : Int)) (hop : (nth w.Prog at_).Op = 3) : RefStep w m rg dr outs at_ := by
  obtain ⟨i1, i2, i3, i4⟩ := hI
  simp only at i1 i2 i3 i4
  have hn := hF.many
  have hp := may_parts (by have := hF.may at_.toNat (by omega); rw [Int.toNat_of_nonneg i3] at this; exact this)
  have hA := rr (n := (w.Prog.length : Int)) (by have := hp.2.1; rw [hop] at this; exact this)
  have hB := rr (n := (w.Prog.length : Int)) (by have := hp.2.2.1; rw [hop] at this; exact this)
  have hC := rr (n := (w.Prog.length : Int)) (by have := hp.2.2.2; rw [hop] at this; exact this)
  refine .inl ⟨_, by unfold stp; rw [if_neg (by rw [hop]; decide), if_neg (by rw [hop]; decide), if_neg (by rw [hop]; decide), if_pos (by rw [hop]; decide)], ?_⟩
  unfold isochronref05vrun_step.f
  rw [if_pos (by omega), if_neg (by rw [hop]; decide), if_neg (by rw [hop]; decide), if_neg (by rw [hop]; decide), if_neg (by rw [hop]; decide), if_neg (by rw [hop]; decide), if_neg (by rw [hop]; decide), if_neg (by rw [hop]; decide), if_neg (by rw [hop]; decide), if_neg (by rw [hop]; decide), if_neg (by rw [hop]; decide)]
  rw [if_pos hB, if_pos hC, math_eq _ _ _ (by rw [hop]; decide) (by rw [hop]; decide)]
  simp only [Option.bind_some]
  rw [if_pos hA, w64 (x := at_ + 1) (by omega) (by omega)]
  try rfl

theorem rstep_sub {w : api_World} {m : api_Message} (hF : Fine w m) {rg : Rg} {dr : Int} {outs : List api_Out} {at_ : Int} (hI : Inv w (rg, dr, outs, at_)) (ha : at_ < (w.Prog.length : Int)) (hop : (nth w.Prog at_).Op = 4) : RefStep w m rg dr outs at_ := by
  obtain ⟨i1, i2, i3, i4⟩ := hI
  simp only at i1 i2 i3 i4
  have hn := hF.many
  have hp := may_parts (by have := hF.may at_.toNat (by omega); rw [Int.toNat_of_nonneg i3] at this; exact this)
  have hA := rr (n := (w.Prog.length : Int)) (by have := hp.2.1; rw [hop] at this; exact this)
  have hB := rr (n := (w.Prog.length : Int)) (by have := hp.2.2.1; rw [hop] at this; exact this)
  have hC := rr (n := (w.Prog.length : Int)) (by have := hp.2.2.2; rw [hop] at this; exact this)
  refine .inl ⟨_, by unfold stp; rw [if_neg (by rw [hop]; decide), if_neg (by rw [hop]; decide), if_neg (by rw [hop]; decide), if_pos (by rw [hop]; decide)], ?_⟩
  unfold isochronref05vrun_step.f
  rw [if_pos (by omega), if_neg (by rw [hop]; decide), if_neg (by rw [hop]; decide), if_neg (by rw [hop]; decide), if_neg (by rw [hop]; decide), if_neg (by rw [hop]; decide), if_neg (by rw [hop]; decide), if_neg (by rw [hop]; decide), if_neg (by rw [hop]; decide), if_neg (by rw [hop]; decide), if_neg (by rw [hop]; decide)]
  rw [if_pos hB, if_pos hC, math_eq _ _ _ (by rw [hop]; decide) (by rw [hop]; decide)]
  simp only [Option.bind_some]
  rw [if_pos hA, w64 (x := at_ + 1) (by omega) (by omega)]
  try rfl

theorem rstep_mul {w : api_World} {m : api_Message} (hF : Fine w m) {rg : Rg} {dr : Int} {outs : List api_Out} {at_ : Int} (hI : Inv w (rg, dr, outs, at_)) (ha : at_ < (w.Prog.length : Int)) (hop : (nth w.Prog at_).Op = 5) : RefStep w m rg dr outs at_ := by
  obtain ⟨i1, i2, i3, i4⟩ := hI
  simp only at i1 i2 i3 i4
  have hn := hF.many
  have hp := may_parts (by have := hF.may at_.toNat (by omega); rw [Int.toNat_of_nonneg i3] at this; exact this)
  have hA := rr (n := (w.Prog.length : Int)) (by have := hp.2.1; rw [hop] at this; exact this)
  have hB := rr (n := (w.Prog.length : Int)) (by have := hp.2.2.1; rw [hop] at this; exact this)
  have hC := rr (n := (w.Prog.length : Int)) (by have := hp.2.2.2; rw [hop] at this; exact this)
  refine .inl ⟨_, by unfold stp; rw [if_neg (by rw [hop]; decide), if_neg (by rw [hop]; decide), if_neg (by rw [hop]; decide), if_pos (by rw [hop]; decide)], ?_⟩
  unfold isochronref05vrun_step.f
  rw [if_pos (by omega), if_neg (by rw [hop]; decide), if_neg (by rw [hop]; decide), if_neg (by rw [hop]; decide), if_neg (by rw [hop]; decide), if_neg (by rw [hop]; decide), if_neg (by rw [hop]; decide), if_neg (by rw [hop]; decide), if_neg (by rw [hop]; decide), if_neg (by rw [hop]; decide), if_neg (by rw [hop]; decide)]
  rw [if_pos hB, if_pos hC, math_eq _ _ _ (by rw [hop]; decide) (by rw [hop]; decide)]
  simp only [Option.bind_some]
  rw [if_pos hA, w64 (x := at_ + 1) (by omega) (by omega)]
  try rfl

theorem rstep_div {w : api_World} {m : api_Message} (hF : Fine w m) {rg : Rg} {dr : Int} {outs : List api_Out} {at_ : Int} (hI : Inv w (rg, dr, outs, at_)) (ha : at_ < (w.Prog.length : Int)) (hop : (nth w.Prog at_).Op = 6) : RefStep w m rg dr outs at_ := by
  obtain ⟨i1, i2, i3, i4⟩ := hI
  simp only at i1 i2 i3 i4
  have hn := hF.many
  have hp := may_parts (by have := hF.may at_.toNat (by omega); rw [Int.toNat_of_nonneg i3] at this; exact this)
  have hA := rr (n := (w.Prog.length : Int)) (by have := hp.2.1; rw [hop] at this; exact this)
  have hB := rr (n := (w.Prog.length : Int)) (by have := hp.2.2.1; rw [hop] at this; exact this)
  have hC := rr (n := (w.Prog.length : Int)) (by have := hp.2.2.2; rw [hop] at this; exact this)
  refine .inl ⟨_, by unfold stp; rw [if_neg (by rw [hop]; decide), if_neg (by rw [hop]; decide), if_neg (by rw [hop]; decide), if_pos (by rw [hop]; decide)], ?_⟩
  unfold isochronref05vrun_step.f
  rw [if_pos (by omega), if_neg (by rw [hop]; decide), if_neg (by rw [hop]; decide), if_neg (by rw [hop]; decide), if_neg (by rw [hop]; decide), if_neg (by rw [hop]; decide), if_neg (by rw [hop]; decide), if_neg (by rw [hop]; decide), if_neg (by rw [hop]; decide), if_neg (by rw [hop]; decide), if_neg (by rw [hop]; decide)]
  rw [if_pos hB, if_pos hC, math_eq _ _ _ (by rw [hop]; decide) (by rw [hop]; decide)]
  simp only [Option.bind_some]
  rw [if_pos hA, w64 (x := at_ + 1) (by omega) (by omega)]
  try rfl

theorem rstep_mod {w : api_World} {m : api_Message} (hF : Fine w m) {rg : Rg} {dr : Int} {outs : List api_Out} {at_ : Int} (hI : Inv w (rg, dr, outs, at_)) (ha : at_ < (w.Prog.length : Int)) (hop : (nth w.Prog at_).Op = 7) : RefStep w m rg dr outs at_ := by
  obtain ⟨i1, i2, i3, i4⟩ := hI
  simp only at i1 i2 i3 i4
  have hn := hF.many
  have hp := may_parts (by have := hF.may at_.toNat (by omega); rw [Int.toNat_of_nonneg i3] at this; exact this)
  have hA := rr (n := (w.Prog.length : Int)) (by have := hp.2.1; rw [hop] at this; exact this)
  have hB := rr (n := (w.Prog.length : Int)) (by have := hp.2.2.1; rw [hop] at this; exact this)
  have hC := rr (n := (w.Prog.length : Int)) (by have := hp.2.2.2; rw [hop] at this; exact this)
  refine .inl ⟨_, by unfold stp; rw [if_neg (by rw [hop]; decide), if_neg (by rw [hop]; decide), if_neg (by rw [hop]; decide), if_pos (by rw [hop]; decide)], ?_⟩
  unfold isochronref05vrun_step.f
  rw [if_pos (by omega), if_neg (by rw [hop]; decide), if_neg (by rw [hop]; decide), if_neg (by rw [hop]; decide), if_neg (by rw [hop]; decide), if_neg (by rw [hop]; decide), if_neg (by rw [hop]; decide), if_neg (by rw [hop]; decide), if_neg (by rw [hop]; decide), if_neg (by rw [hop]; decide), if_neg (by rw [hop]; decide)]
  rw [if_pos hB, if_pos hC, math_eq _ _ _ (by rw [hop]; decide) (by rw [hop]; decide)]
  simp only [Option.bind_some]
  rw [if_pos hA, w64 (x := at_ + 1) (by omega) (by omega)]
  try rfl

theorem rstep_less {w : api_World} {m : api_Message} (hF : Fine w m) {rg : Rg} {dr : Int} {outs : List api_Out} {at_ : Int} (hI : Inv w (rg, dr, outs, at_)) (ha : at_ < (w.Prog.length : Int)) (hop : (nth w.Prog at_).Op = 8) : RefStep w m rg dr outs at_ := by
  obtain ⟨i1, i2, i3, i4⟩ := hI
  simp only at i1 i2 i3 i4
  have hn := hF.many
  have hp := may_parts (by have := hF.may at_.toNat (by omega); rw [Int.toNat_of_nonneg i3] at this; exact this)
  have hA := rr (n := (w.Prog.length : Int)) (by have := hp.2.1; rw [hop] at this; exact this)
  have hB := rr (n := (w.Prog.length : Int)) (by have := hp.2.2.1; rw [hop] at this; exact this)
  have hC := rr (n := (w.Prog.length : Int)) (by have := hp.2.2.2; rw [hop] at this; exact this)
  refine .inl ⟨_, by unfold stp; rw [if_neg (by rw [hop]; decide), if_neg (by rw [hop]; decide), if_neg (by rw [hop]; decide), if_pos (by rw [hop]; decide)], ?_⟩
  unfold isochronref05vrun_step.f
  rw [if_pos (by omega), if_neg (by rw [hop]; decide), if_neg (by rw [hop]; decide), if_neg (by rw [hop]; decide), if_neg (by rw [hop]; decide), if_neg (by rw [hop]; decide), if_neg (by rw [hop]; decide), if_neg (by rw [hop]; decide), if_neg (by rw [hop]; decide), if_neg (by rw [hop]; decide), if_neg (by rw [hop]; decide)]
  rw [if_pos hB, if_pos hC, math_eq _ _ _ (by rw [hop]; decide) (by rw [hop]; decide)]
  simp only [Option.bind_some]
  rw [if_pos hA, w64 (x := at_ + 1) (by omega) (by omega)]
  try rfl

theorem rstep_same {w : api_World} {m : api_Message} (hF : Fine w m) {rg : Rg} {dr : Int} {outs : List api_Out} {at_ : Int} (hI : Inv w (rg, dr, outs, at_)) (ha : at_ < (w.Prog.length : Int)) (hop : (nth w.Prog at_).Op = 9) : RefStep w m rg dr outs at_ := by
  obtain ⟨i1, i2, i3, i4⟩ := hI
  simp only at i1 i2 i3 i4
  have hn := hF.many
  have hp := may_parts (by have := hF.may at_.toNat (by omega); rw [Int.toNat_of_nonneg i3] at this; exact this)
  have hA := rr (n := (w.Prog.length : Int)) (by have := hp.2.1; rw [hop] at this; exact this)
  have hB := rr (n := (w.Prog.length : Int)) (by have := hp.2.2.1; rw [hop] at this; exact this)
  have hC := rr (n := (w.Prog.length : Int)) (by have := hp.2.2.2; rw [hop] at this; exact this)
  refine .inl ⟨_, by unfold stp; rw [if_neg (by rw [hop]; decide), if_neg (by rw [hop]; decide), if_neg (by rw [hop]; decide), if_pos (by rw [hop]; decide)], ?_⟩
  unfold isochronref05vrun_step.f
  rw [if_pos (by omega), if_neg (by rw [hop]; decide), if_neg (by rw [hop]; decide), if_neg (by rw [hop]; decide), if_neg (by rw [hop]; decide), if_neg (by rw [hop]; decide), if_neg (by rw [hop]; decide), if_neg (by rw [hop]; decide), if_neg (by rw [hop]; decide), if_neg (by rw [hop]; decide), if_neg (by rw [hop]; decide)]
  rw [if_pos hB, if_pos hC, math_eq _ _ _ (by rw [hop]; decide) (by rw [hop]; decide)]
  simp only [Option.bind_some]
  rw [if_pos hA, w64 (x := at_ + 1) (by omega) (by omega)]
  try rfl

theorem rstep_jump {w : api_World} {m : api_Message} (hF : Fine w m) {rg : Rg} {dr : Int} {outs : List api_Out} {at_ : Int} (hI : Inv w (rg, dr, outs, at_)) (ha : at_ < (w.Prog.length : Int)) (hop : (nth w.Prog at_).Op = 10) : RefStep w m rg dr outs at_ := by
  obtain ⟨i1, i2, i3, i4⟩ := hI
  simp only at i1 i2 i3 i4
  have hn := hF.many
  have hp := may_parts (by have := hF.may at_.toNat (by omega); rw [Int.toNat_of_nonneg i3] at this; exact this)
  have hA := rp (n := (w.Prog.length : Int)) (by have := hp.2.1; rw [hop] at this; exact this)
  refine .inl ⟨_, by unfold stp; rw [if_neg (by rw [hop]; decide), if_neg (by rw [hop]; decide), if_neg (by rw [hop]; decide), if_neg (by rw [hop]; decide), if_pos hop], ?_⟩
  unfold isochronref05vrun_step.f
  rw [if_pos (by omega), if_neg (by rw [hop]; decide), if_neg (by rw [hop]; decide), if_neg (by rw [hop]; decide), if_pos hop]
  try rfl

theorem rstep_zero {w : api_World} {m : api_Message} (hF : Fine w m) {rg : Rg} {dr : Int} {outs : List api_Out} {at_ : Int} (hI : Inv w (rg, dr, outs, at_)) (ha : at_ < (w.Prog.length : Int)) (hop : (nth w.Prog at_).Op = 11) : RefStep w m rg dr outs at_ := by
  obtain ⟨i1, i2, i3, i4⟩ := hI
  simp only at i1 i2 i3 i4
  have hn := hF.many
  have hp := may_parts (by have := hF.may at_.toNat (by omega); rw [Int.toNat_of_nonneg i3] at this; exact this)
  have hA := rr (n := (w.Prog.length : Int)) (by have := hp.2.1; rw [hop] at this; exact this)
  have hB := rp (n := (w.Prog.length : Int)) (by have := hp.2.2.1; rw [hop] at this; exact this)
  refine .inl ⟨_, by unfold stp; rw [if_neg (by rw [hop]; decide), if_neg (by rw [hop]; decide), if_neg (by rw [hop]; decide), if_neg (by rw [hop]; decide), if_neg (by rw [hop]; decide), if_pos hop], ?_⟩
  unfold isochronref05vrun_step.f
  rw [if_pos (by omega), if_neg (by rw [hop]; decide), if_neg (by rw [hop]; decide), if_neg (by rw [hop]; decide), if_neg (by rw [hop]; decide), if_pos hop]
  rw [if_pos hA, w64 (x := at_ + 1) (by omega) (by omega)]
  unfold rdR
  by_cases hz : rg ((nth w.Prog at_).A.toNat * 1) = 0
  · simp only [hz, if_true]
  · simp only [hz, if_false]

theorem rstep_send {w : api_World} {m : api_Message} (hF : Fine w m) {rg : Rg} {dr : Int} {outs : List api_Out} {at_ : Int} (hI : Inv w (rg, dr, outs, at_)) (ha : at_ < (w.Prog.length : Int)) (hop : (nth w.Prog at_).Op = 12) : RefStep w m rg dr outs at_ := by
  obtain ⟨i1, i2, i3, i4⟩ := hI
  simp only at i1 i2 i3 i4
  have hn := hF.many
  have hp := may_parts (by have := hF.may at_.toNat (by omega); rw [Int.toNat_of_nonneg i3] at this; exact this)
  have hA := rr (n := (w.Prog.length : Int)) (by have := hp.2.1; rw [hop] at this; exact this)
  have hB := rr (n := (w.Prog.length : Int)) (by have := hp.2.2.1; rw [hop] at this; exact this)
  have hC := rr (n := (w.Prog.length : Int)) (by have := hp.2.2.2; rw [hop] at this; exact this)
  have hst : stp w m (nth w.Prog at_) rg dr outs (at_ + 1) = (match sendS w m (nth w.Prog at_) rg outs with | .inl o => .inl (rg, dr, o, at_ + 1) | .inr e => .inr e) := by
    unfold stp
    rw [if_neg (by rw [hop]; decide), if_neg (by rw [hop]; decide), if_neg (by rw [hop]; decide), if_neg (by rw [hop]; decide), if_neg (by rw [hop]; decide), if_neg (by rw [hop]; decide), if_pos hop]
    rfl
  have hrf : isochronref05vrun_step.f w.Prog w.Self w.Links w.Seed m.Key.Time m.Key.From m.Key.Seq m.To m.Value m.Uid m.Anti rg dr outs at_ = ((isochronref05vrun_send.f w.Prog w.Self w.Links w.Seed m.Key.Time m.Key.From m.Key.Seq m.To m.Value m.Uid m.Anti rg dr outs (at_ + 1) (nth w.Prog at_)).bind fun (a, b) => some (a, (decide (a = 0)), rg, dr, b, at_ + 1)) := by
    unfold isochronref05vrun_step.f
    rw [if_pos (by omega), if_neg (by rw [hop]; decide), if_neg (by rw [hop]; decide), if_neg (by rw [hop]; decide), if_neg (by rw [hop]; decide), if_neg (by rw [hop]; decide), if_pos hop]
    rw [w64 (x := at_ + 1) (by omega) (by omega)]
  have hl := hF.links
  have ht := hF.time
  unfold RefStep
  rw [hst, hrf]
  unfold sendS isochronref05vrun_send.f
  by_cases h0 : (w.Links.length : Int) = 0
  · rw [if_pos h0, if_pos h0]; exact .inl ⟨_, rfl, rfl⟩
  rw [if_neg h0, if_neg h0]
  by_cases h8 : (outs.length : Int) = 8
  · rw [if_pos h8, if_pos (show 8 ≤ (outs.length : Int) by omega)]; exact .inl ⟨_, rfl, rfl⟩
  rw [if_neg h8, if_neg (show ¬ 8 ≤ (outs.length : Int) by omega), if_pos hA, if_pos h0]
  have hk2 := lkof_in (rdR rg (nth w.Prog at_).A) (n := (w.Links.length : Int)) (by omega) (by omega)
  have htm := tmod_lt (rg ((nth w.Prog at_).A.toNat * 1)) (n := (w.Links.length : Int)) (by omega)
  have hj : (if Int.tmod (rg ((nth w.Prog at_).A.toNat * 1)) (w.Links.length : Int) < 0 then isochronref05vrun_send.j2 w.Links m.Key.Time rg outs (nth w.Prog at_) (IntKind.i64.wrap ((Int.tmod (rg ((nth w.Prog at_).A.toNat * 1)) (w.Links.length : Int)) + (w.Links.length : Int))) else isochronref05vrun_send.j2 w.Links m.Key.Time rg outs (nth w.Prog at_) (Int.tmod (rg ((nth w.Prog at_).A.toNat * 1)) (w.Links.length : Int))) = isochronref05vrun_send.j2 w.Links m.Key.Time rg outs (nth w.Prog at_) (lkof (rdR rg (nth w.Prog at_).A) (w.Links.length : Int)) := by
    unfold lkof rdR
    generalize Int.tmod (rg ((nth w.Prog at_).A.toNat * 1)) (w.Links.length : Int) = x at htm
    rw [w64 (x := x + (w.Links.length : Int)) (by omega) (by omega)]
    by_cases hx : x < 0
    · rw [if_pos hx, Int.tmod_eq_of_lt (by omega) (by omega)]
    · rw [if_neg hx]
      have : Int.tmod (x + (w.Links.length : Int)) (w.Links.length : Int) = x := by
        rw [Int.tmod_eq_emod_of_nonneg (by omega), Int.add_emod_right]
        exact Int.emod_eq_of_lt (by omega) (by omega)
      rw [this]
  rw [hj]
  unfold isochronref05vrun_send.j2
  rw [if_pos hB, if_pos hk2]
  by_cases hd : rdR rg (nth w.Prog at_).B < (nth w.Links (lkof (rdR rg (nth w.Prog at_).A) (w.Links.length : Int))).Look
  · rw [if_pos hd, if_pos (show rg ((nth w.Prog at_).B.toNat * 1) < _ from hd)]
    exact .inr (.inr ⟨50, by decide, rfl, rfl⟩)
  rw [if_neg hd, if_neg (show ¬ rg ((nth w.Prog at_).B.toNat * 1) < _ from hd), w64 (x := 4611686018427387903 - m.Key.Time) (by omega) (by omega)]
  by_cases h10 : 4611686018427387903 - m.Key.Time < rdR rg (nth w.Prog at_).B
  · rw [if_pos h10, if_pos (show 4611686018427387903 - m.Key.Time < rg ((nth w.Prog at_).B.toNat * 1) from h10)]
    exact .inr (.inr ⟨10, by decide, rfl, rfl⟩)
  · rw [if_neg h10, if_neg (show ¬ 4611686018427387903 - m.Key.Time < rg ((nth w.Prog at_).B.toNat * 1) from h10), if_pos hC, if_pos (by omega)]
    exact .inl ⟨_, rfl, rfl⟩

theorem rstep_draw {w : api_World} {m : api_Message} (hF : Fine w m) {rg : Rg} {dr : Int} {outs : List api_Out} {at_ : Int} (hI : Inv w (rg, dr, outs, at_)) (ha : at_ < (w.Prog.length : Int)) (hop : (nth w.Prog at_).Op = 13) : RefStep w m rg dr outs at_ := by
  obtain ⟨i1, i2, i3, i4⟩ := hI
  simp only at i1 i2 i3 i4
  have hn := hF.many
  have hp := may_parts (by have := hF.may at_.toNat (by omega); rw [Int.toNat_of_nonneg i3] at this; exact this)
  have hA := rr (n := (w.Prog.length : Int)) (by have := hp.2.1; rw [hop] at this; exact this)
  have hB := rr (n := (w.Prog.length : Int)) (by have := hp.2.2.1; rw [hop] at this; exact this)
  refine .inl ⟨_, by unfold stp; rw [if_neg (by rw [hop]; decide), if_neg (by rw [hop]; decide), if_neg (by rw [hop]; decide), if_neg (by rw [hop]; decide), if_neg (by rw [hop]; decide), if_neg (by rw [hop]; decide), if_neg (by rw [hop]; decide), if_pos hop], ?_⟩
  unfold isochronref05vrun_step.f
  rw [if_pos (by omega), if_neg (by rw [hop]; decide), if_neg (by rw [hop]; decide), if_neg (by rw [hop]; decide), if_neg (by rw [hop]; decide), if_neg (by rw [hop]; decide), if_neg (by rw [hop]; decide), if_pos hop]
  rw [if_pos hB, ref_below_eq _ _ _ _ (i1 _).2]
  simp only [Option.bind_some]
  rw [if_pos hA, w64 (x := at_ + 1) (by omega) (by omega)]
  try rfl

theorem rstep_value {w : api_World} {m : api_Message} (hF : Fine w m) {rg : Rg} {dr : Int} {outs : List api_Out} {at_ : Int} (hI : Inv w (rg, dr, outs, at_)) (ha : at_ < (w.Prog.length : Int)) (hop : (nth w.Prog at_).Op = 14) : RefStep w m rg dr outs at_ := by
  obtain ⟨i1, i2, i3, i4⟩ := hI
  simp only at i1 i2 i3 i4
  have hn := hF.many
  have hp := may_parts (by have := hF.may at_.toNat (by omega); rw [Int.toNat_of_nonneg i3] at this; exact this)
  have hA := rr (n := (w.Prog.length : Int)) (by have := hp.2.1; rw [hop] at this; exact this)
  refine .inl ⟨_, by unfold stp; rw [if_neg (by rw [hop]; decide), if_neg (by rw [hop]; decide), if_neg (by rw [hop]; decide), if_neg (by rw [hop]; decide), if_neg (by rw [hop]; decide), if_neg (by rw [hop]; decide), if_neg (by rw [hop]; decide), if_neg (by rw [hop]; decide), if_pos hop], ?_⟩
  unfold isochronref05vrun_step.f
  rw [if_pos (by omega), if_neg (by rw [hop]; decide), if_neg (by rw [hop]; decide), if_neg (by rw [hop]; decide), if_neg (by rw [hop]; decide), if_neg (by rw [hop]; decide), if_neg (by rw [hop]; decide), if_neg (by rw [hop]; decide), if_pos hop]
  rw [if_pos hA, w64 (x := at_ + 1) (by omega) (by omega)]
  try rfl

theorem rstep_time {w : api_World} {m : api_Message} (hF : Fine w m) {rg : Rg} {dr : Int} {outs : List api_Out} {at_ : Int} (hI : Inv w (rg, dr, outs, at_)) (ha : at_ < (w.Prog.length : Int)) (hop : (nth w.Prog at_).Op = 15) : RefStep w m rg dr outs at_ := by
  obtain ⟨i1, i2, i3, i4⟩ := hI
  simp only at i1 i2 i3 i4
  have hn := hF.many
  have hp := may_parts (by have := hF.may at_.toNat (by omega); rw [Int.toNat_of_nonneg i3] at this; exact this)
  have hA := rr (n := (w.Prog.length : Int)) (by have := hp.2.1; rw [hop] at this; exact this)
  refine .inl ⟨_, by unfold stp; rw [if_neg (by rw [hop]; decide), if_neg (by rw [hop]; decide), if_neg (by rw [hop]; decide), if_neg (by rw [hop]; decide), if_neg (by rw [hop]; decide), if_neg (by rw [hop]; decide), if_neg (by rw [hop]; decide), if_neg (by rw [hop]; decide), if_neg (by rw [hop]; decide), if_pos hop], ?_⟩
  unfold isochronref05vrun_step.f
  rw [if_pos (by omega), if_neg (by rw [hop]; decide), if_neg (by rw [hop]; decide), if_neg (by rw [hop]; decide), if_neg (by rw [hop]; decide), if_neg (by rw [hop]; decide), if_neg (by rw [hop]; decide), if_neg (by rw [hop]; decide), if_neg (by rw [hop]; decide), if_pos hop]
  rw [if_pos hA, w64 (x := at_ + 1) (by omega) (by omega)]
  try rfl

theorem rstep_self {w : api_World} {m : api_Message} (hF : Fine w m) {rg : Rg} {dr : Int} {outs : List api_Out} {at_ : Int} (hI : Inv w (rg, dr, outs, at_)) (ha : at_ < (w.Prog.length : Int)) (hop : (nth w.Prog at_).Op = 16) : RefStep w m rg dr outs at_ := by
  obtain ⟨i1, i2, i3, i4⟩ := hI
  simp only at i1 i2 i3 i4
  have hn := hF.many
  have hp := may_parts (by have := hF.may at_.toNat (by omega); rw [Int.toNat_of_nonneg i3] at this; exact this)
  have hA := rr (n := (w.Prog.length : Int)) (by have := hp.2.1; rw [hop] at this; exact this)
  refine .inl ⟨_, by unfold stp; rw [if_neg (by rw [hop]; decide), if_neg (by rw [hop]; decide), if_neg (by rw [hop]; decide), if_neg (by rw [hop]; decide), if_neg (by rw [hop]; decide), if_neg (by rw [hop]; decide), if_neg (by rw [hop]; decide), if_neg (by rw [hop]; decide), if_neg (by rw [hop]; decide), if_neg (by rw [hop]; decide)], ?_⟩
  unfold isochronref05vrun_step.f
  rw [if_pos (by omega), if_neg (by rw [hop]; decide), if_neg (by rw [hop]; decide), if_neg (by rw [hop]; decide), if_neg (by rw [hop]; decide), if_neg (by rw [hop]; decide), if_neg (by rw [hop]; decide), if_neg (by rw [hop]; decide), if_neg (by rw [hop]; decide), if_neg (by rw [hop]; decide), if_pos hop]
  rw [if_pos hA, w64 (x := at_ + 1) (by omega) (by omega)]
  try rfl

theorem ref_step {w : api_World} {m : api_Message} (hF : Fine w m) {rg : Rg} {dr : Int} {outs : List api_Out} {at_ : Int} (hI : Inv w (rg, dr, outs, at_)) (ha : at_ < (w.Prog.length : Int)) : RefStep w m rg dr outs at_ := by
  have hp := may_parts (by have := hF.may at_.toNat (by have := hI.a0; simp only at this; omega); rw [Int.toNat_of_nonneg hI.a0] at this; exact this)
  rcases op_cases hp.1.1 hp.1.2 with h | h | h | h | h | h | h | h | h | h | h | h | h | h | h | h | h
  · exact rstep_halt hF hI ha h
  · exact rstep_set hF hI ha h
  · exact rstep_move hF hI ha h
  · exact rstep_add hF hI ha h
  · exact rstep_sub hF hI ha h
  · exact rstep_mul hF hI ha h
  · exact rstep_div hF hI ha h
  · exact rstep_mod hF hI ha h
  · exact rstep_less hF hI ha h
  · exact rstep_same hF hI ha h
  · exact rstep_jump hF hI ha h
  · exact rstep_zero hF hI ha h
  · exact rstep_send hF hI ha h
  · exact rstep_draw hF hI ha h
  · exact rstep_value hF hI ha h
  · exact rstep_time hF hI ha h
  · exact rstep_self hF hI ha h
def cpy (f : Rg) : Nat → Rg
  | 0 => zfn
  | k + 1 => upd (cpy f k) (((k : Nat) : Int).toNat * 1) (f (((k : Nat) : Int).toNat * 1))
theorem j11_eq (s : api_State) (f : Rg) (dr : Int) (outs : List api_Out) (a : Int) : isochronref05vRun.j11 s f dr outs a = some (stOf s f dr outs.length, outs, 0) := by
  unfold isochronref05vRun.j11 isochronref05vRun.l13
  refine loopR_steps (fun k => (cpy f k, ((k : Nat) : Int))) 8 (fun k hk => ?_) ?_
  · simp only [isochronref05vRun.l13b]
    rw [if_pos (by omega), if_pos (by omega), w64 (by omega) (by omega)]
    rfl
  · simp only [isochronref05vRun.l13b]
    rw [if_neg (by decide)]
    rfl
theorem ref_loop {w : api_World} {m : api_Message} (s : api_State) (hF : Fine w m) : ∀ (k : Nat) (hk : k ≤ 4096) (x : Sv), Inv w x →
    isochronref05vRun.l14 w s m (x.1, x.2.1, x.2.2.1, x.2.2.2, ((4096 - k : Nat) : Int)) = some (match runF w m k x with | .inl y => (stOf s y.1 y.2.1 y.2.2.1.length, y.2.2.1, 0) | .inr e => (s, [], e)) := by
  intro k
  induction k with
  | zero =>
    intro _ x hI
    unfold isochronref05vRun.l14
    rw [loopR_eq]
    simp only [isochronref05vRun.l14b]
    rw [if_neg (by omega), j11_eq]
    rfl
  | succ k ih =>
    intro hk x hI
    obtain ⟨rg, dr, outs, at_⟩ := x
    unfold isochronref05vRun.l14
    rw [loopR_eq]
    simp only [isochronref05vRun.l14b]
    rw [if_pos (by omega)]
    by_cases ha : at_ < (w.Prog.length : Int)
    · rw [if_pos ha]
      simp only [runF]
      rw [if_pos ha]
      have hn : IntKind.i64.wrap (((4096 - (k + 1) : Nat) : Int) + 1) = ((4096 - k : Nat) : Int) := by rw [w64 (by omega) (by omega)]; omega
      rcases ref_step hF hI ha with ⟨s', e1, e2⟩ | ⟨e1, e2⟩ | ⟨e, e0, e1, e2⟩
      · have hI' : Inv w s' := step_inv hF hI ha e1
        rw [e1, e2]
        simp only [Option.bind_some, if_true]
        rw [hn]
        exact ih (by omega) s' hI'
      · rw [e1, e2]
        simp only [Option.bind_some, if_true, Bool.false_eq_true, if_false]
        rw [j11_eq, runF_stop (by omega)]
        rfl
      · rw [e1, e2]
        simp only [Option.bind_some]
        rw [if_neg e0]
        obtain ⟨⟨c0, c1, c2, c3, c4, c5, c6, c7⟩, d, n⟩ := s
        rfl
    · rw [if_neg ha]
      simp only [runF]
      rw [if_neg ha, j11_eq]
      rfl
def ini (s : api_State) : Nat → Rg
  | 0 => zfn
  | k + 1 => upd (ini s k) (((k : Nat) : Int).toNat * 1) (nth ([s.Regs.c0, s.Regs.c1, s.Regs.c2, s.Regs.c3, s.Regs.c4, s.Regs.c5, s.Regs.c6, s.Regs.c7] : List Int) ((k : Nat) : Int))
theorem ini_eq (s : api_State) : ini s 8 = rgs s := by
  funext j
  match j with
  | 0 => rfl
  | 1 => rfl
  | 2 => rfl
  | 3 => rfl
  | 4 => rfl
  | 5 => rfl
  | 6 => rfl
  | 7 => rfl
  | k + 8 =>
    have hr : rgs s (k + 8) = 0 := rfl
    rw [hr]
    have h : ∀ i, i ≤ 8 → ini s i (k + 8) = 0 := by
      intro i
      induction i with
      | zero => intro _; rfl
      | succ i ih =>
        intro hi
        simp only [ini, upd]
        rw [if_neg (by omega)]
        exact ih (by omega)
    exact h 8 (Nat.le_refl _)
theorem ref_run_eq (w : api_World) (s : api_State) (m : api_Message) (hs : Rin (rgs s)) (hv : -9223372036854775808 ≤ m.Value ∧ m.Value ≤ 9223372036854775807) : isochronref05vRun.f w s m = some (vmRun w s m) := by
  unfold isochronref05vRun.f vmRun
  simp only [ref_vm_check_eq, ref_event_eq, ref_state_eq, Option.bind_some]
  by_cases hw : chkW w = 0
  · rw [if_pos hw, if_pos hw]
    by_cases hm : evB m = true
    · simp only [hm, if_true, true_and]
      by_cases hb : stB s = true
      · rw [if_pos hb, if_pos hb]
        unfold isochronref05vRun.l9
        have hI : Inv w (rgs s, s.Draws, [], 0) := ⟨hs, Nat.zero_le _, Int.le_refl _, by show (0 : Int) ≤ _; omega⟩
        have hl := ref_loop s (fine_of hw hm hv) 4096 (Nat.le_refl _) _ hI
        refine loopR_steps (fun k => (ini s k, ((k : Nat) : Int))) 8 (fun k hk => ?_) ?_
        · simp only [isochronref05vRun.l9b]
          rw [if_pos (by omega), if_pos (by omega), if_pos (by omega), w64 (by omega) (by omega)]
          rfl
        · simp only [isochronref05vRun.l9b]
          rw [if_neg (by decide), ini_eq]
          have hl' : isochronref05vRun.l14 w s m (rgs s, s.Draws, [], 0, 0) = _ := hl
          rw [hl']
          rfl
      · rw [if_neg hb, if_neg hb]; rfl
    · simp only [Bool.not_eq_true] at hm
      simp only [hm, Bool.false_eq_true, if_false, false_and]
      rfl
  · rw [if_neg hw, if_neg hw]; rfl
end Go.Proofs.Gx

