/-
  What vm.Run computes: a handler's run, told plainly.
-/
import Derived.Test.YtofgeidjbfmmdaaGreatDoorMod
import Derived.Test.YtofgeidjbfmmdaaGreatDoorW8
namespace Go.Proofs.Gx
open Go.Sl
set_option linter.unusedVariables false
set_option linter.unusedSimpArgs false
def laneW (n : Int) : Bool := decide (0 ≤ n ∧ n < 16)
theorem vm_lane_eq (n : Int) : vm_lane.f n = some (laneW n) := by
  unfold vm_lane.f laneW
  by_cases h : 0 ≤ n <;> simp [h]
theorem event_lane_eq (n : Int) : event_lane.f n = some (laneW n) := by
  unfold event_lane.f laneW
  by_cases h : 0 ≤ n <;> simp [h]
def linkBadW (w : api_World) (k : Nat) : Bool := !(laneW (nth w.Links (k : Int)).To && decide (1 ≤ (nth w.Links (k : Int)).Look ∧ (nth w.Links (k : Int)).Look ≤ 4611686018427387903))
def chkW (w : api_World) : Int :=
  if chk w.Prog = 0 then if laneW w.Self then if 1024 < (w.Links.length : Int) then 1 else if (List.range w.Links.length).any (linkBadW w) then 1 else 0 else 1 else chk w.Prog
theorem vm_check_eq (w : api_World) : vm_Check.f w = some (chkW w) := by
  unfold vm_Check.f chkW
  simp only [code_check_eq, vm_lane_eq, Option.bind_some]
  by_cases h : chk w.Prog = 0
  · rw [if_pos h, if_pos h]
    cases laneW w.Self with
    | false => rfl
    | true =>
      rw [if_pos rfl, if_pos rfl]
      by_cases h2 : 1024 < (w.Links.length : Int)
      · rw [if_pos h2, if_pos h2]
      rw [if_neg h2, if_neg h2]
      unfold vm_Check.l2
      rw [loopR_any (linkBadW w) (1 : Int) 0 w.Links.length (fun k hk => by
        simp only [vm_Check.l2b, vm_lane_eq, valid_eq, Option.bind_some]
        rw [if_pos (by omega), if_pos (by omega), w64 (by omega) (by omega)]
        unfold linkBadW
        cases laneW (nth w.Links (k : Int)).To with
        | false => rfl
        | true =>
          rw [if_pos rfl]
          by_cases h3 : (nth w.Links (k : Int)).Look < 1
          · rw [if_pos h3]; simp [show ¬ (1 ≤ (nth w.Links (k : Int)).Look) by omega]
          rw [if_neg h3]
          unfold timeB
          by_cases h4 : (nth w.Links (k : Int)).Look ≤ 4611686018427387903
          · rw [decide_eq_true (show 0 ≤ (nth w.Links (k : Int)).Look ∧ (nth w.Links (k : Int)).Look ≤ 4611686018427387903 by omega), decide_eq_true (show 1 ≤ (nth w.Links (k : Int)).Look ∧ (nth w.Links (k : Int)).Look ≤ 4611686018427387903 by omega)]; rfl
          · rw [decide_eq_false (show ¬ (0 ≤ (nth w.Links (k : Int)).Look ∧ (nth w.Links (k : Int)).Look ≤ 4611686018427387903) by omega), decide_eq_false (show ¬ (1 ≤ (nth w.Links (k : Int)).Look ∧ (nth w.Links (k : Int)).Look ≤ 4611686018427387903) by omega)]; rfl)
        (by simp only [vm_Check.l2b]; rw [if_neg (by omega)])]
  · rw [if_neg h, if_neg h]
def evB (m : api_Message) : Bool := timeB m.Key.Time && decide (-1 ≤ m.Key.From ∧ m.Key.From < 16) && laneW m.To && decide (0 ≤ m.Key.Seq ∧ 0 ≤ m.Uid)
theorem event_check_eq (m : api_Message) : event_Check.f m = some (if evB m then 0 else 1) := by
  unfold event_Check.f evB
  simp only [valid_eq, event_lane_eq, Option.bind_some]
  cases timeB m.Key.Time with
  | false => rfl
  | true =>
    rw [if_pos rfl]
    have hs : (0 ≤ (if m.Uid < m.Key.Seq then m.Uid else m.Key.Seq)) ↔ (0 ≤ m.Key.Seq ∧ 0 ≤ m.Uid) := by split <;> omega
    by_cases hl : laneW m.Key.From = true
    · rw [if_pos hl]
      have h1 : -1 ≤ m.Key.From ∧ m.Key.From < 16 := by simp [laneW] at hl; omega
      cases laneW m.To with
      | false => simp
      | true => simp only [if_true, hs]; by_cases h2 : 0 ≤ m.Key.Seq ∧ 0 ≤ m.Uid <;> simp [h1, h2]
    · rw [if_neg hl]
      by_cases hf : m.Key.From = -1
      · rw [if_pos hf]
        have h1 : -1 ≤ m.Key.From ∧ m.Key.From < 16 := by omega
        cases laneW m.To with
        | false => simp
        | true => simp only [if_true, hs]; by_cases h2 : 0 ≤ m.Key.Seq ∧ 0 ≤ m.Uid <;> simp [h1, h2]
      · rw [if_neg hf]
        have h1 : ¬ (-1 ≤ m.Key.From ∧ m.Key.From < 16) := by simp [laneW] at hl; omega
        simp [h1]
/-- a drawn number -/
theorem fold_some (x : draw_word) (k : Int) (h : 0 ≤ k) : ∃ v, draw_word_fold.f x k = some v := ⟨_, by unfold draw_word_fold.f; rw [if_pos h]⟩
theorem bind_ex {α β : Type} {o : Option α} {f : α → Option β} (h : ∃ v, o = some v) (hf : ∀ v, ∃ u, f v = some u) : ∃ u, o.bind f = some u := by
  obtain ⟨v, rfl⟩ := h
  exact hf v
theorem times_some (x : draw_mixer) (k c : Int) (h : 0 ≤ k) : ∃ v, draw_mixer_times.f x k c = some v := by
  unfold draw_mixer_times.f
  exact bind_ex (fold_some x.word k h) fun v => ⟨_, rfl⟩
theorem mix_some (x : Int) : ∃ v, draw_Mix.f x = some v := by
  unfold draw_Mix.f
  exact bind_ex (times_some _ _ _ (by decide)) fun v => bind_ex (times_some _ _ _ (by decide)) fun v2 => bind_ex (fold_some _ _ (by decide)) fun v3 => ⟨_, rfl⟩
theorem at_steps (a b c x y z : Int) (h1 : draw_Mix.f a = some x) (h2 : draw_Mix.f (IntKind.u64.wrap (x + IntKind.u64.wrap b)) = some y) (h3 : draw_Mix.f (IntKind.u64.wrap (y + IntKind.u64.wrap c)) = some z) : draw_At.f a b c = some z := by
  unfold draw_At.f
  rw [h1]
  simp only [Option.bind_some]
  unfold draw_At.l2
  refine (show loopR (draw_At.l2b b c) ((fun k : Nat => (match k with | 0 => (x, 0) | 1 => (y, 1) | _ => (z, 2) : Int × Int)) 0) = _ from loopR_steps (fun k : Nat => (match k with | 0 => (x, 0) | 1 => (y, 1) | _ => (z, 2) : Int × Int)) 2 (fun k hk => ?_) ?_)
  · match k, hk with
    | 0, _ =>
      simp only [draw_At.l2b]
      rw [if_pos (by decide), if_pos (by decide), show nth ([b, c] : List Int) 0 = b from rfl, h2]
      rfl
    | 1, _ =>
      simp only [draw_At.l2b]
      rw [if_pos (by decide), if_pos (by decide), show nth ([b, c] : List Int) 1 = c from rfl, h3]
      rfl
  · simp only [draw_At.l2b]
    rw [if_neg (by decide)]
noncomputable def below (a b c d : Int) : Int := (draw_Below.f a b c d).getD 0
theorem wu64 {x : Int} (h0 : 0 ≤ x) (h1 : x ≤ 18446744073709551615) : IntKind.u64.wrap x = x := by rw [IntKind.wrap_u64]; omega
theorem below_eq (a b c d : Int) (hd : d ≤ 9223372036854775807) : draw_Below.f a b c d = some (below a b c d) := by
  have : ∃ v, draw_Below.f a b c d = some v := by
    unfold draw_Below.f
    by_cases h : d ≤ 0
    · rw [if_pos h]; exact ⟨_, rfl⟩
    rw [if_neg h]
    obtain ⟨x, h1⟩ := mix_some a
    obtain ⟨y, h2⟩ := mix_some (IntKind.u64.wrap (x + IntKind.u64.wrap b))
    obtain ⟨z, h3⟩ := mix_some (IntKind.u64.wrap (y + IntKind.u64.wrap c))
    rw [at_steps a b c x y z h1 h2 h3]
    simp only [Option.bind_some]
    rw [if_pos (by rw [wu64 (by omega) (by omega)]; omega)]
    exact ⟨_, rfl⟩
  obtain ⟨v, e⟩ := this
  unfold below
  rw [e]
  rfl
theorem wrap_in (x : Int) : -9223372036854775808 ≤ IntKind.i64.wrap x ∧ IntKind.i64.wrap x ≤ 9223372036854775807 := by rw [IntKind.wrap_i64]; omega
theorem below_in (a b c d : Int) : -9223372036854775808 ≤ below a b c d ∧ below a b c d ≤ 9223372036854775807 := by
  unfold below draw_Below.f
  split
  · simp
  · cases draw_At.f a b c with
    | none => simp
    | some t =>
      simp only [Option.bind_some]
      split
      · exact wrap_in _
      · simp
/-! a handler's state; what an instruction does -/
abbrev Rg := Nat → Int
def rdR (f : Rg) (i : Int) : Int := f (i.toNat * 1)
def upR (f : Rg) (i v : Int) : Rg := upd f (i.toNat * 1) v
def dv (b c : Int) : Int := if c = 0 then 0 else if c = -1 ∧ b = -9223372036854775808 then b else IntKind.i64.wrap (Int.tdiv b c)
def md (b c : Int) : Int := if c = 0 then 0 else if c = -1 ∧ b = -9223372036854775808 then 0 else Int.tmod b c
theorem quotient_eq (b c : Int) : vm_quotient.f b c = some (dv b c, md b c) := by
  unfold vm_quotient.f vm_quotient.j2 dv md
  by_cases h : c = 0
  · simp [h]
  · rw [if_neg h, if_neg h, if_neg h, if_pos h]
    by_cases h1 : c = -1 <;> by_cases h2 : b = -9223372036854775808 <;> simp [h1, h2]
def alu (op b c : Int) : Int := if op = 3 then IntKind.i64.wrap (b + c) else if op = 4 then IntKind.i64.wrap (b - c) else if op = 5 then IntKind.i64.wrap (b * c) else if op = 6 then dv b c else if op = 7 then md b c else if op = 8 then (if b < c then 1 else 0) else (if b = c then 1 else 0)
def lkof (x n : Int) : Int := Int.tmod (IntKind.i64.wrap (Int.tmod x n + n)) n
def sendS (w : api_World) (m : api_Message) (i : api_Instr) (rg : Rg) (outs : List api_Out) : List api_Out ⊕ Int :=
  if (w.Links.length : Int) = 0 then .inl outs else if (outs.length : Int) = 8 then .inl outs else
  if rdR rg i.B < (nth w.Links (lkof (rdR rg i.A) (w.Links.length : Int))).Look then .inr 50 else if 4611686018427387903 - m.Key.Time < rdR rg i.B then .inr 10 else .inl (outs ++ [⟨lkof (rdR rg i.A) (w.Links.length : Int), rdR rg i.B, rdR rg i.C⟩])
abbrev Sv := Rg × Int × List api_Out × Int
noncomputable def stp (w : api_World) (m : api_Message) (i : api_Instr) (rg : Rg) (dr : Int) (outs : List api_Out) (at1 : Int) : Sv ⊕ Int :=
  if i.Op = 0 then .inl (rg, dr, outs, (w.Prog.length : Int)) else
  if i.Op = 1 then .inl (upR rg i.A i.B, dr, outs, at1) else
  if i.Op = 2 then .inl (upR rg i.A (rdR rg i.B), dr, outs, at1) else
  if i.Op < 10 then .inl (upR rg i.A (alu i.Op (rdR rg i.B) (rdR rg i.C)), dr, outs, at1) else
  if i.Op = 10 then .inl (rg, dr, outs, i.A) else
  if i.Op = 11 then .inl (rg, dr, outs, if rdR rg i.A = 0 then i.B else at1) else
  if i.Op = 12 then (match sendS w m i rg outs with | .inl o => .inl (rg, dr, o, at1) | .inr e => .inr e) else
  if i.Op = 13 then .inl (upR rg i.A (below w.Seed w.Self dr (rdR rg i.B)), IntKind.i64.wrap (dr + 1), outs, at1) else
  if i.Op = 14 then .inl (upR rg i.A m.Value, dr, outs, at1) else
  if i.Op = 15 then .inl (upR rg i.A m.Key.Time, dr, outs, at1) else
  .inl (upR rg i.A w.Self, dr, outs, at1)
theorem may_parts {i : api_Instr} {n : Int} (h : mayB i n = true) : (0 ≤ i.Op ∧ i.Op < 17) ∧ rightB i.A (bt (shapeOf i.Op) 0) n = true ∧ rightB i.B (bt (shapeOf i.Op) 1) n = true ∧ rightB i.C (bt (shapeOf i.Op) 2) n = true := by
  unfold mayB at h
  split at h
  · rename_i h0
    simp only [Bool.and_eq_true] at h
    exact ⟨h0, h.1, h.2.1, h.2.2⟩
  · cases h
theorem rr {x n : Int} (h : rightB x 114 n = true) : 0 ≤ x ∧ x < 16 := by
  have h' : decide (0 ≤ x ∧ x ≤ 15) = true := h
  simp only [decide_eq_true_eq] at h'
  omega
theorem rp {x n : Int} (h : rightB x 112 n = true) : 0 ≤ x ∧ x ≤ n := by
  have h' : decide (0 ≤ x ∧ x ≤ n) = true := h
  simpa using h'
theorem rn {x n : Int} (h : rightB x 110 n = true) : -2147483648 ≤ x ∧ x ≤ 2147483647 := by
  have h' : decide (-2147483648 ≤ x ∧ x ≤ 2147483647) = true := h
  simpa using h'
def Rin (f : Rg) : Prop := ∀ j, -9223372036854775808 ≤ f j ∧ f j ≤ 9223372036854775807
theorem Rin.up {f : Rg} (h : Rin f) {i v : Int} (hv : -9223372036854775808 ≤ v ∧ v ≤ 9223372036854775807) : Rin (upR f i v) := fun j => by
  unfold upR upd
  split
  · exact hv
  · exact h j
structure Inv (w : api_World) (s : Sv) : Prop where
  rg : Rin s.1
  outs : s.2.2.1.length ≤ 8
  a0 : 0 ≤ s.2.2.2
  a1 : s.2.2.2 ≤ (w.Prog.length : Int)
structure Fine (w : api_World) (m : api_Message) : Prop where
  may : ∀ k : Nat, k < w.Prog.length → mayB (nth w.Prog (k : Int)) (w.Prog.length : Int) = true
  many : (w.Prog.length : Int) ≤ 256
  links : (w.Links.length : Int) ≤ 1024
  look : ∀ k : Nat, k < w.Links.length → 1 ≤ (nth w.Links (k : Int)).Look
  self : 0 ≤ w.Self ∧ w.Self < 16
  time : 0 ≤ m.Key.Time ∧ m.Key.Time ≤ 4611686018427387903
  value : -9223372036854775808 ≤ m.Value ∧ m.Value ≤ 9223372036854775807
theorem tmod_lt (x : Int) {n : Int} (h : 0 < n) : -n < Int.tmod x n ∧ Int.tmod x n < n := by
  constructor
  · exact Int.lt_tmod_of_pos x h
  · exact Int.tmod_lt_of_pos x h
theorem lkof_in (x : Int) {n : Int} (h : 0 < n) (h1 : n ≤ 1024) : 0 ≤ lkof x n ∧ lkof x n < n := by
  have := tmod_lt x h
  unfold lkof
  rw [w64 (by omega) (by omega)]
  exact ⟨Int.tmod_nonneg _ (by omega), Int.tmod_lt_of_pos _ h⟩

theorem step_halt {w : api_World} {m : api_Message} (hF : Fine w m) {rg : Rg} {dr : Int} {outs : List api_Out} {at_ : Int} {k : Nat} (hI : Inv w (rg, dr, outs, at_)) (hk : k < 4096) (ha : at_ < (w.Prog.length : Int)) (hop : (nth w.Prog at_).Op = 0) :
    ∃ s', stp w m (nth w.Prog at_) rg dr outs (at_ + 1) = .inl s' ∧ Inv w s' ∧ vm_cpu_run.l17b w.Prog w.Self w.Links w.Seed m.Key.Time m.Key.From m.Key.Seq m.To m.Value m.Uid m.Anti (rg, dr, outs, at_, ((k + 1 : Nat) : Int)) = some (.inl (s'.1, s'.2.1, s'.2.2.1, s'.2.2.2, (k : Int))) := by
  obtain ⟨i1, i2, i3, i4⟩ := hI
  simp only at i1 i2 i3 i4
  have hn := hF.many
  have hp := may_parts (by have := hF.may at_.toNat (by omega); rw [Int.toNat_of_nonneg i3] at this; exact this)
  refine ⟨(rg, dr, outs, (w.Prog.length : Int)), by unfold stp; rw [if_pos hop], ⟨i1, i2, by show (0 : Int) ≤ (w.Prog.length : Int); omega, Int.le_refl _⟩, ?_⟩
  simp only [vm_cpu_run.l17b, vm_cpu_halt.f]
  rw [if_pos (by omega), if_pos (by omega), if_pos (by omega), if_pos hop]
  skip
  simp only [Option.bind_some, vm_cpu_run.j18]
  rw [w64 (x := ((k + 1 : Nat) : Int) - 1) (by omega) (by omega)]
  simp only [show (((k + 1 : Nat) : Int) - 1) = (k : Int) by omega]
  try rfl

theorem step_set {w : api_World} {m : api_Message} (hF : Fine w m) {rg : Rg} {dr : Int} {outs : List api_Out} {at_ : Int} {k : Nat} (hI : Inv w (rg, dr, outs, at_)) (hk : k < 4096) (ha : at_ < (w.Prog.length : Int)) (hop : (nth w.Prog at_).Op = 1) :
    ∃ s', stp w m (nth w.Prog at_) rg dr outs (at_ + 1) = .inl s' ∧ Inv w s' ∧ vm_cpu_run.l17b w.Prog w.Self w.Links w.Seed m.Key.Time m.Key.From m.Key.Seq m.To m.Value m.Uid m.Anti (rg, dr, outs, at_, ((k + 1 : Nat) : Int)) = some (.inl (s'.1, s'.2.1, s'.2.2.1, s'.2.2.2, (k : Int))) := by
  obtain ⟨i1, i2, i3, i4⟩ := hI
  simp only at i1 i2 i3 i4
  have hn := hF.many
  have hp := may_parts (by have := hF.may at_.toNat (by omega); rw [Int.toNat_of_nonneg i3] at this; exact this)
  have hA := rr (n := (w.Prog.length : Int)) (by have := hp.2.1; rw [hop] at this; exact this)
  have hB := rn (n := (w.Prog.length : Int)) (by have := hp.2.2.1; rw [hop] at this; exact this)
  refine ⟨(upR rg (nth w.Prog at_).A (nth w.Prog at_).B, dr, outs, at_ + 1), by unfold stp; rw [if_neg (by rw [hop]; decide), if_pos hop], ⟨i1.up (by omega), i2, by show (0 : Int) ≤ at_ + 1; omega, by show at_ + 1 ≤ _; omega⟩, ?_⟩
  simp only [vm_cpu_run.l17b, vm_cpu_set.f]
  rw [if_pos (by omega), if_pos (by omega), if_pos (by omega), if_neg (by rw [hop]; decide), if_pos hop]
  rw [if_pos hA, w64 (x := at_ + 1) (by omega) (by omega)]
  simp only [Option.bind_some, vm_cpu_run.j18]
  rw [w64 (x := ((k + 1 : Nat) : Int) - 1) (by omega) (by omega)]
  simp only [show (((k + 1 : Nat) : Int) - 1) = (k : Int) by omega]
  try rfl

theorem step_move {w : api_World} {m : api_Message} (hF : Fine w m) {rg : Rg} {dr : Int} {outs : List api_Out} {at_ : Int} {k : Nat} (hI : Inv w (rg, dr, outs, at_)) (hk : k < 4096) (ha : at_ < (w.Prog.length : Int)) (hop : (nth w.Prog at_).Op = 2) :
    ∃ s', stp w m (nth w.Prog at_) rg dr outs (at_ + 1) = .inl s' ∧ Inv w s' ∧ vm_cpu_run.l17b w.Prog w.Self w.Links w.Seed m.Key.Time m.Key.From m.Key.Seq m.To m.Value m.Uid m.Anti (rg, dr, outs, at_, ((k + 1 : Nat) : Int)) = some (.inl (s'.1, s'.2.1, s'.2.2.1, s'.2.2.2, (k : Int))) := by
  obtain ⟨i1, i2, i3, i4⟩ := hI
  simp only at i1 i2 i3 i4
  have hn := hF.many
  have hp := may_parts (by have := hF.may at_.toNat (by omega); rw [Int.toNat_of_nonneg i3] at this; exact this)
  have hA := rr (n := (w.Prog.length : Int)) (by have := hp.2.1; rw [hop] at this; exact this)
  have hB := rr (n := (w.Prog.length : Int)) (by have := hp.2.2.1; rw [hop] at this; exact this)
  refine ⟨(upR rg (nth w.Prog at_).A (rdR rg (nth w.Prog at_).B), dr, outs, at_ + 1), by unfold stp; rw [if_neg (by rw [hop]; decide), if_neg (by rw [hop]; decide), if_pos hop], ⟨i1.up (i1 _), i2, by show (0 : Int) ≤ at_ + 1; omega, by show at_ + 1 ≤ _; omega⟩, ?_⟩
  simp only [vm_cpu_run.l17b, vm_cpu_move.f]
  rw [if_pos (by omega), if_pos (by omega), if_pos (by omega), if_neg (by rw [hop]; decide), if_neg (by rw [hop]; decide), if_pos hop]
  rw [if_pos hB, if_pos hA, w64 (x := at_ + 1) (by omega) (by omega)]
  simp only [Option.bind_some, vm_cpu_run.j18]
  rw [w64 (x := ((k + 1 : Nat) : Int) - 1) (by omega) (by omega)]
  simp only [show (((k + 1 : Nat) : Int) - 1) = (k : Int) by omega]
  try rfl

theorem step_add {w : api_World} {m : api_Message} (hF : Fine w m) {rg : Rg} {dr : Int} {outs : List api_Out} {at_ : Int} {k : Nat} (hI : Inv w (rg, dr, outs, at_)) (hk : k < 4096) (ha : at_ < (w.Prog.length : Int)) (hop : (nth w.Prog at_).Op = 3) :
    ∃ s', stp w m (nth w.Prog at_) rg dr outs (at_ + 1) = .inl s' ∧ Inv w s' ∧ vm_cpu_run.l17b w.Prog w.Self w.Links w.Seed m.Key.Time m.Key.From m.Key.Seq m.To m.Value m.Uid m.Anti (rg, dr, outs, at_, ((k + 1 : Nat) : Int)) = some (.inl (s'.1, s'.2.1, s'.2.2.1, s'.2.2.2, (k : Int))) := by
  obtain ⟨i1, i2, i3, i4⟩ := hI
  simp only at i1 i2 i3 i4
  have hn := hF.many
  have hp := may_parts (by have := hF.may at_.toNat (by omega); rw [Int.toNat_of_nonneg i3] at this; exact this)
  have hA := rr (n := (w.Prog.length : Int)) (by have := hp.2.1; rw [hop] at this; exact this)
  have hB := rr (n := (w.Prog.length : Int)) (by have := hp.2.2.1; rw [hop] at this; exact this)
  have hC := rr (n := (w.Prog.length : Int)) (by have := hp.2.2.2; rw [hop] at this; exact this)
  refine ⟨(upR rg (nth w.Prog at_).A (alu (nth w.Prog at_).Op (rdR rg (nth w.Prog at_).B) (rdR rg (nth w.Prog at_).C)), dr, outs, at_ + 1), by unfold stp; rw [if_neg (by rw [hop]; decide), if_neg (by rw [hop]; decide), if_neg (by rw [hop]; decide), if_pos (by rw [hop]; decide)], ⟨i1.up (by rw [hop]; exact wrap_in _), i2, by show (0 : Int) ≤ at_ + 1; omega, by show at_ + 1 ≤ _; omega⟩, ?_⟩
  simp only [vm_cpu_run.l17b, vm_cpu_add.f]
  rw [if_pos (by omega), if_pos (by omega), if_pos (by omega), if_neg (by rw [hop]; decide), if_neg (by rw [hop]; decide), if_neg (by rw [hop]; decide), if_pos hop]
  rw [if_pos hB, if_pos hC, if_pos hA, w64 (x := at_ + 1) (by omega) (by omega)]
  simp only [Option.bind_some, vm_cpu_run.j18]
  rw [w64 (x := ((k + 1 : Nat) : Int) - 1) (by omega) (by omega)]
  simp only [show (((k + 1 : Nat) : Int) - 1) = (k : Int) by omega]
  rw [hop]
  rfl

theorem step_sub {w : api_World} {m : api_Message} (hF : Fine w m) {rg : Rg} {dr : Int} {outs : List api_Out} {at_ : Int} {k : Nat} (hI : Inv w (rg, dr, outs, at_)) (hk : k < 4096) (ha : at_ < (w.Prog.length : Int)) (hop : (nth w.Prog at_).Op = 4) :
    ∃ s', stp w m (nth w.Prog at_) rg dr outs (at_ + 1) = .inl s' ∧ Inv w s' ∧ vm_cpu_run.l17b w.Prog w.Self w.Links w.Seed m.Key.Time m.Key.From m.Key.Seq m.To m.Value m.Uid m.Anti (rg, dr, outs, at_, ((k + 1 : Nat) : Int)) = some (.inl (s'.1, s'.2.1, s'.2.2.1, s'.2.2.2, (k : Int))) := by
  obtain ⟨i1, i2, i3, i4⟩ := hI
  simp only at i1 i2 i3 i4
  have hn := hF.many
  have hp := may_parts (by have := hF.may at_.toNat (by omega); rw [Int.toNat_of_nonneg i3] at this; exact this)
  have hA := rr (n := (w.Prog.length : Int)) (by have := hp.2.1; rw [hop] at this; exact this)
  have hB := rr (n := (w.Prog.length : Int)) (by have := hp.2.2.1; rw [hop] at this; exact this)
  have hC := rr (n := (w.Prog.length : Int)) (by have := hp.2.2.2; rw [hop] at this; exact this)
  refine ⟨(upR rg (nth w.Prog at_).A (alu (nth w.Prog at_).Op (rdR rg (nth w.Prog at_).B) (rdR rg (nth w.Prog at_).C)), dr, outs, at_ + 1), by unfold stp; rw [if_neg (by rw [hop]; decide), if_neg (by rw [hop]; decide), if_neg (by rw [hop]; decide), if_pos (by rw [hop]; decide)], ⟨i1.up (by rw [hop]; exact wrap_in _), i2, by show (0 : Int) ≤ at_ + 1; omega, by show at_ + 1 ≤ _; omega⟩, ?_⟩
  simp only [vm_cpu_run.l17b, vm_cpu_sub.f]
  rw [if_pos (by omega), if_pos (by omega), if_pos (by omega), if_neg (by rw [hop]; decide), if_neg (by rw [hop]; decide), if_neg (by rw [hop]; decide), if_neg (by rw [hop]; decide), if_pos hop]
  rw [if_pos hB, if_pos hC, if_pos hA, w64 (x := at_ + 1) (by omega) (by omega)]
  simp only [Option.bind_some, vm_cpu_run.j18]
  rw [w64 (x := ((k + 1 : Nat) : Int) - 1) (by omega) (by omega)]
  simp only [show (((k + 1 : Nat) : Int) - 1) = (k : Int) by omega]
  rw [hop]
  rfl

theorem step_mul {w : api_World} {m : api_Message} (hF : Fine w m) {rg : Rg} {dr : Int} {outs : List api_Out} {at_ : Int} {k : Nat} (hI : Inv w (rg, dr, outs, at_)) (hk : k < 4096) (ha : at_ < (w.Prog.length : Int)) (hop : (nth w.Prog at_).Op = 5) :
    ∃ s', stp w m (nth w.Prog at_) rg dr outs (at_ + 1) = .inl s' ∧ Inv w s' ∧ vm_cpu_run.l17b w.Prog w.Self w.Links w.Seed m.Key.Time m.Key.From m.Key.Seq m.To m.Value m.Uid m.Anti (rg, dr, outs, at_, ((k + 1 : Nat) : Int)) = some (.inl (s'.1, s'.2.1, s'.2.2.1, s'.2.2.2, (k : Int))) := by
  obtain ⟨i1, i2, i3, i4⟩ := hI
  simp only at i1 i2 i3 i4
  have hn := hF.many
  have hp := may_parts (by have := hF.may at_.toNat (by omega); rw [Int.toNat_of_nonneg i3] at this; exact this)
  have hA := rr (n := (w.Prog.length : Int)) (by have := hp.2.1; rw [hop] at this; exact this)
  have hB := rr (n := (w.Prog.length : Int)) (by have := hp.2.2.1; rw [hop] at this; exact this)
  have hC := rr (n := (w.Prog.length : Int)) (by have := hp.2.2.2; rw [hop] at this; exact this)
  refine ⟨(upR rg (nth w.Prog at_).A (alu (nth w.Prog at_).Op (rdR rg (nth w.Prog at_).B) (rdR rg (nth w.Prog at_).C)), dr, outs, at_ + 1), by unfold stp; rw [if_neg (by rw [hop]; decide), if_neg (by rw [hop]; decide), if_neg (by rw [hop]; decide), if_pos (by rw [hop]; decide)], ⟨i1.up (by rw [hop]; exact wrap_in _), i2, by show (0 : Int) ≤ at_ + 1; omega, by show at_ + 1 ≤ _; omega⟩, ?_⟩
  simp only [vm_cpu_run.l17b, vm_cpu_mul.f]
  rw [if_pos (by omega), if_pos (by omega), if_pos (by omega), if_neg (by rw [hop]; decide), if_neg (by rw [hop]; decide), if_neg (by rw [hop]; decide), if_neg (by rw [hop]; decide), if_neg (by rw [hop]; decide), if_pos hop]
  rw [if_pos hB, if_pos hC, if_pos hA, w64 (x := at_ + 1) (by omega) (by omega)]
  simp only [Option.bind_some, vm_cpu_run.j18]
  rw [w64 (x := ((k + 1 : Nat) : Int) - 1) (by omega) (by omega)]
  simp only [show (((k + 1 : Nat) : Int) - 1) = (k : Int) by omega]
  rw [hop]
  rfl

theorem dv_in (b c : Int) (hb : -9223372036854775808 ≤ b ∧ b ≤ 9223372036854775807) (hc : -9223372036854775808 ≤ c ∧ c ≤ 9223372036854775807) : -9223372036854775808 ≤ dv b c ∧ dv b c ≤ 9223372036854775807 := by
  unfold dv
  split
  · decide
  · split
    · exact hb
    · exact wrap_in _
theorem md_in (b c : Int) (hb : -9223372036854775808 ≤ b ∧ b ≤ 9223372036854775807) (hc : -9223372036854775808 ≤ c ∧ c ≤ 9223372036854775807) : -9223372036854775808 ≤ md b c ∧ md b c ≤ 9223372036854775807 := by
  unfold md
  split
  · decide
  · split
    · decide
    · rename_i h1 h2
      rcases Int.lt_or_le c 0 with h3 | h3
      · have := tmod_lt b (n := -c) (by omega)
        rw [Int.tmod_neg] at this
        omega
      · have := tmod_lt b (n := c) (by omega)
        omega
theorem truth_eq (b : Bool) : vm_truth.f b = some (if b = true then 1 else 0) := by unfold vm_truth.f; split <;> rfl

theorem step_div {w : api_World} {m : api_Message} (hF : Fine w m) {rg : Rg} {dr : Int} {outs : List api_Out} {at_ : Int} {k : Nat} (hI : Inv w (rg, dr, outs, at_)) (hk : k < 4096) (ha : at_ < (w.Prog.length : Int)) (hop : (nth w.Prog at_).Op = 6) :
    ∃ s', stp w m (nth w.Prog at_) rg dr outs (at_ + 1) = .inl s' ∧ Inv w s' ∧ vm_cpu_run.l17b w.Prog w.Self w.Links w.Seed m.Key.Time m.Key.From m.Key.Seq m.To m.Value m.Uid m.Anti (rg, dr, outs, at_, ((k + 1 : Nat) : Int)) = some (.inl (s'.1, s'.2.1, s'.2.2.1, s'.2.2.2, (k : Int))) := by
  obtain ⟨i1, i2, i3, i4⟩ := hI
  simp only at i1 i2 i3 i4
  have hn := hF.many
  have hp := may_parts (by have := hF.may at_.toNat (by omega); rw [Int.toNat_of_nonneg i3] at this; exact this)
  have hA := rr (n := (w.Prog.length : Int)) (by have := hp.2.1; rw [hop] at this; exact this)
  have hB := rr (n := (w.Prog.length : Int)) (by have := hp.2.2.1; rw [hop] at this; exact this)
  have hC := rr (n := (w.Prog.length : Int)) (by have := hp.2.2.2; rw [hop] at this; exact this)
  refine ⟨(upR rg (nth w.Prog at_).A (alu (nth w.Prog at_).Op (rdR rg (nth w.Prog at_).B) (rdR rg (nth w.Prog at_).C)), dr, outs, at_ + 1), by unfold stp; rw [if_neg (by rw [hop]; decide), if_neg (by rw [hop]; decide), if_neg (by rw [hop]; decide), if_pos (by rw [hop]; decide)], ⟨i1.up (by rw [hop]; exact dv_in _ _ (i1 _) (i1 _)), i2, by show (0 : Int) ≤ at_ + 1; omega, by show at_ + 1 ≤ _; omega⟩, ?_⟩
  simp only [vm_cpu_run.l17b, vm_cpu_div.f]
  rw [if_pos (by omega), if_pos (by omega), if_pos (by omega), if_neg (by rw [hop]; decide), if_neg (by rw [hop]; decide), if_neg (by rw [hop]; decide), if_neg (by rw [hop]; decide), if_neg (by rw [hop]; decide), if_neg (by rw [hop]; decide), if_pos hop]
  rw [if_pos hB, if_pos hC, quotient_eq]
  simp only [Option.bind_some]
  rw [if_pos hA, w64 (x := at_ + 1) (by omega) (by omega)]
  simp only [Option.bind_some, vm_cpu_run.j18]
  rw [w64 (x := ((k + 1 : Nat) : Int) - 1) (by omega) (by omega)]
  simp only [show (((k + 1 : Nat) : Int) - 1) = (k : Int) by omega]
  rw [hop]
  rfl

theorem step_mod {w : api_World} {m : api_Message} (hF : Fine w m) {rg : Rg} {dr : Int} {outs : List api_Out} {at_ : Int} {k : Nat} (hI : Inv w (rg, dr, outs, at_)) (hk : k < 4096) (ha : at_ < (w.Prog.length : Int)) (hop : (nth w.Prog at_).Op = 7) :
    ∃ s', stp w m (nth w.Prog at_) rg dr outs (at_ + 1) = .inl s' ∧ Inv w s' ∧ vm_cpu_run.l17b w.Prog w.Self w.Links w.Seed m.Key.Time m.Key.From m.Key.Seq m.To m.Value m.Uid m.Anti (rg, dr, outs, at_, ((k + 1 : Nat) : Int)) = some (.inl (s'.1, s'.2.1, s'.2.2.1, s'.2.2.2, (k : Int))) := by
  obtain ⟨i1, i2, i3, i4⟩ := hI
  simp only at i1 i2 i3 i4
  have hn := hF.many
  have hp := may_parts (by have := hF.may at_.toNat (by omega); rw [Int.toNat_of_nonneg i3] at this; exact this)
  have hA := rr (n := (w.Prog.length : Int)) (by have := hp.2.1; rw [hop] at this; exact this)
  have hB := rr (n := (w.Prog.length : Int)) (by have := hp.2.2.1; rw [hop] at this; exact this)
  have hC := rr (n := (w.Prog.length : Int)) (by have := hp.2.2.2; rw [hop] at this; exact this)
  refine ⟨(upR rg (nth w.Prog at_).A (alu (nth w.Prog at_).Op (rdR rg (nth w.Prog at_).B) (rdR rg (nth w.Prog at_).C)), dr, outs, at_ + 1), by unfold stp; rw [if_neg (by rw [hop]; decide), if_neg (by rw [hop]; decide), if_neg (by rw [hop]; decide), if_pos (by rw [hop]; decide)], ⟨i1.up (by rw [hop]; exact md_in _ _ (i1 _) (i1 _)), i2, by show (0 : Int) ≤ at_ + 1; omega, by show at_ + 1 ≤ _; omega⟩, ?_⟩
  simp only [vm_cpu_run.l17b, vm_cpu_mod.f]
  rw [if_pos (by omega), if_pos (by omega), if_pos (by omega), if_neg (by rw [hop]; decide), if_neg (by rw [hop]; decide), if_neg (by rw [hop]; decide), if_neg (by rw [hop]; decide), if_neg (by rw [hop]; decide), if_neg (by rw [hop]; decide), if_neg (by rw [hop]; decide), if_pos hop]
  rw [if_pos hB, if_pos hC, quotient_eq]
  simp only [Option.bind_some]
  rw [if_pos hA, w64 (x := at_ + 1) (by omega) (by omega)]
  simp only [Option.bind_some, vm_cpu_run.j18]
  rw [w64 (x := ((k + 1 : Nat) : Int) - 1) (by omega) (by omega)]
  simp only [show (((k + 1 : Nat) : Int) - 1) = (k : Int) by omega]
  rw [hop]
  rfl

theorem step_less {w : api_World} {m : api_Message} (hF : Fine w m) {rg : Rg} {dr : Int} {outs : List api_Out} {at_ : Int} {k : Nat} (hI : Inv w (rg, dr, outs, at_)) (hk : k < 4096) (ha : at_ < (w.Prog.length : Int)) (hop : (nth w.Prog at_).Op = 8) :
    ∃ s', stp w m (nth w.Prog at_) rg dr outs (at_ + 1) = .inl s' ∧ Inv w s' ∧ vm_cpu_run.l17b w.Prog w.Self w.Links w.Seed m.Key.Time m.Key.From m.Key.Seq m.To m.Value m.Uid m.Anti (rg, dr, outs, at_, ((k + 1 : Nat) : Int)) = some (.inl (s'.1, s'.2.1, s'.2.2.1, s'.2.2.2, (k : Int))) := by
  obtain ⟨i1, i2, i3, i4⟩ := hI
  simp only at i1 i2 i3 i4
  have hn := hF.many
  have hp := may_parts (by have := hF.may at_.toNat (by omega); rw [Int.toNat_of_nonneg i3] at this; exact this)
  have hA := rr (n := (w.Prog.length : Int)) (by have := hp.2.1; rw [hop] at this; exact this)
  have hB := rr (n := (w.Prog.length : Int)) (by have := hp.2.2.1; rw [hop] at this; exact this)
  have hC := rr (n := (w.Prog.length : Int)) (by have := hp.2.2.2; rw [hop] at this; exact this)
  refine ⟨(upR rg (nth w.Prog at_).A (alu (nth w.Prog at_).Op (rdR rg (nth w.Prog at_).B) (rdR rg (nth w.Prog at_).C)), dr, outs, at_ + 1), by unfold stp; rw [if_neg (by rw [hop]; decide), if_neg (by rw [hop]; decide), if_neg (by rw [hop]; decide), if_pos (by rw [hop]; decide)], ⟨i1.up (by rw [hop]; show _ ≤ (if _ then (1 : Int) else 0) ∧ (if _ then (1 : Int) else 0) ≤ _; split <;> decide), i2, by show (0 : Int) ≤ at_ + 1; omega, by show at_ + 1 ≤ _; omega⟩, ?_⟩
  simp only [vm_cpu_run.l17b, vm_cpu_less.f]
  rw [if_pos (by omega), if_pos (by omega), if_pos (by omega), if_neg (by rw [hop]; decide), if_neg (by rw [hop]; decide), if_neg (by rw [hop]; decide), if_neg (by rw [hop]; decide), if_neg (by rw [hop]; decide), if_neg (by rw [hop]; decide), if_neg (by rw [hop]; decide), if_neg (by rw [hop]; decide), if_pos hop]
  rw [if_pos hB, if_pos hC, truth_eq]
  simp only [Option.bind_some]
  rw [if_pos hA, w64 (x := at_ + 1) (by omega) (by omega)]
  simp only [Option.bind_some, vm_cpu_run.j18]
  rw [w64 (x := ((k + 1 : Nat) : Int) - 1) (by omega) (by omega)]
  simp only [show (((k + 1 : Nat) : Int) - 1) = (k : Int) by omega]
  rw [hop]
  simp only [decide_eq_true_eq]
  rfl

theorem step_same {w : api_World} {m : api_Message} (hF : Fine w m) {rg : Rg} {dr : Int} {outs : List api_Out} {at_ : Int} {k : Nat} (hI : Inv w (rg, dr, outs, at_)) (hk : k < 4096) (ha : at_ < (w.Prog.length : Int)) (hop : (nth w.Prog at_).Op = 9) :
    ∃ s', stp w m (nth w.Prog at_) rg dr outs (at_ + 1) = .inl s' ∧ Inv w s' ∧ vm_cpu_run.l17b w.Prog w.Self w.Links w.Seed m.Key.Time m.Key.From m.Key.Seq m.To m.Value m.Uid m.Anti (rg, dr, outs, at_, ((k + 1 : Nat) : Int)) = some (.inl (s'.1, s'.2.1, s'.2.2.1, s'.2.2.2, (k : Int))) := by
  obtain ⟨i1, i2, i3, i4⟩ := hI
  simp only at i1 i2 i3 i4
  have hn := hF.many
  have hp := may_parts (by have := hF.may at_.toNat (by omega); rw [Int.toNat_of_nonneg i3] at this; exact this)
  have hA := rr (n := (w.Prog.length : Int)) (by have := hp.2.1; rw [hop] at this; exact this)
  have hB := rr (n := (w.Prog.length : Int)) (by have := hp.2.2.1; rw [hop] at this; exact this)
  have hC := rr (n := (w.Prog.length : Int)) (by have := hp.2.2.2; rw [hop] at this; exact this)
  refine ⟨(upR rg (nth w.Prog at_).A (alu (nth w.Prog at_).Op (rdR rg (nth w.Prog at_).B) (rdR rg (nth w.Prog at_).C)), dr, outs, at_ + 1), by unfold stp; rw [if_neg (by rw [hop]; decide), if_neg (by rw [hop]; decide), if_neg (by rw [hop]; decide), if_pos (by rw [hop]; decide)], ⟨i1.up (by rw [hop]; show _ ≤ (if _ then (1 : Int) else 0) ∧ (if _ then (1 : Int) else 0) ≤ _; split <;> decide), i2, by show (0 : Int) ≤ at_ + 1; omega, by show at_ + 1 ≤ _; omega⟩, ?_⟩
  simp only [vm_cpu_run.l17b, vm_cpu_same.f]
  rw [if_pos (by omega), if_pos (by omega), if_pos (by omega), if_neg (by rw [hop]; decide), if_neg (by rw [hop]; decide), if_neg (by rw [hop]; decide), if_neg (by rw [hop]; decide), if_neg (by rw [hop]; decide), if_neg (by rw [hop]; decide), if_neg (by rw [hop]; decide), if_neg (by rw [hop]; decide), if_neg (by rw [hop]; decide), if_pos hop]
  rw [if_pos hB, if_pos hC, truth_eq]
  simp only [Option.bind_some]
  rw [if_pos hA, w64 (x := at_ + 1) (by omega) (by omega)]
  simp only [Option.bind_some, vm_cpu_run.j18]
  rw [w64 (x := ((k + 1 : Nat) : Int) - 1) (by omega) (by omega)]
  simp only [show (((k + 1 : Nat) : Int) - 1) = (k : Int) by omega]
  rw [hop]
  simp only [decide_eq_true_eq]
  rfl

theorem step_jump {w : api_World} {m : api_Message} (hF : Fine w m) {rg : Rg} {dr : Int} {outs : List api_Out} {at_ : Int} {k : Nat} (hI : Inv w (rg, dr, outs, at_)) (hk : k < 4096) (ha : at_ < (w.Prog.length : Int)) (hop : (nth w.Prog at_).Op = 10) :
    ∃ s', stp w m (nth w.Prog at_) rg dr outs (at_ + 1) = .inl s' ∧ Inv w s' ∧ vm_cpu_run.l17b w.Prog w.Self w.Links w.Seed m.Key.Time m.Key.From m.Key.Seq m.To m.Value m.Uid m.Anti (rg, dr, outs, at_, ((k + 1 : Nat) : Int)) = some (.inl (s'.1, s'.2.1, s'.2.2.1, s'.2.2.2, (k : Int))) := by
  obtain ⟨i1, i2, i3, i4⟩ := hI
  simp only at i1 i2 i3 i4
  have hn := hF.many
  have hp := may_parts (by have := hF.may at_.toNat (by omega); rw [Int.toNat_of_nonneg i3] at this; exact this)
  have hA := rp (n := (w.Prog.length : Int)) (by have := hp.2.1; rw [hop] at this; exact this)
  refine ⟨(rg, dr, outs, (nth w.Prog at_).A), by unfold stp; rw [if_neg (by rw [hop]; decide), if_neg (by rw [hop]; decide), if_neg (by rw [hop]; decide), if_neg (by rw [hop]; decide), if_pos hop], ⟨i1, i2, hA.1, hA.2⟩, ?_⟩
  simp only [vm_cpu_run.l17b, vm_cpu_jump.f]
  rw [if_pos (by omega), if_pos (by omega), if_pos (by omega), if_neg (by rw [hop]; decide), if_neg (by rw [hop]; decide), if_neg (by rw [hop]; decide), if_neg (by rw [hop]; decide), if_neg (by rw [hop]; decide), if_neg (by rw [hop]; decide), if_neg (by rw [hop]; decide), if_neg (by rw [hop]; decide), if_neg (by rw [hop]; decide), if_neg (by rw [hop]; decide), if_pos hop]
  skip
  simp only [Option.bind_some, vm_cpu_run.j18]
  rw [w64 (x := ((k + 1 : Nat) : Int) - 1) (by omega) (by omega)]
  simp only [show (((k + 1 : Nat) : Int) - 1) = (k : Int) by omega]
  try rfl

theorem step_zero {w : api_World} {m : api_Message} (hF : Fine w m) {rg : Rg} {dr : Int} {outs : List api_Out} {at_ : Int} {k : Nat} (hI : Inv w (rg, dr, outs, at_)) (hk : k < 4096) (ha : at_ < (w.Prog.length : Int)) (hop : (nth w.Prog at_).Op = 11) :
    ∃ s', stp w m (nth w.Prog at_) rg dr outs (at_ + 1) = .inl s' ∧ Inv w s' ∧ vm_cpu_run.l17b w.Prog w.Self w.Links w.Seed m.Key.Time m.Key.From m.Key.Seq m.To m.Value m.Uid m.Anti (rg, dr, outs, at_, ((k + 1 : Nat) : Int)) = some (.inl (s'.1, s'.2.1, s'.2.2.1, s'.2.2.2, (k : Int))) := by
  obtain ⟨i1, i2, i3, i4⟩ := hI
  simp only at i1 i2 i3 i4
  have hn := hF.many
  have hp := may_parts (by have := hF.may at_.toNat (by omega); rw [Int.toNat_of_nonneg i3] at this; exact this)
  have hA := rr (n := (w.Prog.length : Int)) (by have := hp.2.1; rw [hop] at this; exact this)
  have hB := rp (n := (w.Prog.length : Int)) (by have := hp.2.2.1; rw [hop] at this; exact this)
  refine ⟨(rg, dr, outs, if rdR rg (nth w.Prog at_).A = 0 then (nth w.Prog at_).B else at_ + 1), by unfold stp; rw [if_neg (by rw [hop]; decide), if_neg (by rw [hop]; decide), if_neg (by rw [hop]; decide), if_neg (by rw [hop]; decide), if_neg (by rw [hop]; decide), if_pos hop], ⟨i1, i2, by show (0 : Int) ≤ (if rdR rg (nth w.Prog at_).A = 0 then (nth w.Prog at_).B else at_ + 1); split <;> omega, by show (if rdR rg (nth w.Prog at_).A = 0 then (nth w.Prog at_).B else at_ + 1) ≤ (w.Prog.length : Int); split <;> omega⟩, ?_⟩
  simp only [vm_cpu_run.l17b, vm_cpu_zero.f]
  rw [if_pos (by omega), if_pos (by omega), if_pos (by omega), if_neg (by rw [hop]; decide), if_neg (by rw [hop]; decide), if_neg (by rw [hop]; decide), if_neg (by rw [hop]; decide), if_neg (by rw [hop]; decide), if_neg (by rw [hop]; decide), if_neg (by rw [hop]; decide), if_neg (by rw [hop]; decide), if_neg (by rw [hop]; decide), if_neg (by rw [hop]; decide), if_neg (by rw [hop]; decide), if_pos hop]
  rw [if_pos hA, w64 (x := at_ + 1) (by omega) (by omega)]
  unfold rdR
  by_cases hz : rg ((nth w.Prog at_).A.toNat * 1) = 0
  all_goals simp only [hz, if_true, if_false, Option.bind_some, vm_cpu_run.j18]
  all_goals rw [w64 (x := ((k + 1 : Nat) : Int) - 1) (by omega) (by omega)]
  all_goals simp only [show (((k + 1 : Nat) : Int) - 1) = (k : Int) by omega]

theorem step_send {w : api_World} {m : api_Message} (hF : Fine w m) {rg : Rg} {dr : Int} {outs : List api_Out} {at_ : Int} {k : Nat} (hI : Inv w (rg, dr, outs, at_)) (hk : k < 4096) (ha : at_ < (w.Prog.length : Int)) (hop : (nth w.Prog at_).Op = 12) :
    (∃ s', stp w m (nth w.Prog at_) rg dr outs (at_ + 1) = .inl s' ∧ Inv w s' ∧ vm_cpu_run.l17b w.Prog w.Self w.Links w.Seed m.Key.Time m.Key.From m.Key.Seq m.To m.Value m.Uid m.Anti (rg, dr, outs, at_, ((k + 1 : Nat) : Int)) = some (.inl (s'.1, s'.2.1, s'.2.2.1, s'.2.2.2, (k : Int)))) ∨ (∃ e x, stp w m (nth w.Prog at_) rg dr outs (at_ + 1) = .inr e ∧ x.1.why = e ∧ vm_cpu_run.l17b w.Prog w.Self w.Links w.Seed m.Key.Time m.Key.From m.Key.Seq m.To m.Value m.Uid m.Anti (rg, dr, outs, at_, ((k + 1 : Nat) : Int)) = some (.inr (.inr x))) := by
  obtain ⟨i1, i2, i3, i4⟩ := hI
  simp only at i1 i2 i3 i4
  have hn := hF.many
  have hp := may_parts (by have := hF.may at_.toNat (by omega); rw [Int.toNat_of_nonneg i3] at this; exact this)
  have hA := rr (n := (w.Prog.length : Int)) (by have := hp.2.1; rw [hop] at this; exact this)
  have hB := rr (n := (w.Prog.length : Int)) (by have := hp.2.2.1; rw [hop] at this; exact this)
  have hC := rr (n := (w.Prog.length : Int)) (by have := hp.2.2.2; rw [hop] at this; exact this)
  have hst : stp w m (nth w.Prog at_) rg dr outs (at_ + 1) = (match sendS w m (nth w.Prog at_) rg outs with | .inl o => .inl (rg, dr, o, at_ + 1) | .inr e => .inr e) := by unfold stp; rw [if_neg (by rw [hop]; decide), if_neg (by rw [hop]; decide), if_neg (by rw [hop]; decide), if_neg (by rw [hop]; decide), if_neg (by rw [hop]; decide), if_neg (by rw [hop]; decide), if_pos hop]
  rw [hst]
  have hlb : vm_cpu_run.l17b w.Prog w.Self w.Links w.Seed m.Key.Time m.Key.From m.Key.Seq m.To m.Value m.Uid m.Anti (rg, dr, outs, at_, ((k + 1 : Nat) : Int)) = ((vm_cpu_send.f w.Prog w.Self w.Links w.Seed m.Key.Time m.Key.From m.Key.Seq m.To m.Value m.Uid m.Anti dr outs (at_ + 1) rg (nth w.Prog at_)).bind fun t => match t with | .inl y => some (.inl (rg, dr, y, at_ + 1, (k : Int))) | .inr y => (Option.map Sum.inr ((vm_cpu_run_1v2.f y).bind fun t => some (.inr (t, rg, dr, outs, at_ + 1))))) := by
    simp only [vm_cpu_run.l17b]
    rw [if_pos (by omega), if_pos (by omega), if_pos (by omega), if_neg (by rw [hop]; decide), if_neg (by rw [hop]; decide), if_neg (by rw [hop]; decide), if_neg (by rw [hop]; decide), if_neg (by rw [hop]; decide), if_neg (by rw [hop]; decide), if_neg (by rw [hop]; decide), if_neg (by rw [hop]; decide), if_neg (by rw [hop]; decide), if_neg (by rw [hop]; decide), if_neg (by rw [hop]; decide), if_neg (by rw [hop]; decide), if_pos hop]
    rw [w64 (x := at_ + 1) (by omega) (by omega)]
    simp only [vm_cpu_run.j18]
    rw [w64 (x := ((k + 1 : Nat) : Int) - 1) (by omega) (by omega)]
    simp only [show (((k + 1 : Nat) : Int) - 1) = (k : Int) by omega]
    rfl
  have hjoin : ∀ f : vm_fault, vm_cpu_run_1v2.f f = some f := fun f => rfl
  rw [hlb]
  unfold sendS vm_cpu_send.f
  have hl := hF.links
  by_cases h0 : (w.Links.length : Int) = 0
  · rw [if_pos h0, if_pos h0]
    exact .inl ⟨_, rfl, ⟨i1, i2, by show (0 : Int) ≤ at_ + 1; omega, by show at_ + 1 ≤ _; omega⟩, rfl⟩
  rw [if_neg h0, if_neg h0]
  by_cases h8 : (outs.length : Int) = 8
  · rw [if_pos h8, if_pos h8]
    exact .inl ⟨_, rfl, ⟨i1, i2, by show (0 : Int) ≤ at_ + 1; omega, by show at_ + 1 ≤ _; omega⟩, rfl⟩
  have hk2 := lkof_in (rdR rg (nth w.Prog at_).A) (n := (w.Links.length : Int)) (by omega) (by omega)
  rw [if_neg h8, if_neg h8, if_pos hA, if_pos h0, if_pos hB, if_pos hC, if_pos (show 0 ≤ Int.tmod (IntKind.i64.wrap ((Int.tmod (rg ((nth w.Prog at_).A.toNat * 1)) (w.Links.length : Int)) + (w.Links.length : Int))) (w.Links.length : Int) ∧ Int.tmod (IntKind.i64.wrap ((Int.tmod (rg ((nth w.Prog at_).A.toNat * 1)) (w.Links.length : Int)) + (w.Links.length : Int))) (w.Links.length : Int) < (w.Links.length : Int) from hk2)]
  by_cases hd : rdR rg (nth w.Prog at_).B < (nth w.Links (lkof (rdR rg (nth w.Prog at_).A) (w.Links.length : Int))).Look
  · rw [if_pos hd, if_pos (show rg ((nth w.Prog at_).B.toNat * 1) < (nth w.Links (Int.tmod (IntKind.i64.wrap ((Int.tmod (rg ((nth w.Prog at_).A.toNat * 1)) (w.Links.length : Int)) + (w.Links.length : Int))) (w.Links.length : Int))).Look from hd)]
    exact .inr ⟨50, (⟨at_ + 1, 50⟩, rg, dr, outs, at_ + 1), rfl, rfl, rfl⟩
  rw [if_neg hd, if_neg (show ¬ rg ((nth w.Prog at_).B.toNat * 1) < (nth w.Links (Int.tmod (IntKind.i64.wrap ((Int.tmod (rg ((nth w.Prog at_).A.toNat * 1)) (w.Links.length : Int)) + (w.Links.length : Int))) (w.Links.length : Int))).Look from hd)]
  have hlook : 1 ≤ (nth w.Links (lkof (rdR rg (nth w.Prog at_).A) (w.Links.length : Int))).Look := by
    have := hF.look (lkof (rdR rg (nth w.Prog at_).A) (w.Links.length : Int)).toNat (by omega)
    rwa [Int.toNat_of_nonneg hk2.1] at this
  have hadd : vtime_Add.f m.Key.Time (rdR rg (nth w.Prog at_).B) = some (if 4611686018427387903 - m.Key.Time < rdR rg (nth w.Prog at_).B then (0, 10) else (IntKind.i64.wrap (m.Key.Time + rdR rg (nth w.Prog at_).B), 0)) := by
    have ht := hF.time
    unfold vtime_Add.f
    simp only [valid_eq, Option.bind_some]
    rw [if_pos (by simp only [timeB, decide_eq_true_eq]; omega), if_neg (by omega), w64 (x := 4611686018427387903 - m.Key.Time) (by omega) (by omega)]
    split <;> rfl
  rw [show vtime_Add.f m.Key.Time (rg ((nth w.Prog at_).B.toNat * 1)) = _ from hadd]
  by_cases ht : 4611686018427387903 - m.Key.Time < rdR rg (nth w.Prog at_).B
  · rw [if_pos ht, if_pos ht]
    exact .inr ⟨10, (⟨at_ + 1, 10⟩, rg, dr, outs, at_ + 1), rfl, rfl, rfl⟩
  · rw [if_neg ht, if_neg ht]
    simp only [Option.bind_some]
    rw [if_pos trivial, if_pos (by omega)]
    refine .inl ⟨_, rfl, ⟨i1, ?_, by show (0 : Int) ≤ at_ + 1; omega, by show at_ + 1 ≤ _; omega⟩, rfl⟩
    show (outs ++ [_]).length ≤ 8
    rw [List.length_append, List.length_singleton]
    omega

theorem step_draw {w : api_World} {m : api_Message} (hF : Fine w m) {rg : Rg} {dr : Int} {outs : List api_Out} {at_ : Int} {k : Nat} (hI : Inv w (rg, dr, outs, at_)) (hk : k < 4096) (ha : at_ < (w.Prog.length : Int)) (hop : (nth w.Prog at_).Op = 13) :
    ∃ s', stp w m (nth w.Prog at_) rg dr outs (at_ + 1) = .inl s' ∧ Inv w s' ∧ vm_cpu_run.l17b w.Prog w.Self w.Links w.Seed m.Key.Time m.Key.From m.Key.Seq m.To m.Value m.Uid m.Anti (rg, dr, outs, at_, ((k + 1 : Nat) : Int)) = some (.inl (s'.1, s'.2.1, s'.2.2.1, s'.2.2.2, (k : Int))) := by
  obtain ⟨i1, i2, i3, i4⟩ := hI
  simp only at i1 i2 i3 i4
  have hn := hF.many
  have hp := may_parts (by have := hF.may at_.toNat (by omega); rw [Int.toNat_of_nonneg i3] at this; exact this)
  have hA := rr (n := (w.Prog.length : Int)) (by have := hp.2.1; rw [hop] at this; exact this)
  have hB := rr (n := (w.Prog.length : Int)) (by have := hp.2.2.1; rw [hop] at this; exact this)
  refine ⟨(upR rg (nth w.Prog at_).A (below w.Seed w.Self dr (rdR rg (nth w.Prog at_).B)), IntKind.i64.wrap (dr + 1), outs, at_ + 1), by unfold stp; rw [if_neg (by rw [hop]; decide), if_neg (by rw [hop]; decide), if_neg (by rw [hop]; decide), if_neg (by rw [hop]; decide), if_neg (by rw [hop]; decide), if_neg (by rw [hop]; decide), if_neg (by rw [hop]; decide), if_pos hop], ⟨i1.up (below_in _ _ _ _), i2, by show (0 : Int) ≤ at_ + 1; omega, by show at_ + 1 ≤ _; omega⟩, ?_⟩
  simp only [vm_cpu_run.l17b, vm_cpu_draw.f]
  rw [if_pos (by omega), if_pos (by omega), if_pos (by omega), if_neg (by rw [hop]; decide), if_neg (by rw [hop]; decide), if_neg (by rw [hop]; decide), if_neg (by rw [hop]; decide), if_neg (by rw [hop]; decide), if_neg (by rw [hop]; decide), if_neg (by rw [hop]; decide), if_neg (by rw [hop]; decide), if_neg (by rw [hop]; decide), if_neg (by rw [hop]; decide), if_neg (by rw [hop]; decide), if_neg (by rw [hop]; decide), if_neg (by rw [hop]; decide), if_pos hop]
  rw [if_pos hB, below_eq _ _ _ _ (i1 _).2]
  simp only [Option.bind_some]
  rw [if_pos hA, w64 (x := at_ + 1) (by omega) (by omega)]
  simp only [Option.bind_some, vm_cpu_run.j18]
  rw [w64 (x := ((k + 1 : Nat) : Int) - 1) (by omega) (by omega)]
  simp only [show (((k + 1 : Nat) : Int) - 1) = (k : Int) by omega]
  try rfl

theorem step_value {w : api_World} {m : api_Message} (hF : Fine w m) {rg : Rg} {dr : Int} {outs : List api_Out} {at_ : Int} {k : Nat} (hI : Inv w (rg, dr, outs, at_)) (hk : k < 4096) (ha : at_ < (w.Prog.length : Int)) (hop : (nth w.Prog at_).Op = 14) :
    ∃ s', stp w m (nth w.Prog at_) rg dr outs (at_ + 1) = .inl s' ∧ Inv w s' ∧ vm_cpu_run.l17b w.Prog w.Self w.Links w.Seed m.Key.Time m.Key.From m.Key.Seq m.To m.Value m.Uid m.Anti (rg, dr, outs, at_, ((k + 1 : Nat) : Int)) = some (.inl (s'.1, s'.2.1, s'.2.2.1, s'.2.2.2, (k : Int))) := by
  obtain ⟨i1, i2, i3, i4⟩ := hI
  simp only at i1 i2 i3 i4
  have hn := hF.many
  have hp := may_parts (by have := hF.may at_.toNat (by omega); rw [Int.toNat_of_nonneg i3] at this; exact this)
  have hA := rr (n := (w.Prog.length : Int)) (by have := hp.2.1; rw [hop] at this; exact this)
  refine ⟨(upR rg (nth w.Prog at_).A m.Value, dr, outs, at_ + 1), by unfold stp; rw [if_neg (by rw [hop]; decide), if_neg (by rw [hop]; decide), if_neg (by rw [hop]; decide), if_neg (by rw [hop]; decide), if_neg (by rw [hop]; decide), if_neg (by rw [hop]; decide), if_neg (by rw [hop]; decide), if_neg (by rw [hop]; decide), if_pos hop], ⟨i1.up hF.value, i2, by show (0 : Int) ≤ at_ + 1; omega, by show at_ + 1 ≤ _; omega⟩, ?_⟩
  simp only [vm_cpu_run.l17b, vm_cpu_value.f]
  rw [if_pos (by omega), if_pos (by omega), if_pos (by omega), if_neg (by rw [hop]; decide), if_neg (by rw [hop]; decide), if_neg (by rw [hop]; decide), if_neg (by rw [hop]; decide), if_neg (by rw [hop]; decide), if_neg (by rw [hop]; decide), if_neg (by rw [hop]; decide), if_neg (by rw [hop]; decide), if_neg (by rw [hop]; decide), if_neg (by rw [hop]; decide), if_neg (by rw [hop]; decide), if_neg (by rw [hop]; decide), if_neg (by rw [hop]; decide), if_neg (by rw [hop]; decide), if_pos hop]
  rw [if_pos hA, w64 (x := at_ + 1) (by omega) (by omega)]
  simp only [Option.bind_some, vm_cpu_run.j18]
  rw [w64 (x := ((k + 1 : Nat) : Int) - 1) (by omega) (by omega)]
  simp only [show (((k + 1 : Nat) : Int) - 1) = (k : Int) by omega]
  try rfl

theorem step_time {w : api_World} {m : api_Message} (hF : Fine w m) {rg : Rg} {dr : Int} {outs : List api_Out} {at_ : Int} {k : Nat} (hI : Inv w (rg, dr, outs, at_)) (hk : k < 4096) (ha : at_ < (w.Prog.length : Int)) (hop : (nth w.Prog at_).Op = 15) :
    ∃ s', stp w m (nth w.Prog at_) rg dr outs (at_ + 1) = .inl s' ∧ Inv w s' ∧ vm_cpu_run.l17b w.Prog w.Self w.Links w.Seed m.Key.Time m.Key.From m.Key.Seq m.To m.Value m.Uid m.Anti (rg, dr, outs, at_, ((k + 1 : Nat) : Int)) = some (.inl (s'.1, s'.2.1, s'.2.2.1, s'.2.2.2, (k : Int))) := by
  obtain ⟨i1, i2, i3, i4⟩ := hI
  simp only at i1 i2 i3 i4
  have hn := hF.many
  have hp := may_parts (by have := hF.may at_.toNat (by omega); rw [Int.toNat_of_nonneg i3] at this; exact this)
  have hA := rr (n := (w.Prog.length : Int)) (by have := hp.2.1; rw [hop] at this; exact this)
  refine ⟨(upR rg (nth w.Prog at_).A m.Key.Time, dr, outs, at_ + 1), by unfold stp; rw [if_neg (by rw [hop]; decide), if_neg (by rw [hop]; decide), if_neg (by rw [hop]; decide), if_neg (by rw [hop]; decide), if_neg (by rw [hop]; decide), if_neg (by rw [hop]; decide), if_neg (by rw [hop]; decide), if_neg (by rw [hop]; decide), if_neg (by rw [hop]; decide), if_pos hop], ⟨i1.up (by have := hF.time; omega), i2, by show (0 : Int) ≤ at_ + 1; omega, by show at_ + 1 ≤ _; omega⟩, ?_⟩
  simp only [vm_cpu_run.l17b, vm_cpu_time.f]
  rw [if_pos (by omega), if_pos (by omega), if_pos (by omega), if_neg (by rw [hop]; decide), if_neg (by rw [hop]; decide), if_neg (by rw [hop]; decide), if_neg (by rw [hop]; decide), if_neg (by rw [hop]; decide), if_neg (by rw [hop]; decide), if_neg (by rw [hop]; decide), if_neg (by rw [hop]; decide), if_neg (by rw [hop]; decide), if_neg (by rw [hop]; decide), if_neg (by rw [hop]; decide), if_neg (by rw [hop]; decide), if_neg (by rw [hop]; decide), if_neg (by rw [hop]; decide), if_neg (by rw [hop]; decide), if_pos hop]
  rw [if_pos hA, w64 (x := at_ + 1) (by omega) (by omega)]
  simp only [Option.bind_some, vm_cpu_run.j18]
  rw [w64 (x := ((k + 1 : Nat) : Int) - 1) (by omega) (by omega)]
  simp only [show (((k + 1 : Nat) : Int) - 1) = (k : Int) by omega]
  try rfl

theorem step_self {w : api_World} {m : api_Message} (hF : Fine w m) {rg : Rg} {dr : Int} {outs : List api_Out} {at_ : Int} {k : Nat} (hI : Inv w (rg, dr, outs, at_)) (hk : k < 4096) (ha : at_ < (w.Prog.length : Int)) (hop : (nth w.Prog at_).Op = 16) :
    ∃ s', stp w m (nth w.Prog at_) rg dr outs (at_ + 1) = .inl s' ∧ Inv w s' ∧ vm_cpu_run.l17b w.Prog w.Self w.Links w.Seed m.Key.Time m.Key.From m.Key.Seq m.To m.Value m.Uid m.Anti (rg, dr, outs, at_, ((k + 1 : Nat) : Int)) = some (.inl (s'.1, s'.2.1, s'.2.2.1, s'.2.2.2, (k : Int))) := by
  obtain ⟨i1, i2, i3, i4⟩ := hI
  simp only at i1 i2 i3 i4
  have hn := hF.many
  have hp := may_parts (by have := hF.may at_.toNat (by omega); rw [Int.toNat_of_nonneg i3] at this; exact this)
  have hA := rr (n := (w.Prog.length : Int)) (by have := hp.2.1; rw [hop] at this; exact this)
  refine ⟨(upR rg (nth w.Prog at_).A w.Self, dr, outs, at_ + 1), by unfold stp; rw [if_neg (by rw [hop]; decide), if_neg (by rw [hop]; decide), if_neg (by rw [hop]; decide), if_neg (by rw [hop]; decide), if_neg (by rw [hop]; decide), if_neg (by rw [hop]; decide), if_neg (by rw [hop]; decide), if_neg (by rw [hop]; decide), if_neg (by rw [hop]; decide), if_neg (by rw [hop]; decide)], ⟨i1.up (by have := hF.self; omega), i2, by show (0 : Int) ≤ at_ + 1; omega, by show at_ + 1 ≤ _; omega⟩, ?_⟩
  simp only [vm_cpu_run.l17b, vm_cpu_self.f]
  rw [if_pos (by omega), if_pos (by omega), if_pos (by omega), if_neg (by rw [hop]; decide), if_neg (by rw [hop]; decide), if_neg (by rw [hop]; decide), if_neg (by rw [hop]; decide), if_neg (by rw [hop]; decide), if_neg (by rw [hop]; decide), if_neg (by rw [hop]; decide), if_neg (by rw [hop]; decide), if_neg (by rw [hop]; decide), if_neg (by rw [hop]; decide), if_neg (by rw [hop]; decide), if_neg (by rw [hop]; decide), if_neg (by rw [hop]; decide), if_neg (by rw [hop]; decide), if_neg (by rw [hop]; decide), if_neg (by rw [hop]; decide), if_pos hop]
  rw [if_pos hA, w64 (x := at_ + 1) (by omega) (by omega)]
  simp only [Option.bind_some, vm_cpu_run.j18]
  rw [w64 (x := ((k + 1 : Nat) : Int) - 1) (by omega) (by omega)]
  simp only [show (((k + 1 : Nat) : Int) - 1) = (k : Int) by omega]
  try rfl

noncomputable def runF (w : api_World) (m : api_Message) : Nat → Sv → Sv ⊕ Int
  | 0, s => .inl s
  | k + 1, s => if s.2.2.2 < (w.Prog.length : Int) then match stp w m (nth w.Prog s.2.2.2) s.1 s.2.1 s.2.2.1 (s.2.2.2 + 1) with | .inl s' => runF w m k s' | .inr e => .inr e else .inl s
def Rel (a : Sv ⊕ Int) (b : Sv ⊕ (vm_fault × Sv)) : Prop := match a, b with
  | .inl x, .inl y => x = y
  | .inr e, .inr y => y.1.why = e
  | _, _ => False
theorem run_loop {w : api_World} {m : api_Message} (hF : Fine w m) : ∀ (k : Nat) (hk : k ≤ 4096) (s : Sv), Inv w s →
    ∃ r, loopR (vm_cpu_run.l17b w.Prog w.Self w.Links w.Seed m.Key.Time m.Key.From m.Key.Seq m.To m.Value m.Uid m.Anti) (s.1, s.2.1, s.2.2.1, s.2.2.2, (k : Int)) = some r ∧ Rel (runF w m k s) r ∧ ∀ s', runF w m k s = .inl s' → Inv w s' := by
  intro k
  induction k with
  | zero =>
    intro _ s hI
    refine ⟨.inl s, ?_, rfl, fun s' e => by cases e; exact hI⟩
    rw [loopR_eq]
    simp only [vm_cpu_run.l17b]
    rw [if_neg (by decide)]
    rfl
  | succ k ih =>
    intro hk s hI
    obtain ⟨rg, dr, outs, at_⟩ := s
    by_cases ha : at_ < (w.Prog.length : Int)
    · have hp := may_parts (by have := hF.may at_.toNat (by have := hI.a0; simp only at this; omega); rw [Int.toNat_of_nonneg hI.a0] at this; exact this)
      have key : (∃ s', stp w m (nth w.Prog at_) rg dr outs (at_ + 1) = .inl s' ∧ Inv w s' ∧ vm_cpu_run.l17b w.Prog w.Self w.Links w.Seed m.Key.Time m.Key.From m.Key.Seq m.To m.Value m.Uid m.Anti (rg, dr, outs, at_, ((k + 1 : Nat) : Int)) = some (.inl (s'.1, s'.2.1, s'.2.2.1, s'.2.2.2, (k : Int)))) ∨ (∃ e x, stp w m (nth w.Prog at_) rg dr outs (at_ + 1) = .inr e ∧ x.1.why = e ∧ vm_cpu_run.l17b w.Prog w.Self w.Links w.Seed m.Key.Time m.Key.From m.Key.Seq m.To m.Value m.Uid m.Anti (rg, dr, outs, at_, ((k + 1 : Nat) : Int)) = some (.inr (.inr x))) := by
        rcases op_cases hp.1.1 hp.1.2 with h | h | h | h | h | h | h | h | h | h | h | h | h | h | h | h | h
        · exact .inl (step_halt hF hI (by omega) ha h)
        · exact .inl (step_set hF hI (by omega) ha h)
        · exact .inl (step_move hF hI (by omega) ha h)
        · exact .inl (step_add hF hI (by omega) ha h)
        · exact .inl (step_sub hF hI (by omega) ha h)
        · exact .inl (step_mul hF hI (by omega) ha h)
        · exact .inl (step_div hF hI (by omega) ha h)
        · exact .inl (step_mod hF hI (by omega) ha h)
        · exact .inl (step_less hF hI (by omega) ha h)
        · exact .inl (step_same hF hI (by omega) ha h)
        · exact .inl (step_jump hF hI (by omega) ha h)
        · exact .inl (step_zero hF hI (by omega) ha h)
        · exact (step_send hF hI (by omega) ha h)
        · exact .inl (step_draw hF hI (by omega) ha h)
        · exact .inl (step_value hF hI (by omega) ha h)
        · exact .inl (step_time hF hI (by omega) ha h)
        · exact .inl (step_self hF hI (by omega) ha h)
      simp only [runF]
      rw [if_pos ha, loopR_eq]
      rcases key with ⟨s', e1, e2, e3⟩ | ⟨e, x, e1, e2, e3⟩
      · rw [e1, e3]
        exact ih (by omega) s' e2
      · rw [e1, e3]
        exact ⟨.inr x, rfl, e2, fun s' e => by cases e⟩
    · simp only [runF]
      rw [if_neg ha]
      refine ⟨.inl (rg, dr, outs, at_), ?_, rfl, fun s' e => by cases e; exact hI⟩
      rw [loopR_eq]
      simp only [vm_cpu_run.l17b]
      rw [if_pos (by omega), if_neg ha]
      rfl

theorem step_inv {w : api_World} {m : api_Message} (hF : Fine w m) {rg : Rg} {dr : Int} {outs : List api_Out} {at_ : Int} {s' : Sv} (hI : Inv w (rg, dr, outs, at_)) (ha : at_ < (w.Prog.length : Int)) (e : stp w m (nth w.Prog at_) rg dr outs (at_ + 1) = .inl s') : Inv w s' := by
  have hp := may_parts (by have := hF.may at_.toNat (by have := hI.a0; simp only at this; omega); rw [Int.toNat_of_nonneg hI.a0] at this; exact this)
  rcases op_cases hp.1.1 hp.1.2 with h | h | h | h | h | h | h | h | h | h | h | h | h | h | h | h | h
  · obtain ⟨s2, e1, e2, _⟩ := step_halt hF hI (k := 0) (by decide) ha h
    rw [e1] at e
    cases e
    exact e2
  · obtain ⟨s2, e1, e2, _⟩ := step_set hF hI (k := 0) (by decide) ha h
    rw [e1] at e
    cases e
    exact e2
  · obtain ⟨s2, e1, e2, _⟩ := step_move hF hI (k := 0) (by decide) ha h
    rw [e1] at e
    cases e
    exact e2
  · obtain ⟨s2, e1, e2, _⟩ := step_add hF hI (k := 0) (by decide) ha h
    rw [e1] at e
    cases e
    exact e2
  · obtain ⟨s2, e1, e2, _⟩ := step_sub hF hI (k := 0) (by decide) ha h
    rw [e1] at e
    cases e
    exact e2
  · obtain ⟨s2, e1, e2, _⟩ := step_mul hF hI (k := 0) (by decide) ha h
    rw [e1] at e
    cases e
    exact e2
  · obtain ⟨s2, e1, e2, _⟩ := step_div hF hI (k := 0) (by decide) ha h
    rw [e1] at e
    cases e
    exact e2
  · obtain ⟨s2, e1, e2, _⟩ := step_mod hF hI (k := 0) (by decide) ha h
    rw [e1] at e
    cases e
    exact e2
  · obtain ⟨s2, e1, e2, _⟩ := step_less hF hI (k := 0) (by decide) ha h
    rw [e1] at e
    cases e
    exact e2
  · obtain ⟨s2, e1, e2, _⟩ := step_same hF hI (k := 0) (by decide) ha h
    rw [e1] at e
    cases e
    exact e2
  · obtain ⟨s2, e1, e2, _⟩ := step_jump hF hI (k := 0) (by decide) ha h
    rw [e1] at e
    cases e
    exact e2
  · obtain ⟨s2, e1, e2, _⟩ := step_zero hF hI (k := 0) (by decide) ha h
    rw [e1] at e
    cases e
    exact e2
  · rcases step_send hF hI (k := 0) (by decide) ha h with ⟨s2, e1, e2, _⟩ | ⟨e1, x, e2, _⟩
    · rw [e1] at e
      cases e
      exact e2
    · rw [e2] at e
      cases e
  · obtain ⟨s2, e1, e2, _⟩ := step_draw hF hI (k := 0) (by decide) ha h
    rw [e1] at e
    cases e
    exact e2
  · obtain ⟨s2, e1, e2, _⟩ := step_value hF hI (k := 0) (by decide) ha h
    rw [e1] at e
    cases e
    exact e2
  · obtain ⟨s2, e1, e2, _⟩ := step_time hF hI (k := 0) (by decide) ha h
    rw [e1] at e
    cases e
    exact e2
  · obtain ⟨s2, e1, e2, _⟩ := step_self hF hI (k := 0) (by decide) ha h
    rw [e1] at e
    cases e
    exact e2

def stB (s : api_State) : Bool := decide ((0 ≤ s.Draws ∧ s.Draws ≤ 1125899906842624) ∧ 0 ≤ s.Sent ∧ s.Sent ≤ 1125899906842624)
def zst : api_State := ⟨⟨0, 0, 0, 0, 0, 0, 0, 0⟩, 0, 0⟩
def rgs (s : api_State) : Rg := ovl [s.Regs.c0, s.Regs.c1, s.Regs.c2, s.Regs.c3, s.Regs.c4, s.Regs.c5, s.Regs.c6, s.Regs.c7] zfn
def stOf (s : api_State) (f : Rg) (dr : Int) (n : Nat) : api_State := ⟨⟨f 0, f 1, f 2, f 3, f 4, f 5, f 6, f 7⟩, dr, IntKind.i64.wrap (s.Sent + (n : Int))⟩
noncomputable def vmRun (w : api_World) (s : api_State) (m : api_Message) : api_State × List api_Out × Int :=
  if chkW w = 0 then if evB m = true ∧ stB s = true then match runF w m 4096 (rgs s, s.Draws, [], 0) with
    | .inl x => (stOf s x.1 x.2.1 x.2.2.1.length, x.2.2.1, 0)
    | .inr e => (s, [], e)
  else (zst, [], 1) else (zst, [], chkW w)
theorem chk_zero {l : List api_Instr} (h : chk l = 0) : (l.length : Int) ≤ 256 ∧ ∀ k : Nat, k < l.length → mayB (nth l (k : Int)) (l.length : Int) = true := by
  unfold chk at h
  split at h
  · cases h
  · rename_i h1
    refine ⟨by omega, fun k hk => ?_⟩
    cases hf : (List.range l.length).find? (fun k : Nat => !mayB (nth l (k : Int)) (l.length : Int)) with
    | some j => rw [hf] at h; cases h
    | none =>
      have := List.find?_eq_none.1 hf k (List.mem_range.2 hk)
      simpa using this
theorem fine_of {w : api_World} {m : api_Message} (hw : chkW w = 0) (hm : evB m = true) (hv : -9223372036854775808 ≤ m.Value ∧ m.Value ≤ 9223372036854775807) : Fine w m := by
  unfold chkW at hw
  split at hw
  · rename_i h1
    split at hw
    · rename_i h2
      split at hw
      · cases hw
      · rename_i h3
        split at hw
        · cases hw
        · rename_i h4
          obtain ⟨p1, p2⟩ := chk_zero h1
          simp only [evB, Bool.and_eq_true] at hm
          refine ⟨p2, p1, by omega, fun k hk => ?_, by simpa [laneW] using h2, by simpa [timeB] using hm.1.1.1, hv⟩
          simp only [Bool.not_eq_true] at h4
          have := List.any_eq_false.1 h4 k (List.mem_range.2 hk)
          simp only [linkBadW, Bool.not_eq_true, Bool.not_eq_false', Bool.and_eq_true, decide_eq_true_eq] at this
          exact this.2.1
    · cases hw
  · rename_i h1
    exact absurd hw h1
theorem vm_run_eq (w : api_World) (s : api_State) (m : api_Message) (hs : Rin (rgs s)) (hv : -9223372036854775808 ≤ m.Value ∧ m.Value ≤ 9223372036854775807) : vm_Run.f w s m = some (vmRun w s m) := by
  unfold vm_Run.f vmRun
  simp only [vm_check_eq, event_check_eq, Option.bind_some]
  by_cases hw : chkW w = 0
  · rw [if_pos hw, if_pos hw]
    by_cases hm : evB m = true
    · simp only [hm, if_true, true_and]
      by_cases hb : stB s = true
      · have hb' : (0 ≤ s.Draws ∧ s.Draws ≤ 1125899906842624) ∧ 0 ≤ s.Sent ∧ s.Sent ≤ 1125899906842624 := by simpa [stB] using hb
        rw [if_neg (by split <;> omega), if_neg (by split <;> omega), if_pos hb]
        have hI : Inv w (rgs s, s.Draws, [], 0) := ⟨hs, Nat.zero_le _, Int.le_refl _, by show (0 : Int) ≤ _; omega⟩
        obtain ⟨r, e1, e2, _⟩ := run_loop (fine_of hw hm hv) 4096 (Nat.le_refl _) _ hI
        have e1' : vm_cpu_run.f w.Prog w.Self w.Links w.Seed m.Key.Time m.Key.From m.Key.Seq m.To m.Value m.Uid m.Anti s.Draws ([] : List api_Out) 0 (ovl [s.Regs.c0, s.Regs.c1, s.Regs.c2, s.Regs.c3, s.Regs.c4, s.Regs.c5, s.Regs.c6, s.Regs.c7] zfn) = some r := e1
        rw [e1']
        simp only [Option.bind_some]
        cases hr : runF w m 4096 (rgs s, s.Draws, [], 0) with
        | inl x =>
          rw [hr] at e2
          cases r with
          | inl y => obtain rfl : x = y := e2; rfl
          | inr y => exact e2.elim
        | inr e =>
          rw [hr] at e2
          cases r with
          | inl y => exact e2.elim
          | inr y =>
            obtain ⟨y1, y2, y3, y4, y5⟩ := y
            have e2' : y1.why = e := e2
            subst e2'
            rfl
      · rw [if_neg hb]
        have hb' : ¬ ((0 ≤ s.Draws ∧ s.Draws ≤ 1125899906842624) ∧ 0 ≤ s.Sent ∧ s.Sent ≤ 1125899906842624) := by simpa [stB] using hb
        by_cases h1 : (if s.Sent < s.Draws then s.Sent else s.Draws) < 0
        · rw [if_pos h1]; rfl
        rw [if_neg h1]
        by_cases h2 : 1125899906842624 < (if s.Draws < s.Sent then s.Sent else s.Draws)
        · rw [if_pos h2]; rfl
        exfalso
        apply hb'
        split at h1 <;> split at h2 <;> omega
    · simp only [Bool.not_eq_true] at hm
      simp [hm, zst]
  · rw [if_neg hw, if_neg hw]; rfl
end Go.Proofs.Gx

