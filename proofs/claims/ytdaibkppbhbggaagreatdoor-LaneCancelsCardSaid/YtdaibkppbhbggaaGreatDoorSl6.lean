/-
 The own separation logic for the walks, part 6.
-/
import Derived.Test.YtdaibkppbhbggaaGreatDoorSl5
import Derived.Laws.BytesString
set_option linter.unusedVariables false
set_option linter.unusedSimpArgs false
namespace Go.Sl
theorem Own.less {w : World} : ∀ (l : List HProp) (av av' : List Hp), Own w l av → (∀ g ∈ av', ∀ b, g b ≠ none → ∃ k ∈ av, k b ≠ none) → Own w l av' := by
 intro l
 induction l with
 | nil => intro _ _ _ _; trivial
 | cons A l ih =>
  intro av av' ⟨k, kA, ks, kd, kr⟩ hsub
  refine ⟨k, kA, ks, fun g hg b' => ?_, ih _ _ kr fun g hg b' hb' => ?_⟩
  ·by_cases hb' : g b' = none
   ·exact .inl hb'
   ·obtain ⟨m, hm, hi⟩ := hsub g hg b' hb'
    rcases kd m hm b' with h0 | h0
    ·exact absurd h0 hi
    ·exact .inr h0
  ·rcases List.mem_cons.1 hg with rfl | hg
   ·exact ⟨g, List.mem_cons_self, hb'⟩
   ·obtain ⟨m, hm, hi⟩ := hsub g hg b' hb'
    exact ⟨m, List.mem_cons_of_mem _ hm, hi⟩
section
variable {P : Program} {N : Fr} {env : Env} {w : World} {dst : Option Tmp} {t : TypeId} {pos : String} {aft : Array Edge} {g : Option (Nat × Bool)} {B : Base} {l : List HProp} {hf : Hp}
theorem St.down {hf' : Hp} (h : St B w l hf') (s : Sub hf hf') : St B w l hf :=
 ⟨h.base, s.trans h.sub, Own.less l [hf'] [hf] h.own fun g hg b hb => ⟨hf', List.mem_cons_self, by
  obtain rfl : g = hf := by simpa using hg
  cases e : g b with
  | none => exact absurd e hb
  | some o => rw [s b o e]; simp⟩⟩
theorem OSf.slR {α : Type} {E : Fl α} {e : TypeId} {A : Option Addr} {n c : Nat} {xs : List α} {h1 : Hp} (h : OSf E e (.slice A n c) xs h1) : SlR E.rep h1 A c xs := by
 obtain ⟨hl, hA⟩ := h
 rcases hA with ⟨e1, e2, _⟩ | ⟨g, o, cap, cur, e1, hp', hc, _, hcs, htk⟩
 ·cases e1
  have : xs = [] := List.length_eq_zero_iff.1 e2
  subst this
  exact SlR.nil
 ·cases e1
  refine ⟨hc, fun k hk => ⟨rfl, E.enc xs[k], rfl, fun j u hu => ?_⟩⟩
  have hg := flat_get E xs k j hk u hu
  have hcell := cur_get htk hg
  show cellH h1 ((ad (some (⟨g, o, none⟩ : Addr))).add (k * E.sz + j)) = some u
  simp only [ad, Option.getD_some]
  rw [add_mk]
  simp [cellH, hp'.1, hcell]
theorem St.promote {α : Type} {E : Fl α} {e : TypeId} {A : Option Addr} {n c : Nat} {xs : List α} (h : St B w (OSf E e (.slice A n c) xs :: l) hf) :
  ∃ hf', Sub hf hf' ∧ St B w l hf' ∧ SlR E.rep hf' A c xs := by
 obtain ⟨h1, hA, d, hS⟩ := h.lend
 exact ⟨_, sub_un_left _ _, hS, (OSf.slR hA).mono (sub_un_right d)⟩
theorem St.lendSl {α : Type} {E : Fl α} {e : TypeId} {A : Option Addr} {n c : Nat} {xs : List α} (h : St B w (OSf E e (.slice A n c) xs :: l) hf) :
  ∃ hf', Sub hf hf' ∧ St B w l hf' ∧ SlR E.rep hf' A c xs ∧ ∀ w' l', St B w' l' hf' → St B w' (OSf E e (.slice A n c) xs :: l') hf := by
 obtain ⟨h1, hA, d, hS⟩ := h.lend
 exact ⟨_, sub_un_left _ _, hS, (OSf.slR hA).mono (sub_un_right d), fun w' l' h' => (h'.back d).imp fun k hk => hk ▸ hA⟩
def subA (A : Option Addr) (c lo sz : Nat) : Option Addr := if c = lo then A else A.map (·.add (lo * sz))
def subL {α : Type} (xs : List α) (lo hi : Int) : List α := (xs.drop lo.toNat).take (hi.toNat - lo.toNat)
theorem subL_len {α : Type} {xs : List α} {lo hi : Int} (h0 : 0 ≤ lo) (h1 : lo ≤ hi) (h2 : hi ≤ xs.length) : (subL xs lo hi).length = hi.toNat - lo.toNat := by
 simp only [subL, List.length_take, List.length_drop]; omega
theorem run_bound {k : IntKind} {i : Int} {y : Nat} {code : BoundsCode} (h0 : 0 ≤ i) (h1 : i ≤ y) : (Instr.sliceBound (.int k i) y code).run P w = .ok i.toNat w := by
 simp [Instr.sliceBound, asIntOf, h0, h1]
theorem Vl.indexMap {α : Type} [Inhabited α] {f : α → Value} {ty e : TypeId} {x ix : Operand} {k : IntKind} {i : Int} {n : Nat} {l : List α}
  (hu : P.underlying ty = some (.array n e)) (hz : ∀ w, (sizeOf e).run P w = .ok 1 w) (hg : ∀ w, (isAgg e).run P w = .ok false w) (hl : l.length = n)
  (hx : ev env x = some (.agg (l.map f).toArray)) (hi : ev env ix = some (.int k i)) (h0 : 0 ≤ i) (h1 : i < n) :
  Vl P N ⟨dst, .index ty x ix, t, pos, aft, g⟩ env w (f (nth l i)) := by
 subst hl
 refine Vl.indexA hu hz hx hi h0 h1 (run_part1 hg ?_)
 obtain ⟨h, e⟩ := nth_eq h0 h1
 simp [e, h]
theorem OW.build0 {α : Type} {E : Fl α} {ty e : TypeId} {z : Value} (hS : St B w l hf) (hu : P.underlying ty = some (.slice e)) (hz : ∀ w, (zeroValue e).run P w = .ok z w) (hs : ∀ w, (sizeOf e).run P w = .ok E.sz w) :
  OW P N ⟨dst, .buildSlice ty 0 #[], t, pos, aft, g⟩ env w (fun v' w' => ∃ b, v' = .slice (some ⟨b, 0, none⟩) 0 0 ∧ St B w' (OSf E e v' [] :: l) hf) := fun a ha next Q hnx => by
 have hr : (execOp a.eval ⟨dst, .buildSlice ty 0 #[], t, pos, aft, g⟩).run P w = .ok (.value (.slice (some ⟨w.heap.size, 0, none⟩) 0 0)) (w.alloc (.cells #[] e)) := by
  have hu' : (underlying ty).run P w = .ok (.slice e) w := by simp [underlying, hu]
  have he : Array.range 0 = #[] := rfl
  simp [execOp, Instr.buildSlice, hu', hs, newRow, run_newObj, World.alloc_eq, Instr.fill, he]
 simp only [Oper.wp, hr, Oper.upon]
 refine hnx _ _ ⟨_, rfl, ?_⟩
 have := hS.new (w' := w.alloc (.cells #[] e)) (.cells #[] e) rfl rfl
 exact this.imp fun k hk => ⟨by simp, .inr ⟨_, 0, 0, _, rfl, hk, Nat.le_refl _, Nat.zero_le _, by simp, by simp⟩⟩
end
def LW (P : Program) (y : Bool) (Q : Exit → Act → World → Prop) (c : Code) (a : Act) (w : World) : Prop := wq P y (.loop c) Q a w
theorem RC.unroll {P : Program} {N : Fr} {Q : Exit → Act → World → Prop} {c : Code} {env : Env} {w : World} (h : RQ N (fun a w => LW P N.y Q c a w) env w) : RC P N Q (.loop c) env w := h
theorem RQ.round {P : Program} {N : Fr} {Q : Exit → Act → World → Prop} {c : Code} {env : Env} {w : World} (h : RC P N (Exit.then (fun a w => LW P N.y Q c a w) Q) c env w) : RQ N (fun a w => LW P N.y Q c a w) env w := fun a ha X hX =>
 hX a w (wq_mono c (then_mono (fun a w h => h X hX) fun _ _ _ h => h) a w (h a ha))
end Go.Sl
