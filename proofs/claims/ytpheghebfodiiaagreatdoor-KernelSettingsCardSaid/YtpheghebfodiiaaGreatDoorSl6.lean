/-
  The own separation logic for the walks, part 6.
-/
import Derived.Test.YtpheghebfodiiaaGreatDoorSl5
import Derived.Laws.BytesString
set_option linter.unusedVariables false
set_option linter.unusedSimpArgs false
namespace Go.Sl

/-! ### 11. A frame that grows -/
theorem Own.less {w : World} : ∀ (l : List HProp) (av av' : List Hp), Own w l av → (∀ g ∈ av', ∀ b, g b ≠ none → ∃ k ∈ av, k b ≠ none) → Own w l av' := by
  intro l
  induction l with
  | nil => intro _ _ _ _; trivial
  | cons A l ih =>
    intro av av' ⟨k, kA, ks, kd, kr⟩ hsub
    refine ⟨k, kA, ks, fun g hg b' => ?_, ih _ _ kr fun g hg b' hb' => ?_⟩
    · by_cases hb' : g b' = none
      · exact .inl hb'
      · obtain ⟨m, hm, hi⟩ := hsub g hg b' hb'
        rcases kd m hm b' with h0 | h0
        · exact absurd h0 hi
        · exact .inr h0
    · rcases List.mem_cons.1 hg with rfl | hg
      · exact ⟨g, List.mem_cons_self, hb'⟩
      · obtain ⟨m, hm, hi⟩ := hsub g hg b' hb'
        exact ⟨m, List.mem_cons_of_mem _ hm, hi⟩
section
variable {P : Program} {N : Fr} {env : Env} {w : World} {dst : Option Tmp} {t : TypeId} {pos : String} {aft : Array Edge} {g : Option (Nat × Bool)} {B : Base} {l : List HProp} {hf : Hp}
theorem St.down {hf' : Hp} (h : St B w l hf') (s : Sub hf hf') : St B w l hf :=
  ⟨h.base, s.trans h.sub, Own.less l [hf'] [hf] h.own fun g hg b hb => ⟨hf', List.mem_cons_self, by
    obtain rfl : g = hf := by simpa using hg
    cases e : g b with
    | none => exact absurd e hb
    | some o => rw [s b o e]; simp⟩⟩
/-- flat data in a heaplet -/
theorem OSf.slR {α : Type} {E : Fl α} {e : TypeId} {A : Option Addr} {n c : Nat} {xs : List α} {h1 : Hp} (h : OSf E e (.slice A n c) xs h1) : SlR E.rep h1 A c xs := by
  obtain ⟨hl, hA⟩ := h
  rcases hA with ⟨e1, e2, _⟩ | ⟨g, o, cap, cur, e1, hp', hc, _, hcs, htk⟩
  · cases e1
    have : xs = [] := List.length_eq_zero_iff.1 e2
    subst this
    exact SlR.nil
  · cases e1
    refine ⟨hc, fun k hk => ⟨rfl, E.enc xs[k], rfl, fun j u hu => ?_⟩⟩
    have hg := flat_get E xs k j hk u hu
    have hcell := cur_get htk hg
    show cellH h1 ((ad (some (⟨g, o, none⟩ : Addr))).add (k * E.sz + j)) = some u
    simp only [ad, Option.getD_some]
    rw [add_mk]
    simp [cellH, hp'.1, hcell]
/-- a slice of the call's own becomes one that is only read -/
theorem St.promote {α : Type} {E : Fl α} {e : TypeId} {A : Option Addr} {n c : Nat} {xs : List α} (h : St B w (OSf E e (.slice A n c) xs :: l) hf) :
    ∃ hf', Sub hf hf' ∧ St B w l hf' ∧ SlR E.rep hf' A c xs := by
  obtain ⟨h1, hA, d, hS⟩ := h.lend
  exact ⟨_, sub_un_left _ _, hS, (OSf.slR hA).mono (sub_un_right d)⟩
/-- or for the time of a call -/
theorem St.lendSl {α : Type} {E : Fl α} {e : TypeId} {A : Option Addr} {n c : Nat} {xs : List α} (h : St B w (OSf E e (.slice A n c) xs :: l) hf) :
    ∃ hf', Sub hf hf' ∧ St B w l hf' ∧ SlR E.rep hf' A c xs ∧ ∀ w' l', St B w' l' hf' → St B w' (OSf E e (.slice A n c) xs :: l') hf := by
  obtain ⟨h1, hA, d, hS⟩ := h.lend
  exact ⟨_, sub_un_left _ _, hS, (OSf.slR hA).mono (sub_un_right d), fun w' l' h' => (h'.back d).imp fun k hk => hk ▸ hA⟩
/-! ### 12. More operations -/
/-- a part of a slice -/
def subA (A : Option Addr) (c lo sz : Nat) : Option Addr := if c = lo then A else A.map (·.add (lo * sz))
def subL {α : Type} (xs : List α) (lo hi : Int) : List α := (xs.drop lo.toNat).take (hi.toNat - lo.toNat)
theorem subL_len {α : Type} {xs : List α} {lo hi : Int} (h0 : 0 ≤ lo) (h1 : lo ≤ hi) (h2 : hi ≤ xs.length) : (subL xs lo hi).length = hi.toNat - lo.toNat := by
  simp only [subL, List.length_take, List.length_drop]; omega
theorem SlR.sub {α : Type} {E : Rep α} {h : Hp} {A : Option Addr} {c : Nat} {xs : List α} (x : SlR E h A c xs) {lo hi : Int} {m : Nat} (h0 : 0 ≤ lo) (h1 : lo ≤ hi) (h2 : hi ≤ xs.length) (hm : hi.toNat ≤ m) :
    SlR E h (subA A m lo.toNat E.sz) (m - lo.toNat) (subL xs lo hi) := by
  have hl := subL_len h0 h1 h2
  refine ⟨by rw [hl]; omega, fun i hi' => ?_⟩
  have hi2 := hi'
  rw [hl] at hi2
  have hx : lo.toNat + i < xs.length := by omega
  obtain ⟨a, cs, r, k⟩ := x.2 (lo.toNat + i) hx
  have hne : ¬ m = lo.toNat := by omega
  have e : subA A m lo.toNat E.sz = some ((ad A).add (lo.toNat * E.sz)) := by
    rw [subA, if_neg hne, a]; simp [ad]
  refine ⟨by rw [e]; simp [ad], cs, ?_, fun j v hv => ?_⟩
  · have : (subL xs lo hi)[i] = xs[lo.toNat + i] := by simp [subL]
    rw [this]; exact r
  · rw [e]
    simp only [ad, Option.getD_some]
    rw [add_add]
    have := k j v hv
    rw [show lo.toNat * E.sz + (i * E.sz + j) = (lo.toNat + i) * E.sz + j by rw [Nat.add_mul]; omega]
    simpa [ad] using this
theorem run_bound {k : IntKind} {i : Int} {y : Nat} {code : BoundsCode} (h0 : 0 ≤ i) (h1 : i ≤ y) : (Instr.sliceBound (.int k i) y code).run P w = .ok i.toNat w := by
  simp [Instr.sliceBound, asIntOf, h0, h1]
/-- x[lo:hi] -/
theorem Vl.slice {α : Type} {ty e : TypeId} {x lo hi : Operand} {kl kh : IntKind} {a b : Int} {A : Option Addr} {c sz : Nat} {xs : List α} (hu : P.underlying ty = some (.slice e)) (hz : ∀ w, (sizeOf e).run P w = .ok sz w)
    (hx : ev env x = some (.slice A xs.length c)) (hlo : ev env lo = some (.int kl a)) (hhi : ev env hi = some (.int kh b)) (h0 : 0 ≤ a) (h1 : a ≤ b) (h2 : b ≤ xs.length) (hc : xs.length ≤ c) :
    Vl P N ⟨dst, .slice ty x (some lo) (some hi) none, t, pos, aft, g⟩ env w (.slice (subA A c a.toNat sz) (subL xs a b).length (c - a.toNat)) := fun act ha => by
  have hb : (b : Int) ≤ (c : Nat) := by omega
  have hab : a ≤ (b.toNat : Nat) := by omega
  rw [subL_len h0 h1 h2]
  simp [execOp, ha.eval hx, ha.eval hlo, ha.eval hhi, Instr.sliceAt, Instr.slice, Instr.sliceBounds, run_underlying hu, run_bound (P := P) (w := w) (k := kh) (i := b) (y := c) (code := .sliceAcap) (by omega) hb, run_bound (P := P) (w := w) (k := kl) (i := a) (y := b.toNat) (code := .sliceB) h0 hab, hz, subA]
/-- x[:hi] -/
theorem Vl.sliceH {α : Type} {ty e : TypeId} {x hi : Operand} {kh : IntKind} {b : Int} {A : Option Addr} {c sz : Nat} {xs : List α} (hu : P.underlying ty = some (.slice e)) (hz : ∀ w, (sizeOf e).run P w = .ok sz w)
    (hx : ev env x = some (.slice A xs.length c)) (hhi : ev env hi = some (.int kh b)) (h0 : 0 ≤ b) (h2 : b ≤ xs.length) (hc : xs.length ≤ c) :
    Vl P N ⟨dst, .slice ty x none (some hi) none, t, pos, aft, g⟩ env w (.slice (subA A c (0 : Int).toNat sz) (subL xs 0 b).length (c - (0 : Int).toNat)) := fun act ha => by
  have hb : (b : Int) ≤ (c : Nat) := by omega
  rw [subL_len (by omega) h0 h2]
  simp [execOp, ha.eval hx, ha.eval hhi, Instr.sliceAt, Instr.slice, Instr.sliceBounds, run_underlying hu, run_bound (P := P) (w := w) (k := kh) (i := b) (y := c) (code := .sliceAcap) (by omega) hb, hz, subA]
/-- x[lo:] -/
theorem Vl.sliceL {α : Type} {ty e : TypeId} {x lo : Operand} {kl : IntKind} {a : Int} {A : Option Addr} {c sz : Nat} {xs : List α} (hu : P.underlying ty = some (.slice e)) (hz : ∀ w, (sizeOf e).run P w = .ok sz w)
    (hx : ev env x = some (.slice A xs.length c)) (hlo : ev env lo = some (.int kl a)) (h0 : 0 ≤ a) (h1 : a ≤ xs.length) (hc : xs.length ≤ c) :
    Vl P N ⟨dst, .slice ty x (some lo) none none, t, pos, aft, g⟩ env w (.slice (subA A c a.toNat sz) (subL xs a xs.length).length (c - a.toNat)) := fun act ha => by
  rw [subL_len h0 (by omega) (by omega)]
  simp [execOp, ha.eval hx, ha.eval hlo, Instr.sliceAt, Instr.slice, Instr.sliceBounds, run_underlying hu, run_bound (P := P) (w := w) (k := kl) (i := a) (y := xs.length) (code := .sliceB) h0 (by omega), hz, subA]
/-- an array of plain things, by whatever index -/
theorem Vl.indexMap {α : Type} [Inhabited α] {f : α → Value} {ty e : TypeId} {x ix : Operand} {k : IntKind} {i : Int} {n : Nat} {l : List α}
    (hu : P.underlying ty = some (.array n e)) (hz : ∀ w, (sizeOf e).run P w = .ok 1 w) (hg : ∀ w, (isAgg e).run P w = .ok false w) (hl : l.length = n)
    (hx : ev env x = some (.agg (l.map f).toArray)) (hi : ev env ix = some (.int k i)) (h0 : 0 ≤ i) (h1 : i < n) :
    Vl P N ⟨dst, .index ty x ix, t, pos, aft, g⟩ env w (f (nth l i)) := by
  subst hl
  refine Vl.indexA hu hz hx hi h0 h1 (run_part1 hg ?_)
  obtain ⟨h, e⟩ := nth_eq h0 h1
  simp [e, h]
/-- make([]T, 0, n) -/
theorem OW.make0 {α : Type} {E : Fl α} {ty e : TypeId} {i : TypeInfo} {z : Value} {x y : Operand} {kl kc : IntKind} {c : Int} {bytes : Nat} (hS : St B w l hf) (hu : P.underlying ty = some (.slice e)) (hi : P.info? e = some i) (hz : i.zero = some z) (hs : i.size = E.sz) (hby : i.bytes = bytes)
    (hx : ev env x = some (.int kl 0)) (hy : ev env y = some (.int kc c)) (h0 : 0 ≤ c) (hbp : 0 < bytes) (hb : c * bytes ≤ 140737488355328) :
    OW P N ⟨dst, .makeSlice ty x y, t, pos, aft, g⟩ env w (fun v' w' => St B w' (OSf E e v' [] :: l) hf) := fun a ha next Q hn => by
  obtain ⟨m, rfl⟩ := Int.eq_ofNat_of_zero_le h0
  subst hby
  have hb' : i.bytes * m ≤ 140737488355328 := by
    rw [Nat.mul_comm]
    exact Int.ofNat_le.1 (by simpa using hb)
  have hm : m ≤ i.bytes * m := Nat.le_mul_of_pos_left _ hbp
  obtain ⟨w', hr, ho, hg⟩ := run_make_own (P := P) w 0 ty e i z E.sz hu hi hz hs kl kc m (by omega) (by unfold maxLen; omega) (Nat.zero_le _)
  have hr' : (execOp a.eval ⟨dst, .makeSlice ty x y, t, pos, aft, g⟩).run P w = .ok (.value (.slice (some ⟨w.heap.size, 0, none⟩) 0 m)) w' := by
    simp only [execOp, ha.eval hx, ha.eval hy, Sem.run_bind, hr, Result.andThen_ok, Sem.run_pure]
  simp only [Oper.wp, hr', Oper.upon]
  refine hn _ _ ?_
  exact (hS.nilSl E e).grown (v := .slice none 0 0) (n := 0) (xs := []) hg ho (.inr rfl)
/-- []T{} -/
theorem OW.build0 {α : Type} {E : Fl α} {ty e : TypeId} {z : Value} (hS : St B w l hf) (hu : P.underlying ty = some (.slice e)) (hz : ∀ w, (zeroValue e).run P w = .ok z w) (hs : ∀ w, (sizeOf e).run P w = .ok E.sz w) :
    OW P N ⟨dst, .buildSlice ty 0 #[], t, pos, aft, g⟩ env w (fun v' w' => ∃ b, v' = .slice (some ⟨b, 0, none⟩) 0 0 ∧ St B w' (OSf E e v' [] :: l) hf) := fun a ha next Q hnx => by
  have hr : (execOp a.eval ⟨dst, .buildSlice ty 0 #[], t, pos, aft, g⟩).run P w = .ok (.value (.slice (some ⟨w.heap.size, 0, none⟩) 0 0)) (w.alloc (.cells #[] e)) := by
    have hu' : (underlying ty).run P w = .ok (.slice e) w := by simp [underlying, hu]
    have he : Array.range 0 = #[] := rfl
    simp [execOp, Instr.buildSlice, hu', hs, newRow, run_newObj, World.alloc_eq, Instr.fill, he]
  simp only [Oper.wp, hr, Oper.upon]
  refine hnx _ _ ⟨_, rfl, ?_⟩
  have := hS.new (w' := w.alloc (.cells #[] e)) (.cells #[] e) rfl rfl
  exact this.imp fun k hk => ⟨by simp, .inr ⟨_, 0, 0, _, rfl, hk, Nat.le_refl _, Nat.zero_le _, by simp, by simp⟩⟩
/-- the string of bytes -/
def strOf (xs : List Int) : ByteArray := xs.foldl (fun r n => r.push (UInt8.ofNat n.toNat)) ByteArray.empty
theorem run_loadAll (w : World) : ∀ (cs : List Value) (a : Addr) (i : Nat) (acc : Array Value), (∀ j v, cs[j]? = some v → w.cell? (a.add (i + j)) = some v) → (loadCellsFrom a i cs.length acc).run P w = .ok (acc ++ cs.toArray) w
  | [], a, i, acc, _ => by simp [loadCellsFrom]
  | v :: cs, a, i, acc, h => by
    have h0 := h 0 v rfl
    simp only [Nat.add_zero] at h0
    simp only [List.length_cons, loadCellsFrom, Sem.run_bind, run_load, h0, Result.andThen_ok]
    rw [run_loadAll w cs a (i + 1) _ (fun j u hu => by rw [Nat.add_assoc, Nat.add_comm 1 j]; exact h (j + 1) u hu)]
    simp
end
theorem Vl.bytesStr {P : Program} {N : Fr} {env : Env} {w : World} {dst : Option Tmp} {t : TypeId} {pos : String} {aft : Array Edge} {g : Option (Nat × Bool)} {src d e : TypeId} {x : Operand} {A : Option Addr} {c : Nat} {xs : List Int}
    (hs : P.underlying src = some (.slice e)) (he : P.underlying e = some (.int .u8)) (hd : P.underlying d = some .string) (hx : ev env x = some (.slice A xs.length c)) (hW : SlW (FI .u8) w A xs) :
    Vl P N ⟨dst, .convert src d x, t, pos, aft, g⟩ env w (.string (strOf xs)) := fun a ha => by
  have hr : (convert src d (.slice A xs.length c)).run P w = .ok (.string (strOf xs)) w := by
    rw [run_convert_bytes_string w src d e A _ c hs he hd]
    cases xs with
    | nil =>
      cases A with
      | none => simp [Conv.bytesToString, strOf]
      | some a' => simp [Conv.bytesToString, strOf, loadCells, loadCellsFrom]
    | cons x0 xs =>
      have hA := (hW 0 (by simp)).1
      rw [hA]
      refine run_bytesToString w _ _ c (x0 :: xs) ?_
      have h1 := run_loadAll (P := P) w ((x0 :: xs).map (Value.int .u8)) (ad A) 0 #[] (fun j v hv => by
        rw [List.getElem?_map] at hv
        cases e1 : (x0 :: xs)[j]? with
        | none => rw [e1] at hv; cases hv
        | some n =>
          rw [e1] at hv
          obtain ⟨hj, e2⟩ := List.getElem?_eq_some_iff.1 e1
          have := (hW j hj).2 0 v (by rw [e2]; simpa [FI] using hv)
          simpa [FI] using this)
      simpa [loadCells] using h1
  simp only [execOp, ha.eval hx, Sem.run_bind, hr, Result.andThen_ok, Sem.run_pure]
/-- a loop that is laid out round by round -/
def LW (P : Program) (y : Bool) (Q : Exit → Act → World → Prop) (c : Code) (a : Act) (w : World) : Prop := wq P y (.loop c) Q a w
theorem RC.unroll {P : Program} {N : Fr} {Q : Exit → Act → World → Prop} {c : Code} {env : Env} {w : World} (h : RQ N (fun a w => LW P N.y Q c a w) env w) : RC P N Q (.loop c) env w := h
theorem RQ.round {P : Program} {N : Fr} {Q : Exit → Act → World → Prop} {c : Code} {env : Env} {w : World} (h : RC P N (Exit.then (fun a w => LW P N.y Q c a w) Q) c env w) : RQ N (fun a w => LW P N.y Q c a w) env w := fun a ha X hX =>
  hX a w (wq_mono c (then_mono (fun a w h => h X hX) fun _ _ _ h => h) a w (h a ha))
end Go.Sl
