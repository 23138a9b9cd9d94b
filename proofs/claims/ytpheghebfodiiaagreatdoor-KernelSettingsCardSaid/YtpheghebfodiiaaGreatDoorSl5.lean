/-
  The own separation logic for the walks, part 5.
-/
import Derived.Test.YtpheghebfodiiaaGreatDoorSl4
import Derived.Maps.AppendAt
import Derived.Laws.AppendOwnNone
import Derived.Laws.MakeOwn
import Derived.ArgAppend
set_option linter.unusedVariables false
set_option linter.unusedSimpArgs false
namespace Go.Sl

/-! ### 9. Data in memory that is only read -/
/-- how a kind of data lies in cells -/
structure Rep (α : Type) where
  sz : Nat
  rd : Hp → List Value → α → Prop
  mono : ∀ {h g : Hp} {cs : List Value} {x : α}, Sub h g → rd h cs x → rd g cs x
/-- data without anything behind it -/
structure Fl (α : Type) where
  enc : α → List Value
  sz : Nat
  len : ∀ x, (enc x).length = sz
  one : ∀ x, ∀ v ∈ enc x, v.oneCell' = true
def Fl.rep {α : Type} (E : Fl α) : Rep α := ⟨E.sz, fun _ cs x => cs = E.enc x, fun _ h => h⟩
def ad (A : Option Addr) : Addr := A.getD ⟨0, 0, none⟩
def cellH (h : Hp) (a : Addr) : Option Value := match h a.block with
  | some (.cells c _ _) => if a.spot.isSome then none else c[a.off]?
  | _ => none
theorem cellH_mono {h g : Hp} (s : Sub h g) {a : Addr} {v : Value} (e : cellH h a = some v) : cellH g a = some v := by
  unfold cellH at *
  cases hb : h a.block with
  | none => simp [hb] at e
  | some o => rw [s _ _ hb]; rw [hb] at e; exact e
theorem cellH_world {w : World} {h : Hp} (s : Sub h (hp w)) {a : Addr} {v : Value} (e : cellH h a = some v) : w.cell? a = some v := cellH_mono (g := hp w) s e
/-- a slice that is read: `n` elements of the kind `E` from `A` on -/
def SlAt {α : Type} (E : Rep α) (h : Hp) (A : Option Addr) (xs : List α) : Prop :=
  ∀ i (hi : i < xs.length), A = some (ad A) ∧ ∃ cs, E.rd h cs xs[i] ∧ ∀ j v, cs[j]? = some v → cellH h ((ad A).add (i * E.sz + j)) = some v
theorem SlAt.mono {α : Type} {E : Rep α} {h g : Hp} {A : Option Addr} {xs : List α} (s : Sub h g) (x : SlAt E h A xs) : SlAt E g A xs := fun i hi => by
  obtain ⟨a, cs, r, c⟩ := x i hi
  exact ⟨a, cs, E.mono s r, fun j v e => cellH_mono s (c j v e)⟩
/-- with its capacity -/
def SlR {α : Type} (E : Rep α) (h : Hp) (A : Option Addr) (c : Nat) (xs : List α) : Prop := xs.length ≤ c ∧ SlAt E h A xs
theorem SlR.mono {α : Type} {E : Rep α} {h g : Hp} {A : Option Addr} {c : Nat} {xs : List α} (s : Sub h g) (x : SlR E h A c xs) : SlR E g A c xs := ⟨x.1, x.2.mono s⟩
theorem SlR.nil {α : Type} {E : Rep α} {h : Hp} {A : Option Addr} {c : Nat} : SlR E h A c [] := ⟨Nat.zero_le _, fun i hi => absurd hi (Nat.not_lt_zero i)⟩
def Rep.sl {α : Type} (E : Rep α) : Rep (List α) := ⟨1, fun h cs xs => ∃ A c, cs = [.slice A xs.length c] ∧ SlR E h A c xs, fun s ⟨A, c, e, x⟩ => ⟨A, c, e, x.mono s⟩⟩
def nth {α : Type} [Inhabited α] (xs : List α) (i : Int) : α := xs.getD i.toNat default
theorem nth_eq {α : Type} [Inhabited α] {xs : List α} {i : Int} (h0 : 0 ≤ i) (h1 : i < xs.length) : ∃ h : i.toNat < xs.length, nth xs i = xs[i.toNat] :=
  ⟨by omega, by simp [nth, List.getD_eq_getElem?_getD, List.getElem?_eq_getElem (show i.toNat < xs.length by omega)]⟩
/-- the same, at a world: flat data -/
def SlW {α : Type} (E : Fl α) (w : World) (A : Option Addr) (xs : List α) : Prop :=
  ∀ i (hi : i < xs.length), A = some (ad A) ∧ ∀ j v, (E.enc xs[i])[j]? = some v → w.cell? ((ad A).add (i * E.sz + j)) = some v
theorem SlAt.world {α : Type} {E : Fl α} {h : Hp} {w : World} {A : Option Addr} {xs : List α} (s : Sub h (hp w)) (x : SlAt E.rep h A xs) : SlW E w A xs := fun i hi => by
  obtain ⟨a, cs, r, c⟩ := x i hi
  refine ⟨a, fun j v e => cellH_world s (c j v ?_)⟩
  have r' : cs = E.enc xs[i] := r
  rw [r']; exact e
section
variable {α : Type} [Inhabited α] {E : Fl α} {w : World} {A : Option Addr} {xs : List α}
omit [Inhabited α] in
theorem SlW.adr (x : SlW E w A xs) {i : Int} (h0 : 0 ≤ i) (h1 : i < xs.length) : A = some (ad A) := (x i.toNat (by omega)).1
theorem SlW.cell (x : SlW E w A xs) {i : Int} (h0 : 0 ≤ i) (h1 : i < xs.length) {j : Nat} {v : Value} (hv : (E.enc (nth xs i))[j]? = some v) : w.cell? ((ad A).add (i.toNat * E.sz + j)) = some v := by
  obtain ⟨h, e⟩ := nth_eq h0 h1
  rw [e] at hv
  exact (x i.toNat h).2 j v hv
theorem SlW.cells (x : SlW E w A xs) {i : Int} (h0 : 0 ≤ i) (h1 : i < xs.length) : CellsAt w ((ad A).add (i.toNat * E.sz)) (E.enc (nth xs i)) := fun j v hv => by
  rw [add_add]
  exact x.cell h0 h1 hv
/-- a part of an element -/
theorem SlW.part (x : SlW E w A xs) {i : Int} (h0 : 0 ≤ i) (h1 : i < xs.length) {off : Nat} {vs : List Value} (hv : ((E.enc (nth xs i)).drop off).take vs.length = vs) : CellsAt w ((ad A).add (i.toNat * E.sz + off)) vs := fun j v e => by
  rw [add_add, Nat.add_assoc]
  refine x.cell h0 h1 ?_
  have hj : j < vs.length := (List.getElem?_eq_some_iff.1 e).1
  rw [← hv, List.getElem?_take, if_pos hj, List.getElem?_drop] at e
  exact e
end
theorem SlAt.adr {α : Type} {E : Rep α} {h : Hp} {A : Option Addr} {xs : List α} (x : SlAt E h A xs) {i : Int} (h0 : 0 ≤ i) (h1 : i < xs.length) : A = some (ad A) := (x i.toNat (by omega)).1
/-- an element that is more than flat -/
theorem SlAt.elem {α : Type} [Inhabited α] {E : Rep α} {h : Hp} {A : Option Addr} {xs : List α} (x : SlAt E h A xs) {i : Int} (h0 : 0 ≤ i) (h1 : i < xs.length) :
    A = some (ad A) ∧ ∃ cs, E.rd h cs (nth xs i) ∧ ∀ j v, cs[j]? = some v → cellH h ((ad A).add (i.toNat * E.sz + j)) = some v := by
  obtain ⟨hl, e⟩ := nth_eq h0 h1
  rw [e]
  exact x i.toNat hl

theorem elemCells {w : World} {hf : Hp} {a : Addr} {cs : List Value} (s : Sub hf (hp w)) {m : Nat} (hc : ∀ j v, cs[j]? = some v → cellH hf (a.add (m + j)) = some v) {off : Nat} {vs : List Value} (hv : (cs.drop off).take vs.length = vs) : CellsAt w (a.add (m + off)) vs := fun j v e => by
  rw [add_add, Nat.add_assoc]
  refine cellH_world s (hc _ _ ?_)
  have hj : j < vs.length := (List.getElem?_eq_some_iff.1 e).1
  rw [← hv, List.getElem?_take, if_pos hj, List.getElem?_drop] at e
  exact e
theorem Vl.indexStrs {P : Program} {N : Fr} {env : Env} {w : World} {dst : Option Tmp} {t : TypeId} {pos : String} {aft : Array Edge} {g : Option (Nat × Bool)} {ty e : TypeId} {x ix : Operand} {k : IntKind} {i : Int} {n : Nat} {l : List ByteArray}
    (hu : P.underlying ty = some (.array n e)) (hz : ∀ w, (sizeOf e).run P w = .ok 1 w) (hg : ∀ w, (isAgg e).run P w = .ok false w) (hl : l.length = n)
    (hx : ev env x = some (.agg (l.map Value.string).toArray)) (hi : ev env ix = some (.int k i)) (h0 : 0 ≤ i) (h1 : i < n) :
    Vl P N ⟨dst, .index ty x ix, t, pos, aft, g⟩ env w (.string (nth l i)) := by
  subst hl
  refine Vl.indexA hu hz hx hi h0 h1 (run_part1 hg ?_)
  obtain ⟨h, e⟩ := nth_eq h0 h1
  simp [e, h]
def FI (k : IntKind) : Fl Int := ⟨fun n => [.int k n], 1, fun _ => rfl, fun x v h => by
  simp only [List.mem_cons, List.not_mem_nil, or_false] at h
  subst h; rfl⟩
def FB : Fl Bool := ⟨fun n => [.bool n], 1, fun _ => rfl, fun x v h => by
  simp only [List.mem_cons, List.not_mem_nil, or_false] at h
  subst h; rfl⟩
def FS : Fl ByteArray := ⟨fun n => [.string n], 1, fun _ => rfl, fun x v h => by
  simp only [List.mem_cons, List.not_mem_nil, or_false] at h
  subst h; rfl⟩

/-! ### 10. Slices of the call's own -/
/-- the slice `v` of `n` elements of type `e` (`sz` cells each) owns its row, whose first cells are `xs` -/
def OSl (e : TypeId) (sz : Nat) (v : Value) (n : Nat) (xs : List Value) : HProp := fun h => xs.length = n * sz ∧
  ((v = .slice none 0 0 ∧ n = 0 ∧ ∀ b, h b = none) ∨ ∃ g o cap cur, v = .slice (some ⟨g, o, none⟩) n cap ∧ pts g (.cells cur e (0, 0)) h ∧ n ≤ cap ∧ cap ≤ maxLen ∧ o + cap * sz ≤ cur.size ∧ (cur.toList.drop o).take (n * sz) = xs)
theorem cur_get {cur : Array Value} {o m : Nat} {xs : List Value} (htk : (cur.toList.drop o).take m = xs) {j : Nat} {v : Value} (hv : xs[j]? = some v) : cur[o + j]? = some v := by
  rw [← htk, List.getElem?_take] at hv
  split at hv
  · rw [List.getElem?_drop] at hv; simpa using hv
  · cases hv
def OSf {α : Type} (E : Fl α) (e : TypeId) (v : Value) (xs : List α) : HProp := OSl e E.sz v xs.length (xs.flatMap E.enc)
theorem flat_len {α : Type} (E : Fl α) (xs : List α) : (xs.flatMap E.enc).length = xs.length * E.sz := by
  induction xs with
  | nil => simp
  | cons x xs ih => simp [List.flatMap_cons, ih, E.len, Nat.succ_mul, Nat.add_comm]
theorem flat_get {α : Type} (E : Fl α) : ∀ (xs : List α) (i j : Nat) (hi : i < xs.length) (v : Value), (E.enc xs[i])[j]? = some v → (xs.flatMap E.enc)[i * E.sz + j]? = some v
  | x :: xs, 0, j, _, v, e => by
    have hj : j < (E.enc x).length := (List.getElem?_eq_some_iff.1 e).1
    simp only [List.flatMap_cons, Nat.zero_mul, Nat.zero_add]
    rw [List.getElem?_append_left hj]
    exact e
  | x :: xs, i + 1, j, hi, v, e => by
    have ih := flat_get E xs i j (by simpa using hi) v e
    simp only [List.flatMap_cons]
    rw [List.getElem?_append_right (by rw [E.len]; simp only [Nat.succ_mul]; omega), E.len]
    have : (i + 1) * E.sz + j - E.sz = i * E.sz + j := by simp only [Nat.succ_mul]; omega
    rw [this]
    exact ih
theorem OSl.nil (e : TypeId) (sz : Nat) : OSl e sz (.slice none 0 0) 0 [] (fun _ => none) := ⟨by simp, .inl ⟨rfl, rfl, fun _ => rfl⟩⟩
theorem OSf.nil {α : Type} (E : Fl α) (e : TypeId) : OSf E e (.slice none 0 0) [] (fun _ => none) := OSl.nil e E.sz
section
variable {P : Program} {N : Fr} {env : Env} {w : World} {dst : Option Tmp} {t : TypeId} {pos : String} {aft : Array Edge} {g : Option (Nat × Bool)} {B : Base} {l : List HProp} {hf : Hp}
/-- an empty piece -/
theorem St.emp (h : St B w l hf) (A : HProp) (hA : A (fun _ => none)) : St B w (A :: l) hf := by
  refine ⟨h.base, h.sub, fun _ => none, hA, fun b o e => (by cases e), fun g _ b => .inr rfl, ?_⟩
  have key : ∀ (l : List HProp) (av : List Hp), Own w l av → Own w l ((fun _ => none) :: av) := by
    intro l
    induction l with
    | nil => intro _ _; trivial
    | cons A l ih =>
      intro av ⟨k, kA, ks, kd, kr⟩
      refine ⟨k, kA, ks, fun g hg b => ?_, (ih _ kr).weaken fun g hg => ?_⟩
      · rcases List.mem_cons.1 hg with rfl | hg
        · exact .inl rfl
        · exact kd g hg b
      · simp only [List.mem_cons] at hg ⊢
        rcases hg with h1 | h1 | h1
        · exact .inr (.inl h1)
        · exact .inl h1
        · exact .inr (.inr h1)
  exact key l _ h.own
theorem St.nilSl (h : St B w l hf) {α : Type} (E : Fl α) (e : TypeId) : St B w (OSf E e (.slice none 0 0) [] :: l) hf := h.emp _ (OSf.nil E e)
theorem St.slW (h : St B w l hf) {α : Type} {E : Fl α} (i : Nat) {e : TypeId} {A : Option Addr} {n c : Nat} {xs : List α} (hi : l[i]? = some (OSf E e (.slice A n c) xs)) : n = xs.length ∧ n ≤ c ∧ SlW E w A xs := by
  obtain ⟨h1, ⟨hl, hA⟩, hs, _⟩ := (h.pull i hi rfl).own
  rcases hA with ⟨e1, e2, _⟩ | ⟨g, o, cap, cur, e1, hp', hc, _, hcs, htk⟩
  · cases e1
    refine ⟨e2.symm, Nat.zero_le _, fun i hi => by omega⟩
  · cases e1
    refine ⟨rfl, hc, fun k hk => ⟨rfl, fun j u hu => ?_⟩⟩
    have hg := flat_get E xs k j hk u hu
    have hcell := cur_get htk hg
    have hb : w.heap[g]? = some (.cells cur e (0, 0)) := hs _ _ hp'.1
    simp only [ad, Option.getD_some]
    rw [add_mk]
    simp [World.cell?, hb, hcell]
theorem St.osShape (h : St B w l hf) (i : Nat) {e : TypeId} {sz : Nat} {v : Value} {n : Nat} {xs : List Value} (hi : l[i]? = some (OSl e sz v n xs)) : ∃ A c, v = .slice A n c ∧ n ≤ c := by
  obtain ⟨h1, ⟨hl, hA⟩, _⟩ := (h.pull i hi rfl).own
  rcases hA with ⟨rfl, rfl, _⟩ | ⟨g, o, cap, cur, rfl, _, hc, _⟩
  · exact ⟨_, _, rfl, Nat.le_refl _⟩
  · exact ⟨_, _, rfl, hc⟩
/-- a world that has grown from a row's append -/
theorem St.grown {w' : World} {e : TypeId} {sz : Nat} {v v' : Value} {n n' : Nat} {xs xs' : List Value} (h : St B w (OSl e sz v n xs :: l) hf) (hg : w.grownBy w' v.ownBlock)
    (ho : w'.ownsRow 0 e sz v' n' xs') (hb : v'.ownBlock = v.ownBlock ∨ v'.ownBlock = some w.heap.size) : St B w' (OSl e sz v' n' xs' :: l) hf := by
  obtain ⟨h1, ⟨hl, hA⟩, hs, hd, hr⟩ := h.own
  have hd1 := hd hf List.mem_cons_self
  have hlt : ∀ b o, hp w b = some o → b < w.heap.size := fun b o e => (Array.getElem?_eq_some_iff.1 e).1
  -- the old row's block lies in h1
  have hblk : ∀ b, v.ownBlock = some b → h1 b ≠ none := by
    intro b hb'
    rcases hA with ⟨rfl, _⟩ | ⟨g, o, cap, cur, rfl, hp', _⟩
    · simp [Value.ownBlock] at hb'
    · simp [Value.ownBlock] at hb'
      subst hb'
      rw [hp'.1]; simp
  have hkeep : ∀ b o, hp w b = some o → h1 b = none → hp w' b = some o := by
    intro b o e hn
    have : w'.heap[b]? = w.heap[b]? := hg.block b (hlt b o e) (fun hc => hblk b hc.symm hn)
    simp only [hp] at e ⊢
    rw [this]; exact e
  have hbase : Sl.base w' = Sl.base w := by simp [Sl.base, hg.os, hg.tape, hg.output]
  have hr' : Own w' l [h1, hf] := hr.keep fun b o e => by
    by_cases hn : h1 b = none
    · exact .inr (hkeep b o e hn)
    · exact .inl ⟨h1, List.mem_cons_self, hn⟩
  have hsub : Sub hf (hp w') := fun b o e => hkeep b o (h.sub b o e) (by
    rcases hd1 b with h0 | h0
    · rw [h0] at e; cases e
    · exact h0)
  -- the new heaplet
  rcases ho with ⟨hl', hn' | ⟨g, cap, cur, hv', _, hgg, r⟩⟩
  · exact (St.emp (l := l) ⟨hbase.trans h.base, hsub, hr'.weaken fun g hg => by simp at hg; simp [hg]⟩ _ ⟨hl', .inl ⟨hn'.1, hn'.2, fun _ => rfl⟩⟩)
  · refine ⟨hbase.trans h.base, hsub, Sl.one g (.cells cur e (0, 0)), ⟨hl', .inr ⟨g, 0, cap, cur, hv', pts_one _ _, r.1, r.2.1, by rw [Nat.zero_add]; exact Nat.le_of_eq r.2.2.1.symm, by rw [List.drop_zero]; exact r.2.2.2⟩⟩, ?_, ?_, ?_⟩
    · intro b o e'
      by_cases hbg : b = g
      · subst hbg
        have : (Obj.cells cur e (0, 0)) = o := by simpa [Sl.one] using e'
        rw [← this]; exact hgg
      · simp [Sl.one, hbg] at e'
    · intro k hk
      obtain rfl : k = hf := by simpa using hk
      intro b
      by_cases hbg : b = g
      · refine .inl ?_
        subst hbg
        rcases hb with h2 | h2
        · have : v.ownBlock = some b := by rw [← h2, hv']; rfl
          rcases hd1 b with h0 | h0
          · exact h0
          · exact absurd h0 (hblk b this)
        · have hbs : b = w.heap.size := by rw [hv'] at h2; simpa [Value.ownBlock] using h2
          cases e' : k b with
          | none => rfl
          | some o => exact absurd (hlt b o (h.sub b o e')) (by omega)
      · exact .inr (by simp [Sl.one, hbg])
    · -- the rest is apart from the new row
      rcases hb with h2 | h2
      · have hbk : v.ownBlock = some g := by rw [← h2, hv']; rfl
        have key : ∀ (l : List HProp) (av av' : List Hp), Own w' l av → (∀ g ∈ av', ∀ b, g b ≠ none → ∃ k ∈ av, k b ≠ none) → Own w' l av' := by
          intro l
          induction l with
          | nil => intro _ _ _ _; trivial
          | cons A l ih =>
            intro av av' ⟨k, kA, ks, kd, kr⟩ hsub
            refine ⟨k, kA, ks, fun g hg b' => ?_, ih _ _ kr fun g hg b' hb' => ?_⟩
            · by_cases hb' : g b' = none
              · exact .inl hb'
              · obtain ⟨m, hm, hi⟩ := hsub g hg b' hb'
                rcases kd m hm b' with h0 | h0
                · exact absurd h0 hi
                · exact .inr h0
            · rcases List.mem_cons.1 hg with rfl | hg
              · exact ⟨g, List.mem_cons_self, hb'⟩
              · obtain ⟨m, hm, hi⟩ := hsub g hg b' hb'
                exact ⟨m, List.mem_cons_of_mem _ hm, hi⟩
        refine key l [h1, hf] _ hr' fun k hk b hb' => ?_
        rcases List.mem_cons.1 hk with rfl | hk
        · refine ⟨h1, List.mem_cons_self, ?_⟩
          by_cases hbg : b = g
          · subst hbg; exact hblk b hbk
          · simp [Sl.one, hbg] at hb'
        · exact ⟨k, List.mem_cons_of_mem _ hk, hb'⟩
      · have hgs : g = w.heap.size := by rw [hv'] at h2; simpa [Value.ownBlock] using h2
        have hr2 : Own w l [h1, hf, Sl.one g (.cells cur e (0, 0))] := (hr.add (g := Sl.one g (.cells cur e (0, 0))) (fun b hb' => by
          by_cases hbg : b = g
          · subst hbg; simp [hp, hgs]
          · simp [Sl.one, hbg] at hb')).weaken (by simp)
        have hr3 : Own w' l [h1, hf, Sl.one g (.cells cur e (0, 0))] := hr2.keep fun b o e => by
          by_cases hn : h1 b = none
          · exact .inr (hkeep b o e hn)
          · exact .inl ⟨h1, List.mem_cons_self, hn⟩
        exact hr3.weaken fun k hk => by
          simp only [List.mem_cons, List.not_mem_nil, or_false] at hk ⊢
          rcases hk with h3 | h3
          · exact .inr (.inr h3)
          · exact .inr (.inl h3)
/-- a world that has grown by a row of its own -/
theorem St.grownNew {w' : World} {e : TypeId} {sz : Nat} {v' : Value} {n' : Nat} {xs' : List Value} (h : St B w l hf) (hg : w.grownBy w' none) (ho : w'.ownsRow w.heap.size e sz v' n' xs') : St B w' (OSl e sz v' n' xs' :: l) hf := by
  have hlt : ∀ b o, hp w b = some o → b < w.heap.size := fun b o e => (Array.getElem?_eq_some_iff.1 e).1
  have hkeep : ∀ b o, hp w b = some o → hp w' b = some o := by
    intro b o e
    have : w'.heap[b]? = w.heap[b]? := hg.block b (hlt b o e) (by simp)
    simp only [hp] at e ⊢
    rw [this]; exact e
  have hbase : Sl.base w' = Sl.base w := by simp [Sl.base, hg.os, hg.tape, hg.output]
  have hr' : Own w' l [hf] := h.own.keep fun b o e => .inr (hkeep b o e)
  have hsub : Sub hf (hp w') := fun b o e => hkeep b o (h.sub b o e)
  rcases ho with ⟨hl', hn' | ⟨g, cap, cur, hv', hge, hgg, r⟩⟩
  · exact (St.emp (l := l) ⟨hbase.trans h.base, hsub, hr'⟩ _ ⟨hl', .inl ⟨hn'.1, hn'.2, fun _ => rfl⟩⟩)
  · refine ⟨hbase.trans h.base, hsub, Sl.one g (.cells cur e (0, 0)), ⟨hl', .inr ⟨g, 0, cap, cur, hv', pts_one _ _, r.1, r.2.1, by rw [Nat.zero_add]; exact Nat.le_of_eq r.2.2.1.symm, by rw [List.drop_zero]; exact r.2.2.2⟩⟩, ?_, ?_, ?_⟩
    · intro b o e'
      by_cases hbg : b = g
      · subst hbg
        have : (Obj.cells cur e (0, 0)) = o := by simpa [Sl.one] using e'
        rw [← this]; exact hgg
      · simp [Sl.one, hbg] at e'
    · intro k hk
      obtain rfl : k = hf := by simpa using hk
      intro b
      by_cases hbg : b = g
      · refine .inl ?_
        subst hbg
        cases e' : k b with
        | none => rfl
        | some o => exact absurd (hlt b o (h.sub b o e')) (by omega)
      · exact .inr (by simp [Sl.one, hbg])
    · have hr2 : Own w l [hf, Sl.one g (.cells cur e (0, 0))] := h.own.add (g := Sl.one g (.cells cur e (0, 0))) (fun b hb' => by
          by_cases hbg : b = g
          · subst hbg; simp only [hp]; exact Array.getElem?_eq_none (by omega)
          · simp [Sl.one, hbg] at hb')
      have hr3 : Own w' l [hf, Sl.one g (.cells cur e (0, 0))] := hr2.keep fun b o e => .inr (hkeep b o e)
      exact hr3.weaken fun k hk => by
          simp only [List.mem_cons, List.not_mem_nil, or_false] at hk ⊢
          rcases hk with h3 | h3
          · exact .inr h3
          · exact .inl h3
/-- append to a row of the call's own, wherever it begins -/
theorem St.appendOwn {P : Program} {e : TypeId} {sz : Nat} {v : Value} {n : Nat} {xs : List Value} (h : St B w (OSl e sz v n xs :: l) hf) {ty t : TypeId} {ti : TypeInfo} {z : Value} {bytes : Nat} (hu : P.underlying ty = some (.slice e))
    (hti : P.info? e = some ti) (hz : ti.zero = some z) (hsz : ti.size = sz) (hby : ti.bytes = bytes) (hzs : z.cells.size = sz) (h0 : 0 < sz) (a' : Addr) (m c : Nat) (ys : List Value) (hl : ys.length = m * sz)
    (hys : ∀ j u, ys[j]? = some u → w.cell? (a'.add j) = some u) (h1 : ∀ u ∈ ys, u.oneCell' = true) (h63 : n + m ≤ maxLen) (hb : (n + m) * bytes ≤ 140737488355328) :
    ∃ v' w', (Builtin.append_ #[ty, ty] t #[v, .slice (some a') m c]).run P w = .ok v' w' ∧ St B w' (OSl e sz v' (n + m) (xs ++ ys) :: l) hf := by
  obtain ⟨h1p, ⟨hlx, hA⟩, hs, hd, hr⟩ := h.own
  rcases hA with ⟨rfl, rfl, _⟩ | ⟨gb, o, cap, cur, rfl, hp', hcap, hmax, hcs, htk⟩
  · obtain rfl : xs = [] := List.length_eq_zero_iff.1 (by simpa using hlx)
    obtain ⟨v', w', hrun, ho', hg, _, hbk⟩ := run_append_own_at (P := P) w 0 ty t e ti z sz bytes hu hti hz hsz hby hzs h0 (.slice none 0 0) 0 [] (World.ownsRow_nil w 0 e sz) a' m c ys hl hys h1 h63 hb (Nat.zero_le _)
    exact ⟨v', w', hrun, h.grown hg ho' hbk⟩
  · have hh : w.heap[gb]? = some (.cells cur e (0, 0)) := hs _ _ hp'.1
    have hmul : n * sz ≤ cap * sz := Nat.mul_le_mul_right _ hcap
    by_cases hroom : n + m ≤ cap
    · have hmul2 : (n + m) * sz ≤ cap * sz := Nat.mul_le_mul_right _ hroom
      rw [Nat.add_mul] at hmul2
      have hst := run_storeCells_at P gb (o + n * sz) e ys 0 cur w hh (by omega) h1
      simp only [Nat.add_zero] at hst
      have hfc := run_firstCells_some (P := P) w ti.size m a' m c ys (by rw [hsz]; exact hl) hys
      refine ⟨.slice (some ⟨gb, o, none⟩) (n + m) cap, w.setRow gb (cur.toList.take (o + n * sz) ++ ys ++ cur.toList.drop (o + n * sz + ys.length)).toArray, ?_, ?_⟩
      · subst hsz
        simp [Builtin.append_, run_underlying hu, sizeOf, typeInfo, hti, Builtin.lenOf, hroom, hfc, Addr.add_lit, hst]
      · have hPt : St B w (pts gb (.cells cur e (0, 0)) :: l) hf := ⟨h.base, h.sub, h1p, hp', hs, hd, hr⟩
        have h2 := hPt.put (w' := w.setRow gb (cur.toList.take (o + n * sz) ++ ys ++ cur.toList.drop (o + n * sz + ys.length)).toArray) (o' := .cells (cur.toList.take (o + n * sz) ++ ys ++ cur.toList.drop (o + n * sz + ys.length)).toArray e (0, 0)) rfl
          (fun b' hb' => setRow_other w gb b' _ hb') (heap_setRow w gb cur _ e (0, 0) hh)
        refine h2.imp fun k hk => ⟨by rw [List.length_append, hlx, hl, Nat.add_mul], .inr ⟨gb, o, cap, _, rfl, hk, hroom, hmax, ?_, ?_⟩⟩
        · simp only [List.size_toArray, List.length_append, List.length_take, List.length_drop, Array.length_toList]; omega
        · simp only [List.toList_toArray]
          rw [← htk]
          apply List.ext_getElem?
          intro j
          have hcl : ((cur.toList.drop o).take (n * sz)).length = n * sz := by rw [htk]; exact hlx
          simp only [Nat.add_mul]
          simp only [List.getElem?_take, List.getElem?_append, List.length_append, List.length_take, List.getElem?_drop, Array.length_toList, List.length_drop]
          repeat' split
          all_goals first | rfl | (exfalso; omega) | (congr 1; omega) | skip
          all_goals (symm; apply List.getElem?_eq_none; omega)
    · obtain ⟨v', w', hrun, ho', hg⟩ := run_append_arg_grows (P := P) w ty t e ti z sz bytes hu hti hz hsz hby hzs h0 ⟨gb, o, none⟩ n cap xs hlx (fun j u hj => by
        rw [add_mk]
        have := cur_get htk hj
        simp [World.cell?, hh, this]) a' m c ys hl hys (by omega) h63 hb
      exact ⟨v', w', hrun, h.drop.grownNew hg ho'⟩
theorem St.appendNothing {P : Program} {e : TypeId} {sz : Nat} {v : Value} {n : Nat} {xs : List Value} (h : St B w (OSl e sz v n xs :: l) hf) {ty t : TypeId} {ti : TypeInfo} {c : Nat} {A : Option Addr} (hu : P.underlying ty = some (.slice e)) (hti : P.info? e = some ti) :
    (Builtin.append_ #[ty, ty] t #[v, .slice A 0 c]).run P w = .ok v w := by
  obtain ⟨h1p, ⟨hlx, hA⟩, hs, hd, hr⟩ := h.own
  rcases hA with ⟨rfl, rfl, _⟩ | ⟨gb, o, cap, cur, rfl, hp', hcap, hmax, hcs, htk⟩
  · cases A <;> simp [Builtin.append_, run_underlying hu, sizeOf, typeInfo, hti, Builtin.lenOf, Builtin.firstCells, loadCells, loadCellsFrom]
  · cases A <;> simp [Builtin.append_, run_underlying hu, sizeOf, typeInfo, hti, Builtin.lenOf, Builtin.firstCells, loadCells, loadCellsFrom, hcap, storeCells]
theorem flat_append {α : Type} (E : Fl α) (xs ys : List α) : (xs ++ ys).flatMap E.enc = xs.flatMap E.enc ++ ys.flatMap E.enc := by simp
theorem flat_one {α : Type} (E : Fl α) (xs : List α) : ∀ v ∈ xs.flatMap E.enc, v.oneCell' = true := fun v hv => by
  obtain ⟨x, _, hx⟩ := List.mem_flatMap.1 hv
  exact E.one x v hx
/-- append to a slice of the call's own -/
theorem OW.append {α : Type} {E : Fl α} {ty e : TypeId} {ti : TypeInfo} {z : Value} {bytes : Nat} {x y : Operand} {v : Value} {a' : Addr} {m c : Nat} {xs ys : List α} {l' : List HProp} (i : Nat) (hS : St B w l hf) (hi : l[i]? = some (OSf E e v xs))
    (hu : P.underlying ty = some (.slice e)) (hti : P.info? e = some ti) (hz : ti.zero = some z) (hsz : ti.size = E.sz) (hby : ti.bytes = bytes) (hzs : z.cells.size = E.sz) (h0 : 0 < E.sz)
    (hx : ev env x = some v) (hy : ev env y = some (.slice (some a') m c)) (hm : ys.length = m) (hr : ∀ j u, (ys.flatMap E.enc)[j]? = some u → w.cell? (a'.add j) = some u)
    (h63 : xs.length + ys.length ≤ maxLen) (hb : (xs.length + ys.length) * bytes ≤ 140737488355328) (el : l.eraseIdx i = l') :
    OW P N ⟨dst, .call ⟨.builtin .append, #[x, y], #[ty, ty]⟩, t, pos, aft, g⟩ env w (fun v' w' => St B w' (OSf E e v' (xs ++ ys) :: l') hf) := fun a ha next Q hn => by
  subst el
  subst hm
  obtain ⟨v', w', hrun, this⟩ := St.appendOwn (P := P) (t := t) (hS.pull i hi rfl) hu hti hz hsz hby hzs h0 a' ys.length c (ys.flatMap E.enc) (flat_len E ys) hr (flat_one E ys) h63 hb
  have hr : (execOp a.eval ⟨dst, .call ⟨.builtin .append, #[x, y], #[ty, ty]⟩, t, pos, aft, g⟩).run P w = .ok (.value v') w' := by
    simp only [execOp, resolve, Sem.run_bind, Sem.run_pure, Result.andThen_ok, List.map_toArray, List.map_cons, List.map_nil, ha.eval hx, ha.eval hy, invoke, Go.builtin, hrun]
  simp only [Oper.wp, hr, Oper.upon]
  refine hn _ _ ?_
  unfold OSf
  rw [flat_append, List.length_append]
  exact this
theorem SlW.flat' {α : Type} {E : Fl α} {A : Option Addr} {xs : List α} (h : SlW E w A xs) : ∀ a', A = some a' → ∀ j u, (xs.flatMap E.enc)[j]? = some u → w.cell? (a'.add j) = some u := by
  intro a' hA
  subst hA
  have key : ∀ (ys : List α) (k : Nat), (∀ i (hi : i < ys.length), ∀ j v, (E.enc ys[i])[j]? = some v → w.cell? (a'.add ((k + i) * E.sz + j)) = some v) → ∀ j u, (ys.flatMap E.enc)[j]? = some u → w.cell? (a'.add (k * E.sz + j)) = some u := by
    intro ys
    induction ys with
    | nil => intro k _ j u e; simp at e
    | cons y ys ih =>
      intro k hk j u e
      simp only [List.flatMap_cons] at e
      by_cases hj : j < E.sz
      · rw [List.getElem?_append_left (by rw [E.len]; exact hj)] at e
        simpa using hk 0 (by simp) j u (by simpa using e)
      · rw [List.getElem?_append_right (by rw [E.len]; omega), E.len] at e
        have := ih (k + 1) (fun i hi j v e => by
          have := hk (i + 1) (by simpa using hi) j v (by simpa using e)
          rw [show k + 1 + i = k + (i + 1) by omega]; exact this) (j - E.sz) u e
        rw [show k * E.sz + j = (k + 1) * E.sz + (j - E.sz) by simp only [Nat.succ_mul]; omega]
        exact this
  intro j u e
  have := key xs 0 (fun i hi j v e => by simpa [ad] using (h i hi).2 j v e) j u e
  simpa using this
/-- append of whatever slice reads -/
theorem OW.appendV {α : Type} {E : Fl α} {ty e : TypeId} {ti : TypeInfo} {z : Value} {bytes : Nat} {x y : Operand} {v : Value} {A : Option Addr} {c : Nat} {xs ys : List α} {l' : List HProp} (i : Nat) (hS : St B w l hf) (hi : l[i]? = some (OSf E e v xs))
    (hu : P.underlying ty = some (.slice e)) (hti : P.info? e = some ti) (hz : ti.zero = some z) (hsz : ti.size = E.sz) (hby : ti.bytes = bytes) (hzs : z.cells.size = E.sz) (h0 : 0 < E.sz) (hbp : 0 < bytes)
    (hx : ev env x = some v) (hy : ev env y = some (.slice A ys.length c)) (hW : SlW E w A ys) (hb : (xs.length + ys.length) * bytes ≤ 140737488355328) (el : l.eraseIdx i = l') :
    OW P N ⟨dst, .call ⟨.builtin .append, #[x, y], #[ty, ty]⟩, t, pos, aft, g⟩ env w (fun v' w' => St B w' (OSf E e v' (xs ++ ys) :: l') hf) := fun a ha next Q hn => by
  have h63 : xs.length + ys.length ≤ maxLen := by
    have : xs.length + ys.length ≤ (xs.length + ys.length) * bytes := Nat.le_mul_of_pos_right _ hbp
    unfold maxLen; omega
  cases ys with
  | nil =>
    have hrun := St.appendNothing (P := P) (t := t) (c := c) (A := A) (hS.pull i hi rfl) hu hti
    have hr : (execOp a.eval ⟨dst, .call ⟨.builtin .append, #[x, y], #[ty, ty]⟩, t, pos, aft, g⟩).run P w = .ok (.value v) w := by
      simp only [execOp, resolve, Sem.run_bind, Sem.run_pure, Result.andThen_ok, List.map_toArray, List.map_cons, List.map_nil, ha.eval hx, ha.eval hy, invoke, Go.builtin, List.length_nil, hrun]
    simp only [Oper.wp, hr, Oper.upon]
    refine hn _ _ ?_
    subst el
    simpa using hS.pull i hi rfl
  | cons y0 ys =>
    have hA := (hW 0 (by simp)).1
    rw [hA] at hy
    exact OW.append (ys := y0 :: ys) i hS hi hu hti hz hsz hby hzs h0 hx hy rfl (hW.flat' _ hA) h63 hb el a ha next Q hn
theorem OW.buildSlice {α : Type} {E : Fl α} {ty e : TypeId} {parts : List (Nat × Operand)} {vs : List (Nat × Value)} {n : Nat} {z : Value} {xs : List α} {cs : List Value} (hS : St B w l hf) (hu : P.underlying ty = some (.slice e))
    (hz : ∀ w, (zeroValue e).run P w = .ok z w) (hs : ∀ w, (sizeOf e).run P w = .ok E.sz w) (hp : evp env parts = some vs) (hn : xs.length = n) (h0 : 0 < n * E.sz) (hle : n * E.sz ≤ 2 ^ 24)
    (hfill : Instr.fill (fun i => some (i * E.sz, E.sz)) ((Array.range (n * E.sz)).map (z.cells[· % z.cells.size]!)) vs = some cs.toArray) (hcs : cs = xs.flatMap E.enc) :
    OW P N ⟨dst, .buildSlice ty n parts.toArray, t, pos, aft, g⟩ env w (fun v' w' => ∃ b, v' = .slice (some ⟨b, 0, none⟩) n n ∧ St B w' (OSf E e v' xs :: l) hf) := fun a ha next Q hnx => by
  have e' : (parts.toArray.map fun (i, x) => (i, a.eval x)) = vs.toArray := by
    have : (parts.toArray.map fun (x : Nat × Operand) => (x.1, a.eval x.2)) = vs.toArray := by rw [List.map_toArray, ha.evps hp]
    exact this
  have hr : (execOp a.eval ⟨dst, .buildSlice ty n parts.toArray, t, pos, aft, g⟩).run P w = .ok (.value (.slice (some ⟨w.heap.size, 0, none⟩) n n)) (w.alloc (.cells cs.toArray e)) := by
    simp only [execOp]
    rw [e']
    have h1 : ¬ (n * E.sz > 2 ^ 24) := by omega
    have h2 : ¬ (n * E.sz = 0) := by omega
    have hu' : (underlying ty).run P w = .ok (.slice e) w := by simp [underlying, hu]
    simp only [Instr.buildSlice, Sem.run_bind, hu', Result.andThen_ok, hs, h1, h2, if_false, hz, Sem.run_pure, hfill, newRow, run_newObj, World.alloc_eq]
  simp only [Oper.wp, hr, Oper.upon]
  refine hnx _ _ ⟨_, rfl, ?_⟩
  have := hS.new (w' := w.alloc (.cells cs.toArray e)) (.cells cs.toArray e) rfl rfl
  refine this.imp fun k hk => ?_
  subst hn
  subst hcs
  refine ⟨flat_len E xs, .inr ⟨_, 0, xs.length, _, rfl, hk, Nat.le_refl _, ?_, ?_, ?_⟩⟩
  · have : xs.length ≤ xs.length * E.sz := Nat.le_mul_of_pos_right _ (Nat.pos_of_mul_pos_left h0)
    unfold maxLen
    omega
  · rw [List.size_toArray, Nat.zero_add]; exact Nat.le_of_eq (flat_len E xs).symm
  · rw [List.drop_zero]; exact List.take_of_length_le (by rw [List.toList_toArray, flat_len]; exact Nat.le_refl _)
theorem SlW.flat {α : Type} {E : Fl α} {a' : Addr} {xs : List α} (h : SlW E w (some a') xs) : ∀ j u, (xs.flatMap E.enc)[j]? = some u → w.cell? (a'.add j) = some u := by
  have key : ∀ (ys : List α) (k : Nat), (∀ i (hi : i < ys.length), ∀ j v, (E.enc ys[i])[j]? = some v → w.cell? (a'.add ((k + i) * E.sz + j)) = some v) → ∀ j u, (ys.flatMap E.enc)[j]? = some u → w.cell? (a'.add (k * E.sz + j)) = some u := by
    intro ys
    induction ys with
    | nil => intro k _ j u e; simp at e
    | cons y ys ih =>
      intro k hk j u e
      simp only [List.flatMap_cons] at e
      by_cases hj : j < E.sz
      · rw [List.getElem?_append_left (by rw [E.len]; exact hj)] at e
        simpa using hk 0 (by simp) j u (by simpa using e)
      · rw [List.getElem?_append_right (by rw [E.len]; omega), E.len] at e
        have := ih (k + 1) (fun i hi j v e => by
          have := hk (i + 1) (by simpa using hi) j v (by simpa using e)
          rw [show k + 1 + i = k + (i + 1) by omega]; exact this) (j - E.sz) u e
        rw [show k * E.sz + j = (k + 1) * E.sz + (j - E.sz) by simp only [Nat.succ_mul]; omega]
        exact this
  intro j u e
  have := key xs 0 (fun i hi j v e => by simpa [ad] using (h i hi).2 j v e) j u e
  simpa using this
end
end Go.Sl
