/-
  The own separation logic for the walks, part 26.
-/
import Derived.Test.YtpheghebfodiiaaGreatDoorSl25
import Derived.Laws.IdiomRangeMap
set_option linter.unusedVariables false
set_option linter.unusedSimpArgs false
set_option linter.unusedSectionVars false
namespace Go.Sl
/-! ### 41. Maps of rows that are only read -/
abbrev Hdr := Option Addr × Nat × Nat
def hV (h : Hdr) : Value := .slice h.1 h.2.1 h.2.2
section
variable {κ α : Type} {R : Rep α} {hf hg : Hp}
def RowsW (R : Rep α) (hf : Hp) : List (κ × Hdr) → List (κ × List α) → Prop
  | [], [] => True
  | e :: es, d :: ds => (e.1 = d.1 ∧ e.2.2.1 = d.2.length ∧ SlR R hf e.2.1 e.2.2.2 d.2) ∧ RowsW R hf es ds
  | _, _ => False
theorem RowsW.nil : RowsW (κ := κ) R hf [] [] := trivial
theorem RowsW.mono (s : Sub hf hg) : ∀ {es : List (κ × Hdr)} {ds : List (κ × List α)}, RowsW R hf es ds → RowsW R hg es ds
  | [], [], _ => trivial
  | e :: es, d :: ds, h => ⟨⟨h.1.1, h.1.2.1, h.1.2.2.mono s⟩, h.2.mono s⟩
  | [], _ :: _, h => h.elim
  | _ :: _, [], h => h.elim
theorem RowsW.len : ∀ {es : List (κ × Hdr)} {ds : List (κ × List α)}, RowsW R hf es ds → es.length = ds.length
  | [], [], _ => rfl
  | e :: es, d :: ds, h => by rw [List.length_cons, List.length_cons, h.2.len]
  | [], _ :: _, h => h.elim
  | _ :: _, [], h => h.elim
theorem RowsW.at_ : ∀ {es : List (κ × Hdr)} {ds : List (κ × List α)}, RowsW R hf es ds → ∀ i (hi : i < ds.length), ∃ A c, es[i]? = some (ds[i].1, (A, ds[i].2.length, c)) ∧ SlR R hf A c ds[i].2
  | [], [], _, i, hi => absurd hi (Nat.not_lt_zero i)
  | (k, A, n, c) :: es, (k', x) :: ds, h, 0, _ => by
    obtain ⟨⟨e1, e2, h3⟩, _⟩ := h
    have e1 : k = k' := e1
    have e2 : n = x.length := e2
    subst e1 e2
    exact ⟨A, c, rfl, h3⟩
  | e :: es, d :: ds, h, i + 1, hi => by
    have := h.2.at_ i (by simpa using hi)
    simpa using this
  | [], _ :: _, h, _, _ => h.elim
  | _ :: _, [], h, _, _ => h.elim
section
variable [DecidableEq κ]
theorem RowsW.find {k : κ} : ∀ {es : List (κ × Hdr)} {ds : List (κ × List α)} (i : Nat), RowsW R hf es ds → (findE es k i = none ∧ findE ds k i = none) ∨ ∃ j A c x, findE es k i = some (j, (A, x.length, c)) ∧ findE ds k i = some (j, x) ∧ SlR R hf A c x
  | [], [], i, _ => .inl ⟨rfl, rfl⟩
  | (a, A, n, c) :: es, (a', x) :: ds, i, h => by
    obtain ⟨⟨e1, e2, h3⟩, h4⟩ := h
    have e1 : a = a' := e1
    have e2 : n = x.length := e2
    subst e1 e2
    by_cases hk : a = k
    · exact .inr ⟨i, A, c, x, by simp [findE, hk], by simp [findE, hk], h3⟩
    · rcases h4.find (k := k) (i + 1) with ⟨h1, h2⟩ | ⟨j, A', c', x', h1, h2, h3⟩
      · exact .inl ⟨by simp [findE, hk, h1], by simp [findE, hk, h2]⟩
      · exact .inr ⟨j, A', c', x', by simp [findE, hk, h1], by simp [findE, hk, h2], h3⟩
  | [], _ :: _, _, h => h.elim
  | _ :: _, [], _, h => h.elim
theorem RowsW.get {es : List (κ × Hdr)} {ds : List (κ × List α)} (h : RowsW R hf es ds) (k : κ) : ∃ A c, (mget es k).getD (none, 0, 0) = (A, ((mget ds k).getD []).length, c) ∧ SlR R hf A c ((mget ds k).getD []) := by
  rcases h.find (k := k) 0 with ⟨h1, h2⟩ | ⟨j, A, c, x, h1, h2, h3⟩
  · exact ⟨none, 0, by simp [mget, h1, h2], by simp [mget, h2]; exact SlR.nil⟩
  · exact ⟨A, c, by simp [mget, h1, h2], by simpa [mget, h2] using h3⟩
theorem RowsW.app {es' : List (κ × Hdr)} {ds' : List (κ × List α)} (h' : RowsW R hf es' ds') : ∀ {es : List (κ × Hdr)} {ds : List (κ × List α)}, RowsW R hf es ds → RowsW R hf (es ++ es') (ds ++ ds')
  | [], [], _ => h'
  | e :: es, d :: ds, h => ⟨h.1, RowsW.app (es := es) (ds := ds) h' h.2⟩
  | [], _ :: _, h => h.elim
  | _ :: _, [], h => h.elim
theorem RowsW.setAt {k : κ} {A : Option Addr} {c : Nat} {x : List α} (hx : SlR R hf A c x) : ∀ {es : List (κ × Hdr)} {ds : List (κ × List α)} (j : Nat), RowsW R hf es ds → RowsW R hf (es.set j (k, (A, x.length, c))) (ds.set j (k, x))
  | [], [], _, _ => trivial
  | e :: es, d :: ds, 0, h => ⟨⟨rfl, rfl, hx⟩, h.2⟩
  | e :: es, d :: ds, j + 1, h => ⟨h.1, h.2.setAt hx j⟩
  | [], _ :: _, _, h => h.elim
  | _ :: _, [], _, h => h.elim
theorem RowsW.set {es : List (κ × Hdr)} {ds : List (κ × List α)} (h : RowsW R hf es ds) {k : κ} {A : Option Addr} {c : Nat} {x : List α} (hx : SlR R hf A c x) : RowsW R hf (mset es k (A, x.length, c)) (mset ds k x) := by
  rcases h.find (k := k) 0 with ⟨h1, h2⟩ | ⟨j, A', c', x', h1, h2, h3⟩
  · rw [mset, mset, h1, h2]
    exact RowsW.app (es' := [(k, (A, x.length, c))]) (ds' := [(k, x)]) ⟨⟨rfl, rfl, hx⟩, trivial⟩ h
  · rw [mset, mset, h1, h2]
    exact h.setAt hx j
theorem RowsW.erase : ∀ {es : List (κ × Hdr)} {ds : List (κ × List α)} (j : Nat), RowsW R hf es ds → RowsW R hf (es.eraseIdx j) (ds.eraseIdx j)
  | [], [], _, _ => trivial
  | e :: es, d :: ds, 0, h => h.2
  | e :: es, d :: ds, j + 1, h => ⟨h.1, h.2.erase j⟩
  | [], _ :: _, _, h => h.elim
  | _ :: _, [], _, h => h.elim
theorem RowsW.del {es : List (κ × Hdr)} {ds : List (κ × List α)} (h : RowsW R hf es ds) {k : κ} : RowsW R hf (mdel es k) (mdel ds k) := by
  rcases h.find (k := k) 0 with ⟨h1, h2⟩ | ⟨j, A', c', x', h1, h2, h3⟩
  · rw [mdel, mdel, h1, h2]; exact h
  · rw [mdel, mdel, h1, h2]; exact h.erase j
end
end
/-! ### 42. Ranges over maps: the entries come in any order -/
section
variable {α S ρ : Type}
def loopL (lb : S → Option α → Option (S ⊕ ρ)) : S → List α → Option ρ
  | s, [] => match lb s none with
    | some (.inr r) => some r
    | _ => none
  | s, e :: l => match lb s (some e) with
    | some (.inl s') => loopL lb s' l
    | some (.inr r) => some r
    | none => none
/-- what comes of it, if that is the same whatever the order -/
noncomputable def rangeM (lb : S → Option α → Option (S ⊕ ρ)) (s : S) (ds : List α) : Option ρ :=
  open Classical in if h : ∃ r, ∀ l, l.Perm ds → loopL lb s l = some r then some h.choose else none
theorem rangeM_iff {lb : S → Option α → Option (S ⊕ ρ)} {s : S} {ds : List α} {r : ρ} : rangeM lb s ds = some r ↔ ∀ l, l.Perm ds → loopL lb s l = some r := by
  unfold rangeM
  constructor
  · intro h
    split at h
    · rename_i hx
      cases h
      exact hx.choose_spec
    · cases h
  · intro h
    have hx : ∃ r, ∀ l, l.Perm ds → loopL lb s l = some r := ⟨r, h⟩
    rw [dif_pos hx]
    have h1 := hx.choose_spec ds (List.Perm.refl _)
    rw [h ds (List.Perm.refl _)] at h1
    exact h1.symm
def LH (lb : S → Option α → Option (S ⊕ ρ)) (φ : ρ → Prop) (s : S) (pd ds : List α) : Prop := ∀ rest, (pd ++ rest).Perm ds → Holds φ (loopL lb s rest)
variable {lb : S → Option α → Option (S ⊕ ρ)} {φ : ρ → Prop} {s : S} {pd ds : List α}
theorem LH.start (h : Holds φ (rangeM lb s ds)) : LH lb φ s [] ds := fun rest hp => by
  obtain ⟨r, e, hr⟩ := h
  exact ⟨r, rangeM_iff.1 e rest hp, hr⟩
theorem LH.next {e : α} (h : LH lb φ s pd ds) (hr : ∃ rest, (pd ++ e :: rest).Perm ds) : Holds (Sum.elim (fun s' => LH lb φ s' (pd ++ [e]) ds) φ) (lb s (some e)) := by
  obtain ⟨rest, hp⟩ := hr
  obtain ⟨r, e1, hφ⟩ := h _ hp
  rw [loopL] at e1
  cases he : lb s (some e) with
  | none => rw [he] at e1; cases e1
  | some y =>
    rw [he] at e1
    cases y with
    | inr r' => exact ⟨_, rfl, by cases e1; exact hφ⟩
    | inl s' =>
      refine ⟨_, rfl, fun rest' hp' => ?_⟩
      rw [List.append_assoc] at hp'
      have := h _ hp'
      rw [List.singleton_append, loopL, he] at this
      exact this
theorem LH.stop (h : LH lb φ s pd ds) (hp : pd.Perm ds) : Holds (Sum.elim (fun _ => False) φ) (lb s none) := by
  obtain ⟨r, e1, hφ⟩ := h [] (by rwa [List.append_nil])
  rw [loopL] at e1
  split at e1
  · rename_i r' he
    rw [he]
    cases e1
    exact ⟨_, rfl, hφ⟩
  · cases e1
end
section
variable {κ : Type} {kv : κ → Value} {P : Program} {B : Base} {w : World} {l l' : List HProp} {hf : Hp} {N : Fr} {env : Env} {dst : Option Tmp} {t ty : TypeId} {pos : String} {aft : Array Edge} {g : Option (Nat × Bool)}
/-- a map and its iterator: the entries I have come -/
def ItW (kv : κ → Value) (b bm : Nat) (es : List (κ × Hdr)) (I : List Nat) : HProp := fun h => ∃ (m : List MapEntry) (c : Nat), ((MR kv hV m es ∧ MB m c) ∧ I.Nodup ∧ ∀ i ∈ I, i < es.length) ∧
  spl [pts bm (.map m.toArray c), pts b (.mapIter (some bm) c (I.map fun i => (m.getD i default).born).toArray c)] h
theorem MR.len {m : List MapEntry} {es : List (κ × Hdr)} (h : MR kv hV m es) : m.length = es.length := by
  have := congrArg List.length h
  simpa using this
theorem St.itO {b bm : Nat} {es : List (κ × Hdr)} {I : List Nat} (hS : St B w l hf) (i : Nat) (hi : l[i]? = some (ItW kv b bm es I)) : ∃ (m : List MapEntry) (c : Nat), ((MR kv hV m es ∧ MB m c) ∧ I.Nodup ∧ ∀ i ∈ I, i < es.length) ∧
    St B w (pts bm (.map m.toArray c) :: pts b (.mapIter (some bm) c (I.map fun i => (m.getD i default).born).toArray c) :: l.eraseIdx i) hf := by
  have hP := hS.pull i hi rfl
  obtain ⟨h1, ⟨m, c, hm, hA⟩, hs, hd, hr⟩ := hP.own
  exact ⟨m, c, hm, St.splO (ps := [_, _]) ⟨hP.base, hP.sub, h1, hA, hs, hd, hr⟩⟩
theorem St.itBack {b bm : Nat} {es : List (κ × Hdr)} {I : List Nat} (hS : St B w (ItW kv b bm es I :: l) hf) : St B w (MapF kv hV bm es :: l) hf := by
  obtain ⟨m, c, ⟨h1, _⟩, h2⟩ := hS.itO 0 rfl
  exact (h2.perm (List.Perm.swap _ _ _)).drop.imp fun h hh => ⟨m, c, h1, hh⟩
theorem OW.rangeW {xt kt e : TypeId} {x : Operand} {bm : Nat} {es : List (κ × Hdr)} (i : Nat) (hS : St B w l hf) (hi : l[i]? = some (MapF kv hV bm es)) (hu : P.underlying xt = some (.map kt e)) (hx : ev env x = some (.map (some bm))) (el : l.eraseIdx i = l') :
    OW P N ⟨dst, .range xt x, t, pos, aft, g⟩ env w (fun v w' => ∃ b, v = pV b ∧ St B w' (ItW kv b bm es [] :: l') hf) := fun a ha next Q hn => by
  subst el
  obtain ⟨h1, ⟨m, c, hm, hA⟩, hs, hd, hr⟩ := (hS.pull i hi rfl).own
  have hS' : St B w (pts bm (.map m.toArray c) :: l.eraseIdx i) hf := ⟨hS.base, hS.sub, h1, hA, hs, hd, hr⟩
  have hb := hS'.blk 0 rfl
  have hrun : (execOp a.eval ⟨dst, .range xt x, t, pos, aft, g⟩).run P w = .ok (.value (.pointer (some ⟨w.heap.size, 0, none⟩))) (w.alloc (.mapIter (some bm) c #[] c)) := by
    simp only [execOp, ha.eval hx, Sem.run_bind, run_range_map w xt kt e bm m.toArray c hu hb, Result.andThen_ok, Sem.run_pure]
  simp only [Oper.wp, hrun, Oper.upon]
  refine hn _ _ ⟨_, rfl, ?_⟩
  have h2 := hS'.new (w' := w.alloc (.mapIter (some bm) c #[] c)) (.mapIter (some bm) c #[] c) rfl rfl
  exact (St.splC (ps := [_, _]) (h2.perm (List.Perm.swap _ _ _))).imp fun h hh => ⟨m, c, ⟨hm, List.Pairwise.nil, fun i h => by cases h⟩, hh⟩
theorem mem_getD {α : Type} {x d : α} {l : List α} (h : x ∈ l) : ∃ i, i < l.length ∧ l.getD i d = x := by
  obtain ⟨i, hi, e⟩ := List.getElem_of_mem h
  exact ⟨i, hi, by rw [List.getD_eq_getElem?_getD, List.getElem?_eq_getElem hi, e]; rfl⟩
theorem run_nextW {b bm c : Nat} {m : List MapEntry} {seen : Array Nat} (hb : w.heap[b]? = some (.mapIter (some bm) c seen c)) (hm : w.heap[bm]? = some (.map m.toArray c)) (hB : MB m c) :
    ((∀ x ∈ m, seen.contains x.born = true) ∧ (Instr.next (.pointer (some ⟨b, 0, none⟩)) false ty).run P w = .ok (.tuple #[.bool false]) w) ∨
    ∃ x ∈ m, seen.contains x.born = false ∧ ∃ w1 : World, Sl.base w1 = Sl.base w ∧ w1.heap = w.heap.setIfInBounds b (.mapIter (some bm) c (seen.push x.born) c) ∧
      (Instr.next (.pointer (some ⟨b, 0, none⟩)) false ty).run P w = .ok (.tuple #[.bool true, x.key, x.val]) w1 := by
  have hold : ∀ x ∈ m.toArray.toList, x.born < c := fun x hx => hB.2 x (by simpa using hx)
  simp only [Instr.next, getObj, Sem.run_bind, Sem.run, hb, hm, Result.andThen, next_test_false seen m.toArray c c hold (Nat.le_refl c), Bool.false_eq_true, if_false]
  have hmem : ∀ x ∈ (Array.filter (fun e => !seen.contains e.born) m.toArray).toList, x ∈ m ∧ seen.contains x.born = false := fun x hx => by
    simp only [Array.toList_filter, List.mem_filter, Bool.not_eq_true'] at hx
    exact hx
  have hall : (Array.filter (fun e => !seen.contains e.born) m.toArray).size = 0 → ∀ x ∈ m, seen.contains x.born = true := fun h0 x hx => by
    cases hc : seen.contains x.born with
    | true => rfl
    | false =>
      have : x ∈ (Array.filter (fun e => !seen.contains e.born) m.toArray).toList := by
        simp only [Array.toList_filter, List.mem_filter, Bool.not_eq_true']
        exact ⟨hx, hc⟩
      have hl : 0 < (Array.filter (fun e => !seen.contains e.born) m.toArray).toList.length := List.length_pos_of_mem this
      rw [Array.length_toList] at hl
      omega
  generalize Array.filter (fun e => !seen.contains e.born) m.toArray = L at hmem hall ⊢
  have e1 : L.filter (fun x => decide (x.born < c)) = L := Array.filter_eq_self.2 (fun x hx => by simpa using hB.2 x (hmem x (by simpa using hx)).1)
  have e2 : L.filter (fun x => decide (x.born ≥ c)) = #[] := by
    rw [Array.filter_eq_empty_iff]
    intro x hx
    have := hB.2 x (hmem x (by simpa using hx)).1
    simp
    omega
  simp only [e1, e2, Array.append_empty]
  by_cases h0 : L.size = 0
  · left
    refine ⟨hall h0, ?_⟩
    have : L = #[] := Array.eq_empty_of_size_eq_zero h0
    subst this
    simp [choose, Sem.run, Question.forced]
  · right
    have hne : L.isEmpty = false := by simp [Array.isEmpty, h0]
    simp only [hne, Bool.false_eq_true, if_false, Array.empty_append, Array.size_map]
    have hch : ∃ (j : Nat) (w1 : World), j < L.size ∧ (Sl.base w1 = Sl.base w ∧ w1.heap = w.heap) ∧ (choose (Question.mapNext L.size)).run P w = .ok j w1 := by
      by_cases hf : L.size ≤ 1
      · exact ⟨0, w, by omega, ⟨rfl, rfl⟩, by simp [choose, Sem.run, Question.forced, hf]⟩
      · exact ⟨_, w.drew, Nat.mod_lt _ (by omega), ⟨rfl, rfl⟩, by
          simp only [choose, Sem.run, Question.forced, decide_eq_true_eq, hf, if_false, Question.cut]
          rfl⟩
    obtain ⟨j, w1, hj, ⟨hb1, hh1⟩, hrun⟩ := hch
    have hjm := hmem L[j] (by simp)
    refine ⟨L[j], hjm.1, hjm.2, { w1 with heap := w1.heap.setIfInBounds b (.mapIter (some bm) c (seen.push L[j].born) c) }, hb1, by rw [hh1], ?_⟩
    have hset : (setObj b (.mapIter (some bm) c (seen.push L[j].born) c)).run P w1 = .ok () { w1 with heap := w1.heap.setIfInBounds b (.mapIter (some bm) c (seen.push L[j].born) c) } := by
      simp only [setObj, Sem.run, hh1, hb]
    simp only [hrun, Array.getElem?_map, Array.getElem?_eq_getElem hj, Option.map_some, Sem.run_bind, hset, Result.andThen]
    rfl
theorem count_nodup : ∀ {I : List Nat} {a : Nat}, I.Nodup → I.count a = if a ∈ I then 1 else 0
  | [], a, _ => by simp
  | i :: I, a, h => by
    obtain ⟨h1, h2⟩ := List.nodup_cons.1 h
    rw [List.count_cons, count_nodup h2]
    by_cases ha : i = a
    · subst ha
      simp [h1]
    · have : ¬ a = i := fun e => ha e.symm
      simp [ha, this]
theorem perm_nodup {I J : List Nat} (hI : I.Nodup) (hJ : J.Nodup) (h : ∀ a, a ∈ I ↔ a ∈ J) : I.Perm J := List.perm_iff_count.2 fun a => by
  rw [count_nodup hI, count_nodup hJ]
  by_cases ha : a ∈ I
  · rw [if_pos ha, if_pos ((h a).1 ha)]
  · rw [if_neg ha, if_neg fun hb => ha ((h a).2 hb)]
def pick {α : Type} [Inhabited α] (ds : List α) (I : List Nat) : List α := I.map fun i => ds.getD i default
theorem pick_range {α : Type} [Inhabited α] (ds : List α) : pick ds (List.range ds.length) = ds := by
  apply List.ext_getElem
  · simp [pick]
  · intro i h1 h2
    simp [pick, List.getD_eq_getElem?_getD, h2]
theorem pick_perm {α : Type} [Inhabited α] {ds : List α} {I J : List Nat} (h : I.Perm J) : (pick ds I).Perm (pick ds J) := h.map _
theorem nodup_le {I : List Nat} {n : Nat} (hN : I.Nodup) (hI : ∀ i ∈ I, i < n) : I.length ≤ n := by
  have hr : (List.range n).Nodup := List.nodup_range
  have hp : (I ++ (List.range n).filter fun a => !I.contains a).Perm (List.range n) := by
    refine perm_nodup ?_ hr fun a => ?_
    · rw [List.nodup_append]
      refine ⟨hN, hr.sublist List.filter_sublist, fun a ha b hb e => ?_⟩
      subst e
      simp [ha] at hb
    · simp only [List.mem_append, List.mem_filter, List.mem_range, Bool.not_eq_true', List.contains_eq_mem, decide_eq_false_iff_not]
      constructor
      · rintro (h | h)
        · exact hI a h
        · exact h.1
      · intro h
        by_cases ha : a ∈ I
        · exact .inl ha
        · exact .inr ⟨h, ha⟩
  have := hp.length_eq
  rw [List.length_append, List.length_range] at this
  omega
section
variable {α S ρ : Type} [Inhabited κ] {R : Rep α} {lb : S → Option (κ × List α) → Option (S ⊕ ρ)} {φ : ρ → Prop} {s : S} {ds : List (κ × List α)} {es : List (κ × Hdr)} {I : List Nat} {b bm : Nat} {x : Operand} {Q : Exit → Act → World → Prop} {ops : Array Oper} {rest : List Oper}
theorem OW.nextW (i : Nat) (hS : St B w l hf) (hi : l[i]? = some (ItW kv b bm es I)) (el : l.eraseIdx i = l') (hx : ev env x = some (pV b)) (hR : RowsW R hf es ds) (hL : LH lb φ s (pick ds I) ds) :
    OW P N ⟨dst, .next x false, t, pos, aft, g⟩ env w (fun v w' => (v = .tuple #[.bool false] ∧ St B w' (ItW kv b bm es I :: l') hf ∧ Holds (Sum.elim (fun _ => False) φ) (lb s none)) ∨
      ∃ (j : Nat) (e : κ × List α) (A : Option Addr) (c : Nat), v = .tuple #[.bool true, kv e.1, .slice A e.2.length c] ∧ es[j]? = some (e.1, (A, e.2.length, c)) ∧ SlR R hf A c e.2 ∧ St B w' (ItW kv b bm es (I ++ [j]) :: l') hf ∧
        Holds (Sum.elim (fun s' => LH lb φ s' (pick ds (I ++ [j])) ds) φ) (lb s (some e))) := fun a ha next Q hn => by
  subst el
  obtain ⟨m, c, ⟨⟨hM, hB⟩, hN, hI⟩, hS'⟩ := hS.itO i hi
  have hb1 := hS'.blk 0 rfl
  have hb2 := hS'.blk 1 rfl
  have hlen := hM.len
  have hlen2 := hR.len
  have hexec : ∀ v w', (Instr.next (.pointer (some ⟨b, 0, none⟩)) false t).run P w = .ok v w' → (execOp a.eval ⟨dst, .next x false, t, pos, aft, g⟩).run P w = .ok (.value v) w' := fun v w' e => by
    simp only [execOp, ha.eval hx, Sem.run_bind, e, Result.andThen_ok, Sem.run_pure]
  have hborn : ∀ i j, i < m.length → j < m.length → (m.getD i default).born = (m.getD j default).born → i = j := fun i j hi hj e => by
    have hn := hB.1
    rw [List.getD_eq_getElem?_getD, List.getD_eq_getElem?_getD, List.getElem?_eq_getElem hi, List.getElem?_eq_getElem hj] at e
    simp only [Option.getD_some] at e
    have hp := List.pairwise_iff_getElem.1 hn
    rcases Nat.lt_trichotomy i j with h | h | h
    · exact absurd (by rw [List.getElem_map, List.getElem_map]; exact e) (hp i j (by simpa using hi) (by simpa using hj) h)
    · exact h
    · exact absurd (by rw [List.getElem_map, List.getElem_map]; exact e.symm) (hp j i (by simpa using hj) (by simpa using hi) h)
  rcases run_nextW (P := P) (ty := t) hb2 hb1 hB with ⟨hall, hrun⟩ | ⟨y, hy, hns, w1, hw1, hw2, hrun⟩
  · simp only [Oper.wp, hexec _ _ hrun, Oper.upon]
    refine hn _ _ (.inl ⟨rfl, ?_, hL.stop ?_⟩)
    · exact (St.splC (ps := [_, _]) hS').imp fun h hh => ⟨m, c, ⟨⟨hM, hB⟩, hN, hI⟩, hh⟩
    · have hp : I.Perm (List.range ds.length) := perm_nodup hN List.nodup_range fun a => by
        rw [List.mem_range]
        refine ⟨fun h => by have := hI a h; omega, fun h => ?_⟩
        have ha : a < m.length := by omega
        have hm : m.getD a default ∈ m := by
          rw [List.getD_eq_getElem?_getD, List.getElem?_eq_getElem ha]
          exact List.getElem_mem ha
        have := hall _ hm
        simp only [List.contains_toArray, List.contains_eq_mem, decide_eq_true_eq, List.mem_map] at this
        obtain ⟨j, hj, e⟩ := this
        rw [← hborn j a (by have := hI j hj; omega) ha e]
        exact hj
      have := pick_perm (ds := ds) hp
      rwa [pick_range] at this
  · simp only [Oper.wp, hexec _ _ hrun, Oper.upon]
    obtain ⟨j, hj, ej⟩ := mem_getD (d := default) hy
    obtain ⟨A, c', e1, e2⟩ := hR.at_ j (by omega)
    have hjI : j ∉ I := fun h => by
      have : (I.map fun i => (m.getD i default).born).toArray.contains y.born = true := by
        simp only [List.contains_toArray, List.contains_eq_mem, decide_eq_true_eq, List.mem_map]
        exact ⟨j, h, by rw [ej]⟩
      rw [this] at hns
      cases hns
    have hN2 : (I ++ [j]).Nodup := by
      rw [List.nodup_append]
      exact ⟨hN, by simp, fun a ha b hb e => by
        have hb : b = j := by simpa using hb
        subst e hb
        exact hjI ha⟩
    have hI2 : ∀ i ∈ I ++ [j], i < es.length := fun i hi => by
      rcases List.mem_append.1 hi with hi | hi
      · exact hI i hi
      · rw [List.mem_singleton.1 hi]; omega
    have hv : y.key = kv (ds[j]'(by omega)).1 ∧ y.val = .slice A (ds[j]'(by omega)).2.length c' := by
      have := congrArg (fun z => z[j]?) hM
      simp only [List.getElem?_map, e1, Option.map_some] at this
      have hmj : m[j]? = some y := by
        rw [List.getD_eq_getElem?_getD, List.getElem?_eq_getElem hj] at ej
        rw [List.getElem?_eq_getElem hj]
        exact congrArg some ej
      rw [hmj] at this
      simp only [Option.map_some, Option.some.injEq, Prod.mk.injEq] at this
      exact this
    refine hn _ _ (.inr ⟨j, ds[j]'(by omega), A, c', by rw [hv.1, hv.2], e1, e2, ?_, ?_⟩)
    · have h2 := (hS'.perm (List.Perm.swap _ _ _)).put (w' := w1) (o' := .mapIter (some bm) c ((I ++ [j]).map fun i => (m.getD i default).born).toArray c) hw1 (fun b' hb' => by
          simp only [hp, hw2]
          rw [Array.getElem?_setIfInBounds_ne (Ne.symm hb')]) (by
          have hlt : b < w.heap.size := (Array.getElem?_eq_some_iff.1 hb2).1
          simp only [hp, hw2]
          rw [Array.getElem?_setIfInBounds_self_of_lt hlt]
          simp only [List.map_append, List.map_cons, List.map_nil, ej, List.push_toArray])
      exact (St.splC (ps := [_, _]) (h2.perm (List.Perm.swap _ _ _))).imp fun h hh => ⟨m, c, ⟨⟨hM, hB⟩, hN2, hI2⟩, hh⟩
    · have he : ds.getD j default = ds[j]'(by omega) := by rw [List.getD_eq_getElem?_getD, List.getElem?_eq_getElem (by omega)]; rfl
      have hpk : pick ds (I ++ [j]) = pick ds I ++ [ds[j]'(by omega)] := by
        simp only [pick, List.map_append, List.map_cons, List.map_nil, he]
      rw [hpk]
      refine hL.next ⟨pick ds ((List.range ds.length).filter fun a => !(I ++ [j]).contains a), ?_⟩
      have hp : ((I ++ [j]) ++ (List.range ds.length).filter fun a => !(I ++ [j]).contains a).Perm (List.range ds.length) := by
        refine perm_nodup ?_ List.nodup_range fun a => ?_
        · rw [List.nodup_append]
          refine ⟨hN2, List.nodup_range.sublist List.filter_sublist, fun a ha b hb e => ?_⟩
          subst e
          rw [List.mem_filter] at hb
          have := hb.2
          simp only [Bool.not_eq_true', List.contains_eq_mem, decide_eq_false_iff_not] at this
          exact this ha
        · rw [List.mem_append, List.mem_filter, List.mem_range]
          simp only [Bool.not_eq_true', List.contains_eq_mem, decide_eq_false_iff_not]
          constructor
          · rintro (h | h)
            · have := hI2 a h; omega
            · exact h.1
          · intro h
            by_cases ha : a ∈ I ++ [j]
            · exact .inl ha
            · exact .inr ⟨h, ha⟩
      have := pick_perm (ds := ds) hp
      rw [pick_range] at this
      simp only [pick, List.map_append, List.map_cons, List.map_nil, List.append_assoc, List.singleton_append] at this ⊢
      rw [he] at this
      exact this
theorem RL.nextW {G : S → List Nat → Prop} {d : Nat} (i : Nat) (hS : St B w l hf) (hi : l[i]? = some (ItW kv b bm es I)) (el : l.eraseIdx i = l') (hx : ev env x = some (pV b)) (hd : Nat.blt d N.n = true) (hR : RowsW R hf es ds) (hL : LH lb φ s (pick ds I) ds)
    (hG : ∀ s' I', LH lb φ s' (pick ds I') ds → I'.length = I.length + 1 → G s' I')
    (h1 : ∀ (j : Nat) (e : κ × List α) (A : Option Addr) (c : Nat), es[j]? = some (e.1, (A, e.2.length, c)) → SlR R hf A c e.2 → ∀ w, Holds (Sum.elim (fun s' => G s' (I ++ [j])) φ) (lb s (some e)) → St B w (ItW kv b bm es (I ++ [j]) :: l') hf →
      RL P N ops Q rest ((d, .tuple #[.bool true, kv e.1, .slice A e.2.length c]) :: env) w)
    (h2 : ∀ w, Holds (Sum.elim (fun _ => False) φ) (lb s none) → St B w (ItW kv b bm es I :: l') hf → RL P N ops Q rest ((d, .tuple #[.bool false]) :: env) w) : RL P N ops Q (⟨some d, .next x false, t, pos, aft, none⟩ :: rest) env w :=
  RL.e (OW.nextW i hS hi el hx hR hL) hd rfl fun v w' hk => by
    rcases hk with ⟨rfl, hS', h⟩ | ⟨j, e, A, c, rfl, he, hr, hS', h⟩
    · exact h2 w' h hS'
    · refine h1 j e A c he hr w' ?_ hS'
      obtain ⟨z, ez, hz⟩ := h
      refine ⟨z, ez, ?_⟩
      cases z with
      | inr r => exact hz
      | inl s' => exact hG s' _ hz (by simp)
theorem Vl.entryW {j : Nat} {e : κ × List α} {A : Option Addr} {c : Nat} (i : Nat) (hS : St B w l hf) (hi : l[i]? = some (ItW kv b bm es (I ++ [j]))) (he : es[j]? = some (e.1, (A, e.2.length, c))) (hx : ev env x = some (pV b)) :
    Vl P N ⟨dst, .entry x, t, pos, aft, g⟩ env w (.tuple #[kv e.1, .slice A e.2.length c]) := fun a ha => by
  obtain ⟨m, c', ⟨⟨hM, hB⟩, hN, hI⟩, hS'⟩ := hS.itO i hi
  have hb1 := hS'.blk 0 rfl
  have hb2 := hS'.blk 1 rfl
  have hj : j < m.length := by have := hI j (by simp); have := hM.len; omega
  have hmj : m[j]? = some (m.getD j default) := by rw [List.getD_eq_getElem?_getD, List.getElem?_eq_getElem hj]; rfl
  have hv : (m.getD j default).key = kv e.1 ∧ (m.getD j default).val = .slice A e.2.length c := by
    have := congrArg (fun z => z[j]?) hM
    simp only [List.getElem?_map, he, hmj, Option.map_some, Option.some.injEq, Prod.mk.injEq] at this
    exact this
  have hf : m.toArray.find? (·.born == (m.getD j default).born) = some (m.getD j default) := by
    rw [← Array.find?_toList]
    exact find_born _ _ (by simpa using hB.1) (by simpa using List.mem_of_getElem? hmj)
  have hback : ((I ++ [j]).map fun i => (m.getD i default).born).toArray.back? = some (m.getD j default).born := by simp
  simp only [execOp, ha.eval hx, Instr.entry, getObj, Sem.run_bind, Sem.run, hb2, hb1, Result.andThen, hback, bne_self_eq_false, Bool.false_eq_true, if_false, hf, hv.1, hv.2]
  rfl
end
theorem lpM {α S ρ : Type} [Inhabited α] {c : Code} {Q : Exit → Act → World → Prop} {lb : S → Option α → Option (S ⊕ ρ)} {φ : ρ → Prop} {ds : List α} {s0 : S} {a : Act} (h0 : Holds φ (rangeM lb s0 ds)) (Inv : S → List Nat → Act → World → Prop) (hI : Inv s0 [] a w)
    (hn : ∀ s I a w, Inv s I a w → I.length ≤ ds.length)
    (hround : ∀ (G : S → List Nat → Prop) s I a w, Inv s I a w → LH lb φ s (pick ds I) ds → (∀ s' I', LH lb φ s' (pick ds I') ds → I'.length = I.length + 1 → G s' I') → wq P N.y c (Exit.then (fun a w => ∃ s' I', G s' I' ∧ Inv s' I' a w) Q) a w) :
    wq P N.y (Code.loop c) Q a w := by
  intro X hX
  have key : ∀ k s I a w, ds.length + 1 - I.length ≤ k → Inv s I a w → LH lb φ s (pick ds I) ds → X a w := by
    intro k
    induction k with
    | zero =>
      intro s I a w hk hi _
      have := hn s I a w hi
      omega
    | succ k ih =>
      intro s I a w hk hi hL
      refine hX a w (wq_mono c (then_mono (fun a w ⟨s', I', ⟨hL', hl⟩, hi'⟩ => ?_) fun _ _ _ h => h) a w (hround (fun s' I' => LH lb φ s' (pick ds I') ds ∧ I'.length = I.length + 1) s I a w hi hL fun s' I' h1 h2 => ⟨h1, h2⟩))
      have := hn s' I' a w hi'
      exact ih s' I' a w (by omega) hi' hL'
  exact key _ s0 [] a w (Nat.le_refl _) hI (LH.start h0)
theorem St.itLen {b bm : Nat} {es : List (κ × Hdr)} {I : List Nat} (i : Nat) (hS : St B w l hf) (hi : l[i]? = some (ItW kv b bm es I)) : I.length ≤ es.length := by
  obtain ⟨m, c, ⟨_, hN, hI⟩, _⟩ := hS.itO i hi
  exact nodup_le hN hI
end
end Go.Sl
