/-
  The own separation logic for the walks, part 11.
-/
import Derived.Test.YtpheghebfodiiaaGreatDoorSl10
set_option linter.unusedVariables false
set_option linter.unusedSimpArgs false
namespace Go.Sl

/-! ### 18. Slices of the call's own whose elements lead on into the frame -/
/-- a kind of data whose cells are as many as it says, each one cell -/
structure Rep.Ok {α : Type} (R : Rep α) : Prop where
  len : ∀ {h cs x}, R.rd h cs x → cs.length = R.sz
  one : ∀ {h cs x}, R.rd h cs x → ∀ v ∈ cs, v.oneCell' = true
theorem Fl.ok {α : Type} (E : Fl α) : E.rep.Ok := ⟨fun h => by rw [show _ = E.enc _ from h]; exact E.len _, fun h v hv => by rw [show _ = E.enc _ from h] at hv; exact E.one _ v hv⟩
theorem Rep.sl_ok {α : Type} (R : Rep α) : R.sl.Ok := ⟨fun ⟨A, c, e, _⟩ => by rw [e]; rfl, fun ⟨A, c, e, _⟩ v hv => by rw [e] at hv; rw [List.mem_singleton.1 hv]; rfl⟩
/-- cells that hold data, one after the other -/
def RepL {α : Type} (R : Rep α) (h : Hp) : List Value → List α → Prop
  | cs, [] => cs = []
  | cs, x :: xs => ∃ c r, cs = c ++ r ∧ R.rd h c x ∧ RepL R h r xs
theorem RepL.mono {α : Type} {R : Rep α} {h g : Hp} (s : Sub h g) : ∀ {xs : List α} {cs : List Value}, RepL R h cs xs → RepL R g cs xs
  | [], _, e => e
  | x :: xs, _, ⟨c, r, e, h1, h2⟩ => ⟨c, r, e, R.mono s h1, h2.mono s⟩
theorem RepL.nil {α : Type} {R : Rep α} {h : Hp} : RepL R h [] [] := rfl
theorem RepL.cons {α : Type} {R : Rep α} {h : Hp} {c r : List Value} {x : α} {xs : List α} (h1 : R.rd h c x) (h2 : RepL R h r xs) : RepL R h (c ++ r) (x :: xs) := ⟨c, r, rfl, h1, h2⟩
theorem RepL.app {α : Type} {R : Rep α} {h : Hp} : ∀ {xs ys : List α} {cs ds : List Value}, RepL R h cs xs → RepL R h ds ys → RepL R h (cs ++ ds) (xs ++ ys)
  | [], _, _, _, e, h2 => by rw [show _ = [] from e]; exact h2
  | x :: xs, _, _, _, ⟨c, r, e, h1, h3⟩, h2 => ⟨c, r ++ _, by rw [e, List.append_assoc], h1, h3.app h2⟩
section
variable {α : Type} {R : Rep α} (ok : R.Ok)
include ok
theorem RepL.length {h : Hp} : ∀ {xs : List α} {cs : List Value}, RepL R h cs xs → cs.length = xs.length * R.sz
  | [], _, e => by rw [show _ = [] from e]; simp
  | x :: xs, _, ⟨c, r, e, h1, h2⟩ => by
    rw [e, List.length_append, ok.len h1, RepL.length h2, List.length_cons, Nat.add_mul, Nat.one_mul, Nat.add_comm]
theorem RepL.one {h : Hp} : ∀ {xs : List α} {cs : List Value}, RepL R h cs xs → ∀ v ∈ cs, v.oneCell' = true
  | [], _, e, v, hv => by rw [show _ = [] from e] at hv; cases hv
  | x :: xs, _, ⟨c, r, e, h1, h2⟩, v, hv => by
    rw [e] at hv
    rcases List.mem_append.1 hv with hv | hv
    · exact ok.one h1 v hv
    · exact RepL.one h2 v hv
/-- an element's cells -/
theorem RepL.get {h : Hp} : ∀ {xs : List α} {cs : List Value}, RepL R h cs xs → ∀ i (hi : i < xs.length), ∃ c, R.rd h c xs[i] ∧ ∀ j v, c[j]? = some v → cs[i * R.sz + j]? = some v
  | x :: xs, _, ⟨c, r, e, h1, h2⟩, 0, hi => ⟨c, h1, fun j v hv => by
    rw [e, Nat.zero_mul, Nat.zero_add, List.getElem?_append_left (List.getElem?_eq_some_iff.1 hv).1]
    exact hv⟩
  | x :: xs, _, ⟨c, r, e, h1, h2⟩, i + 1, hi => by
    obtain ⟨c', q1, q2⟩ := RepL.get h2 i (by simpa using hi)
    refine ⟨c', by simpa using q1, fun j v hv => ?_⟩
    rw [e, List.getElem?_append_right (by rw [ok.len h1, Nat.add_mul]; omega), ok.len h1]
    rw [show (i + 1) * R.sz + j - R.sz = i * R.sz + j by rw [Nat.add_mul]; omega]
    exact q2 j v hv
/-- what lies in a slice that is read, as cells -/
theorem SlAt.cells {h : Hp} {A : Option Addr} : ∀ (xs : List α) (k : Nat), (∀ i (hi : i < xs.length), ∃ cs, R.rd h cs xs[i] ∧ ∀ j v, cs[j]? = some v → cellH h ((ad A).add ((k + i) * R.sz + j)) = some v) →
    ∃ cs, RepL R h cs xs ∧ ∀ j v, cs[j]? = some v → cellH h ((ad A).add (k * R.sz + j)) = some v
  | [], k, _ => ⟨[], rfl, fun j v hv => by simp at hv⟩
  | x :: xs, k, hx => by
    obtain ⟨c, h1, h2⟩ := hx 0 (by simp)
    obtain ⟨r, h3, h4⟩ := SlAt.cells xs (k + 1) (fun i hi => by
      obtain ⟨c', q1, q2⟩ := hx (i + 1) (by simpa using hi)
      exact ⟨c', by simpa using q1, fun j v hv => by rw [show k + 1 + i = k + (i + 1) by omega]; exact q2 j v hv⟩)
    have h1' : R.rd h c x := h1
    refine ⟨c ++ r, .cons h1' h3, fun j v hv => ?_⟩
    by_cases hj : j < c.length
    · rw [List.getElem?_append_left hj] at hv
      simpa using h2 j v hv
    · rw [List.getElem?_append_right (by omega)] at hv
      have := h4 _ v hv
      rw [ok.len h1'] at this hj
      rw [show k * R.sz + j = (k + 1) * R.sz + (j - R.sz) by rw [Nat.add_mul]; omega]
      exact this
end
section
variable {α : Type} {R : Rep α} {P : Program} {N : Fr} {env : Env} {w : World} {dst : Option Tmp} {t : TypeId} {pos : String} {aft : Array Edge} {g : Option (Nat × Bool)} {B : Base} {l : List HProp} {hf : Hp}
theorem St.nilSlR (h : St B w l hf) (e : TypeId) (sz : Nat) : St B w (OSl e sz (.slice none 0 0) 0 [] :: l) hf := h.emp _ (OSl.nil e sz)
/-- what is owned, as a slice that is read -/
theorem OSl.slR (ok : R.Ok) {e : TypeId} {A : Option Addr} {n c : Nat} {xs : List α} {cs : List Value} {h1 g : Hp} (h : OSl e R.sz (.slice A n c) n cs h1) (s : Sub h1 g) (hn : n = xs.length) (hx : RepL R g cs xs) : SlR R g A c xs := by
  obtain ⟨hl, hA⟩ := h
  rcases hA with ⟨e1, e2, _⟩ | ⟨b, o, cap, cur, e1, hp', hc, _, hcs, htk⟩
  · have : xs = [] := List.length_eq_zero_iff.1 (hn.symm.trans e2)
    subst this
    exact SlR.nil
  · cases e1
    subst hn
    refine ⟨hc, fun k hk => ?_⟩
    obtain ⟨c', q1, q2⟩ := RepL.get ok hx k hk
    refine ⟨rfl, c', q1, fun j u hu => ?_⟩
    have hg := q2 j u hu
    have hcell := cur_get htk hg
    show cellH g ((ad (some (⟨b, o, none⟩ : Addr))).add (k * R.sz + j)) = some u
    simp only [ad, Option.getD_some]
    rw [add_mk]
    simp [cellH, s _ _ hp'.1, hcell]
theorem St.promoteR (ok : R.Ok) {e : TypeId} {A : Option Addr} {n c : Nat} {xs : List α} {cs : List Value} (h : St B w (OSl e R.sz (.slice A n c) n cs :: l) hf) (hn : n = xs.length) (hx : RepL R hf cs xs) :
    ∃ hf', Sub hf hf' ∧ St B w l hf' ∧ SlR R hf' A c xs := by
  obtain ⟨h1, hA, d, hS⟩ := h.lend
  exact ⟨_, sub_un_left _ _, hS, OSl.slR ok hA (sub_un_right d) hn (hx.mono (sub_un_left _ _))⟩
theorem St.lendSlR (ok : R.Ok) {e : TypeId} {A : Option Addr} {n c : Nat} {xs : List α} {cs : List Value} (h : St B w (OSl e R.sz (.slice A n c) n cs :: l) hf) (hn : n = xs.length) (hx : RepL R hf cs xs) :
    ∃ hf', Sub hf hf' ∧ St B w l hf' ∧ SlR R hf' A c xs ∧ ∀ w' l', St B w' l' hf' → St B w' (OSl e R.sz (.slice A n c) n cs :: l') hf := by
  obtain ⟨h1, hA, d, hS⟩ := h.lend
  exact ⟨_, sub_un_left _ _, hS, OSl.slR ok hA (sub_un_right d) hn (hx.mono (sub_un_left _ _)), fun w' l' h' => (h'.back d).imp fun k hk => hk ▸ hA⟩
theorem OW.build0R {ty e : TypeId} {z : Value} {sz : Nat} (hS : St B w l hf) (hu : P.underlying ty = some (.slice e)) (hz : ∀ w, (zeroValue e).run P w = .ok z w) (hs : ∀ w, (sizeOf e).run P w = .ok sz w) :
    OW P N ⟨dst, .buildSlice ty 0 #[], t, pos, aft, g⟩ env w (fun v' w' => ∃ b, v' = .slice (some ⟨b, 0, none⟩) 0 0 ∧ St B w' (OSl e sz v' 0 [] :: l) hf) := fun a ha next Q hnx => by
  have hr : (execOp a.eval ⟨dst, .buildSlice ty 0 #[], t, pos, aft, g⟩).run P w = .ok (.value (.slice (some ⟨w.heap.size, 0, none⟩) 0 0)) (w.alloc (.cells #[] e)) := by
    have hu' : (underlying ty).run P w = .ok (.slice e) w := by simp [underlying, hu]
    have he : Array.range 0 = #[] := rfl
    simp [execOp, Instr.buildSlice, hu', hs, newRow, run_newObj, World.alloc_eq, Instr.fill, he]
  simp only [Oper.wp, hr, Oper.upon]
  refine hnx _ _ ⟨_, rfl, ?_⟩
  have := hS.new (w' := w.alloc (.cells #[] e)) (.cells #[] e) rfl rfl
  exact this.imp fun k hk => ⟨by simp, .inr ⟨_, 0, 0, _, rfl, hk, Nat.le_refl _, Nat.zero_le _, by simp, by simp⟩⟩
theorem OW.buildSliceR {ty e : TypeId} {parts : List (Nat × Operand)} {vs : List (Nat × Value)} {n sz : Nat} {z : Value} {cs : List Value} (hS : St B w l hf) (hu : P.underlying ty = some (.slice e))
    (hz : ∀ w, (zeroValue e).run P w = .ok z w) (hs : ∀ w, (sizeOf e).run P w = .ok sz w) (hp : evp env parts = some vs) (hn : cs.length = n * sz) (h0 : 0 < n * sz) (hle : n * sz ≤ 2 ^ 24)
    (hfill : Instr.fill (fun i => some (i * sz, sz)) ((Array.range (n * sz)).map (z.cells[· % z.cells.size]!)) vs = some cs.toArray) :
    OW P N ⟨dst, .buildSlice ty n parts.toArray, t, pos, aft, g⟩ env w (fun v' w' => ∃ b, v' = .slice (some ⟨b, 0, none⟩) n n ∧ St B w' (OSl e sz v' n cs :: l) hf) := fun a ha next Q hnx => by
  have e' : (parts.toArray.map fun (i, x) => (i, a.eval x)) = vs.toArray := by
    have : (parts.toArray.map fun (x : Nat × Operand) => (x.1, a.eval x.2)) = vs.toArray := by rw [List.map_toArray, ha.evps hp]
    exact this
  have hr : (execOp a.eval ⟨dst, .buildSlice ty n parts.toArray, t, pos, aft, g⟩).run P w = .ok (.value (.slice (some ⟨w.heap.size, 0, none⟩) n n)) (w.alloc (.cells cs.toArray e)) := by
    simp only [execOp]
    rw [e']
    have h1 : ¬ (n * sz > 2 ^ 24) := by omega
    have h2 : ¬ (n * sz = 0) := by omega
    have hu' : (underlying ty).run P w = .ok (.slice e) w := by simp [underlying, hu]
    simp only [Instr.buildSlice, Sem.run_bind, hu', Result.andThen_ok, hs, h1, h2, if_false, hz, Sem.run_pure, hfill, newRow, run_newObj, World.alloc_eq]
  simp only [Oper.wp, hr, Oper.upon]
  refine hnx _ _ ⟨_, rfl, ?_⟩
  have := hS.new (w' := w.alloc (.cells cs.toArray e)) (.cells cs.toArray e) rfl rfl
  refine this.imp fun k hk => ⟨hn, .inr ⟨_, 0, n, _, rfl, hk, Nat.le_refl _, ?_, ?_, ?_⟩⟩
  · have : n ≤ n * sz := Nat.le_mul_of_pos_right _ (Nat.pos_of_mul_pos_left h0)
    unfold maxLen
    omega
  · rw [List.size_toArray, Nat.zero_add]; exact Nat.le_of_eq hn.symm
  · rw [List.drop_zero]; exact List.take_of_length_le (by rw [List.toList_toArray, hn]; exact Nat.le_refl _)
/-- append of a slice that is read, to one of the call's own -/
theorem OW.appendR (ok : R.Ok) {ty e : TypeId} {ti : TypeInfo} {z : Value} {bytes : Nat} {x y : Operand} {v : Value} {A : Option Addr} {c : Nat} {xs ys : List α} {cs : List Value} {l' : List HProp} (i : Nat) (hS : St B w l hf) (hi : l[i]? = some (OSl e R.sz v xs.length cs))
    (hu : P.underlying ty = some (.slice e)) (hti : P.info? e = some ti) (hz : ti.zero = some z) (hsz : ti.size = R.sz) (hby : ti.bytes = bytes) (hzs : z.cells.size = R.sz) (h0 : 0 < R.sz) (hbp : 0 < bytes) (hx : RepL R hf cs xs)
    (hex : ev env x = some v) (hey : ev env y = some (.slice A ys.length c)) (hY : SlR R hf A c ys) (hb : (xs.length + ys.length) * bytes ≤ 140737488355328) (el : l.eraseIdx i = l') :
    OW P N ⟨dst, .call ⟨.builtin .append, #[x, y], #[ty, ty]⟩, t, pos, aft, g⟩ env w (fun v' w' => ∃ cs', RepL R hf cs' (xs ++ ys) ∧ St B w' (OSl e R.sz v' (xs ++ ys).length cs' :: l') hf) := fun a ha next Q hn => by
  subst el
  have h63 : xs.length + ys.length ≤ maxLen := by
    have : xs.length + ys.length ≤ (xs.length + ys.length) * bytes := Nat.le_mul_of_pos_right _ hbp
    unfold maxLen; omega
  cases ys with
  | nil =>
    have hrun := St.appendNothing (P := P) (t := t) (c := c) (A := A) (hS.pull i hi rfl) hu hti
    have hr : (execOp a.eval ⟨dst, .call ⟨.builtin .append, #[x, y], #[ty, ty]⟩, t, pos, aft, g⟩).run P w = .ok (.value v) w := by
      simp only [execOp, resolve, Sem.run_bind, Sem.run_pure, Result.andThen_ok, List.map_toArray, List.map_cons, List.map_nil, ha.eval hex, ha.eval hey, Go.invoke, Go.builtin, List.length_nil, hrun]
    simp only [Oper.wp, hr, Oper.upon]
    refine hn _ _ ⟨cs, by simpa using hx, ?_⟩
    simpa using hS.pull i hi rfl
  | cons y0 ys =>
    have hA := (hY.2 0 (by simp)).1
    obtain ⟨ds, hd1, hd2⟩ := SlAt.cells ok (A := A) (h := hf) (y0 :: ys) 0 (fun i hi => by
      obtain ⟨_, c', q1, q2⟩ := hY.2 i hi
      exact ⟨c', q1, fun j v hv => by rw [Nat.zero_add]; exact q2 j v hv⟩)
    have hey' : ev env y = some (.slice (some (ad A)) (y0 :: ys).length c) := by rw [← hA]; exact hey
    obtain ⟨v', w', hrun, this⟩ := St.appendOwn (P := P) (t := t) (hS.pull i hi rfl) hu hti hz hsz hby hzs h0 (ad A) (y0 :: ys).length c ds (RepL.length ok hd1) (fun j u hj => by
      have := hd2 j u hj
      rw [Nat.zero_mul, Nat.zero_add] at this
      exact cellH_world hS.sub this) (RepL.one ok hd1) h63 hb
    have hr : (execOp a.eval ⟨dst, .call ⟨.builtin .append, #[x, y], #[ty, ty]⟩, t, pos, aft, g⟩).run P w = .ok (.value v') w' := by
      simp only [execOp, resolve, Sem.run_bind, Sem.run_pure, Result.andThen_ok, List.map_toArray, List.map_cons, List.map_nil, ha.eval hex, ha.eval hey', Go.invoke, Go.builtin, hrun]
    simp only [Oper.wp, hr, Oper.upon]
    refine hn _ _ ⟨cs ++ ds, hx.app hd1, ?_⟩
    rw [List.length_append]
    exact this
end
end Go.Sl
