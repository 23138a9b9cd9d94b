/-
  The own separation logic for the walks, part 9.
-/
import Derived.Test.YtpheghebfodiiaaGreatDoorSl8
import Derived.Deep.Slices
import Derived.SizedLaws
import Derived.Below
import Derived.Carry
import Derived.WalkKit
import Derived.ProofKit
import Derived.OpenShut
import Derived.Deep.DeepHandedRow
import Derived.Lib.LaidTab
set_option linter.unusedVariables false
set_option linter.unusedSimpArgs false
namespace Go.Sl

/-! ### 15. Arguments, read: what a reading's datum says of the cells -/
def Sized (l : List Nat) : Prop := l.all (fun n => decide (n ≤ reachBytes)) = true
theorem Sized.left {a b : List Nat} (h : Sized (a ++ b)) : Sized a := by
  unfold Sized at *; rw [List.all_append, Bool.and_eq_true] at h; exact h.1
theorem Sized.right {a b : List Nat} (h : Sized (a ++ b)) : Sized b := by
  unfold Sized at *; rw [List.all_append, Bool.and_eq_true] at h; exact h.2
def Opens {α : Type} (P : Program) (R : Rep α) (ok : α → Prop) (t : TypeId) : Prop :=
  ∀ {H : Type} {enc : TypeId × Value → H} {W : World} {base : Nat} {sp : Nat → Bool} {hd : Bool} {fuel : Nat} {cs : List Value} {x : DataW H × List MemPlace},
    DataW.trod enc P W base sp hd fuel t cs = some x → Sized (DataW.weights P t x.1) → ∃ a, R.rd (hp W) cs a ∧ ok a
section
variable {P : Program} {t e : TypeId}
theorem Opens.map {α β : Type} {R : Rep α} {ok : α → Prop} {S : Rep β} {okS : β → Prop} (f : α → β) (h : Opens P R ok t) (hr : ∀ h cs a, R.rd h cs a → S.rd h cs (f a)) (ho : ∀ a, ok a → okS (f a)) : Opens P S okS t := fun h1 hw => by
  obtain ⟨a, ha, hk⟩ := h h1 hw
  exact ⟨f a, hr _ _ _ ha, ho _ hk⟩
theorem Opens.int {k : IntKind} (hu : P.underlying t = some (.int k)) : Opens P (FI k).rep (fun n => (Lit.int k n).wf = true) t := by
  intro H enc W base sp hd fuel cs x h hw
  cases fuel with
  | zero => cases h
  | succ fuel =>
    unfold DataW.trod at h
    rw [hu] at h
    match cs, h with
    | [.int k' n], h =>
      simp only at h
      split at h
      · rename_i hk
        obtain ⟨rfl, hwf⟩ := hk
        exact ⟨n, rfl, hwf⟩
      · cases h
theorem Opens.bool (hu : P.underlying t = some .bool) : Opens P FB.rep (fun _ => True) t := by
  intro H enc W base sp hd fuel cs x h hw
  cases fuel with
  | zero => cases h
  | succ fuel =>
    unfold DataW.trod at h
    rw [hu] at h
    match cs, h with
    | [.bool b], h => exact ⟨b, rfl, trivial⟩
theorem Opens.str (hu : P.underlying t = some .string) : Opens P FS.rep (fun s => s.size ≤ reachBytes) t := by
  intro H enc W base sp hd fuel cs x h hw
  cases fuel with
  | zero => cases h
  | succ fuel =>
    unfold DataW.trod at h
    rw [hu] at h
    match cs, h with
    | [.string s], h =>
      simp only at h
      split at h
      · cases h
        refine ⟨s, rfl, ?_⟩
        have h1 : Sized [s.data.toList.length] := hw
        simp only [Sized, List.all_cons, List.all_nil, Bool.and_true, decide_eq_true_eq, Array.length_toList] at h1
        exact h1
      · cases h
theorem sized_all {H : Type} {e : TypeId} : ∀ {l : List (DataW H)} {d : DataW H}, d ∈ l → Sized (DataW.weightsAll P e l) → Sized (DataW.weights P e d)
  | y :: l, d, hm, h => by
    simp only [DataW.weightsAll] at h
    rcases List.mem_cons.1 hm with rfl | hm
    · exact h.left
    · exact sized_all hm h.right
theorem list_of {α : Type} {p : Nat → α → Prop} : ∀ n, (∀ i, i < n → ∃ a, p i a) → ∃ xs : List α, xs.length = n ∧ ∀ i (h : i < xs.length), p i xs[i]
  | 0, _ => ⟨[], rfl, fun i h => by simp at h⟩
  | n + 1, h => by
    obtain ⟨xs, hl, hx⟩ := list_of n fun i hi => h i (by omega)
    obtain ⟨a, ha⟩ := h n (by omega)
    refine ⟨xs ++ [a], by simp [hl], fun i hi => ?_⟩
    by_cases hin : i < xs.length
    · rw [List.getElem_append_left hin]; exact hx i hin
    · have : i = n := by simp at hi; omega
      subst this
      rw [List.getElem_append_right (by omega)]
      simpa using ha
theorem Opens.slice {α : Type} {R : Rep α} {ok : α → Prop} (hu : P.underlying t = some (.slice e)) (hc : P.cellsOf e = R.sz) (h : Opens P R ok e) :
    Opens P R.sl (fun xs => (∀ x ∈ xs, ok x) ∧ xs.length * P.bytesOf e ≤ reachBytes) t := by
  intro H enc W base sp hd fuel cs x hx hw
  rcases Deep.open_slice hu hx with ⟨rfl, rfl⟩ | ⟨a, len, cap, m, n, D, Pl, rfl, hb, hl, hm, hmm, rfl, hel⟩
  · exact ⟨[], ⟨none, 0, rfl, SlR.nil⟩, fun _ h => by simp at h, by simp⟩
  · simp only [DataW.weights, hu] at hw
    have hle : len ≤ m := by rw [hmm]; split <;> omega
    have h0 : Sized [((List.range len).map D).length * P.bytesOf e + ((List.range (m - len)).map fun j => D (len + j)).length * P.bytesOf e] := by
      have := hw.left (a := [_])
      simpa [Nat.add_mul] using this
    have h1 : Sized (DataW.weightsAll P e ((List.range len).map D)) := (hw.right (a := [_])).left
    have key : ∀ i, i < len → ∃ y, R.rd (hp W) ((W.cells? base (a.add (i * P.cellsOf e)) (P.cellsOf e)).getD []) y ∧ ok y ∧ ∀ j v, ((W.cells? base (a.add (i * P.cellsOf e)) (P.cellsOf e)).getD [])[j]? = some v → W.cell? (a.add (i * P.cellsOf e + j)) = some v := fun i hi => by
      obtain ⟨cs', hcs, htr⟩ := hel i (by omega)
      obtain ⟨y, hy, hk⟩ := h htr (sized_all (List.mem_map.2 ⟨i, List.mem_range.2 hi, rfl⟩) h1)
      obtain ⟨_, hlen, hget⟩ := World.cells?_some hcs
      rw [hcs]
      refine ⟨y, hy, hk, fun j v hv => ?_⟩
      simp only [Option.getD_some] at hv
      have hj : j < P.cellsOf e := by rw [← hlen]; exact (List.getElem?_eq_some_iff.1 hv).1
      rw [← Sl.add_add, hget j hj, hv]
    obtain ⟨xs, hlx, hxs⟩ := list_of len key
    refine ⟨xs, ⟨some a, cap, by rw [hlx], by rw [hlx]; exact hl, fun i hi => ?_⟩, fun y hy => ?_, ?_⟩
    · obtain ⟨h2, h3, h4⟩ := hxs i hi
      refine ⟨rfl, _, h2, fun j v hv => ?_⟩
      have := h4 j v hv
      rw [hc] at this
      exact this
    · obtain ⟨i, hi, e1⟩ := List.getElem_of_mem hy
      rw [← e1]
      exact (hxs i hi).2.1
    · rw [hlx]
      have := h0
      simp only [Sized, List.all_cons, List.all_nil, Bool.and_true, decide_eq_true_eq, List.length_map, List.length_range] at this
      omega
def okl {α : Type} (ok : α → Prop) (bytes : Nat) (xs : List α) : Prop := (∀ x ∈ xs, ok x) ∧ xs.length * bytes ≤ reachBytes
theorem Opens.sliceB {α : Type} {R : Rep α} {ok : α → Prop} {b : Nat} (hu : P.underlying t = some (.slice e)) (hc : P.cellsOf e = R.sz) (hb : P.bytesOf e = b) (h : Opens P R ok e) : Opens P R.sl (okl ok b) t := by
  subst hb
  exact Opens.slice hu hc h
/-! structs: field by field -/
def Rep.unit : Rep Unit := ⟨0, fun _ cs _ => cs = [], fun _ h => h⟩
def Rep.prod {α β : Type} (R : Rep α) (S : Rep β) : Rep (α × β) := ⟨R.sz + S.sz, fun h cs x => ∃ c1 c2, cs = c1 ++ c2 ∧ R.rd h c1 x.1 ∧ S.rd h c2 x.2, fun s ⟨c1, c2, e, h1, h2⟩ => ⟨c1, c2, e, R.mono s h1, S.mono s h2⟩⟩
def FieldsOpen {α : Type} (P : Program) (fs : List (TypeId × Nat)) (off : Nat) (R : Rep α) (ok : α → Prop) : Prop :=
  ∀ {H : Type} {enc : TypeId × Value → H} {W : World} {base : Nat} {sp : Nat → Bool} {hd : Bool} {fuel : Nat} {cs : List Value} {xs : List (DataW H × List MemPlace)},
    fs.mapM (fun f => DataW.trod enc P W base sp hd fuel f.1 ((cs.drop f.2).take (P.cellsOf f.1))) = some xs → Sized (DataW.weightsEach P (fs.map (·.1)) (xs.map (·.1))) → cs.length = off + R.sz → ∃ a, R.rd (hp W) (cs.drop off) a ∧ ok a
theorem FieldsOpen.nil {off : Nat} : FieldsOpen P [] off Rep.unit (fun _ => True) := by
  intro H enc W base sp hd fuel cs xs h hw hl
  exact ⟨(), by simp [Rep.unit] at hl ⊢; omega, trivial⟩
theorem FieldsOpen.cons {α β : Type} {R : Rep α} {S : Rep β} {ok : α → Prop} {okS : β → Prop} {ty : TypeId} {off : Nat} {fs : List (TypeId × Nat)} (hc : P.cellsOf ty = R.sz) (h : Opens P R ok ty) (hr : FieldsOpen P fs (off + R.sz) S okS) :
    FieldsOpen P ((ty, off) :: fs) off (R.prod S) (fun x => ok x.1 ∧ okS x.2) := by
  intro H enc W base sp hd fuel cs xs hm hw hl
  simp only [List.mapM_cons, Option.bind_eq_bind, Option.bind_eq_some_iff, Option.pure_def, Option.some.injEq] at hm
  obtain ⟨y, hy, ys, hys, rfl⟩ := hm
  simp only [List.map_cons, DataW.weightsEach] at hw
  obtain ⟨a, ha, hk⟩ := h hy hw.left
  obtain ⟨b, hb, hkb⟩ := hr hys hw.right (by rw [hl]; simp [Rep.prod]; omega)
  refine ⟨(a, b), ⟨(cs.drop off).take R.sz, cs.drop (off + R.sz), ?_, ?_, hb⟩, hk, hkb⟩
  · rw [← List.drop_drop, List.take_append_drop]
  · rw [hc] at ha; exact ha
theorem Opens.struct {α : Type} {R : Rep α} {ok : α → Prop} {fs : Array Field} (hu : P.underlying t = some (.struct fs)) (hc : P.cellsOf t = R.sz) (h : FieldsOpen P (fs.toList.map fun f => (f.type, f.offset)) 0 R ok) : Opens P R ok t := by
  intro H enc W base sp hd fuel cs x hx hw
  cases fuel with
  | zero => cases hx
  | succ fuel =>
    unfold DataW.trod at hx
    rw [hu] at hx
    simp only at hx
    split at hx
    · rename_i hl
      obtain ⟨xs, hxs, rfl⟩ := Option.map_eq_some_iff.1 hx
      have hm : (fs.toList.map fun f => (f.type, f.offset)).mapM (fun f => DataW.trod enc P W base sp hd fuel f.1 ((cs.drop f.2).take (P.cellsOf f.1))) = some xs := by
        rw [List.mapM_map]; exact hxs
      obtain ⟨a, ha, hk⟩ := h hm (by simpa [DataW.weights, hu, Function.comp_def] using hw) (by rw [hl, hc]; simp)
      exact ⟨a, by simpa using ha, hk⟩
    · cases hx
theorem weightsEach_rep {H : Type} {e : TypeId} : ∀ (l : List (DataW H)) (n : Nat), l.length ≤ n → DataW.weightsEach P (List.replicate n e) l = DataW.weightsAll P e l
  | [], n, _ => by cases n <;> simp [DataW.weightsEach, DataW.weightsAll, List.replicate_succ]
  | y :: l, 0, h => by simp at h
  | y :: l, n + 1, h => by simp [DataW.weightsEach, DataW.weightsAll, List.replicate_succ, weightsEach_rep l n (by simpa using h)]
theorem Opens.array {α : Type} {R : Rep α} {ok : α → Prop} {n : Nat} (hu : P.underlying t = some (.array n e)) (hc : P.cellsOf t = R.sz) (h : FieldsOpen P ((List.range n).map fun i => (e, i * P.cellsOf e)) 0 R ok) : Opens P R ok t := by
  intro H enc W base sp hd fuel cs x hx hw
  cases fuel with
  | zero => cases hx
  | succ fuel =>
    unfold DataW.trod at hx
    rw [hu] at hx
    simp only at hx
    split at hx
    · rename_i hl
      obtain ⟨xs, hxs, rfl⟩ := Option.map_eq_some_iff.1 hx
      have hm : ((List.range n).map fun i => (e, i * P.cellsOf e)).mapM (fun f => DataW.trod enc P W base sp hd fuel f.1 ((cs.drop f.2).take (P.cellsOf f.1))) = some xs := by
        rw [List.mapM_map]; exact hxs
      have hlen : xs.length ≤ n := by have := mapM_some_length hxs; simp at this; omega
      have e1 : ((List.range n).map fun i => (e, i * P.cellsOf e)).map (·.1) = List.replicate n e := by
        rw [List.map_map]
        apply List.ext_getElem
        · simp
        · intro i h1 h2; simp
      obtain ⟨a, ha, hk⟩ := h hm (by rw [e1, weightsEach_rep _ n (by simpa using hlen)]; simpa [DataW.weights, hu] using hw) (by rw [hl, hc]; simp)
      exact ⟨a, by simpa using ha, hk⟩
    · cases hx
end
theorem TabH.of {P : Program} {W : World} (h : Lib.TabIs P W "internal/strconv.uint64pow10" .u64 Lib.pow10Tab) : TabH P (hp W) := fun w s => by
  unfold Lib.TabIs at *
  unfold World.var? at *
  obtain ⟨g, hg, hv⟩ := Option.bind_eq_some_iff.1 h
  refine Option.bind_eq_some_iff.2 ⟨g, hg, ?_⟩
  cases e : W.heap[g]? with
  | none => simp [e] at hv
  | some o =>
    rw [e] at hv
    have := s g o e
    simp only [hp] at this
    rw [this]
    exact hv
/-! ### 16. The call's beginning and end -/
theorem St.start (W : World) : St (Sl.base W) W [] (hp W) := ⟨rfl, Sub.refl _, trivial⟩
theorem St.below {W W' : World} {l : List HProp} (h : St (Sl.base W) W' l (hp W)) : RowKit.Below W.heap.size W W' := by
  have hb := h.base
  simp only [Sl.base, Base.mk.injEq] at hb
  have hk : ∀ k, k < W.heap.size → W'.heap[k]? = W.heap[k]? := fun k hk => by
    have := h.sub k W.heap[k] (by simp [hp, hk])
    simp only [hp] at this
    rw [this]; simp [hk]
  refine ⟨hb.1, hb.2.1, hb.2.2, ?_, hk⟩
  rcases Nat.eq_zero_or_pos W.heap.size with h0 | h0
  · omega
  · have := hk (W.heap.size - 1) (by omega)
    rw [Array.getElem?_eq_getElem (show W.heap.size - 1 < W.heap.size by omega)] at this
    have := (Array.getElem?_eq_some_iff.1 this).1
    omega
end Go.Sl
