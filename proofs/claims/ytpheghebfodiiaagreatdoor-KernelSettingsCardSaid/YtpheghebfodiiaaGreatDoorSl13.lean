/-
  The own separation logic for the walks, part 13.
-/
import Derived.Test.YtpheghebfodiiaaGreatDoorSl12
set_option linter.unusedVariables false
set_option linter.unusedSimpArgs false
namespace Go.Sl

/-! ### 20. Rows of which each cell is known; variables whose cells are told by a function -/
theorem OSl.cellW {e : TypeId} {sz : Nat} {A : Option Addr} {n c : Nat} {cs : List Value} {h1 : Hp} {w : World} (h : OSl e sz (.slice A n c) n cs h1) (s : Sub h1 (hp w)) {j : Nat} {v : Value} (hv : cs[j]? = some v) : w.cell? ((ad A).add j) = some v := by
  obtain ⟨hl, hA⟩ := h
  rcases hA with ⟨e1, e2, _⟩ | ⟨b, o, cap, cur, e1, hp', hc, _, hcs, htk⟩
  · subst e2
    rw [Nat.zero_mul] at hl
    rw [List.length_eq_zero_iff.1 hl] at hv
    simp at hv
  · cases e1
    have hcell := cur_get htk hv
    have hb : w.heap[b]? = some (.cells cur e (0, 0)) := s _ _ hp'.1
    simp only [ad, Option.getD_some]
    rw [add_mk]
    simp [World.cell?, hb, hcell]
section
variable {P : Program} {N : Fr} {env : Env} {w : World} {dst : Option Tmp} {t : TypeId} {pos : String} {aft : Array Edge} {g : Option (Nat × Bool)} {B : Base} {l : List HProp} {hf : Hp}
theorem St.litCell (h : St B w l hf) (i : Nat) {e : TypeId} {sz : Nat} {A : Option Addr} {n c : Nat} {cs : List Value} {j : Nat} {v : Value} (hi : l[i]? = some (OSl e sz (.slice A n c) n cs)) (hv : cs[j]? = some v) : w.cell? ((ad A).add j) = some v := by
  obtain ⟨h1, hA, hs, _⟩ := (h.pull i hi rfl).own
  exact hA.cellW hs hv
theorem St.litAdr (h : St B w l hf) (i : Nat) {e : TypeId} {sz : Nat} {A : Option Addr} {n c : Nat} {cs : List Value} (hi : l[i]? = some (OSl e sz (.slice A n c) n cs)) (hn : 0 < n) : A = some (ad A) := by
  obtain ⟨h1, ⟨hl, hA⟩, _⟩ := (h.pull i hi rfl).own
  rcases hA with ⟨e1, e2, _⟩ | ⟨b, o, cap, cur, e1, _⟩
  · omega
  · cases e1; rfl
/-- make([]T, 0, c) -/
theorem OW.make0L {ty e : TypeId} {i : TypeInfo} {z : Value} {x y : Operand} {kl kc : IntKind} {c sz : Nat} (hS : St B w l hf) (hu : P.underlying ty = some (.slice e)) (hi : P.info? e = some i) (hz : i.zero = some z) (hs : i.size = sz)
    (hx : ev env x = some (.int kl 0)) (hy : ev env y = some (.int kc (c : Nat))) (hb : i.bytes * c ≤ 281474976710656) (hm : c ≤ maxLen) :
    OW P N ⟨dst, .makeSlice ty x y, t, pos, aft, g⟩ env w (fun v' w' => ∃ b, v' = .slice (some ⟨b, 0, none⟩) 0 c ∧ St B w' (OSl e sz v' 0 [] :: l) hf) := fun a ha next Q hn => by
  obtain ⟨w', hr, ho, hg⟩ := run_make_own (P := P) w 0 ty e i z sz hu hi hz hs kl kc c hb hm (Nat.zero_le _)
  have hr' : (execOp a.eval ⟨dst, .makeSlice ty x y, t, pos, aft, g⟩).run P w = .ok (.value (.slice (some ⟨w.heap.size, 0, none⟩) 0 c)) w' := by
    simp only [execOp, ha.eval hx, ha.eval hy, Sem.run_bind, hr, Result.andThen_ok, Sem.run_pure]
  simp only [Oper.wp, hr', Oper.upon]
  refine hn _ _ ⟨_, rfl, ?_⟩
  exact (hS.nilSlR e sz).grown (v := .slice none 0 0) (n := 0) (xs := []) hg ho (.inr rfl)
/-- append of a row of known cells to another -/
theorem OW.appendL {ty e : TypeId} {ti : TypeInfo} {z : Value} {bytes sz : Nat} {x y : Operand} {A A' : Option Addr} {n m c c' k : Nat} {cs ds es : List Value} {l' : List HProp} (i j : Nat) (hS : St B w l hf)
    (hi : l[i]? = some (OSl e sz (.slice A n c) n cs)) (hj : l[j]? = some (OSl e sz (.slice A' m c') m ds))
    (hu : P.underlying ty = some (.slice e)) (hti : P.info? e = some ti) (hz : ti.zero = some z) (hsz : ti.size = sz) (hby : ti.bytes = bytes) (hzs : z.cells.size = sz) (h0 : 0 < sz) (hm : 0 < m)
    (hex : ev env x = some (.slice A n c)) (hey : ev env y = some (.slice A' m c')) (h1 : ds.all Value.oneCell' = true) (hb : (n + m) * bytes ≤ 140737488355328 ∧ n + m ≤ maxLen) (hk : n + m = k) (hes : cs ++ ds = es) (el : l.eraseIdx i = l') :
    OW P N ⟨dst, .call ⟨.builtin .append, #[x, y], #[ty, ty]⟩, t, pos, aft, g⟩ env w (fun v' w' => ∃ A c, v' = .slice A k c ∧ St B w' (OSl e sz v' k es :: l') hf) := fun a ha next Q hn => by
  subst el
  subst hk
  subst hes
  have hA := hS.litAdr j hj hm
  have hey' : ev env y = some (.slice (some (ad A')) m c') := by rw [← hA]; exact hey
  have hl : ds.length = m * sz := by obtain ⟨_, hA2, _⟩ := (hS.pull j hj rfl).own; exact hA2.1
  obtain ⟨v', w', hrun, hS'⟩ := St.appendOwn (P := P) (t := t) (hS.pull i hi rfl) hu hti hz hsz hby hzs h0 (ad A') m c' ds hl (fun j' u hj' => hS.litCell j hj hj') (List.all_eq_true.1 h1) hb.2 hb.1
  have hr : (execOp a.eval ⟨dst, .call ⟨.builtin .append, #[x, y], #[ty, ty]⟩, t, pos, aft, g⟩).run P w = .ok (.value v') w' := by
    simp only [execOp, resolve, Sem.run_bind, Sem.run_pure, Result.andThen_ok, List.map_toArray, List.map_cons, List.map_nil, ha.eval hex, ha.eval hey', Go.invoke, Go.builtin, hrun]
  simp only [Oper.wp, hr, Oper.upon]
  obtain ⟨A2, c2, e2, _⟩ := hS'.osShape 0 rfl
  exact hn _ _ ⟨A2, c2, e2, hS'⟩
/-- cells by a function -/
def fc {α : Type} (mk : α → Value) (n : Nat) (f : Nat → α) : List Value := (List.range n).map fun i => mk (f i)
def upd {α : Type} (f : Nat → α) (k : Nat) (v : α) : Nat → α := fun j => if j = k then v else f j
theorem fc_len {α : Type} {mk : α → Value} {n : Nat} {f : Nat → α} : (fc mk n f).length = n := by simp [fc]
theorem fc_get {α : Type} {mk : α → Value} {n : Nat} {f : Nat → α} {k : Nat} (h : k < n) : (fc mk n f)[k]? = some (mk (f k)) := by simp [fc, h]
theorem fc_set {α : Type} {mk : α → Value} {n : Nat} {f : Nat → α} {k : Nat} {v : α} (h : k < n) : setR (fc mk n f) k [mk v] = fc mk n (upd f k v) := by
  apply List.ext_getElem?
  intro j
  simp only [setR, List.length_singleton]
  have hl : ((fc mk n f).take k).length = k := by rw [List.length_take, fc_len]; omega
  rcases Nat.lt_trichotomy j k with h1 | h1 | h1
  · rw [List.append_assoc, List.getElem?_append_left (by omega), List.getElem?_take, if_pos h1, fc_get (by omega), fc_get (by omega), upd, if_neg (by omega)]
  · subst h1
    rw [List.append_assoc, List.getElem?_append_right (by omega), hl, Nat.sub_self, fc_get h, upd, if_pos rfl]
    rfl
  · rw [List.getElem?_append_right (by rw [List.length_append, hl, List.length_singleton]; omega), List.length_append, hl, List.length_singleton, List.getElem?_drop, show k + 1 + (j - (k + 1)) = j by omega]
    by_cases hj : j < n
    · rw [fc_get hj, fc_get hj, upd, if_neg (by omega)]
    · rw [List.getElem?_eq_none (by rw [fc_len]; omega), List.getElem?_eq_none (by rw [fc_len]; omega)]
theorem add_zero_mk (b k : Nat) : (⟨b, 0, none⟩ : Addr).add k = ⟨b, k, none⟩ := by rw [add_mk, Nat.zero_add]
theorem OW.storeF {α : Type} {mk : α → Value} {T ty : TypeId} {x y : Operand} {b off n : Nat} {u : α} {f : Nat → α} {l' : List HProp} (i : Nat) (hS : St B w l hf) (e : l[i]? = some (Cl b (fc mk n f) T))
    (hx : ev env x = some (.pointer (some ⟨b, off, none⟩))) (hy : ev env y = some (mk u)) (hz : ∀ w, (sizeOf ty).run P w = .ok 1 w) (hk : off < n) (hm : ∀ v, (mk v).cells.toList = [mk v]) (h1 : ∀ v, (mk v).oneCell' = true) (el : l.set i (Cl b (fc mk n (upd f off u)) T) = l') :
    OW P N ⟨dst, .store ty x y, t, pos, aft, g⟩ env w (fun v' w' => v' = undef ∧ St B w' l' hf) :=
  OW.store (cs := fc mk n f) (vs := [mk u]) i hS e hx hy (hm u) hz rfl (by simp [h1]) (by rw [fc_len]; exact Nat.ble_eq_true_of_le hk) (by rw [fc_set hk]; exact el)
theorem OW.storeAll {α : Type} {mk : α → Value} {T ty : TypeId} {x y : Operand} {b n : Nat} {f g' : Nat → α} {l' : List HProp} (i : Nat) (hS : St B w l hf) (e : l[i]? = some (Cl b (fc mk n f) T))
    (hx : ev env x = some (.pointer (some ⟨b, 0, none⟩))) (hy : ev env y = some (.agg (fc mk n g').toArray)) (hz : ∀ w, (sizeOf ty).run P w = .ok n w) (h1 : ∀ v, (mk v).oneCell' = true) (el : l.set i (Cl b (fc mk n g') T) = l') :
    OW P N ⟨dst, .store ty x y, t, pos, aft, g⟩ env w (fun v' w' => v' = undef ∧ St B w' l' hf) :=
  OW.store (cs := fc mk n f) (vs := fc mk n g') i hS e hx hy rfl hz fc_len (by simp [fc, h1]) (by rw [fc_len, Nat.zero_add]; exact Nat.ble_eq_true_of_le (Nat.le_refl _))
    (by rw [show setR (fc mk n f) 0 (fc mk n g') = fc mk n g' by simp [setR, fc_len]]; exact el)
end
end Go.Sl
