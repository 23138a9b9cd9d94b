/-
  The own separation logic for the walks, part 18.
-/
import Derived.Test.YtpheghebfodiiaaGreatDoorSl17
set_option linter.unusedVariables false
set_option linter.unusedSimpArgs false
namespace Go.Sl
/-! ### 30. Pointers to what is never written again -/
def pz (b : Nat) (h : Bool) : Option Addr := bif h then some ⟨b, 0, none⟩ else none
structure Pt (α : Type) where
  has : Bool
  val : α
deriving Inhabited, DecidableEq
section
variable {α : Type} {E : Fl α} {h k : Hp} {b : Nat} {T : TypeId} {x : α} {p : Pt α}
def PtC (E : Fl α) (h : Hp) (b : Nat) (T : TypeId) (x : α) : Prop := h b = some (.cells (E.enc x).toArray T (0, 0))
def PtR (E : Fl α) (h : Hp) (b : Nat) (T : TypeId) (p : Pt α) : Prop := p.has = true → PtC E h b T p.val
theorem PtC.mono (s : Sub h k) (c : PtC E h b T x) : PtC E k b T x := s _ _ c
theorem PtR.mono (s : Sub h k) (c : PtR E h b T p) : PtR E k b T p := fun e => (c e).mono s
theorem PtR.nil : PtR E h b T ⟨false, x⟩ := fun e => by cases e
theorem PtC.pt (c : PtC E h b T x) : PtR E h b T ⟨true, x⟩ := fun _ => c
theorem PtR.on (c : PtR E h b T p) (e : p.has = true) : PtC E h b T p.val := c e
theorem PtC.cells {w : World} (c : PtC E h b T x) (s : Sub h (hp w)) : CellsAt w ⟨b, 0, none⟩ (E.enc x) := fun j v e => by
  have := s _ _ c
  rw [add_mk, Nat.zero_add]
  simp [World.cell?, show w.heap[b]? = _ from this, e]
end
section
variable {α : Type} {E : Fl α} {P : Program} {N : Fr} {env : Env} {w : World} {dst : Option Tmp} {t : TypeId} {pos : String} {aft : Array Edge} {g : Option (Nat × Bool)} {B : Base} {l l' : List HProp} {hf : Hp}
theorem St.freeze {b : Nat} {cs : List Value} {T : TypeId} {x : α} (h : St B w (Cl b cs T :: l) hf) (e : E.enc x = cs) : ∃ hf', Sub hf hf' ∧ St B w l hf' ∧ PtC E hf' b T x := by
  subst e
  obtain ⟨h1, hA, d, hS⟩ := h.lend
  exact ⟨_, sub_un_left _ _, hS, sub_un_right d _ _ hA.1⟩
theorem Vl.nilCheckO {x : Operand} {b : Nat} {h : Bool} (e : h = true) (hx : ev env x = some (.pointer (pz b h))) : Vl P N ⟨dst, .nilCheck x, t, pos, aft, g⟩ env w (.pointer (some ⟨b, 0, none⟩)) := by
  subst e; exact Vl.nilCheck hx
theorem Vl.ptEql {xt yt : TypeId} {x y : Operand} {b : Nat} {h : Bool} (h1 : ∀ b w, ((eqGuard .eql xt x y (.pointer (some ⟨b, 0, none⟩)) (.pointer none)).bind fun _ => binOp .eql xt (.pointer (some ⟨b, 0, none⟩)) (.pointer none)).run P w = .ok (.bool false) w)
    (h0 : ∀ w, ((eqGuard .eql xt x y (.pointer none) (.pointer none)).bind fun _ => binOp .eql xt (.pointer none) (.pointer none)).run P w = .ok (.bool true) w)
    (hx : ev env x = some (.pointer (pz b h))) (hy : ev env y = some (.pointer none)) : Vl P N ⟨dst, .binOp .eql xt x y yt, t, pos, aft, g⟩ env w (.bool !h) := by
  cases h
  · exact Vl.bin hx hy (h0 w)
  · exact Vl.bin hx hy (h1 b w)
theorem Vl.ptNeq {xt yt : TypeId} {x y : Operand} {b : Nat} {h : Bool} (h1 : ∀ b w, ((eqGuard .neq xt x y (.pointer (some ⟨b, 0, none⟩)) (.pointer none)).bind fun _ => binOp .neq xt (.pointer (some ⟨b, 0, none⟩)) (.pointer none)).run P w = .ok (.bool true) w)
    (h0 : ∀ w, ((eqGuard .neq xt x y (.pointer none) (.pointer none)).bind fun _ => binOp .neq xt (.pointer none) (.pointer none)).run P w = .ok (.bool false) w)
    (hx : ev env x = some (.pointer (pz b h))) (hy : ev env y = some (.pointer none)) : Vl P N ⟨dst, .binOp .neq xt x y yt, t, pos, aft, g⟩ env w (.bool h) := by
  cases h
  · exact Vl.bin hx hy (h0 w)
  · exact Vl.bin hx hy (h1 b w)
/-! ### 31. Own rows of what is not flat: a part stored, made anew, cut -/
variable {R : Rep α}
theorem RepL.set (ok : R.Ok) {h : Hp} {c' : List Value} {x' : α} (hr : R.rd h c' x') : ∀ {xs : List α} {cs : List Value}, RepL R h cs xs → ∀ i, i < xs.length → RepL R h (cs.take (i * R.sz) ++ c' ++ cs.drop ((i + 1) * R.sz)) (xs.set i x')
  | x :: xs, _, ⟨c, r, e, h1, h2⟩, 0, _ => by
    subst e
    refine ⟨c', r, ?_, hr, h2⟩
    rw [Nat.zero_mul, List.take_zero, List.nil_append, Nat.zero_add, Nat.one_mul, ← ok.len h1, List.drop_left]
  | x :: xs, _, ⟨c, r, e, h1, h2⟩, i + 1, hi => by
    subst e
    refine ⟨c, _, ?_, h1, RepL.set ok hr h2 i (by simpa using hi)⟩
    have hc := ok.len h1
    rw [List.take_append, List.take_of_length_le (l := c) (by rw [hc, Nat.succ_mul]; omega), hc, show (i + 1) * R.sz - R.sz = i * R.sz by rw [Nat.succ_mul]; omega,
      List.drop_append, List.drop_of_length_le (l := c) (by rw [hc, Nat.succ_mul]; omega), hc, show (i + 1 + 1) * R.sz - R.sz = (i + 1) * R.sz by rw [Nat.succ_mul (i + 1)]; omega]
    simp [List.append_assoc]
theorem RepL.take (ok : R.Ok) {h : Hp} : ∀ {xs : List α} {cs : List Value}, RepL R h cs xs → ∀ k, RepL R h (cs.take (k * R.sz)) (xs.take k)
  | [], _, e, k => by rw [show _ = [] from e]; simp [RepL]
  | x :: xs, _, ⟨c, r, e, h1, h2⟩, 0 => by simp [RepL]
  | x :: xs, _, ⟨c, r, e, h1, h2⟩, k + 1 => by
    subst e
    have hc := ok.len h1
    refine ⟨c, r.take (k * R.sz), ?_, h1, RepL.take ok h2 k⟩
    rw [List.take_append, List.take_of_length_le (l := c) (by rw [hc, Nat.succ_mul]; omega), hc, show (k + 1) * R.sz - R.sz = k * R.sz by rw [Nat.succ_mul]; omega]
theorem RepL.drop (ok : R.Ok) {h : Hp} : ∀ {xs : List α} {cs : List Value}, RepL R h cs xs → ∀ k, RepL R h (cs.drop (k * R.sz)) (xs.drop k)
  | [], _, e, k => by rw [show _ = [] from e]; simp [RepL]
  | x :: xs, _, ⟨c, r, e, h1, h2⟩, 0 => by subst e; exact ⟨c, r, by simp, h1, h2⟩
  | x :: xs, _, ⟨c, r, e, h1, h2⟩, k + 1 => by
    subst e
    have hc := ok.len h1
    rw [List.drop_succ_cons, List.drop_append, List.drop_of_length_le (l := c) (by rw [hc, Nat.succ_mul]; omega), hc, show (k + 1) * R.sz - R.sz = k * R.sz by rw [Nat.succ_mul]; omega, List.nil_append]
    exact RepL.drop ok h2 k
/-- a part of an element stored -/
theorem OW.storeR [Inhabited α] (ok : R.Ok) {ty : TypeId} {x y : Operand} {e : TypeId} {off n c : Nat} {j : Int} {A : Option Addr} {v : Value} {xs : List α} {cs k vs : List Value} {x' : α} (i : Nat) (hS : St B w l hf) (hi : l[i]? = some (OSl e R.sz (.slice A n c) xs.length cs)) (fx : RepL R hf cs xs)
    (hx : ev env x = some (.pointer (some ((ad A).add (j.toNat * R.sz + off))))) (hy : ev env y = some v) (hv : v.cells.toList = vs) (hz : ∀ w, (sizeOf ty).run P w = .ok vs.length w)
    (h1' : vs.all Value.oneCell' = true) (h0 : 0 < vs.length) (hj0 : 0 ≤ j) (hj1 : j < (xs.length : Int)) (hle : off + vs.length ≤ R.sz) (hk : k.length = R.sz) (hkc : ∀ q v, k[q]? = some v → cs[j.toNat * R.sz + q]? = some v)
    (hr : R.rd hf (setR k off vs) x') (el : l.eraseIdx i = l') :
    OW P N ⟨dst, .store ty x y, t, pos, aft, g⟩ env w (fun v' w' => v' = undef ∧ ∃ cs', RepL R hf cs' (setL xs j x') ∧ St B w' (OSl e R.sz (.slice A n c) (setL xs j x').length cs' :: l') hf) := fun a ha next Q hn => by
  subst el
  obtain ⟨e1, _, _, hcl⟩ := hS.osN i hi
  subst e1
  have hjn : j.toNat < xs.length := by omega
  have hlen : j.toNat * R.sz + R.sz ≤ xs.length * R.sz := by rw [← Nat.succ_mul]; exact Nat.mul_le_mul_right _ hjn
  have hset := RepL.set ok hr fx j.toNat hjn
  have hchunk : (cs.drop (j.toNat * R.sz)).take R.sz = k := by
    apply List.ext_getElem?
    intro q
    rw [List.getElem?_take]
    by_cases hq : q < R.sz
    · rw [if_pos hq, List.getElem?_drop]
      obtain ⟨v, hv⟩ : ∃ v, k[q]? = some v := ⟨k[q], List.getElem?_eq_getElem (by omega)⟩
      rw [hv, hkc q v hv]
    · rw [if_neg hq, List.getElem?_eq_none (by omega)]
  have heq : setR cs (j.toNat * R.sz + off) vs = cs.take (j.toNat * R.sz) ++ setR k off vs ++ cs.drop ((j.toNat + 1) * R.sz) := by
    have hcs : cs = cs.take (j.toNat * R.sz) ++ (k ++ cs.drop ((j.toNat + 1) * R.sz)) := by
      rw [← hchunk, Nat.succ_mul, ← List.drop_drop, List.take_append_drop, List.take_append_drop]
    have ht : (cs.take (j.toNat * R.sz)).length = j.toNat * R.sz := by rw [List.length_take]; omega
    have h1 : setR cs (j.toNat * R.sz + off) vs = setR (cs.take (j.toNat * R.sz) ++ (k ++ cs.drop ((j.toNat + 1) * R.sz))) ((cs.take (j.toNat * R.sz)).length + off) vs := by rw [← hcs, ht]
    rw [h1, setR_right, setR_left (by omega), List.append_assoc]
  refine OW.storeLit (n := xs.length) (c := c) (cs := cs) i hS hi hx hy hv hz h1' (by omega) h0 rfl a ha next Q fun v' w' ⟨e1, e2⟩ => hn v' w' ⟨e1, cs.take (j.toNat * R.sz) ++ setR k off vs ++ cs.drop ((j.toNat + 1) * R.sz), hset, ?_⟩
  have hlt : i < l.length := (List.getElem?_eq_some_iff.1 hi).1
  rw [← heq, show (setL xs j x').length = xs.length from setL_len]
  exact e2.perm (perm_set l i _ hlt).symm
/-- make([]T, n) of what is not flat -/
theorem OW.makeR (ok : R.Ok) {ty e : TypeId} {i : TypeInfo} {z : Value} {x0 : α} {x y : Operand} {kl kc : IntKind} {c : Int} {bytes : Nat} (hS : St B w l hf) (hu : P.underlying ty = some (.slice e)) (hi : P.info? e = some i) (hz : i.zero = some z) (hs : i.size = R.sz) (hby : i.bytes = bytes)
    (hz0 : R.rd hf z.cells.toList x0) (hp : 0 < R.sz) (hx : ev env x = some (.int kl c)) (hy : ev env y = some (.int kc c)) (h0 : 0 ≤ c) (hbp : 0 < bytes) (hb : c * bytes ≤ 140737488355328) :
    OW P N ⟨dst, .makeSlice ty x y, t, pos, aft, g⟩ env w (fun v' w' => ∃ b cs, v' = .slice (some ⟨b, 0, none⟩) (List.replicate c.toNat x0).length c.toNat ∧ RepL R hf cs (List.replicate c.toNat x0) ∧ St B w' (OSl e R.sz v' (List.replicate c.toNat x0).length cs :: l) hf) := fun a ha next Q hn => by
  let E0 : Fl Unit := ⟨fun _ => z.cells.toList, R.sz, fun _ => ok.len hz0, fun _ => ok.one hz0⟩
  refine OW.makeN (E := E0) (x0 := ()) hS hu hi hz hs hby rfl hp hx hy h0 hbp hb a ha next Q fun v' w' ⟨b, e1, e2⟩ => ?_
  have hl : (List.replicate c.toNat ()).length = (List.replicate c.toNat x0).length := by simp
  refine hn v' w' ⟨b, _, by rw [e1, hl], ?_, by rw [← hl]; exact e2⟩
  have key : ∀ n, RepL R hf ((List.replicate n ()).flatMap E0.enc) (List.replicate n x0) := by
    intro n
    induction n with
    | zero => exact RepL.nil
    | succ n ih => exact RepL.cons hz0 ih
  exact key _
/-- x[:k:k] -/
theorem Vl.slice3 {ty e : TypeId} {x hi mx : Operand} {kh km : IntKind} {b : Int} {A : Option Addr} {n c sz sz' : Nat} {cs : List Value} {xs : List α} (i : Nat) (hS : St B w l hf) (hp : l[i]? = some (OSl e sz' (.slice A n c) xs.length cs)) (hu : P.underlying ty = some (.slice e)) (hz : ∀ w, (sizeOf e).run P w = .ok sz w)
    (hx : ev env x = some (.slice A n c)) (hhi : ev env hi = some (.int kh b)) (hmx : ev env mx = some (.int km b)) (h0 : 0 ≤ b) (h2 : b ≤ (xs.length : Int)) :
    Vl P N ⟨dst, .slice ty x none (some hi) (some mx), t, pos, aft, g⟩ env w (.slice (subA A c (0 : Int).toNat sz) (subL xs 0 b).length (b.toNat - (0 : Int).toNat)) := fun act ha => by
  obtain ⟨e1, e2, _⟩ := hS.osN i hp
  subst e1
  rw [subL_len (Int.le_refl 0) h0 h2]
  have hb : (b : Int) ≤ (c : Nat) := by omega
  have hA : (if b.toNat = 0 then A else A.map fun x => x.add 0) = subA A c (0 : Int).toNat sz := by
    unfold subA
    have h00 : ∀ a : Addr, a.add 0 = a := fun a => by cases a; rfl
    cases A <;> simp [h00]
  simp [execOp, ha.eval hx, ha.eval hhi, ha.eval hmx, Instr.sliceAt, Instr.slice, Instr.sliceBounds, run_underlying hu, run_bound (P := P) (w := w) (k := km) (i := b) (y := c) (code := .slice3Acap) (by omega) hb, run_bound (P := P) (w := w) (k := kh) (i := b) (y := b.toNat) (code := .slice3B) (by omega) (by omega), hz]
  simpa using hA
/-- the row is cut: what lies behind is nobody's any more -/
theorem St.cut {E : Fl α} (hS : St B w l hf) (i : Nat) {e : TypeId} {A : Option Addr} {n c : Nat} {xs : List α} (hi : l[i]? = some (OSf E e (.slice A n c) xs)) {b : Int} (h0 : 0 ≤ b) (h2 : b ≤ (xs.length : Int)) {l' : List HProp}
    (el : l.set i (OSf E e (.slice (subA A c (0 : Int).toNat E.sz) (subL xs 0 b).length (b.toNat - (0 : Int).toNat)) (subL xs 0 b)) = l') : St B w l' hf := by
  obtain ⟨e1, e2, _⟩ := hS.osN i hi
  exact hS.part i hi (lo := 0) (up := b) (m := b.toNat) (Int.le_refl 0) h0 h2 (Nat.le_refl _) (by omega) el
theorem St.cutR (ok : R.Ok) (hS : St B w l hf) (i : Nat) {e : TypeId} {A : Option Addr} {n c : Nat} {xs : List α} {cs : List Value} (hi : l[i]? = some (OSl e R.sz (.slice A n c) xs.length cs)) (fx : RepL R hf cs xs) {b : Int} (h0 : 0 ≤ b) (h2 : b ≤ (xs.length : Int)) :
    ∃ cs', RepL R hf cs' (subL xs 0 b) ∧ St B w (OSl e R.sz (.slice (subA A c (0 : Int).toNat R.sz) (subL xs 0 b).length (b.toNat - (0 : Int).toNat)) (subL xs 0 b).length cs' :: l.eraseIdx i) hf := by
  obtain ⟨e1, e2, _⟩ := hS.osN i hi
  subst e1
  refine ⟨cs.take (b.toNat * R.sz), ?_, ?_⟩
  · have := RepL.take ok fx b.toNat
    simpa [subL] using this
  · rw [subL_len (Int.le_refl 0) h0 h2]
    refine (hS.pull i hi rfl).imp fun k hk => ?_
    have := OSl.part (a := 0) (b := b.toNat) (m := b.toNat) hk (Nat.zero_le _) (by omega) (Nat.le_refl _) (by omega)
    simpa using this
theorem SlW.sub {E : Fl α} {A : Option Addr} {c : Nat} {xs : List α} (x : SlW E w A xs) {lo hi : Int} (h0 : 0 ≤ lo) (h1 : lo ≤ hi) (h2 : hi ≤ (xs.length : Int)) (hc : xs.length ≤ c) : SlW E w (subA A c lo.toNat E.sz) (subL xs lo hi) := fun k hk => by
  rw [subL_len h0 h1 h2] at hk
  have hk' : lo.toNat + k < xs.length := by omega
  obtain ⟨ha, hx⟩ := x (lo.toNat + k) hk'
  have hne : c ≠ lo.toNat := by omega
  have hA : subA A c lo.toNat E.sz = some ((ad A).add (lo.toNat * E.sz)) := by
    rw [subA, if_neg hne, ha]; rfl
  refine ⟨by rw [hA]; rfl, fun j v hv => ?_⟩
  rw [hA]
  have hg : (subL xs lo hi)[k]'(by rw [subL_len h0 h1 h2]; exact hk) = xs[lo.toNat + k] := by simp [subL]
  rw [hg] at hv
  have := hx j v hv
  rw [show ad (some ((ad A).add (lo.toNat * E.sz))) = (ad A).add (lo.toNat * E.sz) from rfl, add_add, show lo.toNat * E.sz + (k * E.sz + j) = (lo.toNat + k) * E.sz + j by rw [Nat.add_mul]; omega]
  exact this
/-- append(x[:k:k], x[m:]...) -/
theorem OW.appendCut {E : Fl α} {ty e : TypeId} {ti : TypeInfo} {z : Value} {bytes : Nat} {x y : Operand} {A : Option Addr} {n c cy : Nat} {k m : Int} {xs : List α} (i : Nat) (hS : St B w l hf) (hi : l[i]? = some (OSf E e (.slice A n c) xs))
    (hu : P.underlying ty = some (.slice e)) (hti : P.info? e = some ti) (hz : ti.zero = some z) (hsz : ti.size = E.sz) (hby : ti.bytes = bytes) (hzs : z.cells.size = E.sz) (h0 : 0 < E.sz) (hbp : 0 < bytes)
    (hex : ev env x = some (.slice (subA A c (0 : Int).toNat E.sz) (subL xs 0 k).length (k.toNat - (0 : Int).toNat))) (hey : ev env y = some (.slice (subA A c m.toNat E.sz) (subL xs m xs.length).length cy))
    (hk0 : 0 ≤ k) (hk1 : k ≤ (xs.length : Int)) (hm0 : 0 ≤ m) (hm1 : m ≤ (xs.length : Int)) (hb : ((subL xs 0 k).length + (subL xs m xs.length).length) * bytes ≤ 140737488355328) (el : l.eraseIdx i = l') :
    OW P N ⟨dst, .call ⟨.builtin .append, #[x, y], #[ty, ty]⟩, t, pos, aft, g⟩ env w (fun v' w' => St B w' (OSf E e v' (subL xs 0 k ++ subL xs m xs.length) :: l') hf) := by
  subst el
  have hW := (hS.slW i hi).2
  obtain ⟨e1, e2, _⟩ := hS.osN i hi
  have hcut := hS.cut i hi hk0 hk1 rfl
  have hi' : (l.set i (OSf E e (.slice (subA A c (0 : Int).toNat E.sz) (subL xs 0 k).length (k.toNat - (0 : Int).toNat)) (subL xs 0 k)))[i]? = some (OSf E e (.slice (subA A c (0 : Int).toNat E.sz) (subL xs 0 k).length (k.toNat - (0 : Int).toNat)) (subL xs 0 k)) := by
    rw [List.getElem?_set_self (List.getElem?_eq_some_iff.1 hi).1]
  have := OW.appendV (P := P) (N := N) (env := env) (dst := dst) (t := t) (pos := pos) (aft := aft) (g := g) i hcut hi' hu hti hz hsz hby hzs h0 hbp hex hey (hW.2.sub hm0 hm1 (Int.le_refl _) (by omega)) hb rfl
  rw [List.eraseIdx_set_eq] at this
  exact this
end
end Go.Sl
