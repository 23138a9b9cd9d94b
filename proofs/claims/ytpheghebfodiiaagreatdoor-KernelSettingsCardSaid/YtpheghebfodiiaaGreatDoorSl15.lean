/-
  The own separation logic for the walks, part 15.
-/
import Derived.Test.YtpheghebfodiiaaGreatDoorSl14
set_option linter.unusedVariables false
set_option linter.unusedSimpArgs false
namespace Go.Sl

/-! ### 22. Own rows that change: elements stored, parts taken and moved -/
def setL {α : Type} (xs : List α) (i : Int) (x : α) : List α := xs.set i.toNat x
/-- copy(xs[a:], xs[b:]) -/
def movL {α : Type} (xs : List α) (a b m : Nat) : List α := xs.take a ++ (xs.drop b).take m ++ xs.drop (a + m)
theorem setL_len {α : Type} {xs : List α} {i : Int} {x : α} : (setL xs i x).length = xs.length := by simp [setL]
theorem movL_len {α : Type} {xs : List α} {a b m : Nat} (h1 : a + m ≤ xs.length) (h2 : b + m ≤ xs.length) : (movL xs a b m).length = xs.length := by
  simp only [movL, List.length_append, List.length_take, List.length_drop]; omega
theorem setR_left {a b vs : List Value} {off : Nat} (h : off + vs.length ≤ a.length) : setR (a ++ b) off vs = setR a off vs ++ b := by
  simp only [setR]
  rw [List.take_append_of_le_length (by omega), List.drop_append_of_le_length h, List.append_assoc, List.append_assoc, List.append_assoc]
theorem setR_right {a b vs : List Value} {off : Nat} : setR (a ++ b) (a.length + off) vs = a ++ setR b off vs := by
  simp only [setR]
  rw [List.take_append, List.take_of_length_le (by omega), Nat.add_sub_cancel_left, List.drop_append, List.drop_of_length_le (by omega), List.nil_append, show a.length + off + vs.length - a.length = off + vs.length by omega]
  simp [List.append_assoc]
theorem flat_set {α : Type} (E : Fl α) {x' : α} {off : Nat} {vs : List Value} (hle : off + vs.length ≤ E.sz) : ∀ (xs : List α) (k : Nat) (hk : k < xs.length), setR (E.enc xs[k]) off vs = E.enc x' → setR (xs.flatMap E.enc) (k * E.sz + off) vs = (xs.set k x').flatMap E.enc
  | x :: xs, 0, _, e => by
    simp only [List.flatMap_cons, List.set_cons_zero, Nat.zero_mul, Nat.zero_add]
    rw [setR_left (by rw [E.len]; exact hle)]
    congr 1
  | x :: xs, k + 1, hk, e => by
    have ih := flat_set E hle xs k (by simpa using hk) e
    simp only [List.flatMap_cons, List.set_cons_succ]
    rw [show (k + 1) * E.sz + off = (E.enc x).length + (k * E.sz + off) by rw [E.len, Nat.succ_mul]; omega, setR_right, ih]
theorem flat_take {α : Type} (E : Fl α) : ∀ (xs : List α) (k : Nat), (xs.take k).flatMap E.enc = (xs.flatMap E.enc).take (k * E.sz)
  | [], k => by simp
  | x :: xs, 0 => by simp
  | x :: xs, k + 1 => by
    simp only [List.take_succ_cons, List.flatMap_cons, flat_take E xs k]
    rw [List.take_append, List.take_of_length_le (l := E.enc x) (by rw [E.len, Nat.succ_mul]; omega), E.len, show (k + 1) * E.sz - E.sz = k * E.sz by rw [Nat.succ_mul]; omega]
theorem flat_drop {α : Type} (E : Fl α) : ∀ (xs : List α) (k : Nat), (xs.drop k).flatMap E.enc = (xs.flatMap E.enc).drop (k * E.sz)
  | [], k => by simp
  | x :: xs, 0 => by simp
  | x :: xs, k + 1 => by
    simp only [List.drop_succ_cons, List.flatMap_cons, flat_drop E xs k]
    rw [List.drop_append, List.drop_of_length_le (l := E.enc x) (by rw [E.len, Nat.succ_mul]; omega), E.len, show (k + 1) * E.sz - E.sz = k * E.sz by rw [Nat.succ_mul]; omega, List.nil_append]
theorem flat_mov {α : Type} (E : Fl α) (xs : List α) (a b m : Nat) (h1 : b + m ≤ xs.length) : (movL xs a b m).flatMap E.enc = setR (xs.flatMap E.enc) (a * E.sz) (((xs.drop b).take m).flatMap E.enc) := by
  simp only [movL, setR, List.flatMap_append, flat_take, flat_drop]
  rw [List.length_take, List.length_drop, flat_len, Nat.add_mul]
  have : b * E.sz + m * E.sz ≤ xs.length * E.sz := by rw [← Nat.add_mul]; exact Nat.mul_le_mul_right _ h1
  rw [Nat.min_eq_left (by omega)]
theorem nth_setL {α : Type} [Inhabited α] {xs : List α} {i j : Int} {x : α} (h0 : 0 ≤ i) (h1 : i < xs.length) (h2 : 0 ≤ j) : nth (setL xs i x) j = if j = i then x else nth xs j := by
  unfold nth setL
  by_cases h : j = i
  · subst h; rw [if_pos rfl, List.getD_eq_getElem?_getD, List.getElem?_set_self (by omega)]; rfl
  · rw [if_neg h, List.getD_eq_getElem?_getD, List.getElem?_set_ne (by omega), ← List.getD_eq_getElem?_getD]
section
variable {α : Type} {P : Program} {N : Fr} {env : Env} {w : World} {dst : Option Tmp} {t : TypeId} {pos : String} {aft : Array Edge} {g : Option (Nat × Bool)} {B : Base} {l : List HProp} {hf : Hp}
theorem St.osN (h : St B w l hf) (i : Nat) {e : TypeId} {sz : Nat} {A : Option Addr} {n c m : Nat} {cs : List Value} (hi : l[i]? = some (OSl e sz (.slice A n c) m cs)) : n = m ∧ n ≤ c ∧ (0 < n → A = some (ad A)) ∧ cs.length = m * sz := by
  obtain ⟨h1, ⟨hl, hA⟩, _⟩ := (h.pull i hi rfl).own
  rcases hA with ⟨e1, e2, _⟩ | ⟨gb, o, cap, cur, e1, _, hc, _⟩
  · cases e1; subst e2; exact ⟨rfl, Nat.le_refl _, fun h => absurd h (Nat.lt_irrefl 0), hl⟩
  · cases e1; exact ⟨rfl, hc, fun _ => rfl, hl⟩
/-- the length of an own row -/
theorem Vl.lenOwn {x : Operand} {ty e e' : TypeId} {sz m : Nat} {A : Option Addr} {n c : Nat} {cs : List Value} (i : Nat) (hS : St B w l hf) (hi : l[i]? = some (OSl e' sz (.slice A n c) m cs)) (hu : P.underlying ty = some (.slice e)) (hx : ev env x = some (.slice A n c)) :
    Vl P N ⟨dst, .call ⟨.builtin .len, #[x], #[ty]⟩, t, pos, aft, g⟩ env w (.int .i64 (m : Int)) := by
  have := (hS.osN i hi).1
  subst this
  exact Vl.lenSl hu hx
/-- the address of an own row's element -/
theorem Vl.indexOwn {ty e e' : TypeId} {x ix : Operand} {k : IntKind} {j : Int} {n m c sz sz' : Nat} {A : Option Addr} {cs : List Value} (i : Nat) (hS : St B w l hf) (hi : l[i]? = some (OSl e' sz' (.slice A n c) m cs)) (hu : P.underlying ty = some (.slice e)) (hz : ∀ w, (sizeOf e).run P w = .ok sz w)
    (hx : ev env x = some (.slice A n c)) (hj : ev env ix = some (.int k j)) (h0 : 0 ≤ j) (h1 : j < (m : Int)) :
    Vl P N ⟨dst, .indexAddr ty x ix, t, pos, aft, g⟩ env w (.pointer (some ((ad A).add (j.toNat * sz)))) := by
  obtain ⟨e1, _, h2, _⟩ := hS.osN i hi
  subst e1
  exact Vl.indexAddr hu hz hx hj (h2 (by omega)) h0 h1 rfl
theorem St.own1 {E : Fl α} [Inhabited α] (hS : St B w l hf) (i : Nat) {e : TypeId} {A : Option Addr} {n c : Nat} {xs : List α} (hi : l[i]? = some (OSf E e (.slice A n c) xs)) {j : Int} (h0 : 0 ≤ j) (h1 : j < (xs.length : Int)) {q : Nat} {v : Value} (hv : (E.enc (nth xs j))[q]? = some v) :
    w.cell? ((ad A).add (j.toNat * E.sz + q)) = some v := (hS.slW i hi).2.2.cell h0 h1 hv
/-- an element's part stored -/
theorem OW.storeOwn {E : Fl α} [Inhabited α] {ty : TypeId} {x y : Operand} {e : TypeId} {off n c : Nat} {j : Int} {A : Option Addr} {v : Value} {xs : List α} {x' : α} {vs : List Value} {l' : List HProp} (i : Nat) (hS : St B w l hf) (hi : l[i]? = some (OSf E e (.slice A n c) xs))
    (hx : ev env x = some (.pointer (some ((ad A).add (j.toNat * E.sz + off))))) (hy : ev env y = some v) (hv : v.cells.toList = vs) (hz : ∀ w, (sizeOf ty).run P w = .ok vs.length w)
    (h1' : vs.all Value.oneCell' = true) (h0 : 0 < vs.length) (hj0 : 0 ≤ j) (hj1 : j < (xs.length : Int)) (hle : off + vs.length ≤ E.sz) (hset : setR (E.enc (nth xs j)) off vs = E.enc x') (el : l.set i (OSf E e (.slice A n c) (setL xs j x')) = l') :
    OW P N ⟨dst, .store ty x y, t, pos, aft, g⟩ env w (fun v' w' => v' = undef ∧ St B w' l' hf) := by
  obtain ⟨e1, _⟩ := hS.osN i hi
  subst e1
  obtain ⟨hk, hn⟩ := nth_eq hj0 hj1
  rw [hn] at hset
  have hlen : j.toNat * E.sz + E.sz ≤ xs.length * E.sz := by rw [← Nat.succ_mul]; exact Nat.mul_le_mul_right _ hk
  refine OW.storeLit (n := xs.length) (c := c) (cs := xs.flatMap E.enc) i hS hi hx hy hv hz h1' (by rw [flat_len]; omega) h0 ?_
  rw [flat_set E hle xs j.toNat hk hset]
  rw [← el]
  unfold OSf
  rw [setL_len]
  rfl
/-- parts of an own row -/
theorem Vl.sliceLO {ty e : TypeId} {x lo : Operand} {kl : IntKind} {a : Int} {A : Option Addr} {n c sz sz' : Nat} {cs : List Value} {xs : List α} (i : Nat) (hS : St B w l hf) (hi : l[i]? = some (OSl e sz' (.slice A n c) xs.length cs)) (hu : P.underlying ty = some (.slice e)) (hz : ∀ w, (sizeOf e).run P w = .ok sz w)
    (hx : ev env x = some (.slice A n c)) (hlo : ev env lo = some (.int kl a)) (h0 : 0 ≤ a) (h1 : a ≤ (xs.length : Int)) :
    Vl P N ⟨dst, .slice ty x (some lo) none none, t, pos, aft, g⟩ env w (.slice (subA A c a.toNat sz) (subL xs a xs.length).length (c - a.toNat)) := fun act ha => by
  obtain ⟨e1, e2, _⟩ := hS.osN i hi
  subst e1
  rw [subL_len h0 h1 (Int.le_refl _), Int.toNat_natCast]
  simp [execOp, ha.eval hx, ha.eval hlo, Instr.sliceAt, Instr.slice, Instr.sliceBounds, run_underlying hu, run_bound (P := P) (w := w) (k := kl) (i := a) (y := xs.length) (code := .sliceB) h0 (by omega), hz, subA]
theorem Vl.sliceLHO {ty e : TypeId} {x lo hi : Operand} {kl kh : IntKind} {a b : Int} {A : Option Addr} {n c sz sz' : Nat} {cs : List Value} {xs : List α} (i : Nat) (hS : St B w l hf) (hp : l[i]? = some (OSl e sz' (.slice A n c) xs.length cs)) (hu : P.underlying ty = some (.slice e)) (hz : ∀ w, (sizeOf e).run P w = .ok sz w)
    (hx : ev env x = some (.slice A n c)) (hlo : ev env lo = some (.int kl a)) (hhi : ev env hi = some (.int kh b)) (h0 : 0 ≤ a) (h1 : a ≤ b) (h2 : b ≤ (xs.length : Int)) :
    Vl P N ⟨dst, .slice ty x (some lo) (some hi) none, t, pos, aft, g⟩ env w (.slice (subA A c a.toNat sz) (subL xs a b).length (c - a.toNat)) := fun act ha => by
  obtain ⟨e1, e2, _⟩ := hS.osN i hp
  subst e1
  rw [subL_len h0 h1 h2]
  have hb : (b : Int) ≤ (c : Nat) := by omega
  have hab : a ≤ (b.toNat : Nat) := by omega
  simp [execOp, ha.eval hx, ha.eval hlo, ha.eval hhi, Instr.sliceAt, Instr.slice, Instr.sliceBounds, run_underlying hu, run_bound (P := P) (w := w) (k := kh) (i := b) (y := c) (code := .sliceAcap) (by omega) hb, run_bound (P := P) (w := w) (k := kl) (i := a) (y := b.toNat) (code := .sliceB) h0 hab, hz, subA]
theorem Vl.sliceHO {ty e : TypeId} {x hi : Operand} {kh : IntKind} {b : Int} {A : Option Addr} {n c sz sz' : Nat} {cs : List Value} {xs : List α} (i : Nat) (hS : St B w l hf) (hp : l[i]? = some (OSl e sz' (.slice A n c) xs.length cs)) (hu : P.underlying ty = some (.slice e)) (hz : ∀ w, (sizeOf e).run P w = .ok sz w)
    (hx : ev env x = some (.slice A n c)) (hhi : ev env hi = some (.int kh b)) (h0 : 0 ≤ b) (h2 : b ≤ (xs.length : Int)) :
    Vl P N ⟨dst, .slice ty x none (some hi) none, t, pos, aft, g⟩ env w (.slice (subA A c (0 : Int).toNat sz) (subL xs 0 b).length (c - (0 : Int).toNat)) := fun act ha => by
  obtain ⟨e1, e2, _⟩ := hS.osN i hp
  subst e1
  rw [subL_len (Int.le_refl 0) h0 h2]
  have hb : (b : Int) ≤ (c : Nat) := by omega
  simp [execOp, ha.eval hx, ha.eval hhi, Instr.sliceAt, Instr.slice, Instr.sliceBounds, run_underlying hu, run_bound (P := P) (w := w) (k := kh) (i := b) (y := c) (code := .sliceAcap) (by omega) hb, hz, subA]
/-- a part stands for the whole from now on -/
theorem OSl.part {e : TypeId} {sz : Nat} {A : Option Addr} {n c : Nat} {cs : List Value} {h1 : Hp} (h : OSl e sz (.slice A n c) n cs h1) {a b m : Nat} (h0 : a ≤ b) (hb : b ≤ n) (hm : b ≤ m) (hmc : m ≤ c) :
    OSl e sz (.slice (subA A c a sz) (b - a) (m - a)) (b - a) ((cs.drop (a * sz)).take ((b - a) * sz)) h1 := by
  obtain ⟨hl, hA⟩ := h
  have hbn : b * sz ≤ n * sz := Nat.mul_le_mul_right _ hb
  have hab : a * sz ≤ b * sz := Nat.mul_le_mul_right _ h0
  refine ⟨by rw [List.length_take, List.length_drop, hl, Nat.sub_mul]; omega, ?_⟩
  rcases hA with ⟨e1, e2, e3⟩ | ⟨gb, o, cap, cur, e1, hp', hc, hmax, hcs, htk⟩
  · cases e1
    obtain rfl : b = 0 := by omega
    obtain rfl : a = 0 := by omega
    obtain rfl : m = 0 := by omega
    exact .inl ⟨by simp [subA], rfl, e3⟩
  · cases e1
    by_cases hac : c = a
    · obtain rfl : b = a := by omega
      obtain rfl : m = b := by omega
      refine .inr ⟨gb, o, 0, cur, by rw [subA, if_pos hac, Nat.sub_self], hp', by omega, Nat.zero_le _, by omega, by simp⟩
    · refine .inr ⟨gb, o + a * sz, m - a, cur, by rw [subA, if_neg hac]; simp [Addr.add_lit], hp', by omega, by omega, ?_, ?_⟩
      · have : m * sz ≤ c * sz := Nat.mul_le_mul_right _ hmc
        have : a * sz ≤ m * sz := Nat.mul_le_mul_right _ (by omega)
        rw [Nat.sub_mul]; omega
      · rw [← htk, ← List.drop_drop, List.drop_take, List.take_take, Nat.sub_mul, Nat.min_eq_left (by omega)]
theorem OSf.part {E : Fl α} {e : TypeId} {A : Option Addr} {n c : Nat} {xs : List α} {h1 : Hp} (h : OSf E e (.slice A n c) xs h1) {lo hi : Int} {m : Nat} (h0 : 0 ≤ lo) (h1' : lo ≤ hi) (h2 : hi ≤ (xs.length : Int)) (hm : hi.toNat ≤ m) (hmc : m ≤ c) :
    OSf E e (.slice (subA A c lo.toNat E.sz) (hi.toNat - lo.toNat) (m - lo.toNat)) (subL xs lo hi) h1 := by
  have hn : n = xs.length := by
    obtain ⟨_, hA⟩ := h
    rcases hA with ⟨e1, e2, _⟩ | ⟨gb, o, cap, cur, e1, _⟩
    · cases e1; exact e2.symm
    · cases e1; rfl
  subst hn
  have := OSl.part (a := lo.toNat) (b := hi.toNat) (m := m) h (by omega) (by omega) hm hmc
  unfold OSf
  rw [subL_len h0 h1' h2]
  unfold subL
  rw [flat_take, flat_drop]
  exact this
theorem St.part {E : Fl α} (hS : St B w l hf) (i : Nat) {e : TypeId} {A : Option Addr} {n c : Nat} {xs : List α} (hi : l[i]? = some (OSf E e (.slice A n c) xs)) {lo up : Int} {m : Nat} (h0 : 0 ≤ lo) (h1 : lo ≤ up) (h2 : up ≤ (xs.length : Int)) (hm : up.toNat ≤ m) (hmc : m ≤ c) {l' : List HProp}
    (el : l.set i (OSf E e (.slice (subA A c lo.toNat E.sz) (subL xs lo up).length (m - lo.toNat)) (subL xs lo up)) = l') : St B w l' hf := by
  subst el
  rw [subL_len h0 h1 h2]
  exact ((hS.pull i hi rfl).imp fun k hk => hk.part h0 h1 h2 hm hmc).perm (perm_set l i _ (List.getElem?_eq_some_iff.1 hi).1)
theorem St.part1 {E : Fl α} (hS : St B w l hf) (i : Nat) {e : TypeId} {A : Option Addr} {n c : Nat} {xs : List α} (hi : l[i]? = some (OSf E e (.slice A n c) xs)) {lo : Int} (h0 : 0 ≤ lo) (h2 : lo ≤ (xs.length : Int)) {l' : List HProp}
    (el : l.set i (OSf E e (.slice (subA A c lo.toNat E.sz) (subL xs lo xs.length).length (c - lo.toNat)) (subL xs lo xs.length)) = l') : St B w l' hf := by
  obtain ⟨e1, e2, _⟩ := hS.osN i hi
  exact hS.part i hi (lo := lo) (up := xs.length) (m := c) h0 h2 (Int.le_refl _) (by omega) (Nat.le_refl _) el
/-- copy(x[a:], x[b:]) -/
theorem OW.copyOwn {E : Fl α} {ty e : TypeId} {ti : TypeInfo} {x y : Operand} {A : Option Addr} {n c cx cy : Nat} {a b : Int} {xs : List α} {l' : List HProp} (i : Nat) (hS : St B w l hf) (hi : l[i]? = some (OSf E e (.slice A n c) xs))
    (hu : P.underlying ty = some (.slice e)) (hti : P.info? e = some ti) (hsz : ti.size = E.sz) (h0 : 0 < E.sz)
    (hx : ev env x = some (.slice (subA A c a.toNat E.sz) (subL xs a xs.length).length cx)) (hy : ev env y = some (.slice (subA A c b.toNat E.sz) (subL xs b xs.length).length cy))
    (ha0 : 0 ≤ a) (ha1 : a ≤ (xs.length : Int)) (hb0 : 0 ≤ b) (hb1 : b ≤ (xs.length : Int)) (el : l.set i (OSf E e (.slice A n c) (movL xs a.toNat b.toNat (min (xs.length - b.toNat) (xs.length - a.toNat)))) = l') :
    OW P N ⟨dst, .call ⟨.builtin .copy, #[x, y], #[ty, ty]⟩, t, pos, aft, g⟩ env w (fun v' w' => v' = .int .i64 (min (xs.length - b.toNat) (xs.length - a.toNat) : Nat) ∧ St B w' l' hf) := fun act hact next Q hn => by
  rw [subL_len ha0 ha1 (Int.le_refl _), Int.toNat_natCast] at hx
  rw [subL_len hb0 hb1 (Int.le_refl _), Int.toNat_natCast] at hy
  subst el
  generalize hm : min (xs.length - b.toNat) (xs.length - a.toNat) = m at hn
  have hlen : i < l.length := (List.getElem?_eq_some_iff.1 hi).1
  have hP := hS.pull i hi rfl
  obtain ⟨e1, e2, _⟩ := hS.osN i hi
  subst e1
  by_cases hm0 : m = 0
  · subst hm0
    have hl0 : ∀ (x : Addr), (loadCells x 0).run P w = .ok #[] w := fun x => by simpa using run_loadCells_list (P := P) w x [] (by simp)
    have hmin : Nat.min (xs.length - b.toNat) (xs.length - a.toNat) = 0 := hm
    have hrun : (Builtin.copy_ #[ty, ty] t #[.slice (subA A c a.toNat E.sz) (xs.length - a.toNat) cx, .slice (subA A c b.toNat E.sz) (xs.length - b.toNat) cy]).run P w = .ok (goInt 0) w := by
      cases subA A c a.toNat E.sz <;> cases subA A c b.toNat E.sz <;> simp [Builtin.copy_, run_underlying hu, Builtin.lenOf, Builtin.firstCells, sizeOf, typeInfo, hti, hmin, storeCells, hl0]
    have hr : (execOp act.eval ⟨dst, .call ⟨.builtin .copy, #[x, y], #[ty, ty]⟩, t, pos, aft, g⟩).run P w = .ok (.value (.int .i64 0)) w := by
      simp only [execOp, resolve, Sem.run_bind, Sem.run_pure, Result.andThen_ok, List.map_toArray, List.map_cons, List.map_nil, hact.eval hx, hact.eval hy, Go.invoke, Go.builtin, hrun, goInt]
      try rfl
    simp only [Oper.wp, hr, Oper.upon]
    refine hn _ _ ⟨rfl, ?_⟩
    rw [show movL xs a.toNat b.toNat 0 = xs by simp [movL]]
    exact hP.perm (perm_set l i _ hlen)
  · obtain ⟨h1p, ⟨hl, hA⟩, hs, hd, hr0⟩ := hP.own
    rcases hA with ⟨e3, e4, _⟩ | ⟨gb, o, cap, cur, e3, hp', hcap, hmax, hcs, htk⟩
    · omega
    cases e3
    have hh : w.heap[gb]? = some (.cells cur e (0, 0)) := hs _ _ hp'.1
    have ham : a.toNat + m ≤ xs.length := by omega
    have hbm : b.toNat + m ≤ xs.length := by omega
    have hsa : subA (some (⟨gb, o, none⟩ : Addr)) c a.toNat E.sz = some ⟨gb, o + a.toNat * E.sz, none⟩ := by rw [subA, if_neg (by omega)]; simp [Addr.add_lit]
    have hsb : subA (some (⟨gb, o, none⟩ : Addr)) c b.toNat E.sz = some ⟨gb, o + b.toNat * E.sz, none⟩ := by rw [subA, if_neg (by omega)]; simp [Addr.add_lit]
    rw [hsa] at hx
    rw [hsb] at hy
    have hcl : (((xs.drop b.toNat).take m).flatMap E.enc).length = m * E.sz := by rw [flat_len, List.length_take, List.length_drop]; congr 1; omega
    have hbl : b.toNat * E.sz + m * E.sz ≤ xs.length * E.sz := by rw [← Nat.add_mul]; exact Nat.mul_le_mul_right _ hbm
    have hal : a.toNat * E.sz + m * E.sz ≤ xs.length * E.sz := by rw [← Nat.add_mul]; exact Nat.mul_le_mul_right _ ham
    have hcc : xs.length * E.sz ≤ c * E.sz := Nat.mul_le_mul_right _ hcap
    have hfl : (xs.flatMap E.enc).length = xs.length * E.sz := flat_len E xs
    have hld : ∀ j u, (((xs.drop b.toNat).take m).flatMap E.enc)[j]? = some u → w.cell? ((⟨gb, o + b.toNat * E.sz, none⟩ : Addr).add j) = some u := fun j u hj => by
      rw [flat_take, flat_drop] at hj
      have hj' : j < m * E.sz := by
        rw [List.getElem?_take] at hj
        split at hj
        · assumption
        · cases hj
      rw [List.getElem?_take, if_pos hj', List.getElem?_drop] at hj
      have := cur_get htk hj
      rw [add_mk]
      simp [World.cell?, hh, Nat.add_assoc, this]
    have hl' := run_loadCells_list (P := P) w ⟨gb, o + b.toNat * E.sz, none⟩ _ hld
    rw [hcl] at hl'
    have h1 : ∀ u ∈ ((xs.drop b.toNat).take m).flatMap E.enc, u.oneCell' = true := flat_one E _
    have hst := run_storeCells_at P gb (o + a.toNat * E.sz) e (((xs.drop b.toNat).take m).flatMap E.enc) 0 cur w hh (by omega) h1
    simp only [Nat.add_zero] at hst
    have hmin : Nat.min (xs.length - b.toNat) (xs.length - a.toNat) = m := hm
    have hrun : (Builtin.copy_ #[ty, ty] t #[.slice (some ⟨gb, o + a.toNat * E.sz, none⟩) (xs.length - a.toNat) cx, .slice (some ⟨gb, o + b.toNat * E.sz, none⟩) (xs.length - b.toNat) cy]).run P w =
        .ok (goInt m) (w.setRow gb (cur.toList.take (o + a.toNat * E.sz) ++ ((xs.drop b.toNat).take m).flatMap E.enc ++ cur.toList.drop (o + a.toNat * E.sz + (((xs.drop b.toNat).take m).flatMap E.enc).length)).toArray) := by
      simp [Builtin.copy_, run_underlying hu, Builtin.lenOf, Builtin.firstCells, sizeOf, typeInfo, hti, hsz, hmin, hl', hst]
    have hr : (execOp act.eval ⟨dst, .call ⟨.builtin .copy, #[x, y], #[ty, ty]⟩, t, pos, aft, g⟩).run P w = .ok (.value (.int .i64 m))
        (w.setRow gb (cur.toList.take (o + a.toNat * E.sz) ++ ((xs.drop b.toNat).take m).flatMap E.enc ++ cur.toList.drop (o + a.toNat * E.sz + (((xs.drop b.toNat).take m).flatMap E.enc).length)).toArray) := by
      simp only [execOp, resolve, Sem.run_bind, Sem.run_pure, Result.andThen_ok, List.map_toArray, List.map_cons, List.map_nil, hact.eval hx, hact.eval hy, Go.invoke, Go.builtin, hrun, goInt]
    simp only [Oper.wp, hr, Oper.upon]
    refine hn _ _ ⟨rfl, ?_⟩
    have hPt : St B w (pts gb (.cells cur e (0, 0)) :: l.eraseIdx i) hf := ⟨hP.base, hP.sub, h1p, hp', hs, hd, hr0⟩
    have h2 := hPt.put (w' := w.setRow gb (cur.toList.take (o + a.toNat * E.sz) ++ ((xs.drop b.toNat).take m).flatMap E.enc ++ cur.toList.drop (o + a.toNat * E.sz + (((xs.drop b.toNat).take m).flatMap E.enc).length)).toArray)
      (o' := .cells (cur.toList.take (o + a.toNat * E.sz) ++ ((xs.drop b.toNat).take m).flatMap E.enc ++ cur.toList.drop (o + a.toNat * E.sz + (((xs.drop b.toNat).take m).flatMap E.enc).length)).toArray e (0, 0)) rfl
      (fun b' hb' => setRow_other w gb b' _ hb') (heap_setRow w gb cur _ e (0, 0) hh)
    refine (h2.imp fun k hk => ?_).perm (perm_set l i _ hlen)
    unfold OSf
    rw [flat_mov E xs a.toNat b.toNat m hbm, movL_len ham hbm]
    refine ⟨?_, .inr ⟨gb, o, c, _, rfl, hk, hcap, hmax, ?_, ?_⟩⟩
    · simp only [setR, List.length_append, List.length_take, List.length_drop]; omega
    · simp only [List.size_toArray, List.length_append, List.length_take, List.length_drop, Array.length_toList]; omega
    · simp only [List.toList_toArray, setR]
      generalize ((xs.drop b.toNat).take m).flatMap E.enc = vs at *
      rw [← htk]
      apply List.ext_getElem?
      intro j
      have hcl2 : ((cur.toList.drop o).take (xs.length * E.sz)).length = xs.length * E.sz := by rw [htk]; exact hfl
      simp only [List.getElem?_take, List.getElem?_append, List.length_append, List.length_take, List.getElem?_drop, List.length_drop, Array.length_toList]
      repeat' split
      all_goals first | rfl | (exfalso; omega) | (congr 1; omega) | skip
/-- make([]T, n) -/
theorem madeCells_flat (E : Fl α) (z : Array Value) (x : α) (hx : E.enc x = z.toList) (h0 : 0 < E.sz) (n : Nat) : (madeCells z (n * E.sz)).toList = (List.replicate n x).flatMap E.enc := by
  have hz : z.size = E.sz := by rw [← Array.length_toList, ← hx, E.len]
  have key : ∀ (n j : Nat), j < n * E.sz → ((List.replicate n x).flatMap E.enc)[j]? = (E.enc x)[j % E.sz]? := by
    intro n
    induction n with
    | zero => intro j h; omega
    | succ n ih =>
      intro j h
      simp only [List.replicate_succ, List.flatMap_cons]
      by_cases hj : j < E.sz
      · rw [List.getElem?_append_left (by rw [E.len]; exact hj), Nat.mod_eq_of_lt hj]
      · rw [List.getElem?_append_right (by rw [E.len]; omega), E.len, ih _ (by rw [Nat.succ_mul] at h; omega), Nat.mod_eq_sub_mod (a := j) (by omega)]
  apply List.ext_getElem?
  intro j
  by_cases hj : j < n * E.sz
  · rw [key n j hj, hx]
    have hm : j % E.sz < z.size := by rw [hz]; exact Nat.mod_lt _ h0
    simp [madeCells, hj, hz]
    rw [getElem!_pos z (j % E.sz) hm, Array.getElem?_eq_getElem hm]
  · rw [List.getElem?_eq_none (by simp [madeCells]; omega), List.getElem?_eq_none (by rw [flat_len, List.length_replicate]; omega)]
theorem OW.makeN {E : Fl α} {ty e : TypeId} {i : TypeInfo} {z : Value} {x0 : α} {x y : Operand} {kl kc : IntKind} {c : Int} {bytes : Nat} (hS : St B w l hf) (hu : P.underlying ty = some (.slice e)) (hi : P.info? e = some i) (hz : i.zero = some z) (hs : i.size = E.sz) (hby : i.bytes = bytes)
    (hz0 : E.enc x0 = z.cells.toList) (hp : 0 < E.sz) (hx : ev env x = some (.int kl c)) (hy : ev env y = some (.int kc c)) (h0 : 0 ≤ c) (hbp : 0 < bytes) (hb : c * bytes ≤ 140737488355328) :
    OW P N ⟨dst, .makeSlice ty x y, t, pos, aft, g⟩ env w (fun v' w' => ∃ b, v' = .slice (some ⟨b, 0, none⟩) (List.replicate c.toNat x0).length c.toNat ∧ St B w' (OSf E e v' (List.replicate c.toNat x0) :: l) hf) := fun a ha next Q hn => by
  obtain ⟨m, rfl⟩ := Int.eq_ofNat_of_zero_le h0
  subst hby
  have hb' : i.bytes * m ≤ 140737488355328 := by
    rw [Nat.mul_comm]
    exact Int.ofNat_le.1 (by simpa using hb)
  have hm : m ≤ i.bytes * m := Nat.le_mul_of_pos_left _ hbp
  obtain ⟨w', hr, ho, hg⟩ := run_make_full (P := P) (w := w) 0 ty e i z E.sz hu hi hz hs kl kc m (by omega) (by unfold maxLen; omega) (Nat.zero_le _)
  have hr' : (execOp a.eval ⟨dst, .makeSlice ty x y, t, pos, aft, g⟩).run P w = .ok (.value (.slice (some ⟨w.heap.size, 0, none⟩) m m)) w' := by
    simp only [execOp, ha.eval hx, ha.eval hy, Sem.run_bind, hr, Result.andThen_ok, Sem.run_pure]
  simp only [Oper.wp, hr', Oper.upon]
  refine hn _ _ ⟨w.heap.size, by rw [List.length_replicate]; rfl, ?_⟩
  have := (hS.nilSlR e E.sz).grown (v := .slice none 0 0) (n := 0) (xs := []) hg ho (.inr rfl)
  unfold OSf
  rw [← madeCells_flat E z.cells x0 hz0 hp, List.length_replicate]
  exact this
/-- an element of an own row of what is not flat -/
theorem RepL.elem {R : Rep α} [Inhabited α] (ok : R.Ok) {cs : List Value} {xs : List α} (hx : RepL R hf cs xs) {j : Int} (h0 : 0 ≤ j) (h1 : j < (xs.length : Int)) :
    ∃ k, R.rd hf k (nth xs j) ∧ ∀ q v, k[q]? = some v → cs[j.toNat * R.sz + q]? = some v := by
  obtain ⟨hk, hn⟩ := nth_eq h0 h1
  obtain ⟨k, q1, q2⟩ := RepL.get ok hx j.toNat hk
  exact ⟨k, by rw [hn]; exact q1, q2⟩
theorem St.elemCells (hS : St B w l hf) (i : Nat) {e : TypeId} {sz : Nat} {A : Option Addr} {n c : Nat} {cs k : List Value} (hi : l[i]? = some (OSl e sz (.slice A n c) n cs)) {m : Nat} (hc : ∀ q v, k[q]? = some v → cs[m + q]? = some v) {off : Nat} {vs : List Value} (hv : (k.drop off).take vs.length = vs) :
    CellsAt w ((ad A).add (m + off)) vs := fun j v e => by
  have hj : j < vs.length := (List.getElem?_eq_some_iff.1 e).1
  rw [← hv, List.getElem?_take, if_pos hj, List.getElem?_drop] at e
  rw [add_add]
  have := hc _ _ e
  rw [show m + (off + j) = m + off + j by omega] at this
  exact hS.litCell i hi this
theorem St.litN (h : St B w l hf) (i : Nat) {e : TypeId} {sz : Nat} {A : Option Addr} {n c m : Nat} {cs : List Value} (hi : l[i]? = some (OSl e sz (.slice A n c) m cs)) : l[i]? = some (OSl e sz (.slice A n c) n cs) := by
  have := (h.osN i hi).1
  subst this; exact hi
/-- a deferred function that does not recover: of a frame that returns -/
theorem deferPlain {f : FuncId} {fn : Func} {n : Nat} {c : Code} {args : List Value} {R : Ending → World → Prop} (hf : P.funcs[f]? = some fn)
    (hb : fn.body = some c) (hN : fn.ntmps = n) (hle : args.length ≤ n)
    (h : RC P ⟨n, [], true⟩ (bodyPost P fn R) c (idx 0 args) w) : CallsD P f args.toArray .returning w fun e u' w' => u' = .returning ∧ R e w' := by
  refine callsD_of_wpS hf hb fun c₀ cs hu => ?_
  have hH : Has ⟨n, [], true⟩ (idx 0 args) { tmps := args.toArray ++ Array.replicate (fn.ntmps - args.toArray.size) undef, defers := [] } := ⟨by simp [hN]; omega, rfl, fun t v e => by
    obtain ⟨_, h2⟩ := lk_idx args 0 t v e
    simp only [Nat.sub_zero] at h2
    have ht : t < args.length := (List.getElem?_eq_some_iff.1 h2).1
    rw [Array.getElem?_append_left (by simpa using ht)]
    simpa using h2⟩
  refine wpS_of_wp (wp_mono (wq_wp (h _ hH)) fun e a w hq => ?_)
  have hc : c₀ :: cs = { c₀ with mode := .returning } :: cs := by rw [← hu]
  cases e with
  | normal => obtain ⟨h1, v, h2, h3⟩ := hq; exact ⟨h1, _, hc, v, h2, rfl, h3⟩
  | ret => obtain ⟨h1, v, h2, h3⟩ := hq; exact ⟨h1, _, hc, v, h2, rfl, h3⟩
  | panic ch => obtain ⟨h1, h2⟩ := hq; exact ⟨h1, _, hc, rfl, h2⟩
  | exit id => exact hq.elim
  | goto l => exact hq.elim
  | outgrown => exact ⟨_, rfl, hq⟩
/-! ### 23. Short words for the walks -/
variable {Q : Exit → Act → World → Prop} {ops : Array Oper} {rest : List Oper} {S : Nat → World → Prop} {tl : Nat → List Nat} {pl : Pl} {c : Code} {β : Type} {φ : β → Prop} {x y : Option β}
def sL : List (World → Prop) → Nat → World → Prop
  | [], _, _ => True
  | A :: _, 0, w => A w
  | _ :: r, g + 1, w => sL r g w
def tL : List (List Nat) → Nat → List Nat
  | [], _ => []
  | x :: _, 0 => x
  | _ :: r, g + 1 => tL r g
def kpA (i : Nat) (w : World) : List (List Nat) → List (World → Prop) → Prop
  | _, [] => True
  | [], A :: r => A w ∧ kpA i w [] r
  | x :: xs, A :: r => (x.contains i = false → A w) ∧ kpA i w xs r
theorem kp {i : Nat} {w : World} : ∀ {tls : List (List Nat)} {Ss : List (World → Prop)}, kpA i w tls Ss → ∀ g, (tL tls g).contains i = false → sL Ss g w
  | _, [], _, _, _ => by simp [sL]
  | [], A :: r, h, 0, _ => h.1
  | [], A :: r, h, g + 1, _ => kp (tls := []) h.2 g (by simp [tL])
  | x :: xs, A :: r, h, 0, e => h.1 e
  | x :: xs, A :: r, h, g + 1, e => kp h.2 g e
theorem RC.planS {id : Nat} {os : List Oper} {lk : List HProp} (pl : Pl) (t1 : List Nat) (hS : St B w l hf) (hK : ∀ w, St B w l hf → St B w lk hf) (hm : P.follows .mixedOrders = true) (hl : pl.len = os.length)
    (hB : (Region.noSelect os.toArray && tailB os.toArray (tL [t1]) && planOK os.toArray (tL [t1]) pl (Array.replicate os.length false)) = true) (hQ : NoTmp Q)
    (h : ∀ w, St B w l hf → RP P N os.toArray Q (sL [fun w => St B w lk hf]) (tL [t1]) pl env w) : RC P N Q (.region id os.toArray true) env w :=
  RC.plan pl (tL [t1]) (sL [fun w => St B w lk hf]) hm hl hB hQ (h _ (hS.same rfl rfl))
theorem RC.planS2 {id : Nat} {os : List Oper} {k1 k2 : List HProp} (pl : Pl) (t1 t2 : List Nat) (hS : St B w l hf) (hK : ∀ w, St B w l hf → St B w k1 hf) (hK2 : ∀ w, St B w l hf → St B w k2 hf) (hm : P.follows .mixedOrders = true) (hl : pl.len = os.length)
    (hB : (Region.noSelect os.toArray && tailB os.toArray (tL [t1, t2]) && planOK os.toArray (tL [t1, t2]) pl (Array.replicate os.length false)) = true) (hQ : NoTmp Q)
    (h : ∀ w, St B w l hf → RP P N os.toArray Q (sL [fun w => St B w k1 hf, fun w => St B w k2 hf]) (tL [t1, t2]) pl env w) : RC P N Q (.region id os.toArray true) env w :=
  RC.plan pl (tL [t1, t2]) (sL [fun w => St B w k1 hf, fun w => St B w k2 hf]) hm hl hB hQ (h _ (hS.same rfl rfl))
theorem RC.planS3 {id : Nat} {os : List Oper} {k1 k2 k3 : List HProp} (pl : Pl) (t1 t2 t3 : List Nat) (hS : St B w l hf) (hK : ∀ w, St B w l hf → St B w k1 hf) (hK2 : ∀ w, St B w l hf → St B w k2 hf) (hK3 : ∀ w, St B w l hf → St B w k3 hf) (hm : P.follows .mixedOrders = true) (hl : pl.len = os.length)
    (hB : (Region.noSelect os.toArray && tailB os.toArray (tL [t1, t2, t3]) && planOK os.toArray (tL [t1, t2, t3]) pl (Array.replicate os.length false)) = true) (hQ : NoTmp Q)
    (h : ∀ w, St B w l hf → RP P N os.toArray Q (sL [fun w => St B w k1 hf, fun w => St B w k2 hf, fun w => St B w k3 hf]) (tL [t1, t2, t3]) pl env w) : RC P N Q (.region id os.toArray true) env w :=
  RC.plan pl (tL [t1, t2, t3]) (sL [fun w => St B w k1 hf, fun w => St B w k2 hf, fun w => St B w k3 hf]) hm hl hB hQ (h _ (hS.same rfl rfl))
theorem RC.iteP {p : Prop} [Decidable p] (d : Nat) (hv : lk env d = some (.bool (decide p))) (h : Holds φ (if p then x else y)) (h1 : p → Holds φ x → RC P N Q c ((d, .bool true) :: env) w) (h0 : ¬ p → Holds φ y → RC P N Q c ((d, .bool false) :: env) w) : RC P N Q c env w := by
  by_cases hp : p
  · exact RC.re d hv (congrArg Value.bool (decide_eq_true hp)) (h1 hp (h.pos hp))
  · exact RC.re d hv (congrArg Value.bool (decide_eq_false hp)) (h0 hp (h.neg hp))
theorem RC.iteN {p : Prop} [Decidable p] (d : Nat) (hv : lk env d = some (.bool (!decide p))) (h : Holds φ (if p then x else y)) (h1 : p → Holds φ x → RC P N Q c ((d, .bool false) :: env) w) (h0 : ¬ p → Holds φ y → RC P N Q c ((d, .bool true) :: env) w) : RC P N Q c env w := by
  by_cases hp : p
  · exact RC.re d hv (congrArg Value.bool (notdec_pos hp)) (h1 hp (h.pos hp))
  · exact RC.re d hv (congrArg Value.bool (notdec_neg hp)) (h0 hp (h.neg hp))
theorem RC.iteB {b : Bool} (d : Nat) (hv : lk env d = some (.bool b)) (h : Holds φ (if b = true then x else y)) (h1 : b = true → Holds φ x → RC P N Q c ((d, .bool true) :: env) w) (h0 : ¬ b = true → Holds φ y → RC P N Q c ((d, .bool false) :: env) w) : RC P N Q c env w := by
  by_cases hp : b = true
  · exact RC.re d hv (congrArg Value.bool hp) (h1 hp (h.pos hp))
  · exact RC.re d hv (congrArg Value.bool (eq_false_of hp)) (h0 hp (h.neg hp))
theorem RC.iteM {b : Bool} (d : Nat) (hv : lk env d = some (.bool (!b))) (h : Holds φ (if b = true then x else y)) (h1 : b = true → Holds φ x → RC P N Q c ((d, .bool false) :: env) w) (h0 : ¬ b = true → Holds φ y → RC P N Q c ((d, .bool true) :: env) w) : RC P N Q c env w := by
  by_cases hp : b = true
  · exact RC.re d hv (congrArg Value.bool (notb_pos hp)) (h1 hp (h.pos hp))
  · exact RC.re d hv (congrArg Value.bool (notb_neg hp)) (h0 hp (h.neg hp))
theorem RL.iteP {p : Prop} [Decidable p] {os : List Oper} (d : Nat) (hv : lk env d = some (.bool (decide p))) (h : Holds φ (if p then x else y)) (h1 : p → Holds φ x → RL P N ops Q os ((d, .bool true) :: env) w) (h0 : ¬ p → Holds φ y → RL P N ops Q os ((d, .bool false) :: env) w) : RL P N ops Q os env w := by
  by_cases hp : p
  · exact RL.re d hv (congrArg Value.bool (decide_eq_true hp)) (h1 hp (h.pos hp))
  · exact RL.re d hv (congrArg Value.bool (decide_eq_false hp)) (h0 hp (h.neg hp))
theorem RL.iteN {p : Prop} [Decidable p] {os : List Oper} (d : Nat) (hv : lk env d = some (.bool (!decide p))) (h : Holds φ (if p then x else y)) (h1 : p → Holds φ x → RL P N ops Q os ((d, .bool false) :: env) w) (h0 : ¬ p → Holds φ y → RL P N ops Q os ((d, .bool true) :: env) w) : RL P N ops Q os env w := by
  by_cases hp : p
  · exact RL.re d hv (congrArg Value.bool (notdec_pos hp)) (h1 hp (h.pos hp))
  · exact RL.re d hv (congrArg Value.bool (notdec_neg hp)) (h0 hp (h.neg hp))
theorem RL.iteB {b : Bool} {os : List Oper} (d : Nat) (hv : lk env d = some (.bool b)) (h : Holds φ (if b = true then x else y)) (h1 : b = true → Holds φ x → RL P N ops Q os ((d, .bool true) :: env) w) (h0 : ¬ b = true → Holds φ y → RL P N ops Q os ((d, .bool false) :: env) w) : RL P N ops Q os env w := by
  by_cases hp : b = true
  · exact RL.re d hv (congrArg Value.bool hp) (h1 hp (h.pos hp))
  · exact RL.re d hv (congrArg Value.bool (eq_false_of hp)) (h0 hp (h.neg hp))
theorem RL.iteM {b : Bool} {os : List Oper} (d : Nat) (hv : lk env d = some (.bool (!b))) (h : Holds φ (if b = true then x else y)) (h1 : b = true → Holds φ x → RL P N ops Q os ((d, .bool false) :: env) w) (h0 : ¬ b = true → Holds φ y → RL P N ops Q os ((d, .bool true) :: env) w) : RL P N ops Q os env w := by
  by_cases hp : b = true
  · exact RL.re d hv (congrArg Value.bool (notb_pos hp)) (h1 hp (h.pos hp))
  · exact RL.re d hv (congrArg Value.bool (notb_neg hp)) (h0 hp (h.neg hp))
theorem RP.iteP {p : Prop} [Decidable p] (d : Nat) (hv : lk env d = some (.bool (decide p))) (h : Holds φ (if p then x else y)) (h1 : p → Holds φ x → RP P N ops Q S tl pl ((d, .bool true) :: env) w) (h0 : ¬ p → Holds φ y → RP P N ops Q S tl pl ((d, .bool false) :: env) w) : RP P N ops Q S tl pl env w := by
  by_cases hp : p
  · exact RP.re d hv (congrArg Value.bool (decide_eq_true hp)) (h1 hp (h.pos hp))
  · exact RP.re d hv (congrArg Value.bool (decide_eq_false hp)) (h0 hp (h.neg hp))
theorem RP.iteN {p : Prop} [Decidable p] (d : Nat) (hv : lk env d = some (.bool (!decide p))) (h : Holds φ (if p then x else y)) (h1 : p → Holds φ x → RP P N ops Q S tl pl ((d, .bool false) :: env) w) (h0 : ¬ p → Holds φ y → RP P N ops Q S tl pl ((d, .bool true) :: env) w) : RP P N ops Q S tl pl env w := by
  by_cases hp : p
  · exact RP.re d hv (congrArg Value.bool (notdec_pos hp)) (h1 hp (h.pos hp))
  · exact RP.re d hv (congrArg Value.bool (notdec_neg hp)) (h0 hp (h.neg hp))
theorem RP.iteB {b : Bool} (d : Nat) (hv : lk env d = some (.bool b)) (h : Holds φ (if b = true then x else y)) (h1 : b = true → Holds φ x → RP P N ops Q S tl pl ((d, .bool true) :: env) w) (h0 : ¬ b = true → Holds φ y → RP P N ops Q S tl pl ((d, .bool false) :: env) w) : RP P N ops Q S tl pl env w := by
  by_cases hp : b = true
  · exact RP.re d hv (congrArg Value.bool hp) (h1 hp (h.pos hp))
  · exact RP.re d hv (congrArg Value.bool (eq_false_of hp)) (h0 hp (h.neg hp))
theorem RP.iteM {b : Bool} (d : Nat) (hv : lk env d = some (.bool (!b))) (h : Holds φ (if b = true then x else y)) (h1 : b = true → Holds φ x → RP P N ops Q S tl pl ((d, .bool false) :: env) w) (h0 : ¬ b = true → Holds φ y → RP P N ops Q S tl pl ((d, .bool true) :: env) w) : RP P N ops Q S tl pl env w := by
  by_cases hp : b = true
  · exact RP.re d hv (congrArg Value.bool (notb_pos hp)) (h1 hp (h.pos hp))
  · exact RP.re d hv (congrArg Value.bool (notb_neg hp)) (h0 hp (h.neg hp))
theorem Vl.fa {s : TypeId} {x : Operand} {f n off b : Nat} {fs : Array Field} {fld : Field} (m : Nat) (hu : P.underlying s = some (.struct fs)) (hf : fs[f]? = some fld) (hz : ∀ w, (sizeOf fld.type).run P w = .ok (n + 1) w)
    (hx : ev env x = some (.pointer (some ⟨b, off, none⟩))) (hm : off + fld.offset = m) : Vl P N ⟨dst, .fieldAddr s x f, t, pos, aft, g⟩ env w (.pointer (some ⟨b, m, none⟩)) :=
  Vl.fieldAddr hu hf hz hx (by rw [add_mk, hm])
def mvc (N : Fr) (d : Nat) (env : Env) (o : Operand) : Option Value := bif Nat.blt d N.n then ev env o else none
theorem mvc_spec {d : Nat} {o : Operand} {v : Value} (h : mvc N d env o = some v) : Nat.blt d N.n = true ∧ ev env o = some v := by
  unfold mvc at h
  cases e : Nat.blt d N.n
  · rw [e] at h; cases h
  · rw [e] at h; exact ⟨rfl, h⟩
def ndc (N : Fr) (d : Nat) (x : Option Bool) : Option Bool := bif Nat.blt d N.n then x else none
theorem ndc_spec {d : Nat} {x : Option Bool} {b : Bool} (h : ndc N d x = some b) : Nat.blt d N.n = true ∧ x = some b := by
  unfold ndc at h
  cases e : Nat.blt d N.n
  · rw [e] at h; cases h
  · rw [e] at h; exact ⟨rfl, h⟩
theorem mv {o : Operand} {v : Value} {d : Nat} (hx : mvc N d env o = some v) (hr : RL P N ops Q rest ((d, v) :: env) w) : RL P N ops Q (⟨some d, .move o, t, pos, aft, none⟩ :: rest) env w := RL.s (Vl.move (mvc_spec hx).2) (mvc_spec hx).1 hr
theorem am {o : Operand} {v : Value} {d : Nat} (hx : mvc N d env o = some v) (hr : RL P N ops Q rest ((d, v) :: env) w) : RL P N ops Q (⟨some d, .assign o, t, pos, aft, none⟩ :: rest) env w := RL.s (Vl.assign (mvc_spec hx).2) (mvc_spec hx).1 hr
theorem nn {d : Nat} {op : Op} (hg : ndc N d (gd ops env ⟨some d, op, t, pos, aft, g⟩) = some false) (hr : RL P N ops Q rest ((d, undef) :: env) w) : RL P N ops Q (⟨some d, op, t, pos, aft, g⟩ :: rest) env w := RL.nn (ndc_spec hg).1 (ndc_spec hg).2 hr
theorem ln {next : Act → World → Prop} (h : RQ N next env w) : RL P N ops (Exit.then next Q) [] env w := RL.nil (RQ.then_n h)
theorem lr {Q' : Exit → Act → World → Prop} (h : RQ N (Q' .ret) env w) : RL P N ops (Exit.then (fun a w => wq P N.y Code.ret Q' a w) Q) [] env w := RL.nil (RQ.then_n (RC.ret h))
theorem tr {Q' : Exit → Act → World → Prop} (h : RQ N (Q' .ret) env w) : RQ N (Exit.then (fun a w => wq P N.y Code.ret Q' a w) Q .normal) env w := RQ.then_n (RC.ret h)
theorem sr {id : Nat} {l : List Oper} {y : Code} (h : RL P N l.toArray (Exit.then (fun a w => wq P N.y y Q a w) Q) l env w) : RC P N Q ((Code.region id l.toArray false).seq y) env w := RC.seq (RC.region h)
theorem tsr {Q' : Exit → Act → World → Prop} {id : Nat} {l : List Oper} {y : Code} (h : RL P N l.toArray (Exit.then (fun a w => wq P N.y y Q' a w) Q') l env w) : RQ N (Exit.then (fun a w => wq P N.y ((Code.region id l.toArray false).seq y) Q' a w) Q .normal) env w := RQ.then_n (RC.seq (RC.region h))
theorem lnsr {Q' : Exit → Act → World → Prop} {os : Array Oper} {id : Nat} {l : List Oper} {y : Code} (h : RL P N l.toArray (Exit.then (fun a w => wq P N.y y Q' a w) Q') l env w) : RL P N os (Exit.then (fun a w => wq P N.y ((Code.region id l.toArray false).seq y) Q' a w) Q) [] env w := RL.nil (RQ.then_n (RC.seq (RC.region h)))
theorem sk {next : Act → World → Prop} (h : RQ N next env w) : RC P N (Exit.then next Q) .skip env w := RC.skip (RQ.then_n h)
end
end Go.Sl
