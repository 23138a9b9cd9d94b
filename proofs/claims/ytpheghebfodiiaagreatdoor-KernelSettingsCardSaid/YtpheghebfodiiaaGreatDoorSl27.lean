/-
  The own separation logic for the walks, part 27.
-/
import Derived.Test.YtpheghebfodiiaaGreatDoorSl26
set_option linter.unusedVariables false
set_option linter.unusedSimpArgs false
set_option linter.unusedSectionVars false
namespace Go.Sl
/-! ### 43. copy out of a row that is read; a map's row -/
def cpyL {α : Type} (xs : List α) (a : Nat) (ys : List α) : List α := xs.take a ++ ys.take (min ys.length (xs.length - a)) ++ xs.drop (a + min ys.length (xs.length - a))
theorem cpyL_len {α : Type} {xs ys : List α} {a : Nat} (h : a ≤ xs.length) : (cpyL xs a ys).length = xs.length := by
  simp only [cpyL, List.length_append, List.length_take, List.length_drop]; omega
theorem cpyL_zero {α : Type} {xs ys : List α} {a : Nat} (h : min ys.length (xs.length - a) = 0) : cpyL xs a ys = xs := by simp [cpyL, h]
section
variable {α : Type} {P : Program} {N : Fr} {env : Env} {w : World} {dst : Option Tmp} {t : TypeId} {pos : String} {aft : Array Edge} {g : Option (Nat × Bool)} {B : Base} {l : List HProp} {hf : Hp}
theorem flat_cpy (E : Fl α) (xs ys : List α) (a m : Nat) (h1 : m ≤ ys.length) : (xs.take a ++ ys.take m ++ xs.drop (a + m)).flatMap E.enc = setR (xs.flatMap E.enc) (a * E.sz) ((ys.take m).flatMap E.enc) := by
  simp only [setR, List.flatMap_append, flat_take, flat_drop]
  rw [List.length_take, flat_len, Nat.add_mul]
  have : m * E.sz ≤ ys.length * E.sz := Nat.mul_le_mul_right _ h1
  rw [Nat.min_eq_left (by omega)]
theorem OW.copyC {E : Fl α} {ty e : TypeId} {ti : TypeInfo} {x y : Operand} {A Ax Ay : Option Addr} {n c cx cy : Nat} {a : Nat} {xs ys : List α} {l' : List HProp} (i : Nat) (hS : St B w l hf) (hi : l[i]? = some (OSf E e (.slice A n c) xs))
    (hu : P.underlying ty = some (.slice e)) (hti : P.info? e = some ti) (hsz : ti.size = E.sz) (h0 : 0 < E.sz)
    (hx : ev env x = some (.slice Ax (xs.length - a) cx)) (hAx : ∀ gb o, A = some ⟨gb, o, none⟩ → a < c → Ax = some ⟨gb, o + a * E.sz, none⟩) (hy : ev env y = some (.slice Ay ys.length cy)) (hW : SlW E w Ay ys)
    (ha1 : a ≤ xs.length) (el : l.set i (OSf E e (.slice A n c) (cpyL xs a ys)) = l') :
    OW P N ⟨dst, .call ⟨.builtin .copy, #[x, y], #[ty, ty]⟩, t, pos, aft, g⟩ env w (fun v' w' => v' = .int .i64 (min ys.length (xs.length - a) : Nat) ∧ St B w' l' hf) := fun act hact next Q hn => by
  subst el
  have hlen : i < l.length := (List.getElem?_eq_some_iff.1 hi).1
  have hP := hS.pull i hi rfl
  obtain ⟨e1, e2, _⟩ := hS.osN i hi
  subst e1
  by_cases hm0 : min ys.length (xs.length - a) = 0
  · rw [hm0] at hn
    have hl0 : ∀ (x : Addr), (loadCells x 0).run P w = .ok #[] w := fun x => by simpa using run_loadCells_list (P := P) w x [] (by simp)
    have hmin : Nat.min ys.length (xs.length - a) = 0 := hm0
    have hmin' : Nat.min (xs.length - a) ys.length = 0 := (Nat.min_comm (xs.length - a) ys.length).trans hm0
    have hrun : (Builtin.copy_ #[ty, ty] t #[.slice Ax (xs.length - a) cx, .slice Ay ys.length cy]).run P w = .ok (goInt 0) w := by
      cases Ax <;> cases Ay <;> simp [Builtin.copy_, run_underlying hu, Builtin.lenOf, Builtin.firstCells, sizeOf, typeInfo, hti, hmin, hmin', storeCells, hl0]
    have hr : (execOp act.eval ⟨dst, .call ⟨.builtin .copy, #[x, y], #[ty, ty]⟩, t, pos, aft, g⟩).run P w = .ok (.value (.int .i64 0)) w := by
      simp only [execOp, resolve, Sem.run_bind, Sem.run_pure, Result.andThen_ok, List.map_toArray, List.map_cons, List.map_nil, hact.eval hx, hact.eval hy, Go.invoke, Go.builtin, hrun, goInt]
      try rfl
    simp only [Oper.wp, hr, Oper.upon]
    refine hn _ _ ⟨rfl, ?_⟩
    rw [cpyL_zero hm0]
    exact hP.perm (perm_set l i _ hlen)
  · obtain ⟨h1p, ⟨hl, hA⟩, hs, hd, hr0⟩ := hP.own
    rcases hA with ⟨e3, e4, _⟩ | ⟨gb, o, cap, cur, e3, hp', hcap, hmax, hcs, htk⟩
    · omega
    cases e3
    have hh : w.heap[gb]? = some (.cells cur e (0, 0)) := hs _ _ hp'.1
    unfold cpyL at hn
    generalize hm : min ys.length (xs.length - a) = m at *
    have ham : a + m ≤ xs.length := by omega
    have hbm : m ≤ ys.length := by omega
    have hsa := hAx gb o rfl (by omega)
    rw [hsa] at hx
    have hay := (hW 0 (by omega)).1
    rw [hay] at hy hW
    have hcl : ((ys.take m).flatMap E.enc).length = m * E.sz := by rw [flat_len, List.length_take]; congr 1; omega
    have hal : a * E.sz + m * E.sz ≤ xs.length * E.sz := by rw [← Nat.add_mul]; exact Nat.mul_le_mul_right _ ham
    have hcc : xs.length * E.sz ≤ c * E.sz := Nat.mul_le_mul_right _ hcap
    have hfl : (xs.flatMap E.enc).length = xs.length * E.sz := flat_len E xs
    have hld : ∀ j u, ((ys.take m).flatMap E.enc)[j]? = some u → w.cell? ((ad Ay).add j) = some u := fun j u hj => by
      rw [flat_take] at hj
      have hj' : j < m * E.sz := by
        rw [List.getElem?_take] at hj
        split at hj
        · assumption
        · cases hj
      rw [List.getElem?_take, if_pos hj'] at hj
      exact hW.flat j u hj
    have hl' := run_loadCells_list (P := P) w (ad Ay) _ hld
    rw [hcl] at hl'
    have h1 : ∀ u ∈ (ys.take m).flatMap E.enc, u.oneCell' = true := flat_one E _
    have hst := run_storeCells_at P gb (o + a * E.sz) e ((ys.take m).flatMap E.enc) 0 cur w hh (by omega) h1
    simp only [Nat.add_zero] at hst
    have hmin : Nat.min ys.length (xs.length - a) = m := hm
    have hmin' : Nat.min (xs.length - a) ys.length = m := (Nat.min_comm (xs.length - a) ys.length).trans hm
    have hrun : (Builtin.copy_ #[ty, ty] t #[.slice (some ⟨gb, o + a * E.sz, none⟩) (xs.length - a) cx, .slice (some (ad Ay)) ys.length cy]).run P w =
        .ok (goInt m) (w.setRow gb (cur.toList.take (o + a * E.sz) ++ (ys.take m).flatMap E.enc ++ cur.toList.drop (o + a * E.sz + ((ys.take m).flatMap E.enc).length)).toArray) := by
      simp [Builtin.copy_, run_underlying hu, Builtin.lenOf, Builtin.firstCells, sizeOf, typeInfo, hti, hsz, hmin, hmin', hl', hst]
    have hr : (execOp act.eval ⟨dst, .call ⟨.builtin .copy, #[x, y], #[ty, ty]⟩, t, pos, aft, g⟩).run P w = .ok (.value (.int .i64 m))
        (w.setRow gb (cur.toList.take (o + a * E.sz) ++ (ys.take m).flatMap E.enc ++ cur.toList.drop (o + a * E.sz + ((ys.take m).flatMap E.enc).length)).toArray) := by
      simp only [execOp, resolve, Sem.run_bind, Sem.run_pure, Result.andThen_ok, List.map_toArray, List.map_cons, List.map_nil, hact.eval hx, hact.eval hy, Go.invoke, Go.builtin, hrun, goInt]
    simp only [Oper.wp, hr, Oper.upon]
    refine hn _ _ ⟨rfl, ?_⟩
    have hPt : St B w (pts gb (.cells cur e (0, 0)) :: l.eraseIdx i) hf := ⟨hP.base, hP.sub, h1p, hp', hs, hd, hr0⟩
    have h2 := hPt.put (w' := w.setRow gb (cur.toList.take (o + a * E.sz) ++ (ys.take m).flatMap E.enc ++ cur.toList.drop (o + a * E.sz + ((ys.take m).flatMap E.enc).length)).toArray)
      (o' := .cells (cur.toList.take (o + a * E.sz) ++ (ys.take m).flatMap E.enc ++ cur.toList.drop (o + a * E.sz + ((ys.take m).flatMap E.enc).length)).toArray e (0, 0)) rfl
      (fun b' hb' => setRow_other w gb b' _ hb') (heap_setRow w gb cur _ e (0, 0) hh)
    refine (h2.imp fun k hk => ?_).perm (perm_set l i _ hlen)
    have hlenm : (xs.take a ++ ys.take m ++ xs.drop (a + m)).length = xs.length := by simp only [List.length_append, List.length_take, List.length_drop]; omega
    unfold OSf
    rw [flat_cpy E xs ys a m hbm, hlenm]
    refine ⟨?_, .inr ⟨gb, o, c, _, rfl, hk, hcap, hmax, ?_, ?_⟩⟩
    · simp only [setR, List.length_append, List.length_take, List.length_drop]; omega
    · simp only [List.size_toArray, List.length_append, List.length_take, List.length_drop, Array.length_toList]; omega
    · simp only [List.toList_toArray, setR]
      generalize (ys.take m).flatMap E.enc = vs at *
      rw [← htk]
      apply List.ext_getElem?
      intro j
      have hcl2 : ((cur.toList.drop o).take (xs.length * E.sz)).length = xs.length * E.sz := by rw [htk]; exact hfl
      simp only [List.getElem?_take, List.getElem?_append, List.length_append, List.length_take, List.getElem?_drop, List.length_drop, Array.length_toList]
      repeat' split
      all_goals first | rfl | (exfalso; omega) | (congr 1; omega) | skip
/-- into all of an own row -/
theorem OW.copyR0 {E : Fl α} {ty e : TypeId} {ti : TypeInfo} {x y : Operand} {A Ay : Option Addr} {c cy : Nat} {xs ys : List α} {l' : List HProp} (i : Nat) (hS : St B w l hf) (hi : l[i]? = some (OSf E e (.slice A xs.length c) xs))
    (hu : P.underlying ty = some (.slice e)) (hti : P.info? e = some ti) (hsz : ti.size = E.sz) (h0 : 0 < E.sz)
    (hx : ev env x = some (.slice A xs.length c)) (hy : ev env y = some (.slice Ay ys.length cy)) (hW : SlW E w Ay ys) (el : l.set i (OSf E e (.slice A xs.length c) (cpyL xs 0 ys)) = l') :
    OW P N ⟨dst, .call ⟨.builtin .copy, #[x, y], #[ty, ty]⟩, t, pos, aft, g⟩ env w (fun v' w' => v' = .int .i64 (min ys.length (xs.length - 0) : Nat) ∧ St B w' l' hf) :=
  OW.copyC (a := 0) i hS hi hu hti hsz h0 hx (fun gb o e _ => by rw [e]; simp) hy hW (Nat.zero_le _) el
/-- into its part from a place on -/
theorem OW.copyR1 {E : Fl α} {ty e : TypeId} {ti : TypeInfo} {x y : Operand} {A Ay : Option Addr} {n c cx cy : Nat} {a : Int} {xs ys : List α} {l' : List HProp} (i : Nat) (hS : St B w l hf) (hi : l[i]? = some (OSf E e (.slice A n c) xs))
    (hu : P.underlying ty = some (.slice e)) (hti : P.info? e = some ti) (hsz : ti.size = E.sz) (h0 : 0 < E.sz)
    (hx : ev env x = some (.slice (subA A c a.toNat E.sz) (subL xs a xs.length).length cx)) (hy : ev env y = some (.slice Ay ys.length cy)) (hW : SlW E w Ay ys) (ha0 : 0 ≤ a) (ha1 : a ≤ (xs.length : Int)) (el : l.set i (OSf E e (.slice A n c) (cpyL xs a.toNat ys)) = l') :
    OW P N ⟨dst, .call ⟨.builtin .copy, #[x, y], #[ty, ty]⟩, t, pos, aft, g⟩ env w (fun v' w' => v' = .int .i64 (min ys.length (xs.length - a.toNat) : Nat) ∧ St B w' l' hf) := by
  rw [subL_len ha0 ha1 (Int.le_refl _), Int.toNat_natCast] at hx
  exact OW.copyC (a := a.toNat) i hS hi hu hti hsz h0 hx (fun gb o e hc => by rw [e, subA, if_neg (by omega)]; simp [Addr.add_lit]) hy hW (by omega) el
end
section
variable {κ : Type} [DecidableEq κ] {kv : κ → Value} {P : Program} {N : Fr} {env : Env} {B : Base} {w : World} {l : List HProp} {hf : Hp} {dst : Option Tmp} {t ty kt e : TypeId} {pos : String} {aft : Array Edge} {g : Option (Nat × Bool)}
theorem Vl.lookupW {m key : Operand} {b : Nat} {es : List (κ × Hdr)} {k : κ} {A : Option Addr} {n c : Nat} (i : Nat) (hS : St B w l hf) (hi : l[i]? = some (MapF kv hV b es)) (hk : KeyOK P kt kv) (hu : P.underlying ty = some (.map kt e)) (hz : ∀ w, (zeroValue e).run P w = .ok (.slice none 0 0) w)
    (hm : ev env m = some (.map (some b))) (hkey : ev env key = some (kv k)) (he : (mget es k).getD (none, 0, 0) = (A, n, c)) : Vl P N ⟨dst, .lookup ty m key false, t, pos, aft, g⟩ env w (.slice A n c) := by
  have := Vl.lookupF (P := P) (N := N) (dst := dst) (t := t) (pos := pos) (aft := aft) (g := g) (vv := hV) (z := ((none, 0, 0) : Hdr)) i hS hi hk hu hz hm hkey
  rw [he] at this
  exact this
theorem OW.mapUpdW {m key x : Operand} {b : Nat} {es : List (κ × Hdr)} {k : κ} {A : Option Addr} {n c : Nat} {l' : List HProp} (i : Nat) (hS : St B w l hf) (hi : l[i]? = some (MapF kv hV b es)) (hk : KeyOK P kt kv) (hu : P.underlying ty = some (.map kt e))
    (hm : ev env m = some (.map (some b))) (hkey : ev env key = some (kv k)) (hx : ev env x = some (.slice A n c)) (el : l.eraseIdx i = l') :
    OW P N ⟨dst, .mapUpdate ty m key x, t, pos, aft, g⟩ env w (fun v' w' => v' = undef ∧ St B w' (MapF kv hV b (mset es k (A, n, c)) :: l') hf) := OW.mapUpdF (v := ((A, n, c) : Hdr)) i hS hi hk hu hm hkey hx el
end
section
variable {P : Program} {N : Fr} {env : Env} {w : World} {dst : Option Tmp} {t : TypeId} {pos : String} {aft : Array Edge} {g : Option (Nat × Bool)}
theorem run_append_types {ty ty2 e e2 : TypeId} (h1 : P.underlying ty = some (.slice e)) (h2 : P.underlying ty2 = some (.slice e2)) (t : TypeId) (x y : Value) : (Builtin.append_ #[ty, ty2] t #[x, y]).run P w = (Builtin.append_ #[ty, ty] t #[x, y]).run P w := by
  unfold Builtin.append_
  simp only [List.getElem?_toArray, List.getElem?_cons_zero, List.getElem?_cons_succ, Sem.run_bind, run_underlying h1, run_underlying h2, Result.andThen_ok]
  cases x with
  | slice base sLen sCap =>
    simp only [Sem.run_bind]
    congr 1
    funext size w'
    simp only [Sem.run_bind, run_underlying h1, run_underlying h2, Result.andThen_ok, Sem.run_pure]
  | _ => rfl
/-- append of a row of another type, with the same elements -/
theorem OW.appT {ty ty2 e e2 : TypeId} {x y : Operand} {K : Value → World → Prop} (h1 : P.underlying ty = some (.slice e)) (h2 : P.underlying ty2 = some (.slice e2)) (h : OW P N ⟨dst, .call ⟨.builtin .append, #[x, y], #[ty, ty]⟩, t, pos, aft, g⟩ env w K) :
    OW P N ⟨dst, .call ⟨.builtin .append, #[x, y], #[ty, ty2]⟩, t, pos, aft, g⟩ env w K := fun a ha next Q hn => by
  have h3 := h a ha next Q hn
  have e1 : (execOp a.eval ⟨dst, .call ⟨.builtin .append, #[x, y], #[ty, ty2]⟩, t, pos, aft, g⟩).run P w = (execOp a.eval ⟨dst, .call ⟨.builtin .append, #[x, y], #[ty, ty]⟩, t, pos, aft, g⟩).run P w := by
    simp only [execOp, resolve, Sem.run_bind, Sem.run_pure, Result.andThen_ok, List.map_toArray, List.map_cons, List.map_nil, Go.invoke, Go.builtin, run_append_types h1 h2]
  simp only [Oper.wp] at h3 ⊢
  rw [e1]
  exact h3
end
section
variable {α : Type} {P : Program} {N : Fr} {env : Env} {w : World} {dst : Option Tmp} {t : TypeId} {pos : String} {aft : Array Edge} {g : Option (Nat × Bool)}
theorem SlR.cut {E : Rep α} {h : Hp} {A : Option Addr} {c : Nat} {xs : List α} {b : Int} (x : SlR E h A c xs) (h0 : 0 ≤ b) (h2 : b ≤ (xs.length : Int)) : SlR E h A (b.toNat - (0 : Int).toNat) (subL xs 0 b) := by
  have hl := subL_len (Int.le_refl 0) h0 h2
  refine ⟨by rw [hl]; exact Nat.le_refl _, fun i hi => ?_⟩
  have hi2 : i < xs.length := by rw [hl] at hi; omega
  obtain ⟨a, cs, r, k⟩ := x.2 i hi2
  refine ⟨a, cs, ?_, k⟩
  have e : (subL xs 0 b)[i] = xs[i] := by simp [subL]
  rw [e]
  exact r
theorem Vl.slice3R {ty e : TypeId} {x hi mx : Operand} {kh km : IntKind} {b : Int} {A : Option Addr} {c sz : Nat} {xs : List α} (hu : P.underlying ty = some (.slice e)) (hz : ∀ w, (sizeOf e).run P w = .ok sz w)
    (hx : ev env x = some (.slice A xs.length c)) (hhi : ev env hi = some (.int kh b)) (hmx : ev env mx = some (.int km b)) (h0 : 0 ≤ b) (h2 : b ≤ (xs.length : Int)) (hc : xs.length ≤ c) :
    Vl P N ⟨dst, .slice ty x none (some hi) (some mx), t, pos, aft, g⟩ env w (.slice A (subL xs 0 b).length (b.toNat - (0 : Int).toNat)) := fun act ha => by
  rw [subL_len (Int.le_refl 0) h0 h2]
  have hb : (b : Int) ≤ (c : Nat) := by omega
  have hA : (if b.toNat = 0 then A else A.map fun x => x.add 0) = A := by
    have h00 : ∀ a : Addr, a.add 0 = a := fun a => by cases a; rfl
    cases A <;> simp [h00]
  simp [execOp, ha.eval hx, ha.eval hhi, ha.eval hmx, Instr.sliceAt, Instr.slice, Instr.sliceBounds, run_underlying hu, run_bound (P := P) (w := w) (k := km) (i := b) (y := c) (code := .slice3Acap) (by omega) hb, run_bound (P := P) (w := w) (k := kh) (i := b) (y := b.toNat) (code := .slice3B) (by omega) (by omega), hz]
  simpa using hA
end
end Go.Sl
