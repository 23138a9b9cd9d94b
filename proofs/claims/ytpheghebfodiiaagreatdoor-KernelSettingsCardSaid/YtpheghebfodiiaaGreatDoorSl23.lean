/-
  The own separation logic for the walks, part 23.
-/
import Derived.Test.YtpheghebfodiiaaGreatDoorSl22
import Derived.Lib.AppendStr
import Derived.Lib.UnsafeStr
import Derived.Lib.Builder
set_option linter.unusedVariables false
set_option linter.unusedSimpArgs false
set_option linter.unusedSectionVars false
namespace Go.Sl
/-! ### 37. A builder: its bytes' row begins at its block's head -/
def Off0 (v : Value) : Prop := v = .slice none 0 0 ∨ ∃ g n c, v = .slice (some ⟨g, 0, none⟩) n c ∧ c ≠ 0
theorem Off0.cells {v : Value} (h : Off0 v) : v.cells.toList = [v] := by rcases h with rfl | ⟨_, _, _, rfl, _⟩ <;> rfl
theorem Off0.one {v : Value} (h : Off0 v) : [v].all Value.oneCell' = true := by rcases h with rfl | ⟨_, _, _, rfl, _⟩ <;> rfl
section
variable {P : Program} {N : Fr} {env : Env} {w : World} {B : Base} {l : List HProp} {hf : Hp}
theorem growslice_le {k old e : Nat} (hk : k ≤ 140737488355328) (ho : old < k) : Builtin.nextslicecap k old * 1 ≤ 281474976710656 := growslice_fits (by omega) (by omega)
theorem St.appendStr {e : TypeId} {v : Value} {n : Nat} {xs : List Value} (h : St B w (OSl e 1 v n xs :: l) hf) (h0 : Off0 v) {t u ty : TypeId} {i : TypeInfo} (ht : P.underlying t = some (.slice e)) (hu : P.underlying u = some .string)
    (hi : P.info? e = some i) (hz : i.zero = some (.int .u8 0)) (hsize : i.size = 1) (hby : i.bytes = 1) (s : ByteArray) (hb : n + s.size ≤ 140737488355328) :
    ∃ v' w', (Builtin.append_ #[t, u] ty #[v, .string s]).run P w = .ok v' w' ∧ St B w' (OSl e 1 v' (n + s.size) (xs ++ Lib.strCells s) :: l) hf ∧ Off0 v' := by
  have h63 : n + s.size ≤ maxLen := by unfold maxLen; omega
  have grown : ∀ (old : Nat), old < n + s.size → xs.length = n →
      St B (w.drew.alloc (.cells (xs.toArray ++ (Lib.strCells s).toArray ++ Builtin.zeroCells (Value.int .u8 0).cells (grownCap w (n + s.size) old e - (n + s.size))) e))
        (OSl e 1 (.slice (some ⟨w.heap.size, 0, none⟩) (n + s.size) (grownCap w (n + s.size) old e)) (n + s.size) (xs ++ Lib.strCells s) :: l) hf := by
    intro old ho hxl
    have hlen : (xs ++ Lib.strCells s).length = (n + s.size) * 1 := by rw [List.length_append, hxl, Lib.strCells_length, Nat.mul_one]
    have hge := grownCap_ge w (n + s.size) old e
    have hcm : grownCap w (n + s.size) old e ≤ maxLen := grownCap_le_maxLen w (n + s.size) old e h63
    refine h.drop.grownNew ⟨rfl, rfl, rfl, by simp, fun k hk _ => heap_alloc_old w.drew _ hk⟩ ⟨hlen, .inr ⟨w.heap.size, _, _, rfl, Nat.le_refl _, heap_alloc_new w.drew _, hge, hcm, ?_, ?_⟩⟩
    · have hz1 : (Value.int IntKind.u8 0).cells.size = 1 := rfl
      simp only [Array.size_append, List.size_toArray, size_zeroCells, hz1, hxl, Lib.strCells_length]
      omega
    · simp only [Array.toList_append, List.append_assoc]
      rw [← List.append_assoc, ← hlen]
      exact List.take_left
  obtain ⟨h1p, ⟨hlx, hA⟩, hs, hd, hr0⟩ := h.own
  rw [Nat.mul_one] at hlx
  rcases hA with ⟨rfl, rfl, _⟩ | ⟨gb, o, cap, cur, rfl, hp', hcap, hmax, hcs, htk⟩
  · obtain rfl : xs = [] := List.length_eq_zero_iff.1 hlx
    by_cases hm : s.size = 0
    · have hn : Lib.strCells s = [] := List.eq_nil_of_length_eq_zero (by rw [Lib.strCells_length]; exact hm)
      refine ⟨.slice none 0 0, w, ?_, by rw [hm, hn]; exact h, .inl rfl⟩
      have hf := Lib.run_firstCells_string (P := P) w 1 s
      rw [hm] at hf
      simp [Builtin.append_, run_underlying ht, run_underlying hu, sizeOf, typeInfo, hi, hsize, Builtin.lenOf, hm, hf]
    · have hr := run_append_nil_string (P := P) w t u ty e i (.int .u8 0) ht hu hi hz s (by omega) (by omega) (by rw [hby]; omega)
      have hgr := grown 0 (by omega) rfl
      simp only [Nat.zero_add, List.nil_append, Array.empty_append] at hgr ⊢
      have e1 : (s.data.map fun b => Value.int .u8 b.toNat) = (Lib.strCells s).toArray := by
        apply Array.ext'
        simp [Lib.strCells]
      rw [e1] at hr
      exact ⟨_, _, hr, hgr, .inr ⟨_, _, _, rfl, by have := grownCap_ge w s.size 0 e; omega⟩⟩
  · obtain rfl : o = 0 := by
      rcases h0 with h0 | ⟨g, n', c, h0, _⟩
      · cases h0
      · cases h0; rfl
    have hc0 : cap ≠ 0 := by
      rcases h0 with h0 | ⟨g, n', c, h0, h1⟩
      · cases h0
      · cases h0; exact h1
    have hh : w.heap[gb]? = some (.cells cur e (0, 0)) := hs _ _ hp'.1
    by_cases hroom : n + s.size ≤ cap
    · have hr := Lib.run_append_room_string (P := P) w t u ty e i ht hu hi hsize gb n cap cur hh s hroom (by omega)
      refine ⟨_, _, hr, ?_, .inr ⟨_, _, _, rfl, hc0⟩⟩
      have hPt : St B w (pts gb (.cells cur e (0, 0)) :: l) hf := ⟨h.base, h.sub, h1p, hp', hs, hd, hr0⟩
      have h2 := hPt.put (w' := w.setRow gb (cur.toList.take n ++ Lib.strCells s ++ cur.toList.drop (n + s.size)).toArray) (o' := .cells (cur.toList.take n ++ Lib.strCells s ++ cur.toList.drop (n + s.size)).toArray e (0, 0)) rfl
        (fun b' hb' => setRow_other w gb b' _ hb') (heap_setRow w gb cur _ e (0, 0) hh)
      have htk' : cur.toList.take n = xs := by simpa using htk
      refine h2.imp fun k hk => ⟨by rw [List.length_append, hlx, Lib.strCells_length, Nat.mul_one], .inr ⟨gb, 0, cap, _, rfl, hk, hroom, hmax, ?_, ?_⟩⟩
      · simp only [List.size_toArray, List.length_append, List.length_take, List.length_drop, Array.length_toList, Lib.strCells_length]; omega
      · rw [htk', List.drop_zero]
        have : (n + s.size) * 1 = (xs ++ Lib.strCells s).length := by rw [List.length_append, hlx, Lib.strCells_length, Nat.mul_one]
        rw [this]
        exact List.take_left
    · have hr := Lib.run_append_grow_string (P := P) w t u ty e i (.int .u8 0) ht hu hi hz ⟨gb, 0, none⟩ n cap xs (by rw [hsize]; omega) (fun j u hj => by
        rw [add_mk]
        have := cur_get htk hj
        simp only [Nat.zero_add] at this
        simp [World.cell?, hh, this]) s (by omega) (by omega) (by rw [hby]; exact growslice_fits (by omega) (by omega))
      exact ⟨_, _, hr, grown cap (by omega) hlx, .inr ⟨_, _, _, rfl, by have := grownCap_ge w (n + s.size) cap e; omega⟩⟩
/-- what 'unsafe.String(unsafe.SliceData(b.buf), len(b.buf))' comes to -/
theorem St.unsafeStr {e pt it ty : TypeId} {n c : Nat} {g : Nat} {xs : List UInt8} (h : St B w (OSl e 1 (.slice (some ⟨g, 0, none⟩) n c) n (Lib.byteCells xs) :: l) hf) (hp : P.underlying pt = some (.pointer e)) (hc : P.cellsOf e = 1) (h0 : n ≠ 0) :
    (Builtin.unsafeString_ #[pt, it] ty #[.pointer (some ⟨g, 0, none⟩), .int .i64 n]).run P w = .ok (.string ⟨xs.toArray⟩) (w.freeze ⟨g, 0, none⟩ n) ∧ St B (w.freeze ⟨g, 0, none⟩ n) l hf := by
  obtain ⟨h1p, ⟨hlx, hA⟩, hs, hd, hr0⟩ := h.own
  rw [Nat.mul_one, Lib.byteCells_length] at hlx
  subst hlx
  rcases hA with ⟨hv, _⟩ | ⟨gb, o, cap, cur, hv, hp', hcap, hmax, hcs, htk⟩
  · cases hv
  cases hv
  have hh : w.heap[g]? = some (.cells cur e (0, 0)) := hs _ _ hp'.1
  refine ⟨Lib.run_unsafeString_row w pt it ty e hp hc g cur.size (by simp [World.shape?, hh]) xs (by intro hx; rw [hx] at h0; exact h0 rfl) (by omega) (by unfold maxLen at hmax; omega) fun j x hx => ?_, ?_⟩
  · have := cur_get htk (j := j) (v := .int .u8 x.toNat) (by simp [Lib.byteCells, hx])
    simp only [Nat.zero_add] at this
    rw [add_mk]
    simp [World.cell?, hh, this]
  · have hPt : St B w (pts g (.cells cur e (0, 0)) :: l) hf := ⟨h.base, h.sub, h1p, hp', hs, hd, hr0⟩
    by_cases hf0 : (w.freeze ⟨g, 0, none⟩ xs.length) = w
    · rw [hf0]; exact h.drop
    · have key : ∃ o', (w.freeze ⟨g, 0, none⟩ xs.length).heap[g]? = some o' ∧ ∀ b', b' ≠ g → (w.freeze ⟨g, 0, none⟩ xs.length).heap[b']? = w.heap[b']? := by
        unfold World.freeze
        split
        · exact ⟨_, hh, fun _ _ => rfl⟩
        · refine ⟨_, by simp only [Array.getElem?_modify, if_true, hh, Option.map_some]; rfl, fun b' hb' => ?_⟩
          simp only [Array.getElem?_modify]
          rw [if_neg (by omega)]
      obtain ⟨o', k1, k2⟩ := key
      have hbase : Sl.base (w.freeze ⟨g, 0, none⟩ xs.length) = Sl.base w := by
        unfold World.freeze
        split <;> rfl
      exact (hPt.put hbase (fun b' hb' => k2 b' hb') k1).drop
theorem Vl.cv {dst : Option Tmp} {t src d : TypeId} {pos : String} {aft : Array Edge} {g : Option (Nat × Bool)} {x : Operand} {v v' : Value} (hx : ev env x = some v) (h : (convert src d v).run P w = .ok v' w) : Vl P N ⟨dst, .convert src d x, t, pos, aft, g⟩ env w v' := fun a ha => by
  simp only [execOp, ha.eval hx, Sem.run_bind, h, Result.andThen_ok, Sem.run_pure]
theorem Vl.ptrNe {dst : Option Tmp} {t xt yt : TypeId} {pos : String} {aft : Array Edge} {g : Option (Nat × Bool)} {x y : Operand} {p : Addr} {r : Value} (hx : ev env x = some (.pointer (some p))) (hy : ev env y = some (.pointer (some p)))
    (h : (binOp .neq xt (.pointer (some p)) (.pointer (some p))).run P w = .ok r w) : Vl P N ⟨dst, .binOp .neq xt x y yt, t, pos, aft, g⟩ env w r := Vl.bin hx hy (by
  show ((eqGuard .neq xt x y _ _) >>= fun _ => _).run P w = _
  rw [Sem.run_bind]
  exact h)
theorem OW.app2 {dst : Option Tmp} {t ty ty' : TypeId} {pos : String} {aft : Array Edge} {g : Option (Nat × Bool)} {x y : Operand} {u v : Value} {K : Value → World → Prop} (hx : ev env x = some u) (hy : ev env y = some v)
    (h : ∃ v' w', (Builtin.append_ #[ty, ty'] t #[u, v]).run P w = .ok v' w' ∧ K v' w') : OW P N ⟨dst, .call ⟨.builtin .append, #[x, y], #[ty, ty']⟩, t, pos, aft, g⟩ env w K := fun a ha next Q hn => by
  obtain ⟨v', w', h, hK⟩ := h
  have hr : (execOp a.eval ⟨dst, .call ⟨.builtin .append, #[x, y], #[ty, ty']⟩, t, pos, aft, g⟩).run P w = .ok (.value v') w' := by
    simp only [execOp, resolve, Sem.run_bind, Sem.run_pure, Result.andThen_ok, List.map_toArray, List.map_cons, List.map_nil, ha.eval hx, ha.eval hy, Go.invoke, Go.builtin, h]
  simp only [Oper.wp, hr, Oper.upon]
  exact hn _ _ hK
theorem Vl.usd {dst : Option Tmp} {t : TypeId} {tys : Array TypeId} {pos : String} {aft : Array Edge} {g : Option (Nat × Bool)} {x : Operand} {u v : Value} (hx : ev env x = some u)
    (h : (Builtin.unsafeSliceData_ tys t #[u]).run P w = .ok v w) : Vl P N ⟨dst, .call ⟨.builtin .unsafeSliceData, #[x], tys⟩, t, pos, aft, g⟩ env w v := fun a ha => by
  simp only [execOp, resolve, Sem.run_bind, Sem.run_pure, Result.andThen_ok, List.map_toArray, List.map_cons, List.map_nil, ha.eval hx, Go.invoke, Go.builtin, h]
theorem OW.ust {dst : Option Tmp} {t : TypeId} {tys : Array TypeId} {pos : String} {aft : Array Edge} {g : Option (Nat × Bool)} {x y : Operand} {u v : Value} {K : Value → World → Prop} (hx : ev env x = some u) (hy : ev env y = some v)
    (h : ∃ v' w', (Builtin.unsafeString_ tys t #[u, v]).run P w = .ok v' w' ∧ K v' w') : OW P N ⟨dst, .call ⟨.builtin .unsafeString, #[x, y], tys⟩, t, pos, aft, g⟩ env w K := fun a ha next Q hn => by
  obtain ⟨v', w', h, hK⟩ := h
  have hr : (execOp a.eval ⟨dst, .call ⟨.builtin .unsafeString, #[x, y], tys⟩, t, pos, aft, g⟩).run P w = .ok (.value v') w' := by
    simp only [execOp, resolve, Sem.run_bind, Sem.run_pure, Result.andThen_ok, List.map_toArray, List.map_cons, List.map_nil, ha.eval hx, ha.eval hy, Go.invoke, Go.builtin, h]
  simp only [Oper.wp, hr, Oper.upon]
  exact hn _ _ hK
/-- a builder: its block's first two cells are its own; what else lies in the block ('rest') -/
def Bd (T e : TypeId) (rest : List Value) (s : ByteArray) (b : Nat) : HProp := fun h => ∃ p v, (p = .pointer none ∨ p = pV b) ∧ Off0 v ∧ spl [Cl b (p :: v :: rest) T, OSl e 1 v s.size (Lib.strCells s)] h
theorem Bd.o {T e : TypeId} {rest : List Value} {s : ByteArray} {b : Nat} (h : St B w (Bd T e rest s b :: l) hf) :
    ∃ p v, (p = .pointer none ∨ p = pV b) ∧ Off0 v ∧ St B w (Cl b (p :: v :: rest) T :: OSl e 1 v s.size (Lib.strCells s) :: l) hf := by
  obtain ⟨h1, ⟨p, v, hp, hv, hA⟩, hs, hd, hr⟩ := h.own
  exact ⟨p, v, hp, hv, St.splO (ps := [Cl b (p :: v :: rest) T, OSl e 1 v s.size (Lib.strCells s)]) ⟨h.base, h.sub, h1, hA, hs, hd, hr⟩⟩
theorem Bd.c {T e : TypeId} {rest : List Value} {s : ByteArray} {b : Nat} {p v : Value} (hp : p = .pointer none ∨ p = pV b) (hv : Off0 v) (h : St B w (Cl b (p :: v :: rest) T :: OSl e 1 v s.size (Lib.strCells s) :: l) hf) : St B w (Bd T e rest s b :: l) hf :=
  (St.splC (ps := [Cl b (p :: v :: rest) T, OSl e 1 v s.size (Lib.strCells s)]) h).imp fun k hk => ⟨p, v, hp, hv, hk⟩
/-- a builder that was never written -/
theorem Bd.new {T : TypeId} (e : TypeId) {rest : List Value} {b : Nat} (h : St B w (Cl b (.pointer none :: .slice none 0 0 :: rest) T :: l) hf) : St B w (Bd T e rest ByteArray.empty b :: l) hf := by
  refine Bd.c (.inl rfl) (.inl rfl) ?_
  have h1 : St B w (OSl e 1 (.slice none 0 0) 0 [] :: Cl b (.pointer none :: .slice none 0 0 :: rest) T :: l) hf := St.emp h _ ⟨rfl, .inl ⟨rfl, rfl, fun _ => rfl⟩⟩
  exact h1.perm (List.Perm.swap _ _ _)
theorem Vl.ldB {dst : Option Tmp} {t ty T e : TypeId} {pos : String} {aft : Array Edge} {g : Option (Nat × Bool)} {x : Operand} {rest : List Value} {s : ByteArray} {b k : Nat} {v : Value} (i : Nat) (hS : St B w l hf) (hg : ∀ w, (isAgg ty).run P w = .ok false w) (hx : ev env x = some (.pointer (some ⟨b, k + 2, none⟩)))
    (h : l[i]? = some (Bd T e rest s b)) (ho : rest[k]? = some v) : Vl P N ⟨dst, .load ty x, t, pos, aft, g⟩ env w v := by
  obtain ⟨p, u, hp, hv, h1⟩ := Bd.o (hS.pull i h rfl)
  exact Vl.load hg hx (h1.cell (off := k + 2) 0 rfl ho)
theorem OW.stB {dst : Option Tmp} {t ty T e : TypeId} {pos : String} {aft : Array Edge} {g : Option (Nat × Bool)} {x y : Operand} {rest : List Value} {s : ByteArray} {b k : Nat} {v : Value} {l' : List HProp} (i : Nat) (hS : St B w l hf) (h : l[i]? = some (Bd T e rest s b)) (el : l.eraseIdx i = l')
    (hx : ev env x = some (.pointer (some ⟨b, k + 2, none⟩))) (hy : ev env y = some v) (hc : v.cells.toList = [v]) (hz : ∀ w, (sizeOf ty).run P w = .ok 1 w) (h1 : [v].all Value.oneCell' = true) (hk : k < rest.length) :
    OW P N ⟨dst, .store ty x y, t, pos, aft, g⟩ env w (fun r w' => r = undef ∧ St B w' (Bd T e (setR rest k [v]) s b :: l') hf) := by
  subst el
  obtain ⟨p, u, hp, hv, h2⟩ := Bd.o (hS.pull i h rfl)
  have hst := OW.store (P := P) (N := N) (env := env) (w := w) (dst := dst) (t := t) (pos := pos) (aft := aft) (g := g) (T := T) (ty := ty) (cs := p :: u :: rest) (off := k + 2) (sz := 1) (vs := [v]) 0 h2 rfl hx hy hc hz rfl h1 (Nat.ble_eq_true_of_le (by simp; omega)) rfl
  exact fun a ha next Q hn => hst a ha next Q fun r w' ⟨hr, h3⟩ => hn r w' ⟨hr, Bd.c hp hv h3⟩
end
end Go.Sl
