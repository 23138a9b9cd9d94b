/-
  The own separation logic for the walks, part 19.
-/
import Derived.Test.YtpheghebfodiiaaGreatDoorSl18
set_option linter.unusedVariables false
set_option linter.unusedSimpArgs false
set_option linter.unusedSectionVars false
namespace Go.Sl
/-! ### 31. Maps told by lists: each key stands once -/
section
variable {κ ν : Type} [DecidableEq κ]
def findE : List (κ × ν) → κ → Nat → Option (Nat × ν)
  | [], _, _ => none
  | e :: es, k, i => if e.1 = k then some (i, e.2) else findE es k (i + 1)
def mget (es : List (κ × ν)) (k : κ) : Option ν := (findE es k 0).map (·.2)
def mset (es : List (κ × ν)) (k : κ) (v : ν) : List (κ × ν) := match findE es k 0 with
  | some r => es.set r.1 (k, v)
  | none => es ++ [(k, v)]
def mdel (es : List (κ × ν)) (k : κ) : List (κ × ν) := match findE es k 0 with
  | some r => es.eraseIdx r.1
  | none => es
/-- the entries of a map are those of a list -/
def MR (kv : κ → Value) (vv : ν → Value) (m : List MapEntry) (es : List (κ × ν)) : Prop := m.map (fun e => (e.key, e.val)) = es.map (fun e => (kv e.1, vv e.2))
/-- the entries' stamps: each another one, all elder than the map's clock -/
def MB (m : List MapEntry) (c : Nat) : Prop := (m.map (·.born)).Nodup ∧ ∀ x ∈ m, x.born < c
theorem MB.nil {c : Nat} : MB [] c := ⟨List.Pairwise.nil, fun x h => by cases h⟩
theorem MB.push {m : List MapEntry} {c : Nat} (h : MB m c) (k v : Value) : MB (m ++ [({ key := k, val := v, born := c } : MapEntry)]) (c + 1) := by
  refine ⟨?_, fun x hx => ?_⟩
  · rw [List.map_append, List.nodup_append]
    refine ⟨h.1, by simp, fun a ha b hb => ?_⟩
    obtain ⟨x, hx, rfl⟩ := List.mem_map.1 ha
    have hb : b = c := by simpa using hb
    have := h.2 x hx
    omega
  · rcases List.mem_append.1 hx with hx | hx
    · have := h.2 x hx
      omega
    · rw [List.mem_singleton.1 hx]
      exact Nat.lt_succ_self c
theorem MB.set {m : List MapEntry} {c : Nat} (h : MB m c) (j : Nat) (k v : Value) : MB (m.modify j fun e => { e with key := k, val := v }) c := by
  have e : (m.modify j fun e => { e with key := k, val := v }).map (·.born) = m.map (·.born) := by
    apply List.ext_getElem?
    intro i
    simp only [List.getElem?_map, List.getElem?_modify]
    cases m[i]? with
    | none => simp
    | some x => by_cases hji : j = i <;> simp [hji]
  refine ⟨by rw [e]; exact h.1, fun x hx => ?_⟩
  have hm : x.born ∈ (m.modify j fun e => { e with key := k, val := v }).map (·.born) := List.mem_map_of_mem hx
  rw [e] at hm
  obtain ⟨y, hy, e2⟩ := List.mem_map.1 hm
  have := h.2 y hy
  omega
theorem MB.erase {m : List MapEntry} {c : Nat} (h : MB m c) (j : Nat) : MB (m.eraseIdx j) c := by
  have hs : (m.eraseIdx j).Sublist m := List.eraseIdx_sublist m j
  exact ⟨h.1.sublist (hs.map _), fun x hx => h.2 x (hs.subset hx)⟩
def MapF (kv : κ → Value) (vv : ν → Value) (b : Nat) (es : List (κ × ν)) : HProp := fun h => ∃ (m : List MapEntry) (c : Nat), (MR kv vv m es ∧ MB m c) ∧ pts b (.map m.toArray c) h
/-- what is asked of a key's type -/
structure KeyOK (P : Program) (kt : TypeId) (kv : κ → Value) : Prop where
  chk : ∀ (e : Bool) (x : κ) (w : World), (Instr.checkKey e 10000 kt (kv x)).run P w = .ok () w
  eq : ∀ (x y : κ) (w : World), (Op.equal kt (kv x) (kv y)).run P w = .ok (decide (x = y)) w
  now : ∃ d, P.underlying kt = some d ∧ ∀ x y : κ, Instr.sameNow d (kv x) (kv y) = none ∨ Instr.sameNow d (kv x) (kv y) = some (decide (x = y))
  same : ∀ x : κ, Instr.sameBits 10000 (kv x) (kv x) = true
variable {P : Program} {kt : TypeId} {kv : κ → Value} {vv : ν → Value}
theorem find_now {d : TypeDesc} (hd : ∀ x y : κ, Instr.sameNow d (kv x) (kv y) = none ∨ Instr.sameNow d (kv x) (kv y) = some (decide (x = y))) (x : κ) : ∀ (m : List MapEntry) (es : List (κ × ν)) (i : Nat), MR kv vv m es →
    Instr.findNow d (kv x) m i = none ∨ Instr.findNow d (kv x) m i = some ((findE es x i).map fun r => (r.1, vv r.2))
  | [], [], i, _ => .inr rfl
  | [], e :: es, i, h => by simp [MR] at h
  | a :: m, [], i, h => by simp [MR] at h
  | a :: m, e :: es, i, h => by
    simp only [MR, List.map_cons, List.cons.injEq, Prod.mk.injEq] at h
    obtain ⟨⟨h1, h2⟩, h3⟩ := h
    unfold Instr.findNow findE
    rw [h1, h2]
    rcases hd x e.1 with hs | hs
    · rw [hs]; exact .inl rfl
    · rw [hs]
      by_cases hx : x = e.1
      · rw [decide_eq_true hx, if_pos hx.symm]; exact .inr rfl
      · rw [decide_eq_false hx, if_neg (Ne.symm hx)]
        exact find_now hd x m es (i + 1) h3
theorem find_asking (hk : ∀ (x y : κ) (w : World), (Op.equal kt (kv x) (kv y)).run P w = .ok (decide (x = y)) w) (x : κ) (w : World) : ∀ (m : List MapEntry) (es : List (κ × ν)) (i : Nat), MR kv vv m es →
    (Instr.findAsking kt (kv x) m i).run P w = .ok ((findE es x i).map fun r => (r.1, vv r.2)) w
  | [], [], i, _ => rfl
  | [], e :: es, i, h => by simp [MR] at h
  | a :: m, [], i, h => by simp [MR] at h
  | a :: m, e :: es, i, h => by
    simp only [MR, List.map_cons, List.cons.injEq, Prod.mk.injEq] at h
    obtain ⟨⟨h1, h2⟩, h3⟩ := h
    unfold Instr.findAsking findE
    simp only [Sem.run_bind, h1, h2, hk x e.1 w, Result.andThen_ok]
    by_cases hx : x = e.1
    · rw [decide_eq_true hx, if_pos hx.symm, if_pos rfl]; rfl
    · rw [decide_eq_false hx, if_neg (Ne.symm hx), if_neg (by simp)]
      exact find_asking hk x w m es (i + 1) h3
theorem KeyOK.find (hk : KeyOK P kt kv) (x : κ) (w : World) {m : List MapEntry} {es : List (κ × ν)} (h : MR kv vv m es) : (Instr.findKey kt (kv x) m).run P w = .ok ((findE es x 0).map fun r => (r.1, vv r.2)) w := by
  obtain ⟨d, hu, hd⟩ := hk.now
  unfold Instr.findKey
  simp only [Sem.run_bind, run_underlying hu, Result.andThen_ok]
  rcases find_now hd x m es 0 h with h1 | h1
  · rw [h1]; exact find_asking hk.eq x w m es 0 h
  · rw [h1]; rfl
theorem findE_get {k : κ} : ∀ (es : List (κ × ν)) (i j : Nat) (v : ν), findE es k i = some (j, v) → i ≤ j ∧ es[j - i]? = some (k, v)
  | [], i, j, v, h => by cases h
  | e :: es, i, j, v, h => by
    unfold findE at h
    split at h
    · rename_i he
      cases h
      refine ⟨Nat.le_refl _, ?_⟩
      rw [Nat.sub_self, List.getElem?_cons_zero, ← he]
    · obtain ⟨h1, h2⟩ := findE_get es (i + 1) j v h
      refine ⟨by omega, ?_⟩
      rw [show j - i = (j - (i + 1)) + 1 by omega, List.getElem?_cons_succ]
      exact h2
theorem MR.set {m : List MapEntry} {es : List (κ × ν)} (h : MR kv vv m es) (i : Nat) (k : κ) (v : ν) : MR kv vv (m.modify i fun e => { e with key := kv k, val := vv v }) (es.set i (k, v)) := by
  unfold MR at *
  apply List.ext_getElem?
  intro j
  have hj := congrArg (fun l => l[j]?) h
  simp only [List.getElem?_map, List.getElem?_modify, List.getElem?_set] at *
  by_cases e : i = j
  · subst e
    rw [if_pos rfl]
    cases hm : m[i]? with
    | none =>
      rw [hm] at hj
      have : es[i]? = none := by cases he : es[i]? with
        | none => rfl
        | some y => rw [he] at hj; cases hj
      have hl : ¬ i < es.length := by simpa using this
      rw [if_neg hl]
      rfl
    | some y =>
      rw [hm] at hj
      have hl : i < es.length := by
        cases he : es[i]? with
        | none => rw [he] at hj; cases hj
        | some z => exact (List.getElem?_eq_some_iff.1 he).1
      rw [if_pos hl]
      simp
  · rw [if_neg e]
    simpa [e] using hj
theorem MR.push {m : List MapEntry} {es : List (κ × ν)} (h : MR kv vv m es) (k : κ) (v : ν) (c : Nat) : MR kv vv (m ++ [{ key := kv k, val := vv v, born := c }]) (es ++ [(k, v)]) := by
  unfold MR at *
  simp [h]
theorem MR.erase {m : List MapEntry} {es : List (κ × ν)} (h : MR kv vv m es) (i : Nat) : MR kv vv (m.eraseIdx i) (es.eraseIdx i) := by
  unfold MR at *
  apply List.ext_getElem?
  intro j
  have hj : ∀ j : Nat, (m[j]?).map (fun e => (e.key, e.val)) = (es[j]?).map (fun e => (kv e.1, vv e.2)) := fun j => by
    have := congrArg (fun l => l[j]?) h
    simpa only [List.getElem?_map] using this
  simp only [List.getElem?_map, List.getElem?_eraseIdx]
  split
  · exact hj j
  · exact hj (j + 1)
end
section
variable {κ ν : Type} [DecidableEq κ] {P : Program} {kt e : TypeId} {kv : κ → Value} {vv : ν → Value} {B : Base} {w : World} {l : List HProp} {hf : Hp} {N : Fr} {env : Env} {dst : Option Tmp} {t ty : TypeId} {pos : String} {aft : Array Edge} {g : Option (Nat × Bool)}
theorem St.mapO {b : Nat} {es : List (κ × ν)} (hS : St B w l hf) (i : Nat) (hi : l[i]? = some (MapF kv vv b es)) : ∃ (m : List MapEntry) (c : Nat), (MR kv vv m es ∧ MB m c) ∧ St B w (pts b (.map m.toArray c) :: l.eraseIdx i) hf := by
  have hP := hS.pull i hi rfl
  obtain ⟨h1, ⟨m, c, hm, hA⟩, hs, hd, hr⟩ := hP.own
  exact ⟨m, c, hm, ⟨hP.base, hP.sub, h1, hA, hs, hd, hr⟩⟩
theorem OW.makeMapF (hS : St B w l hf) : OW P N ⟨dst, .makeMap ty none, t, pos, aft, g⟩ env w (fun v' w' => ∃ b, v' = .map (some b) ∧ St B w' (MapF kv vv b ([] : List (κ × ν)) :: l) hf) := fun a ha next Q hn => by
  refine OW.makeMapL hS a ha next Q fun v' w' ⟨b, e1, e2⟩ => hn v' w' ⟨b, e1, ?_⟩
  exact e2.imp fun h hh => ⟨[], 0, ⟨rfl, MB.nil⟩, hh⟩
theorem Vl.lookupF {m key : Operand} {b : Nat} {es : List (κ × ν)} {k : κ} {z : ν} (i : Nat) (hS : St B w l hf) (hi : l[i]? = some (MapF kv vv b es)) (hk : KeyOK P kt kv) (hu : P.underlying ty = some (.map kt e)) (hz : ∀ w, (zeroValue e).run P w = .ok (vv z) w)
    (hm : ev env m = some (.map (some b))) (hkey : ev env key = some (kv k)) : Vl P N ⟨dst, .lookup ty m key false, t, pos, aft, g⟩ env w (vv ((mget es k).getD z)) := fun a ha => by
  obtain ⟨em, c, ⟨hR, hB⟩, hS'⟩ := hS.mapO i hi
  have hb := hS'.blk 0 rfl
  have hf1 := hk.find k w hR
  unfold mget
  simp only [execOp, ha.eval hm, ha.eval hkey, Instr.lookup, Sem.run_bind, run_underlying hu, Result.andThen_ok, MapKept.run_getObj_map hb, Sem.run_pure, hk.chk, List.toList_toArray, hf1]
  cases findE es k 0 with
  | none => simp [hz]
  | some r => simp
theorem Vl.lookupF2 {m key : Operand} {b : Nat} {es : List (κ × ν)} {k : κ} {z : ν} (i : Nat) (hS : St B w l hf) (hi : l[i]? = some (MapF kv vv b es)) (hk : KeyOK P kt kv) (hu : P.underlying ty = some (.map kt e)) (hz : ∀ w, (zeroValue e).run P w = .ok (vv z) w)
    (hm : ev env m = some (.map (some b))) (hkey : ev env key = some (kv k)) : Vl P N ⟨dst, .lookup ty m key true, t, pos, aft, g⟩ env w (.tuple #[vv ((mget es k).getD z), .bool (mget es k).isSome]) := fun a ha => by
  obtain ⟨em, c, ⟨hR, hB⟩, hS'⟩ := hS.mapO i hi
  have hb := hS'.blk 0 rfl
  have hf1 := hk.find k w hR
  unfold mget
  simp only [execOp, ha.eval hm, ha.eval hkey, Instr.lookup, Sem.run_bind, run_underlying hu, Result.andThen_ok, MapKept.run_getObj_map hb, Sem.run_pure, hk.chk, List.toList_toArray, hf1]
  cases findE es k 0 with
  | none => simp [hz]
  | some r => simp
/-- the world behind an object that is set anew -/
theorem St.setMap {b : Nat} {o o' : Obj} {L : List HProp} (hS : St B w (pts b o :: L) hf) : St B ({ w with heap := w.heap.setIfInBounds b o' } : World) (pts b o' :: L) hf := by
  have hb := hS.blk 0 rfl
  have hlt : b < w.heap.size := (Array.getElem?_eq_some_iff.1 hb).1
  refine hS.setAt (o' := o') 0 rfl ?_ (fun b' hb' => ?_) ?_ rfl
  · rfl
  · simp only [hp]
    rw [Array.getElem?_setIfInBounds_ne (Ne.symm hb')]
  · simp only [hp]
    rw [Array.getElem?_setIfInBounds_self_of_lt hlt]
theorem OW.mapUpdF {m key x : Operand} {b : Nat} {es : List (κ × ν)} {k : κ} {v : ν} {l' : List HProp} (i : Nat) (hS : St B w l hf) (hi : l[i]? = some (MapF kv vv b es)) (hk : KeyOK P kt kv) (hu : P.underlying ty = some (.map kt e))
    (hm : ev env m = some (.map (some b))) (hkey : ev env key = some (kv k)) (hx : ev env x = some (vv v)) (el : l.eraseIdx i = l') :
    OW P N ⟨dst, .mapUpdate ty m key x, t, pos, aft, g⟩ env w (fun v' w' => v' = undef ∧ St B w' (MapF kv vv b (mset es k v) :: l') hf) := fun a ha next Q hn => by
  subst el
  obtain ⟨em, c, ⟨hR, hB⟩, hS'⟩ := hS.mapO i hi
  have hb := hS'.blk 0 rfl
  have hf1 := hk.find k w hR
  cases hE : findE es k 0 with
  | none =>
    rw [hE] at hf1
    have hr : (execOp a.eval ⟨dst, .mapUpdate ty m key x, t, pos, aft, g⟩).run P w = .ok .skip ({ w with heap := w.heap.setIfInBounds b (.map (em ++ [({ key := kv k, val := vv v, born := c } : MapEntry)]).toArray (c + 1)) } : World) := by
      simp only [execOp, ha.eval hm, ha.eval hkey, ha.eval hx, Instr.mapUpdate, Sem.run_bind, run_underlying hu, Result.andThen_ok, MapKept.run_getObj_map hb, Sem.run_pure, hk.chk, List.toList_toArray, hf1, Option.map_none, List.push_toArray, MapKept.run_setObj_map _ hb]
    simp only [Oper.wp, hr, Oper.upon]
    refine hn _ _ ⟨rfl, (hS'.setMap).imp fun h hh => ⟨_, _, ?_, hh⟩⟩
    unfold mset
    rw [hE]
    exact ⟨hR.push k v c, hB.push _ _⟩
  | some r =>
    obtain ⟨j, v0⟩ := r
    rw [hE] at hf1
    obtain ⟨_, hj⟩ := findE_get es 0 j v0 hE
    rw [Nat.sub_zero] at hj
    have hmj : (em[j]?).map (fun e => (e.key, e.val)) = some (kv k, vv v0) := by
      have := congrArg (fun l => l[j]?) hR
      simp only [List.getElem?_map, hj, Option.map_some] at this
      exact this
    have hkey' : ((em[j]?).map (·.key)).getD (kv k) = kv k := by
      cases he : em[j]? with
      | none => rfl
      | some y => rw [he] at hmj; simp only [Option.map_some, Option.some.injEq, Prod.mk.injEq] at hmj; simp [hmj.1]
    have hr : (execOp a.eval ⟨dst, .mapUpdate ty m key x, t, pos, aft, g⟩).run P w = .ok .skip ({ w with heap := w.heap.setIfInBounds b (.map (em.modify j fun e => { e with key := kv k, val := vv v }).toArray c) } : World) := by
      have hks : (Instr.keyThatStays (kv k) (kv k)).run P w = .ok (kv k) w := by
        unfold Instr.keyThatStays; rw [if_pos (hk.same k)]; rfl
      simp only [execOp, ha.eval hm, ha.eval hkey, ha.eval hx, Instr.mapUpdate, Sem.run_bind, run_underlying hu, Result.andThen_ok, MapKept.run_getObj_map hb, Sem.run_pure, hk.chk, List.toList_toArray, hf1, Option.map_some, List.getElem?_toArray, hkey', hks, List.modify_toArray, MapKept.run_setObj_map _ hb]
    simp only [Oper.wp, hr, Oper.upon]
    refine hn _ _ ⟨rfl, (hS'.setMap).imp fun h hh => ⟨_, _, ?_, hh⟩⟩
    unfold mset
    rw [hE]
    exact ⟨hR.set j k v, hB.set j _ _⟩
theorem OW.mapDelF {m key : Operand} {b : Nat} {kt' : TypeId} {es : List (κ × ν)} {k : κ} {l' : List HProp} (i : Nat) (hS : St B w l hf) (hi : l[i]? = some (MapF kv vv b es)) (hk : KeyOK P kt kv) (hu : P.underlying ty = some (.map kt e))
    (hm : ev env m = some (.map (some b))) (hkey : ev env key = some (kv k)) (el : l.eraseIdx i = l') :
    OW P N ⟨dst, .call ⟨.builtin .delete, #[m, key], #[ty, kt']⟩, t, pos, aft, g⟩ env w (fun v' w' => v' = .tuple #[] ∧ St B w' (MapF kv vv b (mdel es k) :: l') hf) := fun a ha next Q hn => by
  subst el
  obtain ⟨em, c, ⟨hR, hB⟩, hS'⟩ := hS.mapO i hi
  have hb := hS'.blk 0 rfl
  have hf1 := hk.find k w hR
  cases hE : findE es k 0 with
  | none =>
    rw [hE] at hf1
    have hr : (execOp a.eval ⟨dst, .call ⟨.builtin .delete, #[m, key], #[ty, kt']⟩, t, pos, aft, g⟩).run P w = .ok (.value (.tuple #[])) ({ w with heap := w.heap.setIfInBounds b (.map em.toArray c) } : World) := by
      have hrun : (Builtin.delete_ #[ty, kt'] t #[.map (some b), kv k]).run P w = .ok (.tuple #[]) ({ w with heap := w.heap.setIfInBounds b (.map em.toArray c) } : World) := by
        simp [Builtin.delete_, run_underlying hu, MapKept.run_getObj_map hb, hk.chk, hf1, MapKept.run_setObj_map _ hb, Result.andThen]
      simp only [execOp, resolve, Sem.run_bind, Sem.run_pure, Result.andThen_ok, List.map_toArray, List.map_cons, List.map_nil, ha.eval hm, ha.eval hkey, Go.invoke, Go.builtin, hrun]
    simp only [Oper.wp, hr, Oper.upon]
    refine hn _ _ ⟨rfl, (hS'.setMap).imp fun h hh => ⟨_, _, ?_, hh⟩⟩
    unfold mdel
    rw [hE]
    exact ⟨hR, hB⟩
  | some r =>
    obtain ⟨j, v0⟩ := r
    rw [hE] at hf1
    have hr : (execOp a.eval ⟨dst, .call ⟨.builtin .delete, #[m, key], #[ty, kt']⟩, t, pos, aft, g⟩).run P w = .ok (.value (.tuple #[])) ({ w with heap := w.heap.setIfInBounds b (.map (em.eraseIdx j).toArray c) } : World) := by
      have hrun : (Builtin.delete_ #[ty, kt'] t #[.map (some b), kv k]).run P w = .ok (.tuple #[]) ({ w with heap := w.heap.setIfInBounds b (.map (em.eraseIdx j).toArray c) } : World) := by
        simp [Builtin.delete_, run_underlying hu, MapKept.run_getObj_map hb, hk.chk, hf1, MapKept.run_setObj_map _ hb, Result.andThen]
      simp only [execOp, resolve, Sem.run_bind, Sem.run_pure, Result.andThen_ok, List.map_toArray, List.map_cons, List.map_nil, ha.eval hm, ha.eval hkey, Go.invoke, Go.builtin, hrun]
    simp only [Oper.wp, hr, Oper.upon]
    refine hn _ _ ⟨rfl, (hS'.setMap).imp fun h hh => ⟨_, _, ?_, hh⟩⟩
    unfold mdel
    rw [hE]
    exact ⟨hR.erase j, hB.erase j⟩
end
/-- a row's first ones, with all the room that there was -/
theorem St.part0 {α : Type} {E : Fl α} {B : Base} {w : World} {l : List HProp} {hf : Hp} (hS : St B w l hf) (i : Nat) {e : TypeId} {A : Option Addr} {n c : Nat} {xs : List α} (hi : l[i]? = some (OSf E e (.slice A n c) xs)) {b : Int} (h0 : 0 ≤ b) (h2 : b ≤ (xs.length : Int)) {l' : List HProp}
    (el : l.set i (OSf E e (.slice (subA A c (0 : Int).toNat E.sz) (subL xs 0 b).length (c - (0 : Int).toNat)) (subL xs 0 b)) = l') : St B w l' hf := by
  obtain ⟨e1, e2, _⟩ := hS.osN i hi
  exact hS.part i hi (lo := 0) (up := b) (m := c) (Int.le_refl 0) h0 h2 (by omega) (Nat.le_refl _) el
theorem run_checkKey_int1 {P : Program} {k : TypeId} {q q' : IntKind} {e : Bool} {n : Nat} {m : Int} {w : World} (hk : P.underlying k = some (.int q)) : (Instr.checkKey e (n + 1) k (.int q' m)).run P w = .ok () w := by
  unfold Instr.checkKey
  simp [run_underlying hk]
theorem KeyOK.int {P : Program} {kt : TypeId} {q : IntKind} (hu : P.underlying kt = some (.int q)) : KeyOK P kt (fun n : Int => Value.int q n) := by
  refine ⟨fun e x w => ?_, fun x y w => ?_, ⟨_, hu, fun x y => .inr ?_⟩, fun x => ?_⟩
  · unfold Instr.checkKey
    simp [run_underlying hu]
  · unfold Op.equal Op.equalIn
    simp [run_underlying hu, Op.maxDepth]
    by_cases h : x = y <;> simp [h]
  · simp [Instr.sameNow]
    by_cases h : x = y <;> simp [h]
  · simp [Instr.sameBits]
end Go.Sl
