/-
  The own separation logic for the walks, part 22.
-/
import Derived.Test.YtpheghebfodiiaaGreatDoorSl21
set_option linter.unusedVariables false
set_option linter.unusedSimpArgs false
set_option linter.unusedSectionVars false
namespace Go.Sl
/-! ### 36. Rows of objects: the row of their blocks' numbers, and the objects themselves -/
def FP : Fl Nat := ⟨fun b => [pV b], 1, fun _ => rfl, fun x v h => by
  simp only [List.mem_cons, List.not_mem_nil, or_false] at h
  subst h; rfl⟩
section
variable {α β : Type} {O O' : α → β → HProp} {B : Base} {w : World} {l : List HProp} {hf : Hp} {xs : List α} {bs : List β}
/-- the objects xs lie at the blocks bs -/
def SepL (O : α → β → HProp) (xs : List α) (bs : List β) : HProp := fun h => xs.length = bs.length ∧ spl (List.zipWith O xs bs) h
/-- all but the one at i -/
def SepH (O : α → β → HProp) (xs : List α) (bs : List β) (i : Int) : HProp := fun h => xs.length = bs.length ∧ spl ((List.zipWith O xs bs).eraseIdx i.toNat) h
theorem St.fact {A C : HProp} {p : Prop} (hS : St B w (A :: l) hf) (h : ∀ k, A k → p ∧ C k) : p ∧ St B w (C :: l) hf := by
  obtain ⟨h1, hA, hs, hd, hr⟩ := hS.own
  exact ⟨(h _ hA).1, hS.base, hS.sub, h1, (h _ hA).2, hs, hd, hr⟩
theorem St.sepNil (hS : St B w l hf) : St B w (SepL O [] [] :: l) hf := hS.emp0.imp fun _ h => ⟨rfl, h⟩
theorem St.sepLen (hS : St B w (SepL O xs bs :: l) hf) : xs.length = bs.length := (hS.fact (C := SepL O xs bs) fun _ h => ⟨h.1, h⟩).1
theorem St.sepTake [Inhabited α] [Inhabited β] {i : Int} (hS : St B w (SepL O xs bs :: l) hf) (h0 : 0 ≤ i) (h1 : i < (xs.length : Int)) : St B w (O (nth xs i) (nth bs i) :: SepH O xs bs i :: l) hf := by
  have hl := hS.sepLen
  have hS := (hS.imp (A' := spl (List.zipWith O xs bs)) fun _ h => h.2).splO
  have hi : i.toNat < (List.zipWith O xs bs).length := by rw [List.length_zipWith]; omega
  have hp : (List.zipWith O xs bs ++ l).Perm ((List.zipWith O xs bs).eraseIdx i.toNat ++ ((List.zipWith O xs bs)[i.toNat] :: l)) :=
    (((erase_perm _ _ hi).symm.append_right l).trans (List.perm_middle.symm))
  have hS := (hS.perm hp).splC
  have e : (List.zipWith O xs bs)[i.toNat] = O (nth xs i) (nth bs i) := by
    rw [List.getElem_zipWith]
    simp only [nth, List.getD_eq_getElem?_getD]
    rw [List.getElem?_eq_getElem (by omega), List.getElem?_eq_getElem (by omega)]
    rfl
  rw [e] at hS
  exact (hS.imp (A' := SepH O xs bs i) fun _ h => ⟨hl, h⟩).perm (List.Perm.swap _ _ _)
theorem St.sepPut [Inhabited β] {i : Int} {x : α} (hS : St B w (O x (nth bs i) :: SepH O xs bs i :: l) hf) (h0 : 0 ≤ i) (h1 : i < (xs.length : Int)) : St B w (SepL O (setL xs i x) bs :: l) hf := by
  have hS := hS.perm (List.Perm.swap _ _ _)
  have hl : xs.length = bs.length := (hS.fact (C := SepH O xs bs i) fun _ h => ⟨h.1, h⟩).1
  have hS := (hS.imp (A' := spl ((List.zipWith O xs bs).eraseIdx i.toNat)) fun _ h => h.2).splO
  have hi : i.toNat < (List.zipWith O xs bs).length := by rw [List.length_zipWith]; omega
  have e : (List.zipWith O xs bs).set i.toNat (O x (nth bs i)) = List.zipWith O (setL xs i x) bs := by
    unfold setL
    apply List.ext_getElem?
    intro j
    rw [List.getElem?_set, List.getElem?_zipWith, List.getElem?_zipWith, List.getElem?_set]
    have hx : xs[i.toNat]? = some (xs[i.toNat]'(by omega)) := List.getElem?_eq_getElem (by omega)
    have hb : bs[i.toNat]? = some (nth bs i) := by
      rw [List.getElem?_eq_getElem (by omega)]
      simp only [nth, List.getD_eq_getElem?_getD]
      rw [List.getElem?_eq_getElem (by omega)]
      rfl
    by_cases hj : i.toNat = j
    · subst hj
      rw [if_pos rfl, if_pos rfl, if_pos hi, if_pos (by omega), hb]
    · rw [if_neg hj, if_neg hj]
  have hp : ((List.zipWith O xs bs).eraseIdx i.toNat ++ (O x (nth bs i) :: l)).Perm (List.zipWith O (setL xs i x) bs ++ l) := by
    rw [← e]
    exact (List.perm_middle).trans ((perm_set _ _ _ hi).append_right l)
  exact (hS.perm hp).splC.imp fun _ h => ⟨by rw [setL_len]; exact hl, h⟩
theorem St.sepSnoc {x : α} {b : β} (hS : St B w (SepL O xs bs :: O x b :: l) hf) : St B w (SepL O (xs ++ [x]) (bs ++ [b]) :: l) hf := by
  have hl := hS.sepLen
  have hS := (hS.imp (A' := spl (List.zipWith O xs bs)) fun _ h => h.2).splO
  have e : List.zipWith O (xs ++ [x]) (bs ++ [b]) = List.zipWith O xs bs ++ [O x b] := by
    rw [List.zipWith_append hl]; rfl
  have hS : St B w (List.zipWith O (xs ++ [x]) (bs ++ [b]) ++ l) hf := by
    rw [e, List.append_assoc]; exact hS
  exact hS.splC.imp fun _ h => ⟨by simp [hl], h⟩
theorem spl_zip (hO : ∀ x b h, O x b h → O' x b h) : ∀ (xs : List α) (bs : List β) h, spl (List.zipWith O xs bs) h → spl (List.zipWith O' xs bs) h
  | [], _, _, h => by simpa using h
  | _ :: _, [], _, h => by simpa using h
  | x :: xs, b :: bs, _, ⟨h1, h2, a, c, d, e⟩ => ⟨h1, h2, hO _ _ _ a, spl_zip hO xs bs _ c, d, e⟩
theorem spl_zipE (hO : ∀ x b h, O x b h → O' x b h) : ∀ (xs : List α) (bs : List β) (i : Nat) h, spl ((List.zipWith O xs bs).eraseIdx i) h → spl ((List.zipWith O' xs bs).eraseIdx i) h
  | [], _, _, _, h => by simpa using h
  | _ :: _, [], _, _, h => by simpa using h
  | x :: xs, b :: bs, 0, _, h => spl_zip hO xs bs _ h
  | x :: xs, b :: bs, i + 1, _, ⟨h1, h2, a, c, d, e⟩ => ⟨h1, h2, hO _ _ _ a, spl_zipE hO xs bs i _ c, d, e⟩
theorem SepL.m (hO : ∀ x b h, O x b h → O' x b h) {h : Hp} (hh : SepL O xs bs h) : SepL O' xs bs h := ⟨hh.1, spl_zip hO _ _ _ hh.2⟩
theorem SepH.m (hO : ∀ x b h, O x b h → O' x b h) {i : Int} {h : Hp} (hh : SepH O xs bs i h) : SepH O' xs bs i h := ⟨hh.1, spl_zipE hO _ _ _ _ hh.2⟩
end
/-! ### 37. Maps of known entries: 'v, ok := m[k]' by an open key -/
section
variable {P : Program} {N : Fr} {env : Env} {B : Base} {w : World} {l : List HProp} {hf : Hp} {dst : Option Tmp} {t : TypeId} {pos : String} {aft : Array Edge} {g : Option (Nat × Bool)}
theorem Vl.lookupC {ty k e : TypeId} {q : IntKind} {m key : Operand} {b c j : Nat} {n n' : Int} {v : Value} {es : List MapEntry} (i : Nat) (hS : St B w l hf) (hi : l[i]? = some (MapL b es c))
    (hu : P.underlying ty = some (.map k e)) (hk : P.underlying k = some (.int q)) (hm : ev env m = some (.map (some b))) (hkey : ev env key = some (.int q n)) (hn : n = n')
    (hf' : Instr.findNow (.int q) (.int q n') es 0 = some (some (j, v))) : Vl P N ⟨dst, .lookup ty m key true, t, pos, aft, g⟩ env w (.tuple #[v, .bool true]) := fun a ha => by
  subst hn
  have hb := hS.blk i hi
  have hfk : (Instr.findKey k (.int q n) es.toArray.toList).run P w = .ok (some (j, v)) w := by
    simp [Instr.findKey, run_underlying hk, hf']
  have hfk' : (Instr.findKey k (.int q n) es).run P w = .ok (some (j, v)) w := by simpa using hfk
  simp [execOp, ha.eval hm, ha.eval hkey, Instr.lookup, run_underlying hu, MapKept.run_getObj_map hb, run_checkKey_int hk, hfk', Result.andThen]
/-- the keys of a map that an integer is not one of -/
def offK (q : IntKind) (n : Int) : List MapEntry → Prop
  | [] => True
  | e :: es => (∃ n', e.key = .int q n' ∧ ¬ n = n') ∧ offK q n es
theorem findNow_off {q : IntKind} {n : Int} : ∀ {es : List MapEntry} {i : Nat}, offK q n es → Instr.findNow (.int q) (.int q n) es i = some none
  | [], _, _ => rfl
  | e :: es, i, ⟨⟨n', he, hn⟩, h⟩ => by
    have : Instr.sameNow (.int q) (.int q n) e.key = some false := by
      rw [he]; simp [Instr.sameNow, hn]
    simp only [Instr.findNow, this]
    exact findNow_off h
theorem Vl.lookupN {ty k e : TypeId} {q : IntKind} {m key : Operand} {b c : Nat} {n : Int} {z : Value} {es : List MapEntry} (i : Nat) (hS : St B w l hf) (hi : l[i]? = some (MapL b es c))
    (hu : P.underlying ty = some (.map k e)) (hk : P.underlying k = some (.int q)) (hz : ∀ w, (zeroValue e).run P w = .ok z w) (hm : ev env m = some (.map (some b))) (hkey : ev env key = some (.int q n)) (hn : offK q n es) :
    Vl P N ⟨dst, .lookup ty m key true, t, pos, aft, g⟩ env w (.tuple #[z, .bool false]) := fun a ha => by
  have hb := hS.blk i hi
  have hfk : (Instr.findKey k (.int q n) es.toArray.toList).run P w = .ok none w := by
    simp [Instr.findKey, run_underlying hk, findNow_off hn]
  have hfk' : (Instr.findKey k (.int q n) es).run P w = .ok none w := by simpa using hfk
  simp [execOp, ha.eval hm, ha.eval hkey, Instr.lookup, run_underlying hu, MapKept.run_getObj_map hb, run_checkKey_int hk, hfk', hz, Result.andThen]
end
section
variable {P : Program} {N : Fr} {env : Env} {B : Base} {w : World} {l : List HProp} {hf : Hp} {dst : Option Tmp} {t : TypeId} {pos : String} {aft : Array Edge} {g : Option (Nat × Bool)}
theorem St.sepPut0 {α β : Type} [Inhabited α] [Inhabited β] {O : α → β → HProp} {xs : List α} {bs : List β} {i : Int} (hS : St B w (O (nth xs i) (nth bs i) :: SepH O xs bs i :: l) hf) (h0 : 0 ≤ i) (h1 : i < (xs.length : Int)) : St B w (SepL O xs bs :: l) hf := by
  have h := hS.sepPut h0 h1
  have e : setL xs i (nth xs i) = xs := by
    obtain ⟨h2, h3⟩ := nth_eq h0 h1
    unfold setL
    rw [h3]
    exact List.set_getElem_self h2
  rw [e] at h
  exact h
theorem Vl.lenO {x : Operand} {ty e : TypeId} {a' : Option Addr} {a n c : Nat} (hl : a = n) (hu : P.underlying ty = some (.slice e)) (hx : ev env x = some (.slice a' n c)) :
    Vl P N ⟨dst, .call ⟨.builtin .len, #[x], #[ty]⟩, t, pos, aft, g⟩ env w (.int .i64 (a : Int)) := by
  subst hl
  exact Vl.lenSl hu hx
end
section
variable {κ ν : Type} [DecidableEq κ] {kv : κ → Value} {vv : ν → Value} {P : Program} {N : Fr} {env : Env} {B : Base} {w : World} {l : List HProp} {hf : Hp} {dst : Option Tmp} {t : TypeId} {pos : String} {aft : Array Edge} {g : Option (Nat × Bool)}
theorem Vl.lenMapF {x : Operand} {ty kt e : TypeId} {b : Nat} {es : List (κ × ν)} (i : Nat) (hS : St B w l hf) (hi : l[i]? = some (MapF kv vv b es)) (hu : P.underlying ty = some (.map kt e)) (hx : ev env x = some (.map (some b))) :
    Vl P N ⟨dst, .call ⟨.builtin .len, #[x], #[ty]⟩, t, pos, aft, g⟩ env w (.int .i64 (es.length : Int)) := by
  obtain ⟨em, c, ⟨hR, hB⟩, hS'⟩ := hS.mapO i hi
  have hb := hS'.blk 0 rfl
  have hl : em.length = es.length := by have := congrArg List.length hR; simpa using this
  exact Vl.builtin (l := [x]) (vs := [.map (some b)]) (by simp [evs, hx]) (fun cs => by simp [Go.builtin, Builtin.len_, underlying, hu, goInt, MapKept.run_getObj_map hb, hl])
end
theorem le_app {a b c d e : Nat} (h : a = b) (hb : (a + c) * d ≤ e) : (b + c) * d ≤ e := by rw [← h]; exact hb
theorem lt_len {a b : Nat} {i : Int} (e : a = b) (h : i < (a : Int)) : i < (b : Int) := by rw [← e]; exact h
end Go.Sl
