/-
  The own separation logic for the walks, part 21.
-/
import Derived.Test.YtpheghebfodiiaaGreatDoorSl20
import Derived.KernelRfl
import Derived.Stop.Asserts
set_option linter.unusedVariables false
set_option linter.unusedSimpArgs false
set_option linter.unusedSectionVars false
namespace Go.Sl
/-! ### 33. A runner: operations on variables, as many as come one behind the other -/
inductive Pc where
  | c (b : Nat) (cs : List Value) (T : TypeId)
  | o (A : HProp)
@[reducible] def Pc.den : Pc → HProp
  | .c b cs T => Cl b cs T
  | .o A => A
def dens : List Pc → List HProp → List HProp
  | [], r => r
  | p :: L, r => p.den :: dens L r
class Rf (l : List HProp) (L : outParam (List Pc)) (r : outParam (List HProp)) : Prop where
  e : dens L r = l
instance (priority := 10) rfE {l : List HProp} : Rf l [] l := ⟨rfl⟩
instance (priority := 100) rfO {A : HProp} {l : List HProp} {L : List Pc} {r : List HProp} [h : Rf l L r] : Rf (A :: l) (.o A :: L) r := ⟨by rw [← h.e]; rfl⟩
instance (priority := 1000) rfC {b : Nat} {cs : List Value} {T : TypeId} {l : List HProp} {L : List Pc} {r : List HProp} [h : Rf l L r] : Rf (Cl b cs T :: l) (.c b cs T :: L) r := ⟨by rw [← h.e]; rfl⟩
inductive Kd where
  | no | sl | str | int (k : IntKind) | ok
/-- what is known of a type -/
structure Ti where
  agg : Bool
  sz : Nat
  offs : List (Nat × Nat)
  zero : List Value
  kd : Kd
def FlOK (P : Program) : List Field → List (Nat × Nat) → Prop
  | [], [] => True
  | f :: fs, o :: os => f.offset = o.1 ∧ (∃ n, o.2 = n + 1 ∧ ∀ w, (sizeOf f.type).run P w = .ok (n + 1) w) ∧ FlOK P fs os
  | _, _ => False
def KdOK (P : Program) (t : TypeId) : Kd → Prop
  | .no => True
  | .sl => ∃ e, P.underlying t = some (.slice e)
  | .str => P.underlying t = some .string
  | .int k => P.underlying t = some (.int k)
  | .ok => ∃ d, P.underlying t = some d ∧ isIface d = false
structure TiOK (P : Program) (t : TypeId) (i : Ti) : Prop where
  agg : ∀ w, (isAgg t).run P w = .ok i.agg w
  sz : ∀ w, (sizeOf t).run P w = .ok i.sz w
  offs : i.offs = [] ∨ ∃ fs, P.underlying t = some (.struct fs) ∧ FlOK P fs.toList i.offs
  zero : i.zero = [] ∨ ∃ z, (∀ w, (zeroValue t).run P w = .ok z w) ∧ z.cells = i.zero.toArray
  kd : KdOK P t i.kd
def lkT : List (Nat × Ti) → Nat → Option Ti
  | [], _ => none
  | (k, v) :: l, t => bif Nat.beq k t then some v else lkT l t
def TbOK (P : Program) : List (Nat × Ti) → Prop
  | [] => True
  | p :: l => TiOK P p.1 p.2 ∧ TbOK P l
theorem TbOK.lk {P : Program} : ∀ {tb : List (Nat × Ti)} {t : Nat} {i : Ti}, TbOK P tb → lkT tb t = some i → TiOK P t i
  | (k, v) :: l, t, i, h, e => by
    simp only [lkT] at e
    cases hk : Nat.beq k t with
    | true => rw [hk] at e; cases e; cases Nat.eq_of_beq_eq_true hk; exact h.1
    | false => rw [hk] at e; exact TbOK.lk h.2 e
theorem FlOK.get {P : Program} : ∀ {fs : List Field} {os : List (Nat × Nat)} {f : Nat} {o : Nat × Nat}, FlOK P fs os → os[f]? = some o → ∃ fld n, fs[f]? = some fld ∧ fld.offset = o.1 ∧ ∀ w, (sizeOf fld.type).run P w = .ok (n + 1) w
  | _, [], _, _, _, h => by cases h
  | [], _ :: _, _, _, h, _ => h.elim
  | f :: fs, o :: os, 0, o', h, e => by cases e; obtain ⟨n, _, hn⟩ := h.2.1; exact ⟨f, n, rfl, h.1, hn⟩
  | f :: fs, o :: os, k + 1, o', h, e => FlOK.get (f := k) h.2.2 e
theorem FlOK.places {P : Program} {w : World} : ∀ {fs : List Field} {os : List (Nat × Nat)}, FlOK P fs os → (fs.mapM fun (f : Field) => do pure (f.offset, ← sizeOf f.type)).run P w = .ok os w
  | [], [], _ => by simp
  | f :: fs, o :: os, h => by
    obtain ⟨n, e, hn⟩ := h.2.1
    have ih := FlOK.places (w := w) h.2.2
    simp only [List.mapM_cons, Sem.run_bind, hn, Result.andThen_ok, ih, Sem.run_pure, h.1]
    rw [← e]
  | [], _ :: _, h => h.elim
  | _ :: _, [], h => h.elim
def setO : List Value → Nat → List Value → Option (List Value)
  | cs, 0, [] => some cs
  | _ :: cs, 0, v :: vs => match setO cs 0 vs with
    | some r => some (v :: r)
    | none => none
  | c :: cs, o + 1, vs => match setO cs o vs with
    | some r => some (c :: r)
    | none => none
  | [], _, _ => none
theorem setO_spec : ∀ {cs : List Value} {o : Nat} {vs r : List Value}, setO cs o vs = some r → r = setR cs o vs ∧ o + vs.length ≤ cs.length
  | [], 0, [], r, h => by simp only [setO, Option.some.injEq] at h; subst h; exact ⟨by simp [setR], by simp⟩
  | c :: cs, 0, [], r, h => by simp only [setO, Option.some.injEq] at h; subst h; exact ⟨by simp [setR], by simp⟩
  | c :: cs, 0, v :: vs, r, h => by
    simp only [setO] at h
    split at h
    · rename_i r' e
      cases h
      obtain ⟨e1, e2⟩ := setO_spec e
      exact ⟨by rw [e1]; simp [setR, Nat.add_comm], by simpa using e2⟩
    · cases h
  | c :: cs, o + 1, vs, r, h => by
    simp only [setO] at h
    split at h
    · rename_i r' e
      cases h
      obtain ⟨e1, e2⟩ := setO_spec e
      refine ⟨?_, by simp only [List.length_cons]; omega⟩
      rw [e1]
      simp only [setR]
      rw [show o + 1 + vs.length = (o + vs.length) + 1 by omega]
      simp
    · cases h
  | [], 0, _ :: _, _, h => by cases h
  | [], _ + 1, _, _, h => by cases h
theorem fold_setR : ∀ (vs : List Value) (k : Nat) (cs : List Value) (o : Nat), o + k + vs.length ≤ cs.length → (vs.zipIdx k).foldl (fun (a : Array Value) (x : Value × Nat) => a.setIfInBounds (o + x.2) x.1) cs.toArray = (setR cs (o + k) vs).toArray
  | [], k, cs, o, _ => by simp [setR]
  | v :: vs, k, cs, o, h => by
    simp only [List.length_cons] at h
    simp only [List.zipIdx_cons, List.foldl_cons]
    rw [List.setIfInBounds_toArray, fold_setR vs (k + 1) (cs.set (o + k) v) o (by simp; omega)]
    congr 1
    have hk : o + k < cs.length := by omega
    have e1 : (cs.set (o + k) v).take (o + k + 1) = cs.take (o + k) ++ [v] := by
      rw [List.take_succ_eq_append_getElem (by simpa using hk), List.take_set_of_le (Nat.le_refl _)]
      simp
    have e2 : (cs.set (o + k) v).drop (o + k + 1 + vs.length) = cs.drop (o + k + (vs.length + 1)) := by
      rw [List.drop_set_of_lt (by omega)]
      congr 1
      omega
    simp only [setR, List.length_cons]
    rw [show o + (k + 1) = o + k + 1 by omega, e1, e2]
    simp
def valO (v : Value) : Option (List Value) := match v with
  | .agg ⟨cs⟩ => some cs
  | .tuple _ => none
  | v => some [v]
theorem valO_spec {v : Value} {vs : List Value} (h : valO v = some vs) : v.cells = vs.toArray := by
  cases v <;> simp only [valO, Option.some.injEq, reduceCtorEq] at h <;> (try subst h) <;> rfl
def bldO (env : Env) (pl : List (Nat × Nat)) : List Value → List (Nat × Operand) → Option (List Value)
  | cs, [] => some cs
  | cs, (i, x) :: rest => match ev env x with
    | some v => match valO v with
      | some vs => match pl[i]? with
        | some (off, sz) => bif Nat.beq vs.length sz then match setO cs off vs with
            | some cs' => bldO env pl cs' rest
            | none => none
          else none
        | none => none
      | none => none
    | none => none
theorem bldO_spec {env : Env} {pl : List (Nat × Nat)} : ∀ {parts : List (Nat × Operand)} {cs r : List Value}, bldO env pl cs parts = some r → ∃ vs, evp env parts = some vs ∧ Instr.fill (pl[·]?) cs.toArray vs = some r.toArray
  | [], cs, r, h => by cases h; exact ⟨[], rfl, rfl⟩
  | (i, x) :: rest, cs, r, h => by
    simp only [bldO] at h
    split at h
    · rename_i v hv
      split at h
      · rename_i vs hvs
        split at h
        · rename_i off sz hpl
          obtain ⟨hb, h⟩ := bif_some h
          split at h
          · rename_i cs' hset
            obtain ⟨us, hus, hf⟩ := bldO_spec h
            refine ⟨(i, v) :: us, by simp [evp, hv, hus], ?_⟩
            have hc := valO_spec hvs
            obtain ⟨e1, e2⟩ := setO_spec hset
            have hl := Nat.eq_of_beq_eq_true hb
            have hf2 := fold_setR vs 0 cs off (by omega)
            simp only [Instr.fill, hpl, hc, Nat.add_zero] at hf2 ⊢
            rw [if_neg (by simp; omega)]
            rw [← e1] at hf2
            rw [show vs.toArray.zipIdx = (vs.zipIdx).toArray by simp, List.foldl_toArray, hf2]
            exact hf
          · cases h
        · cases h
      · cases h
    · cases h
section
variable {P : Program} {N : Fr} {B : Base} {w : World} {l r : List HProp} {hf : Hp} {env env' : Env} {ops : Array Oper} {Q : Exit → Act → World → Prop} {rest os' : List Oper} {dst : Option Tmp} {t : TypeId} {pos : String} {aft : Array Edge} {g : Option (Nat × Bool)} {tb : List (Nat × Ti)}
def pvT (tb : List (Nat × Ti)) (env : Env) : Op → Option Value
  | .fieldAddr s x f => match ev env x with
    | some (.pointer (some ⟨b, off, none⟩)) => match lkT tb s with
      | some i => match i.offs[f]? with
        | some (o, _) => some (.pointer (some ⟨b, off + o, none⟩))
        | none => none
      | none => none
    | _ => none
  | .build ty ⟨parts⟩ => match lkT tb ty with
    | some ⟨_, _, o :: os, z :: zs, _⟩ => match bldO env (o :: os) (z :: zs) parts with
      | some cs => some (.agg cs.toArray)
      | none => none
    | _ => none
  | .convert s d x => match ev env x with
    | some (.int _ n) => match lkT tb s with
      | some ⟨_, _, _, _, .int _⟩ => match lkT tb d with
        | some ⟨_, _, _, _, .int k⟩ => some (.int k (k.wrap n))
        | _ => none
      | _ => none
    | _ => none
  | .makeInterface xt x => match ev env x with
    | some v => match lkT tb xt with
      | some ⟨_, _, _, _, .ok⟩ => some (.iface xt v)
      | some ⟨_, _, _, _, .int _⟩ => some (.iface xt v)
      | _ => none
    | none => none
  | .call ⟨.builtin .len, ⟨[x]⟩, ⟨[ty]⟩⟩ => match ev env x with
    | some (.slice _ n _) => match lkT tb ty with
      | some ⟨_, _, _, _, .sl⟩ => some (.int .i64 (n : Int))
      | _ => none
    | some (.string s) => match lkT tb ty with
      | some ⟨_, _, _, _, .str⟩ => some (.int .i64 (s.size : Int))
      | _ => none
    | _ => none
  | op => pv env op
theorem pvT_spec (hT : TbOK P tb) {op : Op} {v : Value} (h : pvT tb env op = some v) : Vl P N ⟨dst, op, t, pos, aft, g⟩ env w v := by
  unfold pvT at h
  split at h
  · split at h
    · rename_i e
      split at h
      · rename_i i hi
        split at h
        · rename_i o q ho
          cases h
          have ht := hT.lk hi
          rcases ht.offs with h0 | ⟨fs, hu, hfl⟩
          · rw [h0] at ho; cases ho
          · obtain ⟨fld, n, hf, e1, hz⟩ := hfl.get ho
            exact Vl.fa _ hu (by simpa using hf) hz e (by rw [e1])
        · cases h
      · cases h
    · cases h
  · split at h
    · rename_i ty parts _ _ _ o os z zs kd hi
      split at h
      · rename_i cs hb
        cases h
        have ht := hT.lk hi
        rcases ht.offs with h0 | ⟨fs, hu, hfl⟩
        · cases h0
        rcases ht.zero with h0 | ⟨zv, hz, hv⟩
        · cases h0
        obtain ⟨vs, hvs, hf⟩ := bldO_spec hb
        refine Vl.build hvs ?_
        have hu' : (underlying ty).run P w = .ok (.struct fs) w := by simp [underlying, hu]
        have hp := hfl.places (w := w)
        have hm : (fs.mapM fun (f : Field) => do pure (f.offset, ← sizeOf f.type)).run P w = .ok (o :: os).toArray w := by
          have : fs = fs.toList.toArray := by simp
          rw [this, List.mapM_toArray, Sem.run_map, hp]
          rfl
        simp only [Instr.build, Sem.run_bind, hz, Result.andThen_ok, hu', hm]
        have hf' : Instr.fill (fun x => (o :: os).toArray[x]?) zv.cells vs = some cs.toArray := by
          rw [hv]
          simpa using hf
        simp only [hf', Sem.run_pure]
      · cases h
    · cases h
  · split at h
    · rename_i e
      split at h
      · rename_i hs
        split at h
        · rename_i hd
          cases h
          exact Vl.conv (hT.lk hs).kd (hT.lk hd).kd e
        · cases h
      · cases h
    · cases h
  · split at h
    · rename_i e
      split at h
      · rename_i hi
        cases h
        obtain ⟨d, hu, hd⟩ := (hT.lk hi).kd
        exact Vl.makeIface hu (by cases d <;> first | rfl | cases hd) e
      · rename_i hi
        cases h
        exact Vl.makeIface (hT.lk hi).kd rfl e
      · cases h
    · cases h
  · split at h
    · rename_i e
      split at h
      · rename_i hi
        cases h
        obtain ⟨e', hu⟩ := (hT.lk hi).kd
        exact Vl.lenSl hu e
      · cases h
    · rename_i e
      split at h
      · rename_i hi
        cases h
        exact Vl.lenStr (hT.lk hi).kd e
      · cases h
    · cases h
  · exact pv_spec h
def takK : List Value → Nat → Nat → (List Value → Prop) → Prop
  | _, 0, 0, k => k []
  | c :: cs, 0, n + 1, k => takK cs 0 n fun r => k (c :: r)
  | c :: cs, o + 1, n, k => takK cs o n k
  | [], _, _, _ => False
theorem takK_spec : ∀ {cs : List Value} {o n : Nat} {k : List Value → Prop}, takK cs o n k → k ((cs.drop o).take n) ∧ ((cs.drop o).take n).length = n
  | [], 0, 0, k, h => ⟨h, rfl⟩
  | c :: cs, 0, 0, k, h => ⟨h, rfl⟩
  | c :: cs, 0, n + 1, k, h => by
    have := takK_spec (k := fun r => k (c :: r)) h
    exact ⟨by simpa using this.1, by simpa using this.2⟩
  | c :: cs, o + 1, n, k, h => by
    have := takK_spec (cs := cs) (o := o) (n := n) h
    exact ⟨by simpa using this.1, by simpa using this.2⟩
  | [], 0, _ + 1, _, h => h.elim
  | [], _ + 1, _, _, h => h.elim
def ldK (i : Ti) (cs : List Value) (off : Nat) (k : Value → Prop) : Prop :=
  bif i.agg then bif Nat.beq off 0 && Nat.beq cs.length i.sz then k (.agg cs.toArray) else takK cs off i.sz fun vs => k (.agg vs.toArray)
  else match cs[off]? with
    | some v => k v
    | none => False
theorem ldK_spec (hT : TbOK P tb) {i : Ti} {cs : List Value} {off j : Nat} {k : Value → Prop} {ty T : TypeId} {x : Operand} {b : Nat} (hi : lkT tb ty = some i) (e : l[j]? = some (Cl b cs T)) (hx : ev env x = some (.pointer (some ⟨b, off, none⟩)))
    (h : ldK i cs off k) : ∃ v, k v ∧ ∀ w, St B w l hf → Vl P N ⟨dst, .load ty x, t, pos, aft, g⟩ env w v := by
  have ht := hT.lk hi
  unfold ldK at h
  cases ha : i.agg with
  | true =>
    have hg : ∀ w, (isAgg ty).run P w = .ok true w := fun w => by rw [ht.agg w, ha]
    rw [ha] at h
    cases hb : (Nat.beq off 0 && Nat.beq cs.length i.sz) with
    | true =>
      rw [hb] at h
      simp only [Bool.and_eq_true] at hb
      cases Nat.eq_of_beq_eq_true hb.1
      exact ⟨_, h, fun w hS => Vl.lw j hS hg ht.sz hx e (Nat.eq_of_beq_eq_true hb.2)⟩
    | false =>
      rw [hb] at h
      obtain ⟨h1, h2⟩ := takK_spec h
      exact ⟨_, h1, fun w hS => Vl.loadA hg ht.sz h2 hx (hS.cellsAt j e (by rw [h2]))⟩
  | false =>
    have hg : ∀ w, (isAgg ty).run P w = .ok false w := fun w => by rw [ht.agg w, ha]
    rw [ha] at h
    simp only [cond_false] at h
    split at h
    · rename_i v hv
      exact ⟨v, h, fun w hS => Vl.ld j hS hg hx e hv⟩
    · exact h.elim
def setK : List Value → Nat → List Value → (List Value → Prop) → Prop
  | cs, 0, [], k => k cs
  | _ :: cs, 0, v :: vs, k => setK cs 0 vs fun r => k (v :: r)
  | c :: cs, o + 1, vs, k => setK cs o vs fun r => k (c :: r)
  | [], _, _, _ => False
theorem setK_spec : ∀ {cs : List Value} {o : Nat} {vs : List Value} {k : List Value → Prop}, setK cs o vs k → k (setR cs o vs) ∧ o + vs.length ≤ cs.length
  | [], 0, [], k, h => ⟨by simpa [setR, setK] using h, by simp⟩
  | c :: cs, 0, [], k, h => ⟨by simpa [setR, setK] using h, by simp⟩
  | c :: cs, 0, v :: vs, k, h => by
    have := setK_spec (k := fun r => k (v :: r)) h
    exact ⟨by simpa [setR, Nat.add_comm] using this.1, by simpa using this.2⟩
  | c :: cs, o + 1, vs, k, h => by
    have := setK_spec (k := fun r => k (c :: r)) h
    refine ⟨?_, by have := this.2; simp only [List.length_cons]; omega⟩
    have h1 := this.1
    simp only [setR] at h1 ⊢
    rw [show o + 1 + vs.length = (o + vs.length) + 1 by omega]
    simpa using h1
  | [], 0, _ :: _, _, h => h.elim
  | [], _ + 1, _, _, h => h.elim
def putK : List Pc → Nat → Pc → (List Pc → Prop) → Prop
  | _ :: L, 0, p, k => k (p :: L)
  | q :: L, j + 1, p, k => putK L j p fun r => k (q :: r)
  | [], _, _, _ => False
theorem putK_spec : ∀ {L : List Pc} {j : Nat} {p : Pc} {k : List Pc → Prop}, putK L j p k → k (L.set j p)
  | q :: L, 0, p, k, h => h
  | q :: L, j + 1, p, k, h => putK_spec (k := fun r => k (q :: r)) h
  | [], _, _, _, h => h.elim
def valK (v : Value) (k : List Value → Prop) : Prop := match v with
  | .agg ⟨cs⟩ => k cs
  | v => k [v]
theorem valK_spec {v : Value} {k : List Value → Prop} (h : valK v k) : k v.cells.toList := by
  unfold valK at h
  split at h
  · exact h
  · rename_i hn
    cases v <;> first | exact h | (rename_i cs; exact absurd rfl (hn cs.toList))
theorem dens_get : ∀ {L : List Pc} {j : Nat} {p : Pc}, L[j]? = some p → (dens L r)[j]? = some p.den
  | q :: L, 0, p, h => by cases h; rfl
  | q :: L, j + 1, p, h => by simpa [dens] using dens_get (L := L) (j := j) (by simpa using h)
  | [], _, _, h => by cases h
theorem dens_set : ∀ {L : List Pc} {j : Nat} {p q : Pc}, L[j]? = some q → (dens L r).set j p.den = dens (L.set j p) r
  | x :: L, 0, p, q, h => rfl
  | x :: L, j + 1, p, q, h => by simpa [dens] using dens_set (L := L) (j := j) (p := p) (q := q) (by simpa using h)
  | [], _, _, _, h => by cases h
def denK : List Pc → List HProp → (List HProp → Prop) → Prop
  | [], r, k => k r
  | .c b cs T :: L, r, k => denK L r fun l => k (Cl b cs T :: l)
  | .o A :: L, r, k => denK L r fun l => k (A :: l)
theorem denK_spec : ∀ {L : List Pc} {k : List HProp → Prop}, denK L r k → k (dens L r)
  | [], k, h => h
  | .c b cs T :: L, k, h => denK_spec (k := fun l => k (Cl b cs T :: l)) h
  | .o A :: L, k, h => denK_spec (k := fun l => k (A :: l)) h
/-- is an operation wanted? -/
def wt (ops : Array Oper) (env : Env) (o : Oper) : Option Bool := match o.guard with
  | none => some true
  | some _ => gd ops env o
theorem wt_spec {o : Oper} {b : Bool} (h : wt ops env o = some b) : gd ops env o = some b := by
  unfold wt at h
  split at h
  · rename_i e; cases h; simp [gd, e]
  · exact h
def runL (tb : List (Nat × Ti)) (n : Nat) (ops : Array Oper) (G : Env → List Pc → List Oper → Prop) : List Nat → Env → List Pc → List Oper → List Nat → List Nat → Prop
  | [], env, L, os, e1, e2 => e1 = e2 ∧ G env L os
  | _ :: _, _, _, [], _, _ => False
  | p :: ps, env, L, o :: os, e1, e2 => match wt ops env o with
    | none => False
    | some false => match o.dst with
      | some d => bif Nat.blt d n then runL tb n ops G ps ((d, undef) :: env) L os e1 e2 else False
      | none => runL tb n ops G ps env L os e1 e2
    | some true => match o.dst with
      | some d => bif Nat.blt d n then (match p with
        | 0 => match o.op with
          | .alloc T => match lkT tb T with
            | some ⟨_, _, _, z :: zs, _⟩ => ∀ b, runL tb n ops G ps ((d, .pointer (some ⟨b, 0, none⟩)) :: env) (.c b (z :: zs) T :: L) os e1 e2
            | _ => False
          | .box T x => match ev env x with
            | some v => valK v fun cs => ∀ b, runL tb n ops G ps ((d, .pointer (some ⟨b, 0, none⟩)) :: env) (.c b cs T :: L) os e1 e2
            | none => False
          | op => match pvT tb env op with
            | some v => runL tb n ops G ps ((d, v) :: env) L os e1 e2
            | none => False
        | j + 1 => match o.op with
          | .load ty x => match L[j]? with
            | some (.c b cs T) => match ev env x with
              | some (.pointer (some ⟨b', off, none⟩)) => match lkT tb ty with
                | some i => ldK i cs off fun v => runL tb n ops G ps ((d, v) :: env) L os (b' :: e1) (b :: e2)
                | none => False
              | _ => False
            | _ => False
          | _ => False) else False
      | none => match p with
        | 0 => False
        | j + 1 => match o.op with
          | .store ty x y => match L[j]? with
            | some (.c b cs T) => match ev env x with
              | some (.pointer (some ⟨b', off, none⟩)) => match lkT tb ty with
                | some i => match ev env y with
                  | some v => valK v fun vs => bif vs.all Value.oneCell' && Nat.beq vs.length i.sz then setK cs off vs fun cs' => putK L j (.c b cs' T) fun L' => runL tb n ops G ps env L' os (b' :: e1) (b :: e2) else False
                  | none => False
                | none => False
              | _ => False
            | _ => False
          | _ => False
theorem ldK_ex {i : Ti} {cs : List Value} {off : Nat} {k : Value → Prop} (h : ldK i cs off k) : ∃ v, k v := by
  unfold ldK at h
  cases ha : i.agg with
  | true =>
    rw [ha] at h
    cases hb : (Nat.beq off 0 && Nat.beq cs.length i.sz) with
    | true => rw [hb] at h; exact ⟨_, h⟩
    | false => rw [hb] at h; exact ⟨_, (takK_spec h).1⟩
  | false =>
    rw [ha] at h
    simp only [cond_false] at h
    split at h
    · exact ⟨_, h⟩
    · exact h.elim
theorem bif_P {b : Bool} {p : Prop} (h : (bif b then p else False)) : b = true ∧ p := by
  cases b
  · exact h.elim
  · exact ⟨rfl, h⟩
theorem runL_eq {n : Nat} {G : Env → List Pc → List Oper → Prop} : ∀ {ps : List Nat} {env : Env} {L : List Pc} {os : List Oper} {e1 e2 : List Nat}, runL tb n ops G ps env L os e1 e2 → e1 = e2
  | [], _, _, _, _, _, h => h.1
  | _ :: _, _, _, [], _, _, h => h.elim
  | p :: ps, env, L, o :: os, e1, e2, h => by
    unfold runL at h
    split at h
    · exact h.elim
    · split at h
      · exact runL_eq (bif_P h).2
      · exact runL_eq h
    · split at h
      · have h := (bif_P h).2
        split at h
        · split at h
          · split at h
            · exact runL_eq (h 0)
            · exact h.elim
          · split at h
            · exact runL_eq (valK_spec h 0)
            · exact h.elim
          · split at h
            · exact runL_eq h
            · exact h.elim
        · split at h
          · split at h
            · split at h
              · split at h
                · obtain ⟨v, h⟩ := ldK_ex h
                  have := runL_eq h
                  injection this
                · exact h.elim
              · exact h.elim
            · exact h.elim
          · exact h.elim
      · split at h
        · exact h.elim
        · split at h
          · split at h
            · split at h
              · split at h
                · split at h
                  · have := runL_eq (putK_spec (setK_spec (bif_P (valK_spec h)).2).1)
                    injection this
                  · exact h.elim
                · exact h.elim
              · exact h.elim
            · exact h.elim
          · exact h.elim
theorem runL_ok (hT : TbOK P tb) : ∀ {ps : List Nat} {env : Env} {L : List Pc} {os : List Oper} {e1 e2 : List Nat} {w : World}, St B w (dens L r) hf →
    runL tb N.n ops (fun env L os => denK L r fun l => ∀ w, St B w l hf → RL P N ops Q os env w) ps env L os e1 e2 → RL P N ops Q os env w
  | [], _, _, _, _, _, w, hS, h => denK_spec (k := fun l => ∀ w, St B w l hf → _) h.2 w hS
  | _ :: _, _, _, [], _, _, _, _, h => h.elim
  | p :: ps, env, L, ⟨dst, op, t, pos, aft, g⟩ :: os, e1, e2, w, hS, h => by
    unfold runL at h
    split at h
    · exact h.elim
    · rename_i hw
      have hg := wt_spec hw
      split at h
      · rename_i d hd
        simp only at hd
        subst hd
        have h := bif_P h
        exact RL.nn h.1 hg (runL_ok hT hS h.2)
      · rename_i hd
        simp only at hd
        subst hd
        cases g with
        | none => simp [gd] at hg
        | some jw => exact RL.n0 hg (runL_ok hT hS h)
    · rename_i hw
      have hg := wt_spec hw
      split at h
      · rename_i d hd
        simp only at hd
        subst hd
        obtain ⟨hn, h'⟩ := bif_P h
        clear h
        cases p with
        | zero =>
          dsimp only at h'
          split at h'
          · split at h'
            · rename_i z zs kd hi
              rcases (hT.lk hi).zero with h0 | ⟨zv, hz, hv⟩
              · cases h0
              · exact al hS hz hv hn hg fun b w hS => runL_ok hT (L := .c b (z :: zs) _ :: L) hS (h' b)
            · exact h'.elim
          · split at h'
            · rename_i v hv
              have h := valK_spec h'
              exact bx hS hv (by simp) hn hg fun b w hS => runL_ok hT (L := .c b v.cells.toList _ :: L) hS (h b)
            · exact h'.elim
          · split at h'
            · rename_i v hv
              exact RL.sg (pvT_spec hT hv) hn hg (runL_ok hT hS h')
            · exact h'.elim
        | succ j =>
          dsimp only at h'
          split at h'
          · split at h'
            · rename_i b cs T hL
              split at h'
              · rename_i b' off hx
                split at h'
                · rename_i i hi
                  obtain ⟨v0, h0⟩ := ldK_ex h'
                  have e0 := runL_eq h0
                  injection e0 with e0 _
                  subst e0
                  obtain ⟨v, hk, hv⟩ := ldK_spec (P := P) (N := N) (B := B) (hf := hf) (l := dens L r) (dst := some d) (t := t) (pos := pos) (aft := aft) (g := g) hT hi (dens_get hL) hx h'
                  exact RL.sg (hv w hS) hn hg (runL_ok hT hS hk)
                · exact h'.elim
              · exact h'.elim
            · exact h'.elim
          · exact h'.elim
      · rename_i hd
        simp only at hd
        subst hd
        cases p with
        | zero => exact h.elim
        | succ j =>
          dsimp only at h
          split at h
          · split at h
            · rename_i b cs T hL
              split at h
              · rename_i b' off hx
                split at h
                · rename_i i hi
                  split at h
                  · rename_i v hv
                    obtain ⟨h1, h2⟩ := bif_P (valK_spec h)
                    simp only [Bool.and_eq_true] at h1
                    obtain ⟨h3, h4⟩ := setK_spec h2
                    have h5 := putK_spec h3
                    have e0 := runL_eq h5
                    injection e0 with e0 _
                    subst e0
                    have hl := Nat.eq_of_beq_eq_true h1.2
                    refine RL.e0 (OW.store j hS (dens_get hL) hx hv rfl (hT.lk hi).sz hl h1.1 (by rw [← hl]; exact Nat.ble_eq_true_of_le h4) (dens_set (p := .c b' (setR cs off v.cells.toList) T) hL)) hg ?_
                    rintro _ w ⟨_, hS⟩
                    exact runL_ok hT hS h5
                  · exact h.elim
                · exact h.elim
              · exact h.elim
            · exact h.elim
          · exact h.elim
theorem runL_top (hT : TbOK P tb) (ps : List Nat) {L : List Pc} (hS : St B w l hf) [hR : Rf l L r]
    (h : runL tb N.n ops (fun env L os => denK L r fun l => ∀ w, St B w l hf → RL P N ops Q os env w) ps env L rest [] []) : RL P N ops Q rest env w :=
  runL_ok hT (by rw [hR.e]; exact hS) h
/-! ### 34. The same in a drawn region -/
variable {S : Nat → World → Prop} {tl : Nat → List Nat} {pl pl' : Pl}
def plHd : Pl → Option (Nat × Nat × Nat × Pl)
  | .pure i q => some (0, 0, i, q)
  | .early i k q => some (1, k, i, q)
  | .last i q => some (2, 0, i, q)
  | _ => none
theorem RP.any {q : Pl} {kd k i : Nat} {v : Value} {o : Oper} (hk : plHd pl = some (kd, k, i, q)) (hi : ops[i]? = some o) (h : ∀ w, Vl P N o env w v) (hd : inB N o.dst = true) (hg : gd ops env o = some true) (hr : RP P N ops Q S tl q (putE o.dst v env) w) : RP P N ops Q S tl pl env w := by
  cases pl <;> simp only [plHd, Option.some.injEq, Prod.mk.injEq, reduceCtorEq] at hk
  · obtain ⟨_, _, rfl, rfl⟩ := hk
    intro listed hp hs ht hQ
    simp only [planOK, Bool.and_eq_true] at hp
    exact RA.v0 _ hi h hg hd hs hp.1.1.1 hp.1.1.2 hQ (hr _ hp.2 hs ht hQ)
  · obtain ⟨_, _, rfl, rfl⟩ := hk
    intro listed hp hs ht hQ
    simp only [planOK, Bool.and_eq_true, beq_iff_eq] at hp
    exact RA.all1 _ hp.1 (RW.v hi (h w) hg hd (hr _ hp.2 hs ht hQ))
  · obtain ⟨_, _, rfl, rfl⟩ := hk
    intro listed hp hs ht hQ
    simp only [planOK, Bool.and_eq_true] at hp
    exact RA.v0 _ hi h hg hd hs hp.1.1 hp.1.2 hQ (hr _ hp.2 hs ht hQ)
theorem RP.anyN {q : Pl} {kd k i : Nat} {o : Oper} (hk : plHd pl = some (kd, k, i, q)) (hi : ops[i]? = some o) (hd : inB N o.dst = true) (hg : gd ops env o = some false) (hr : RP P N ops Q S tl q (putE o.dst undef env) w) : RP P N ops Q S tl pl env w := by
  cases pl <;> simp only [plHd, Option.some.injEq, Prod.mk.injEq, reduceCtorEq] at hk
  · obtain ⟨_, _, rfl, rfl⟩ := hk
    intro listed hp hs ht hQ
    simp only [planOK, Bool.and_eq_true] at hp
    exact RA.no _ hi hg hd hs hp.1.1.1 hp.1.1.2 hQ (hr _ hp.2 hs ht hQ)
  · obtain ⟨_, _, rfl, rfl⟩ := hk
    intro listed hp hs ht hQ
    simp only [planOK, Bool.and_eq_true, beq_iff_eq] at hp
    exact RA.all1 _ hp.1 (RW.no hi hg hd (hr _ hp.2 hs ht hQ))
  · obtain ⟨_, _, rfl, rfl⟩ := hk
    intro listed hp hs ht hQ
    simp only [planOK, Bool.and_eq_true] at hp
    exact RA.no _ hi hg hd hs hp.1.1 hp.1.2 hQ (hr _ hp.2 hs ht hQ)
/-- a load: early in the group 0, or when nothing else may come up -/
theorem RP.anyL {q : Pl} {kd k i : Nat} {v : Value} {o : Oper} (hk : plHd pl = some (kd, k, i, q)) (hi : ops[i]? = some o) (hkd : (Nat.beq kd 2 || (Nat.beq kd 1 && (Nat.beq k 0 && !(tl 0).contains i))) = true) (hS : S 0 w) (h : ∀ w, S 0 w → Vl P N o env w v) (hd : inB N o.dst = true) (hg : gd ops env o = some true) (hr : RP P N ops Q S tl q (putE o.dst v env) w) : RP P N ops Q S tl pl env w := by
  cases pl <;> simp only [plHd, Option.some.injEq, Prod.mk.injEq, reduceCtorEq] at hk
  · obtain ⟨e1, e2, e3, e4⟩ := hk
    subst e1
    cases e2
    cases e3
    cases e4
    obtain ⟨h0, hc⟩ := (by simpa using hkd : _ = 0 ∧ ¬ _ ∈ tl 0)
    subst h0
    intro listed hp hs ht hQ
    simp only [planOK, Bool.and_eq_true] at hp
    exact RA.v 0 _ hi h hg hd hs hp.1.2 (by simpa using hc) hp.1.1.1 hp.1.1.2 hQ hS (hr _ hp.2 hs ht hQ)
  · obtain ⟨_, _, rfl, rfl⟩ := hk
    intro listed hp hs ht hQ
    simp only [planOK, Bool.and_eq_true, beq_iff_eq] at hp
    exact RA.all1 _ hp.1 (RW.v hi (h w hS) hg hd (hr _ hp.2 hs ht hQ))
  · obtain ⟨rfl, _, _, _⟩ := hk
    simp at hkd
def runP (tb : List (Nat × Ti)) (n : Nat) (ops : Array Oper) (t0 : List Nat) (G : Env → Pl → Prop) (L : List Pc) : List Nat → Env → Pl → List Nat → List Nat → Prop
  | [], env, pl, e1, e2 => e1 = e2 ∧ G env pl
  | p :: ps, env, pl, e1, e2 => match plHd pl with
    | none => False
    | some (kd, k, i, q) => match ops.toList[i]? with
      | none => False
      | some o => match wt ops env o with
        | none => False
        | some false => match o.dst with
          | some d => bif Nat.blt d n then runP tb n ops t0 G L ps ((d, undef) :: env) q e1 e2 else False
          | none => runP tb n ops t0 G L ps env q e1 e2
        | some true => match o.dst with
          | none => False
          | some d => bif Nat.blt d n then match p with
            | 0 => match pvT tb env o.op with
              | some v => runP tb n ops t0 G L ps ((d, v) :: env) q e1 e2
              | none => False
            | j + 1 => bif Nat.beq kd 2 || (Nat.beq kd 1 && (Nat.beq k 0 && !t0.contains i)) then match o.op with
              | .load ty x => match L[j]? with
                | some (.c b cs T) => match ev env x with
                  | some (.pointer (some ⟨b', off, none⟩)) => match lkT tb ty with
                    | some i => ldK i cs off fun v => runP tb n ops t0 G L ps ((d, v) :: env) q (b' :: e1) (b :: e2)
                    | none => False
                  | _ => False
                | _ => False
              | _ => False else False else False
theorem runP_eq {n : Nat} {t0 : List Nat} {G : Env → Pl → Prop} {L : List Pc} : ∀ {ps : List Nat} {env : Env} {pl : Pl} {e1 e2 : List Nat}, runP tb n ops t0 G L ps env pl e1 e2 → e1 = e2
  | [], _, _, _, _, h => h.1
  | p :: ps, env, pl, e1, e2, h => by
    unfold runP at h
    split at h
    · exact h.elim
    · split at h
      · exact h.elim
      · split at h
        · exact h.elim
        · split at h
          · exact runP_eq (bif_P h).2
          · exact runP_eq h
        · split at h
          · exact h.elim
          · have h := (bif_P h).2
            split at h
            · split at h
              · exact runP_eq h
              · exact h.elim
            · have h := (bif_P h).2
              split at h
              · split at h
                · split at h
                  · split at h
                    · obtain ⟨v, h⟩ := ldK_ex h
                      have := runP_eq h
                      injection this
                    · exact h.elim
                  · exact h.elim
                · exact h.elim
              · exact h.elim
theorem runP_ok (hT : TbOK P tb) {t0 : List Nat} {ts : List (List Nat)} {Ss : List (World → Prop)} {L : List Pc} (hS : St B w (dens L r) hf) : ∀ {ps : List Nat} {env : Env} {pl : Pl} {e1 e2 : List Nat},
    runP tb N.n ops t0 (fun env pl => RP P N ops Q (sL ((fun w => St B w (dens L r) hf) :: Ss)) (tL (t0 :: ts)) pl env w) L ps env pl e1 e2 → RP P N ops Q (sL ((fun w => St B w (dens L r) hf) :: Ss)) (tL (t0 :: ts)) pl env w
  | [], _, _, _, _, h => h.2
  | p :: ps, env, pl, e1, e2, h => by
    unfold runP at h
    split at h
    · exact h.elim
    · rename_i kd k i q hpl
      split at h
      · exact h.elim
      · rename_i o hi
        have hi : ops[i]? = some o := by simpa using hi
        split at h
        · exact h.elim
        · rename_i hw
          have hg := wt_spec hw
          split at h
          · rename_i d hd
            obtain ⟨hn, h⟩ := bif_P h
            exact RP.anyN hpl hi (by rw [hd]; exact hn) hg (by rw [hd]; exact runP_ok hT hS h)
          · rename_i hd
            exact RP.anyN hpl hi (by rw [hd]; rfl) hg (by rw [hd]; exact runP_ok hT hS h)
        · rename_i hw
          have hg := wt_spec hw
          split at h
          · exact h.elim
          · rename_i d hd
            obtain ⟨hn, h'⟩ := bif_P h
            clear h
            cases p with
            | zero =>
              dsimp only at h'
              split at h'
              · rename_i v hv
                exact RP.any hpl hi (fun w => pvT_spec hT hv) (by rw [hd]; exact hn) hg (by rw [hd]; exact runP_ok hT hS h')
              · exact h'.elim
            | succ j =>
              dsimp only at h'
              obtain ⟨hc, h2⟩ := bif_P h'
              clear h'
              have h' := h2
              clear h2
              split at h'
              · rename_i ty x hop
                split at h'
                · rename_i b cs T hL
                  split at h'
                  · rename_i b' off hx
                    split at h'
                    · rename_i ti hti
                      obtain ⟨v0, h0⟩ := ldK_ex h'
                      have e0 := runP_eq h0
                      injection e0 with e0 _
                      subst e0
                      obtain ⟨dst, op, t, pos, aft, g⟩ := o
                      simp only at hop hd
                      subst hop
                      subst hd
                      obtain ⟨v, hk, hv⟩ := ldK_spec (P := P) (N := N) (B := B) (hf := hf) (l := dens L r) (dst := some d) (t := t) (pos := pos) (aft := aft) (g := g) hT hti (dens_get hL) hx h'
                      refine RP.anyL (tl := tL (t0 :: ts)) hpl hi hc hS (fun w' hS' => ?_) hn hg (runP_ok hT hS hk)
                      · exact hv w' hS'
                    · exact h'.elim
                  · exact h'.elim
                · exact h'.elim
              · exact h'.elim
theorem runP_top (hT : TbOK P tb) (ps : List Nat) {t0 : List Nat} {ts : List (List Nat)} {Ss : List (World → Prop)} {L : List Pc} (hS : St B w l hf) [hR : Rf l L r]
    (h : runP tb N.n ops t0 (fun env pl => RP P N ops Q (sL ((fun w => St B w l hf) :: Ss)) (tL (t0 :: ts)) pl env w) L ps env pl [] []) : RP P N ops Q (sL ((fun w => St B w l hf) :: Ss)) (tL (t0 :: ts)) pl env w := by
  have e := hR.e
  subst e
  exact runP_ok hT hS h
@[reducible] def pV (b : Nat) : Value := .pointer (some ⟨b, 0, none⟩)
@[reducible] def iV (n : Int) : Value := .int .i64 n
@[reducible] def sV {α : Type} (A : Option Addr) (xs : List α) (c : Nat) : Value := .slice A xs.length c
theorem ro {Q : Exit → Act → World → Prop} {c : Code} {a : Act} (ha : Has N env a) (h : RC P N Q c env w) : wq P N.y c Q a w := h a ha
theorem lp {Q : Exit → Act → World → Prop} {S R : Type} {c : Code} {body : S → Option (S ⊕ R)} {φ : R → Prop} {s0 : S} {a : Act} (h0 : Holds φ (loopR body s0)) (I : S → Act → World → Prop) (hI : I s0 a w)
    (hround : ∀ (G : S → Prop) s a w, I s a w → Holds (Sum.elim G φ) (body s) → wq P N.y c (Exit.then (fun a w => ∃ s', G s' ∧ I s' a w) Q) a w) : wq P N.y (Code.loop c) Q a w :=
  RC.loop I (fun G s a w hI h => wq_mono c (then_mono (fun a w ⟨s', hg, hi⟩ => ⟨s', hi, hg⟩) fun _ _ _ h => h) a w (hround G s a w hI h)) h0 hI
def Ev (env l : Env) : Prop := AllE (fun p => lk env p.1 = some p.2) l
theorem RP.to {e : Env} (hs : Ev env e) (h : RP P N ops Q S tl pl e w) : RP P N ops Q S tl pl env w := fun listed hp hs' ht hQ a ha => h listed hp hs' ht hQ a (ha.to hs)
/-- the orders of a region meet again -/
theorem RP.fj {σ : Type} (I : σ → Env → World → Prop) (T : Pl) (hT : ∀ s env w, I s env w → RP P N ops Q S tl T env w) (h : (∀ s env w, I s env w → RP P N ops Q S tl T env w) → RP P N ops Q S tl pl env w) : RP P N ops Q S tl pl env w := h hT
theorem rs {ρ : Type} {r x : ρ} {fn : Func} {n : Nat} {rl : List ResultVar} {vs : List Value} {K : ρ → Value → World → Prop} (h : Holds (· = r) (some x)) (hr : fn.results = rl.toArray) (hv : rsT env rl = some vs) (hK : K x (tup vs) w) :
    RQ ⟨n, [], true⟩ (bodyPost P fn (Ret (K r)) .ret) env w := by
  obtain rfl := h.some
  exact rt hr hv hK
theorem rsE {ρ : Type} {r x : ρ} {fn : Func} {n : Nat} {rl : List ResultVar} {vs : List Value} {K : ρ → Value → World → Prop} (h : Holds (· = r) (some x)) (hr : fn.results = rl.toArray) (hv : rsT env rl = some vs) (hK : K x (tup vs) w) :
    RQ ⟨n, [], true⟩ (bodyPost P fn (Ret (K r)) .normal) env w := by
  obtain rfl := h.some
  exact rtE hr hv hK
theorem Has.tE {L : Env} {a : Act} (ha : Has N env a) (e : L.map (fun p => lk env p.1) = L.map (fun p => some p.2)) : Has N L a := ha.to (by
  induction L with
  | nil => trivial
  | cons p L ih =>
    simp only [List.map_cons, List.cons.injEq] at e
    exact ⟨e.1, ih e.2⟩)
section
variable {ops : Array Oper} {rest : List Oper} {Q : Exit → Act → World → Prop}
theorem tno {d : Nat} {x : Operand} {xT asserted tt : TypeId} {v : Value} {want : Array (String × TypeId)} (hu : P.underlying asserted = some (.interface want)) (hx : ev env x = some (.iface tt v)) (hd : Nat.blt d N.n = true)
    (hr : RL P N ops Q rest ((d, .tuple #[.nilIface, .bool false]) :: env) w) (h : (P.info? tt).map (fun i => (lacking want i.methods).isEmpty) = some false := by kernel_rfl) (hz : (P.info? asserted).map (·.zero) = some (some .nilIface) := by kernel_rfl) :
    RL P N ops Q (⟨some d, .typeAssert x xT asserted true, t, pos, aft, none⟩ :: rest) env w := RL.s (Vl.tassert hx fun w => run_typeAssert_lacksB hu h hz _ _ w) hd hr
theorem tys {d : Nat} {x : Operand} {xT asserted tt : TypeId} {v : Value} {want : Array (String × TypeId)} (hu : P.underlying asserted = some (.interface want)) (hx : ev env x = some (.iface tt v)) (hd : Nat.blt d N.n = true)
    (hr : RL P N ops Q rest ((d, .tuple #[.iface tt v, .bool true]) :: env) w) (h : (P.info? tt).map (fun i => (lacking want i.methods).isEmpty) = some true := by kernel_rfl) :
    RL P N ops Q (⟨some d, .typeAssert x xT asserted true, t, pos, aft, none⟩ :: rest) env w := RL.s (Vl.tassert hx fun w => run_typeAssert_hasB hu h _ _ w) hd hr
end
theorem Vl.bn (b : Bool) {op : BinOp} {xt yt : TypeId} {x y : Operand} {vx vy : Value} (hx : ev env x = some vx) (hy : ev env y = some vy) (hr : ((eqGuard op xt x y vx vy).bind fun _ => binOp op xt vx vy).run P w = .ok (.bool b) w := by kernel_rfl) :
    Vl P N ⟨dst, .binOp op xt x y yt, t, pos, aft, g⟩ env w (.bool b) := Vl.bin hx hy hr
theorem Vl.eX {F : FuncId} (ls : List Operand) {vs : List Value} {tys : Array TypeId} {fn : Func} (v : Value) (e : Array Value → Sem Value) (hf : P.funcs[F]? = some fn) (hl : evs env ls = some vs) (hname : (fn.name == "runtime.NumGoroutine") = false := by kernel_rfl)
    (hb : fn.body.isNone = true := by kernel_rfl) (hn : Extern.findNext fn = none := by kernel_rfl) (he : Extern.find fn = some e := by kernel_rfl) (hr : ∀ w, (e vs.toArray).run P w = .ok v w := by intro w; kernel_rfl) :
    Vl P N ⟨dst, .call ⟨.value (.func F), ls.toArray, tys⟩, t, pos, aft, g⟩ env w v := Vl.extern hl hf hname hb hn he hr
theorem Vl.iX {F : FuncId} {x : Operand} {tx : TypeId} {u : Value} {name : String} (ls : List Operand) {vs : List Value} {tys : Array TypeId} {fn : Func} (v u' : Value) (e : Array Value → Sem Value) (hf : P.funcs[F]? = some fn) (hx : ev env x = some (.iface tx u)) (hl : evs env ls = some vs)
    (hm : ∀ w, (method (P.types.size + Made.depth) tx u name).run P w = .ok (F, u') w := by intro w; kernel_rfl) (hname : (fn.name == "runtime.NumGoroutine") = false := by kernel_rfl)
    (hb : fn.body.isNone = true := by kernel_rfl) (hn : Extern.findNext fn = none := by kernel_rfl) (he : Extern.find fn = some e := by kernel_rfl) (hr : ∀ w, (e (#[u'] ++ vs.toArray)).run P w = .ok v w := by intro w; kernel_rfl) :
    Vl P N ⟨dst, .call ⟨.invoke x name, ls.toArray, tys⟩, t, pos, aft, g⟩ env w v := Vl.invokeX hx hl hm hf hname hb hn he hr
theorem jf {c : Operand} {x y : Code} {Q : Exit → Act → World → Prop} (h : RC P N Q y env w) (hc : ev env c = some (.bool false) := by rfl) : RC P N Q (.cond c x y) env w := RC.condF hc h
theorem jt {c : Operand} {x y : Code} {Q : Exit → Act → World → Prop} (h : RC P N Q x env w) (hc : ev env c = some (.bool true) := by rfl) : RC P N Q (.cond c x y) env w := RC.condT hc h
theorem jfs {c : Operand} {x : Code} {next : Act → World → Prop} {Q : Exit → Act → World → Prop} (h : RQ N next env w) (hc : ev env c = some (.bool false) := by rfl) : RC P N (Exit.then next Q) (.cond c x .skip) env w := RC.condF hc (RC.skip (RQ.then_n h))
theorem jtr {c : Operand} {id : Nat} {l : List Oper} {x y : Code} {Q : Exit → Act → World → Prop} (h : RL P N l.toArray (Exit.then (fun a w => wq P N.y x Q a w) Q) l env w) (hc : ev env c = some (.bool true) := by rfl) : RC P N Q (.cond c (.seq (.region id l.toArray false) x) y) env w := RC.condT hc (RC.seq (RC.region h))
theorem ir {id : Nat} {next : Act → World → Prop} {Q : Exit → Act → World → Prop} (h : RQ N (Q .ret) env w) : RQ N (Exit.inBlock id (Exit.then next Q) .ret) env w := RQ.inB_ret (RQ.ret h)
theorem it {α : Type} {a : α} {p : Prop} (h : p) : a = a ∧ p := ⟨rfl, h⟩
theorem flc {f : Field} {fs : List Field} {o n : Nat} {os : List (Nat × Nat)} (h : f.offset = o) (hz : ∀ w, (sizeOf f.type).run P w = .ok (n + 1) w) (hr : FlOK P fs os) : FlOK P (f :: fs) ((o, n + 1) :: os) := ⟨h, ⟨n, rfl, hz⟩, hr⟩
/-- results that lie in variables -/
def rsK (tb : List (Nat × Ti)) (env : Env) (L : List Pc) : List ResultVar → List Nat → List Nat → List Nat → (List Value → Prop) → Prop
  | [], _, e1, e2, k => e1 = e2 ∧ k []
  | .tmp t :: rs, js, e1, e2, k => match lk env t with
    | some v => rsK tb env L rs js e1 e2 fun vs => k (v :: vs)
    | none => False
  | .cell t ty :: rs, j :: js, e1, e2, k => match lk env t with
    | some (.pointer (some ⟨b', off, none⟩)) => match L[j]? with
      | some (.c b cs T) => match lkT tb ty with
        | some i => ldK i cs off fun v => rsK tb env L rs js (b' :: e1) (b :: e2) fun vs => k (v :: vs)
        | none => False
      | _ => False
    | _ => False
  | .cell _ _ :: _, [], _, _, _ => False
theorem rsK_eq {L : List Pc} : ∀ {rs : List ResultVar} {js e1 e2 : List Nat} {k : List Value → Prop}, rsK tb env L rs js e1 e2 k → e1 = e2
  | [], _, _, _, _, h => h.1
  | .tmp t :: rs, js, e1, e2, k, h => by
    unfold rsK at h
    split at h
    · exact rsK_eq h
    · exact h.elim
  | .cell t ty :: rs, j :: js, e1, e2, k, h => by
    unfold rsK at h
    split at h
    · split at h
      · split at h
        · obtain ⟨v, h⟩ := ldK_ex h
          have := rsK_eq h
          injection this
        · exact h.elim
      · exact h.elim
    · exact h.elim
  | .cell _ _ :: _, [], _, _, _, h => h.elim
theorem ldV_spec (hT : TbOK P tb) {i : Ti} {cs : List Value} {off j : Nat} {k : Value → Prop} {ty T : TypeId} {b : Nat} (hS : St B w l hf) (hi : lkT tb ty = some i) (e : l[j]? = some (Cl b cs T))
    (h : ldK i cs off k) : ∃ v, k v ∧ (loadVar ty ⟨b, off, none⟩).run P w = .ok v w := by
  have ht := hT.lk hi
  unfold ldK at h
  cases ha : i.agg with
  | true =>
    have hg : ∀ w, (isAgg ty).run P w = .ok true w := fun w => by rw [ht.agg w, ha]
    rw [ha] at h
    cases hb : (Nat.beq off 0 && Nat.beq cs.length i.sz) with
    | true =>
      rw [hb] at h
      simp only [Bool.and_eq_true] at hb
      cases Nat.eq_of_beq_eq_true hb.1
      exact ⟨_, h, run_loadVarA hg ht.sz (Nat.eq_of_beq_eq_true hb.2) (hS.cellsAt j e (by simp))⟩
    | false =>
      rw [hb] at h
      obtain ⟨h1, h2⟩ := takK_spec h
      exact ⟨_, h1, run_loadVarA hg ht.sz h2 (hS.cellsAt j e (by rw [h2]))⟩
  | false =>
    have hg : ∀ w, (isAgg ty).run P w = .ok false w := fun w => by rw [ht.agg w, ha]
    rw [ha] at h
    simp only [cond_false] at h
    split at h
    · rename_i v hv
      exact ⟨v, h, run_loadVar1 hg (hS.cell j e hv)⟩
    · exact h.elim
theorem rsK_spec (hT : TbOK P tb) {L : List Pc} (hS : St B w (dens L r) hf) : ∀ {rs : List ResultVar} {js e1 e2 : List Nat} {k : List Value → Prop}, rsK tb env L rs js e1 e2 k → ∃ vs, k vs ∧ ResV P w env rs vs
  | [], _, _, _, _, h => ⟨[], h.2, trivial⟩
  | .tmp t :: rs, js, e1, e2, k, h => by
    unfold rsK at h
    split at h
    · rename_i v hv
      obtain ⟨vs, h1, h2⟩ := rsK_spec hT hS h
      exact ⟨v :: vs, h1, hv, h2⟩
    · exact h.elim
  | .cell t ty :: rs, j :: js, e1, e2, k, h => by
    unfold rsK at h
    split at h
    · rename_i hx
      split at h
      · rename_i hL
        split at h
        · rename_i hi
          obtain ⟨v0, h0⟩ := ldK_ex h
          have e0 := rsK_eq h0
          injection e0 with e0 _
          subst e0
          obtain ⟨v, h1, hv⟩ := ldV_spec hT hS hi (dens_get hL) h
          obtain ⟨vs, h2, h3⟩ := rsK_spec hT hS h1
          exact ⟨v :: vs, h2, ⟨_, hx, hv⟩, h3⟩
        · exact h.elim
      · exact h.elim
    · exact h.elim
  | .cell _ _ :: _, [], _, _, _, h => h.elim
theorem rzT {fn : Func} {n : Nat} {rs : List ResultVar} {K : Value → World → Prop} (hT : TbOK P tb) (js : List Nat) (hr : fn.results = rs.toArray) {L : List Pc} (hS : St B w l hf) [hR : Rf l L r]
    (h : rsK tb env L rs js [] [] fun vs => K (tup vs) w) : RQ ⟨n, [], true⟩ (bodyPost P fn (Ret K) .ret) env w := by
  have e := hR.e
  subst e
  obtain ⟨vs, h1, h2⟩ := rsK_spec hT hS h
  exact RQ.ret0 hr h2 h1
theorem rzTE {fn : Func} {n : Nat} {rs : List ResultVar} {K : Value → World → Prop} (hT : TbOK P tb) (js : List Nat) (hr : fn.results = rs.toArray) {L : List Pc} (hS : St B w l hf) [hR : Rf l L r]
    (h : rsK tb env L rs js [] [] fun vs => K (tup vs) w) : RQ ⟨n, [], true⟩ (bodyPost P fn (Ret K) .normal) env w := by
  have e := hR.e
  subst e
  obtain ⟨vs, h1, h2⟩ := rsK_spec hT hS h
  exact RQ.end0 hr h2 h1
class NoT (Q : Exit → Act → World → Prop) : Prop where
  h : NoTmp Q
instance {next : Act → World → Prop} [h : NoT Q] : NoT (Exit.then next Q) := ⟨h.h.then⟩
instance {id : Nat} [h : NoT Q] : NoT (Exit.inBlock id Q) := ⟨h.h.block⟩
instance [h : NoT Q] : NoT (Exit.noGoto Q) := ⟨h.h.noGoto⟩
instance {fn : Func} {R : Ending → World → Prop} : NoT (bodyPost P fn R) := ⟨NoTmp.body⟩
instance : NoT (Sl.noPan Q) := ⟨NoTmp.noPan⟩
instance {l : Nat} {R : Ending → World → Prop} : NoT (roundPost P l R) := ⟨NoTmp.round⟩
theorem pS {id : Nat} {os : List Oper} {lk : List HProp} {ps : List Nat} (t1 : List Nat) (hS : St B w l hf) (hK : ∀ w, St B w l hf → St B w lk hf) (hm : P.follows .mixedOrders = true)
    (hB : (Nat.beq (plD ps).len os.length && (Region.noSelect os.toArray && tailB os.toArray (tL [t1]) && planOK os.toArray (tL [t1]) (plD ps) (Array.replicate os.length false))) = true) [hQ : NoT Q]
    (h : ∀ w, St B w l hf → RP P N os.toArray Q (sL [fun w => St B w lk hf]) (tL [t1]) (plD ps) env w) : RC P N Q (.region id os.toArray true) env w := by
  simp only [Bool.and_eq_true] at hB
  exact RC.planS (plD ps) t1 hS hK hm (Nat.eq_of_beq_eq_true hB.1) (by simp only [Bool.and_eq_true]; exact hB.2) hQ.h h
theorem tbc {p : Nat × Ti} (h : TiOK P p.1 p.2) (hr : TbOK P tb) : TbOK P (p :: tb) := ⟨h, hr⟩
def rn01 (tb : List (Nat × Ti)) (n : Nat) (ops : Array Oper) (env : Env) : Oper → Option Env
  | ⟨some d, op, t, pos, aft, g⟩ => bif Nat.blt d n then match wt ops env ⟨some d, op, t, pos, aft, g⟩ with
      | some true => match pvT tb env op with
        | some v => some ((d, v) :: env)
        | none => none
      | some false => some ((d, undef) :: env)
      | none => none
    else none
  | ⟨none, op, t, pos, aft, some jw⟩ => match gd ops env ⟨none, op, t, pos, aft, some jw⟩ with
      | some false => some env
      | _ => none
  | _ => none
def rn0 (tb : List (Nat × Ti)) (n : Nat) (ops : Array Oper) : Nat → Env → List Oper → Option (Env × List Oper)
  | 0, env, os => some (env, os)
  | k + 1, env, o :: os => match rn01 tb n ops env o with
    | some env' => rn0 tb n ops k env' os
    | none => none
  | _ + 1, _, [] => none
theorem rn0_ok (hT : TbOK P tb) (k : Nat) (h : rn0 tb N.n ops k env rest = some (env', os')) (hr : RL P N ops Q os' env' w) : RL P N ops Q rest env w := by
  induction k generalizing env rest with
  | zero => cases h; exact hr
  | succ k ih =>
    cases rest with
    | nil => cases h
    | cons o os =>
      simp only [rn0] at h
      split at h
      · rename_i e
        have h1 := ih h
        obtain ⟨d, op, t, pos, aft, g⟩ := o
        cases d with
        | some d =>
          obtain ⟨hd, e⟩ := bif_some e
          split at e
          · rename_i hw
            split at e
            · rename_i hv; cases e; exact RL.sg (pvT_spec hT hv) hd (wt_spec hw) h1
            · cases e
          · rename_i hw; cases e; exact RL.nn hd (wt_spec hw) h1
          · cases e
        | none =>
          cases g with
          | none => cases e
          | some jw =>
            simp only [rn01] at e
            split at e
            · rename_i hg; cases e; exact RL.n0 hg h1
            · cases e
      · cases h
end
end Go.Sl
