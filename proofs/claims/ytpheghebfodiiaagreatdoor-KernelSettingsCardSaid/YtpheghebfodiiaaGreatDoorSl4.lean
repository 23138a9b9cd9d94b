/-
  The own separation logic for the walks, part 4.
-/
import Derived.Test.YtpheghebfodiiaaGreatDoorSl3
import Derived.Laws.CopyRow
set_option linter.unusedVariables false
set_option linter.unusedSimpArgs false
namespace Go.Sl

/-! ### 6. Variables in memory -/
def Cl (b : Nat) (cs : List Value) (T : TypeId) : HProp := pts b (.cells cs.toArray T (0, 0))
section
variable {P : Program} {N : Fr} {env : Env} {w : World} {dst : Option Tmp} {t : TypeId} {pos : String} {aft : Array Edge} {g : Option (Nat × Bool)} {B : Base} {l : List HProp} {hf : Hp}
theorem St.cell (h : St B w l hf) (i : Nat) {b : Nat} {cs : List Value} {T : TypeId} {off : Nat} {v : Value} (e : l[i]? = some (Cl b cs T)) (ho : cs[off]? = some v) : w.cell? ⟨b, off, none⟩ = some v := by
  have := h.blk i e
  simp [World.cell?, this, ho]
theorem St.cellsAt (h : St B w l hf) (i : Nat) {b : Nat} {cs : List Value} {T : TypeId} {off : Nat} {vs : List Value} (e : l[i]? = some (Cl b cs T)) (ho : (cs.drop off).take vs.length = vs) : CellsAt w ⟨b, off, none⟩ vs := by
  intro j v hv
  rw [add_mk]
  refine h.cell i e ?_
  have hj : j < vs.length := (List.getElem?_eq_some_iff.1 hv).1
  rw [← ho, List.getElem?_take, if_pos hj, List.getElem?_drop] at hv
  exact hv
theorem perm_set {α : Type} : ∀ (l : List α) (i : Nat) (x : α), i < l.length → (x :: l.eraseIdx i).Perm (l.set i x)
  | y :: l, 0, x, _ => by simp
  | y :: l, i + 1, x, h => by
    simp only [List.eraseIdx_cons_succ, List.set_cons_succ]
    exact (List.Perm.swap y x _).trans ((perm_set l i x (by simpa using h)).cons y)
theorem St.setAt {w' : World} (h : St B w l hf) (i : Nat) {b : Nat} {o o' : Obj} (e : l[i]? = some (pts b o)) (hb : Sl.base w' = Sl.base w)
    (hsame : ∀ b', b' ≠ b → hp w' b' = hp w b') (hnew : hp w' b = some o') {l' : List HProp} (el : l.set i (pts b o') = l') : St B w' l' hf := by
  subst el
  have hi : i < l.length := (List.getElem?_eq_some_iff.1 e).1
  exact ((h.pull i e rfl).put hb hsame hnew).perm (perm_set l i _ hi)
def setR (cs : List Value) (off : Nat) (vs : List Value) : List Value := cs.take off ++ vs ++ cs.drop (off + vs.length)
theorem heap_setRow (w : World) (b : Nat) (cs cs' : Array Value) (T : TypeId) (fz : Nat × Nat) (h : w.heap[b]? = some (.cells cs T fz)) : (w.setRow b cs').heap[b]? = some (.cells cs' T fz) := setRow_heap w b cs cs' T fz h
theorem OW.box {T : TypeId} {x : Operand} {v : Value} {cs : List Value} (hS : St B w l hf) (hx : ev env x = some v) (hv : v.cells = cs.toArray) :
    OW P N ⟨dst, .box T x, t, pos, aft, g⟩ env w (fun v' w' => ∃ b, v' = .pointer (some ⟨b, 0, none⟩) ∧ St B w' (Cl b cs T :: l) hf) := fun a ha next Q hn => by
  have hr : (execOp a.eval ⟨dst, .box T x, t, pos, aft, g⟩).run P w = .ok (.value (.pointer (some ⟨w.heap.size, 0, none⟩))) (w.alloc (.cells cs.toArray T)) := by
    simp [execOp, ha.eval hx, Instr.box, newVar, newRow, hv]
  simp only [Oper.wp, hr, Oper.upon]
  exact hn _ _ ⟨_, rfl, hS.new _ rfl rfl⟩
theorem OW.alloc {T : TypeId} {z : Value} {cs : List Value} (hS : St B w l hf) (hz : ∀ w, (zeroValue T).run P w = .ok z w) (hv : z.cells = cs.toArray) :
    OW P N ⟨dst, .alloc T, t, pos, aft, g⟩ env w (fun v' w' => ∃ b, v' = .pointer (some ⟨b, 0, none⟩) ∧ St B w' (Cl b cs T :: l) hf) := fun a ha next Q hn => by
  have hr : (execOp a.eval ⟨dst, .alloc T, t, pos, aft, g⟩).run P w = .ok (.value (.pointer (some ⟨w.heap.size, 0, none⟩))) (w.alloc (.cells cs.toArray T)) := by
    simp [execOp, Instr.alloc, hz, newVar, newRow, hv]
  simp only [Oper.wp, hr, Oper.upon]
  exact hn _ _ ⟨_, rfl, hS.new _ rfl rfl⟩
theorem OW.store {T ty : TypeId} {x y : Operand} {b off sz : Nat} {v : Value} {cs vs : List Value} {l' : List HProp} (i : Nat) (hS : St B w l hf) (e : l[i]? = some (Cl b cs T))
    (hx : ev env x = some (.pointer (some ⟨b, off, none⟩))) (hy : ev env y = some v) (hv : v.cells.toList = vs) (hz : ∀ w, (sizeOf ty).run P w = .ok sz w) (hl : vs.length = sz)
    (h1' : vs.all Value.oneCell' = true) (hle : Nat.ble (off + sz) cs.length = true) (el : l.set i (Cl b (setR cs off vs) T) = l') :
    OW P N ⟨dst, .store ty x y, t, pos, aft, g⟩ env w (fun v' w' => v' = undef ∧ St B w' l' hf) := fun a ha next Q hn => by
  subst hl
  have h1 : ∀ u ∈ vs, u.oneCell' = true := List.all_eq_true.1 h1'
  have hle := Nat.le_of_ble_eq_true hle
  have hc : v.cells.size = vs.length := by rw [← hv]; simp
  have hh := hS.blk i e
  have hst := run_storeCells_at P b off T vs 0 cs.toArray w hh (by simpa using hle) h1
  simp only [Nat.add_zero] at hst
  have hr : (execOp a.eval ⟨dst, .store ty x y, t, pos, aft, g⟩).run P w = .ok .skip (w.setRow b (setR cs off vs).toArray) := by
    simp only [execOp, ha.eval hx, ha.eval hy, Instr.storeAt, Instr.sureAddr, storeVar, Sem.run_bind, Sem.run_pure, Result.andThen_ok, hz, hc, ne_eq, not_true_eq_false, if_false, hv, hst]
    simp [setR]
  simp only [Oper.wp, hr, Oper.upon]
  refine hn _ _ ⟨rfl, hS.setAt (w' := w.setRow b (setR cs off vs).toArray) i e rfl (fun b' hb' => ?_) (o' := .cells (setR cs off vs).toArray T (0, 0)) ?_ el⟩
  · show (w.setRow b _).heap[b']? = w.heap[b']?
    exact setRow_other w b b' _ hb'
  · exact heap_setRow w b _ _ T (0, 0) hh
def Ret (K : Value → World → Prop) : Ending → World → Prop
  | .returned v, w => K v w
  | _, _ => False
theorem Calls.toRet {f : FuncId} {args : Array Value} {K K' : Value → World → Prop} (h : Calls P f args w (Ret K)) (hk : ∀ v w', K v w' → K' v w') : Calls P f args w (Ret K') :=
  Calls.mono h fun e w' he => by cases e <;> first | exact hk _ _ he | exact he
theorem OW.call {f : Operand} {F : FuncId} {fi ca : Array Value} {ls : List Operand} {vs : List Value} {tys : Array TypeId} {K : Value → World → Prop} (hf : ev env f = some (.func (.func F) fi ca)) (hl : evs env ls = some vs)
    (hcall : ∀ (args : Array Value) (w : World), (callFunc F args).run P w = .ok (.enter F args) w) {args : Array Value} (ha : fi ++ vs.toArray ++ ca = args) (hc : Calls P F args w (Ret K)) :
    OW P N ⟨dst, .call ⟨.value f, ls.toArray, tys⟩, t, pos, aft, g⟩ env w K := fun a hE next Q hn => by
  subst ha
  have hr : (execOp a.eval ⟨dst, .call ⟨.value f, ls.toArray, tys⟩, t, pos, aft, g⟩).run P w = .ok (.enter F (fi ++ vs.toArray ++ ca)) w := by
    simp only [execOp, resolve, hE.eval hf, List.map_toArray, hE.evals hl, Deferred.ofValue, Sem.run_bind, Sem.run_pure, Result.andThen_ok, invoke, hcall]
  simp only [Oper.wp, hr, Oper.upon]
  exact Calls.mono hc fun e w' he => by
    cases e with
    | returned v => exact hn v w' he
    | panicked c => exact he.elim
    | outgrown => exact he.elim
/-- a static call -/
theorem OW.callF {F : FuncId} {ls : List Operand} {vs : List Value} {tys : Array TypeId} {K : Value → World → Prop} (hl : evs env ls = some vs)
    (hcall : ∀ (args : Array Value) (w : World), (callFunc F args).run P w = .ok (.enter F args) w) (hc : Calls P F vs.toArray w (Ret K)) :
    OW P N ⟨dst, .call ⟨.value (.func F), ls.toArray, tys⟩, t, pos, aft, g⟩ env w K :=
  OW.call (fi := #[]) (ca := #[]) rfl hl hcall (by simp) hc
end

/-! ### 7. A function's beginning and end -/
def idx : Nat → List Value → Env
  | _, [] => []
  | n, v :: l => (n, v) :: idx (n + 1) l
theorem lk_idx : ∀ (l : List Value) (n t : Nat) (v : Value), lk (idx n l) t = some v → n ≤ t ∧ l[t - n]? = some v
  | [], n, t, v, e => by simp [idx, lk] at e
  | u :: l, n, t, v, e => by
    simp only [idx, lk_cons] at e
    by_cases h : n = t
    · subst h; simp at e; subst e; simp
    · rw [if_neg h] at e
      obtain ⟨h1, h2⟩ := lk_idx l (n + 1) t v e
      refine ⟨by omega, ?_⟩
      have : t - n = (t - (n + 1)) + 1 := by omega
      rw [this]
      simpa using h2
section
variable {P : Program} {w : World}
theorem enter {f : FuncId} {fn : Func} {c : Code} {N : Nat} {args : List Value} {R : Ending → World → Prop} (hf : P.funcs[f]? = some fn) (hb : fn.body = some c) (hN : fn.ntmps = N) (hle : args.length ≤ N)
    (h : RC P ⟨N, [], true⟩ (bodyPost P fn R) c (idx 0 args) w) : Calls P f args.toArray w R := by
  refine calls_of_wp hf hb (wq_wp (h _ ⟨?_, rfl, fun t v e => ?_⟩))
  · simp [hN]; omega
  · obtain ⟨_, h2⟩ := lk_idx args 0 t v e
    simp only [Nat.sub_zero] at h2
    have ht : t < args.length := (List.getElem?_eq_some_iff.1 h2).1
    rw [Array.getElem?_append_left (by simpa using ht)]
    simpa using h2
def ResV (P : Program) (w : World) (env : Env) : List ResultVar → List Value → Prop
  | [], [] => True
  | .tmp t :: rs, v :: vs => lk env t = some v ∧ ResV P w env rs vs
  | .cell t ty :: rs, v :: vs => (∃ a, lk env t = some (.pointer (some a)) ∧ (loadVar ty a).run P w = .ok v w) ∧ ResV P w env rs vs
  | _, _ => False
def tup : List Value → Value
  | [v] => v
  | vs => .tuple vs.toArray
def resF (tmps : Array Value) : ResultVar → Sem Value
  | .tmp t => pure (tmps.getD t undef)
  | .cell a t => do loadVar t (← asAddr (tmps.getD a undef))
theorem results_eq (fn : Func) (tmps : Array Value) : results fn tmps = (do let vs ← fn.results.mapM (resF tmps); pure (if h : vs.size = 1 then vs[0] else .tuple vs)) := by
  unfold results
  congr 1
theorem resM {N : Fr} {env : Env} {a : Act} (ha : Has N env a) : ∀ (rs : List ResultVar) (vs : List Value), ResV P w env rs vs → (rs.mapM (resF a.tmps)).run P w = .ok vs w
  | [], [], _ => by simp
  | .tmp t :: rs, v :: vs, ⟨h, hr⟩ => by
    have e := ha.at_ t v h
    have ih := resM ha rs vs hr
    have e1 : (resF a.tmps (.tmp t)).run P w = .ok v w := by simp [resF, Array.getD_eq_getD_getElem?, e]
    simp only [List.mapM_cons, Sem.run_bind, e1, Result.andThen_ok, ih, Sem.run_pure]
  | .cell t ty :: rs, v :: vs, ⟨⟨ad, h, hl⟩, hr⟩ => by
    have e := ha.at_ t _ h
    have ih := resM ha rs vs hr
    have e1 : (resF a.tmps (.cell t ty)).run P w = .ok v w := by simp [resF, Array.getD_eq_getD_getElem?, e, asAddr, hl]
    simp only [List.mapM_cons, Sem.run_bind, e1, Result.andThen_ok, ih, Sem.run_pure]
  | [], _ :: _, h => h.elim
  | .tmp _ :: _, [], h => h.elim
  | .cell _ _ :: _, [], h => h.elim
theorem run_results {fn : Func} {N : Fr} {env : Env} {a : Act} (ha : Has N env a) {rs : List ResultVar} {vs : List Value} (hr : fn.results = rs.toArray) (h : ResV P w env rs vs) :
    (results fn a.tmps).run P w = .ok (tup vs) w := by
  have e := resM ha rs vs h
  rw [results_eq, hr, List.mapM_toArray, Sem.run_bind, Sem.run_map, e]
  simp only [Result.andThen_ok, Sem.run_pure]
  rcases vs with _ | ⟨v, _ | ⟨u, vs⟩⟩ <;> simp [tup]
theorem run_loadVar1 {ty : TypeId} {a' : Addr} {v : Value} (hg : ∀ w, (isAgg ty).run P w = .ok false w) (hc : w.cell? a' = some v) : (loadVar ty a').run P w = .ok v w := by
  simp [loadVar, hg, hc]
theorem run_loadVarA {ty : TypeId} {a' : Addr} {vs : List Value} {sz : Nat} (hg : ∀ w, (isAgg ty).run P w = .ok true w) (hz : ∀ w, (sizeOf ty).run P w = .ok sz w) (hl : vs.length = sz) (hc : CellsAt w a' vs) : (loadVar ty a').run P w = .ok (.agg vs.toArray) w := by
  subst hl
  have h := run_loadCells_list (P := P) (w := w) a' vs hc
  simp [loadVar, hg, hz, h]
theorem RQ.ret0 {fn : Func} {N : Nat} {env : Env} {rs : List ResultVar} {vs : List Value} {K : Value → World → Prop} (hr : fn.results = rs.toArray) (h : ResV P w env rs vs) (hK : K (tup vs) w) :
    RQ ⟨N, [], true⟩ (bodyPost P fn (Ret K) .ret) env w := fun a ha => ⟨ha.defers, _, run_results ha hr h, hK⟩
theorem RQ.end0 {fn : Func} {N : Nat} {env : Env} {rs : List ResultVar} {vs : List Value} {K : Value → World → Prop} (hr : fn.results = rs.toArray) (h : ResV P w env rs vs) (hK : K (tup vs) w) :
    RQ ⟨N, [], true⟩ (bodyPost P fn (Ret K) .normal) env w := fun a ha => ⟨ha.defers, _, run_results ha hr h, hK⟩
end

/-! ### 8. Results that are there; loops -/
def Holds {α : Type} (φ : α → Prop) (o : Option α) : Prop := ∃ x, o = some x ∧ φ x
theorem Holds.bind {α β : Type} {φ : β → Prop} {o : Option α} {f : α → Option β} (h : Holds φ (o.bind f)) : ∃ x, o = some x ∧ Holds φ (f x) := by
  obtain ⟨y, hy, hp⟩ := h
  cases o with
  | none => cases hy
  | some x => exact ⟨x, rfl, y, hy, hp⟩
theorem Holds.pos {α : Type} {φ : α → Prop} {c : Prop} [Decidable c] {x y : Option α} (h : Holds φ (if c then x else y)) (hc : c) : Holds φ x := by rwa [if_pos hc] at h
theorem Holds.neg {α : Type} {φ : α → Prop} {c : Prop} [Decidable c] {x y : Option α} (h : Holds φ (if c then x else y)) (hc : ¬ c) : Holds φ y := by rwa [if_neg hc] at h
/-- what is asked ahead -/
theorem Holds.req {α : Type} {φ : α → Prop} {c : Prop} [Decidable c] {x : Option α} (h : Holds φ (if c then x else none)) : c ∧ Holds φ x := by
  by_cases hc : c
  · exact ⟨hc, h.pos hc⟩
  · obtain ⟨_, e, _⟩ := h.neg hc; cases e
theorem Holds.some {α : Type} {φ : α → Prop} {x : α} (h : Holds φ (some x)) : φ x := by
  obtain ⟨y, e, hp⟩ := h
  cases e
  exact hp
theorem Holds.none {α : Type} {φ : α → Prop} {p : Prop} (h : Holds φ (none : Option α)) : p := by obtain ⟨_, e, _⟩ := h; cases e
theorem Holds.map {α β : Type} {φ : β → Prop} {o : Option α} {f : α → β} (h : Holds φ (o.map f)) : Holds (fun x => φ (f x)) o := by
  obtain ⟨y, e, hp⟩ := h
  cases o with
  | none => cases e
  | some x => cases e; exact ⟨x, rfl, hp⟩
theorem Holds.inr {α β : Type} {G : β → Prop} {φ : α → Prop} {o : Option α} (h : Holds (Sum.elim G φ) (Option.map Sum.inr o)) : Holds φ o := h.map
theorem Holds.inrS {α β : Type} {G : β → Prop} {φ : α → Prop} {x : α} (h : Holds (Sum.elim G φ) (Option.some (Sum.inr x))) : Holds φ (Option.some x) := ⟨x, rfl, h.some⟩
theorem Holds.eq {α : Type} {o : Option α} {r : α} (h : Holds (· = r) o) : o = .some r := by obtain ⟨x, e, rfl⟩ := h; exact e
theorem Holds.of {α : Type} {o : Option α} {r : α} (h : o = .some r) : Holds (· = r) o := ⟨r, h, rfl⟩
def iterN {S R : Type} (body : S → Option (S ⊕ R)) : Nat → S → Option R
  | 0, _ => none
  | k + 1, s => match body s with
    | none => none
    | some (.inl s') => iterN body k s'
    | some (.inr r) => some r
theorem iterN_mono {S R : Type} {body : S → Option (S ⊕ R)} : ∀ {k : Nat} {s : S} {r : R}, iterN body k s = some r → ∀ m, iterN body (k + m) s = some r
  | 0, _, _, h, _ => by cases h
  | k + 1, s, r, h, m => by
    have e : k + 1 + m = (k + m) + 1 := by omega
    rw [e]
    simp only [iterN] at h ⊢
    cases hb : body s with
    | none => simp [hb] at h
    | some x =>
      cases x with
      | inl s' => simp only [hb] at h ⊢; exact iterN_mono h m
      | inr r' => simpa [hb] using h
theorem iterN_fun {S R : Type} {body : S → Option (S ⊕ R)} {k k' : Nat} {s : S} {r r' : R} (h : iterN body k s = some r) (h' : iterN body k' s = some r') : r = r' := by
  have a := iterN_mono h k'
  have b := iterN_mono h' k
  rw [Nat.add_comm] at b
  rw [a] at b
  exact Option.some.inj b
open Classical in
/-- the loop's answer, however many rounds it takes; none if it has none -/
noncomputable def loopR {S R : Type} (body : S → Option (S ⊕ R)) (s : S) : Option R :=
  if h : ∃ k r, iterN body k s = some r then some h.choose_spec.choose else none
theorem loopR_iff {S R : Type} {body : S → Option (S ⊕ R)} {s : S} {r : R} : loopR body s = some r ↔ ∃ k, iterN body k s = some r := by
  unfold loopR
  constructor
  · intro h
    split at h
    · rename_i hx
      have := hx.choose_spec.choose_spec
      exact ⟨_, by rw [this]; exact h⟩
    · cases h
  · rintro ⟨k, hk⟩
    have hx : ∃ k r, iterN body k s = some r := ⟨k, r, hk⟩
    rw [dif_pos hx]
    exact congrArg some (iterN_fun hx.choose_spec.choose_spec hk)
theorem loopR_eq {S R : Type} (body : S → Option (S ⊕ R)) (s : S) : loopR body s = (body s).bind (Sum.elim (loopR body) some) := by
  apply Option.ext
  intro r
  rw [loopR_iff]
  constructor
  · rintro ⟨k, hk⟩
    cases k with
    | zero => cases hk
    | succ k =>
      simp only [iterN] at hk
      cases hb : body s with
      | none => simp [hb] at hk
      | some x =>
        cases x with
        | inl s' => simp only [hb] at hk; simpa using loopR_iff.2 ⟨k, hk⟩
        | inr r' => simp only [hb] at hk; simpa using hk
  · intro h
    cases hb : body s with
    | none => simp [hb] at h
    | some x =>
      cases x with
      | inl s' =>
        simp only [hb, Option.bind_some, Sum.elim_inl] at h
        obtain ⟨k, hk⟩ := loopR_iff.1 h
        exact ⟨k + 1, by simp [iterN, hb, hk]⟩
      | inr r' =>
        simp only [hb, Option.bind_some, Sum.elim_inr] at h
        exact ⟨1, by simp [iterN, hb]; simpa using h⟩
theorem RC.loop {P : Program} {N : Fr} {Q : Exit → Act → World → Prop} {S R : Type} {c : Code} {body : S → Option (S ⊕ R)} {φ : R → Prop} (I : S → Act → World → Prop)
    (hround : ∀ (G : S → Prop) s a w, I s a w → Holds (Sum.elim G φ) (body s) → wq P N.y c (Exit.then (fun a w => ∃ s', I s' a w ∧ G s') Q) a w)
    {s0 : S} (h0 : Holds φ (loopR body s0)) {a : Act} {w : World} (hI : I s0 a w) : wq P N.y (Code.loop c) Q a w := by
  obtain ⟨r, hr, hφ⟩ := h0
  obtain ⟨k, hk⟩ := loopR_iff.1 hr
  intro X hX
  have key : ∀ (k : Nat) (s : S) (a : Act) (w : World), iterN body k s = some r → I s a w → X a w := by
    intro k
    induction k with
    | zero => intro s a w h; cases h
    | succ k ih =>
      intro s a w hk hI
      have hb : Holds (Sum.elim (fun s' => iterN body k s' = some r) φ) (body s) := by
        simp only [iterN] at hk
        cases hb : body s with
        | none => simp [hb] at hk
        | some x =>
          refine ⟨x, rfl, ?_⟩
          cases x with
          | inl s' => simpa [hb] using hk
          | inr r' => simp [hb] at hk; subst hk; exact hφ
      exact hX a w (wq_mono c (then_mono (fun a w ⟨s', hI', hG⟩ => ih s' a w hG hI') fun _ _ _ h => h) a w (hround _ s a w hI hb))
  exact key k s0 a w hk hI
end Go.Sl
