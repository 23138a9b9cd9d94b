/-
  The own separation logic for the walks, part 17.
-/
import Derived.Test.YtpheghebfodiiaaGreatDoorSl16
set_option linter.unusedVariables false
set_option linter.unusedSimpArgs false
namespace Go.Sl
section
variable {P : Program} {N : Fr} {B : Base} {w : World} {L : List HProp} {hf : Hp} {env env' : Env} {ops : Array Oper} {Q : Exit → Act → World → Prop} {rest : List Oper} {t : TypeId} {pos : String} {aft : Array Edge} {g : Option (Nat × Bool)} {l d : Nat} {rc : Loop} {ps : Array Tmp} {as bd : Code} {K : Value → World → Prop} {R : Ending → World → Prop}
/-! ### 28. Ranges over functions: the loop's record is a piece -/
structure RecOK (N : Fr) (env : Env) (ps : Array Tmp) (as bd : Code) (rc : Loop) : Prop where
  state : rc.state = .ready
  pending : rc.pending = none
  params : rc.params = ps
  assign : rc.assign = as
  body : rc.body = bd
  size : rc.tmps.size = N.n
  at_ : ∀ t v, lk env t = some v → rc.tmps[t]? = some v
/-- the ranges over functions in a code, in order -/
def rfs : Code → List (Array Tmp × Code × Code)
  | .seq x z => rfs x ++ rfs z
  | .cond _ x z => rfs x ++ rfs z
  | .block _ c => rfs c
  | .loop c => rfs c
  | .rangeFunc _ ps as bd => [(ps, as, bd)]
  | _ => []
def rfN (fn : Func) (k : Nat) : Array Tmp × Code × Code := (rfs (fn.body.getD .skip)).getD k (#[], .skip, .skip)
/-- the record of a function's k-th range over a function, as far as the round looks at it -/
abbrev RecF (fn : Func) (k : Nat) (N : Fr) (env : Env) (rc : Loop) : Prop := RecOK N env (rfN fn k).1 (rfN fn k).2.1 (rfN fn k).2.2 rc
theorem RecOK.to {M : Fr} {fn : Func} {k : Nat} (h : RecOK N env ps as bd rc) (hn : N.n = M.n) (hp : rfN fn k = (ps, as, bd)) (he : AllE (fun p => lk env p.1 = some p.2) env') : RecF fn k M env' rc := by
  unfold RecF
  rw [hp]
  exact ⟨h.state, h.pending, h.params, h.assign, h.body, by rw [h.size, hn], fun t v x => h.at_ t v (lk_all he x)⟩
theorem NoTmp.round {l : Nat} : NoTmp (roundPost P l R) := fun _ _ _ _ _ h => h
def busy (rc : Loop) : Loop := { rc with state := .busy }
def pd (rc : Loop) (c : Code) : Loop := { rc with state := .done, pending := some c }
theorem St.putO {o o' : Obj} (h : St B w (pts l o :: L) hf) : St B (w.putObj l o') (pts l o' :: L) hf := by
  have hb := h.blk 0 rfl
  refine h.put rfl (fun b' hne => ?_) ?_
  · show (w.putObj l o').heap[b']? = w.heap[b']?
    exact World.putObj_heap_other hne
  · show (w.putObj l o').heap[l]? = some o'
    exact World.putObj_heap_same (Array.getElem?_eq_some_iff.1 hb).1
/-- a call of yield -/
def Yld (P : Program) (l : Nat) (vs : List Value) (w : World) (R : Ending → World → Prop) : Prop :=
  ∃ rc : Loop, w.heap[l]? = some (.loop rc) ∧ vs.length = rc.params.size ∧ RoundIn Fence.wide 0 P l rc.fn ((rc.params.zip vs.toArray).foldl (fun tmps (t, a) => tmps.setIfInBounds t a) rc.tmps) rc.assign rc.body w R
theorem yc {dd : Nat} {y : Operand} {ls : List Operand} {vs : List Value} {tys : Array TypeId} {α β : Type} {o : Option α} {k : α → Option β} {φ : β → Prop} {K : α → Value → World → Prop}
    (hc : ∀ r, o = some r → Yld P l vs w (Ret (K r))) (hy : ev env y = some (.func (.yield l) #[] #[])) (h : Holds φ (o.bind k)) (hl : evs env ls = some vs) (hN : N.y = true)
    (hd : Nat.blt dd N.n = true) (hg : gd ops env ⟨some dd, .call ⟨.value y, ls.toArray, tys⟩, t, pos, aft, g⟩ = some true) (hr : ∀ r, Holds φ (k r) → ∀ v w, K r v w → RL P N ops Q rest ((dd, v) :: env) w) :
    RL P N ops Q (⟨some dd, .call ⟨.value y, ls.toArray, tys⟩, t, pos, aft, g⟩ :: rest) env w := fun a ha => by
  obtain ⟨r, e, hk⟩ := h.bind
  obtain ⟨rc, h1, h2, h3⟩ := hc r e
  unfold wqL
  rw [if_pos (gd_wanted ha hg)]
  refine .inr ⟨hN, l, rc.fn, _, rc.assign, rc.body, w, ?_, h3.mono fun e w' he => ?_⟩
  · have hy' := run_yield (P := P) h1 (args := vs.toArray) (by simpa using h2)
    simp only [execOp, resolve, ha.eval hy, List.map_toArray, ha.evals hl, Deferred.ofValue, Sem.run_bind, Sem.run_pure, Result.andThen_ok, invoke]
    simpa using hy'
  · cases e with
    | returned v => exact hr r hk v w' he _ (ha.put (some dd) v hd)
    | panicked c => exact he.elim
    | outgrown => exact he.elim
/-- the temporaries at a round's beginning -/
def parE : List Tmp → List Value → Env → Env
  | p :: ps, v :: vs, env => parE ps vs ((p, v) :: env)
  | _, _, env => env
theorem Has.par {M : Fr} : ∀ {ps : List Tmp} {vs : List Value} {env : Env} {tm : Array Value}, Has M env ⟨tm, M.D⟩ → (ps.all fun p => Nat.blt p M.n) = true →
    Has M (parE ps vs env) ⟨((ps.zip vs).foldl (fun tmps (t, a) => tmps.setIfInBounds t a) tm), M.D⟩
  | [], vs, env, tm, h, _ => by cases vs <;> exact h
  | p :: ps, [], env, tm, h, _ => h
  | p :: ps, v :: vs, env, tm, h, hp => by
    simp only [List.all_cons, Bool.and_eq_true] at hp
    exact Has.par (env := (p, v) :: env) (h.put (some p) v hp.1) hp.2
def Bg (P : Program) (l : Nat) (R : Ending → World → Prop) (bd : Code) (a : Act) (w : World) : Prop := ∃ w₂, (Instr.beginRound l).run P w = .ok () w₂ ∧ wq P false bd (roundPost P l R) a w₂
theorem Yld.of {vs : List Value} {psl : List Tmp} (hS : St B w (pts l (.loop rc) :: L) hf) (hrec : RecOK N env psl.toArray as bd rc) (hlen : psl.length = vs.length) (hp : (psl.all fun p => Nat.blt p N.n) = true) (hcalm : (calm as && calm bd) = true)
    (h : RC P ⟨N.n, [], false⟩ (Exit.then (Bg P l R bd) (fun _ _ _ => False)) as (parE psl vs env) w) : Yld P l vs w R := by
  simp only [Bool.and_eq_true] at hcalm
  refine ⟨rc, hS.blk 0 rfl, by rw [hrec.params]; simp [hlen], ?_⟩
  rw [hrec.params, hrec.assign, hrec.body]
  refine roundIn_of_wpIn (F := Fence.wide) trivial ?_
  have hH : Has ⟨N.n, [], false⟩ env ⟨rc.tmps, []⟩ := ⟨hrec.size, rfl, hrec.at_⟩
  have hH' := Has.par (M := ⟨N.n, [], false⟩) (vs := vs) hH hp
  have e : (psl.toArray.zip vs.toArray).foldl (fun tmps (x : Tmp × Value) => tmps.setIfInBounds x.1 x.2) rc.tmps = (psl.zip vs).foldl (fun tmps (x : Tmp × Value) => tmps.setIfInBounds x.1 x.2) rc.tmps := by simp
  have h1 := wq_fc (r := some l) (n := 0) (.inr rfl) as _ w (.inr hcalm.1) (h _ hH')
  refine wpIn_mono (a := ⟨_, []⟩) (by rw [show (psl.toArray.zip vs.toArray).foldl (fun tmps (x : Tmp × Value) => tmps.setIfInBounds x.1 x.2) rc.tmps = _ from e]; exact h1) fun e a w he => ?_
  cases e <;> first | exact he | skip
  obtain ⟨w₂, hb, hw⟩ := he
  exact ⟨w₂, hb, wq_fc (r := some l) (n := 0) (.inr rfl) bd a w₂ (.inr hcalm.2) hw⟩
/-- the round begins -/
theorem RQ.bg {M : Fr} (hS : St B w (pts l (.loop rc) :: L) hf) (hst : rc.state = .ready) (hM : M.y = false) (h : ∀ w, St B w (pts l (.loop (busy rc)) :: L) hf → RC P M (roundPost P l R) bd env w) : RQ M (Bg P l R bd) env w := fun a ha => by
  have h1 := h _ hS.putO a ha
  rw [hM] at h1
  exact ⟨_, run_beginRound (hS.blk 0 rfl) hst, h1⟩
/-- and ends -/
theorem RQ.rn {M : Fr} (hS : St B w (pts l (.loop (busy rc)) :: L) hf) (h1 : rc.state = .ready) (h2 : rc.pending = none) (h : ∀ w, St B w (pts l (.loop rc) :: L) hf → K (.bool true) w) : RQ M (roundPost P l (Ret K) .normal) env w := fun a ha => by
  refine ⟨_, _, run_endRound none (hS.blk 0 rfl), ?_⟩
  have e : ({ busy rc with state := .ready, pending := none } : Loop) = rc := by
    obtain ⟨s, p, f, tm, pa, as, bd, de⟩ := rc
    simp only at h1 h2
    subst h1; subst h2; rfl
  have := hS.putO (o' := .loop ({ busy rc with state := .ready, pending := none } : Loop))
  rw [e] at this
  exact h _ (by rw [← e]; simpa [e] using this)
theorem RQ.rr {M : Fr} (hS : St B w (pts l (.loop (busy rc)) :: L) hf) (h : ∀ w, St B w (pts l (.loop (pd rc .ret)) :: L) hf → K (.bool false) w) : RQ M (roundPost P l (Ret K) .ret) env w := fun a ha =>
  ⟨_, _, run_endRound (some .ret) (hS.blk 0 rfl), h _ hS.putO⟩
theorem RQ.rx {M : Fr} {id : Nat} (hS : St B w (pts l (.loop (busy rc)) :: L) hf) (h : ∀ w, St B w (pts l (.loop (pd rc (.exit id))) :: L) hf → K (.bool false) w) : RQ M (roundPost P l (Ret K) (.exit id)) env w := fun a ha =>
  ⟨_, _, run_endRound (some (.exit id)) (hS.blk 0 rfl), h _ hS.putO⟩
/-- behind the loop -/
def RE (P : Program) (N : Fr) (l : Nat) (Q : Exit → Act → World → Prop) (env : Env) (w : World) : Prop := ∀ a, Has N env a → ∃ jump w₄, (Instr.endLoop l).run P w = .ok jump w₄ ∧ (match jump with
  | none => Q .normal a w₄
  | some c => wq P true c Q a w₄)
theorem RE.n (hS : St B w (pts l (.loop rc) :: L) hf) (h1 : rc.state = .ready) (h2 : rc.pending = none) (h : ∀ w, St B w L hf → RQ N (Q .normal) env w) : RE P N l Q env w := fun a ha => by
  refine ⟨_, _, run_endLoop (hS.blk 0 rfl) (by rw [h1]; simp), ?_⟩
  rw [h2]
  exact h _ hS.putO.drop a ha
theorem RE.r (hS : St B w (pts l (.loop (pd rc .ret)) :: L) hf) (h : ∀ w, St B w L hf → RQ N (Q .ret) env w) : RE P N l Q env w := fun a ha =>
  ⟨_, _, run_endLoop (hS.blk 0 rfl) (by simp [pd]), h _ hS.putO.drop a ha⟩
theorem RE.x {id : Nat} (hS : St B w (pts l (.loop (pd rc (.exit id))) :: L) hf) (h : ∀ w, St B w L hf → RQ N (Q (.exit id)) env w) : RE P N l Q env w := fun a ha =>
  ⟨_, _, run_endLoop (hS.blk 0 rfl) (by simp [pd]), h _ hS.putO.drop a ha⟩
def mark (d : Nat) : Deferred := { target := .collected d, args := #[] }
theorem RC.rf {gg : Operand} {gf : FuncId} {fi ca : Array Value} {args : Nat → Array Value} {K : Nat → Nat → Loop → Value → World → Prop} (hg : ev env gg = some (.func (.func gf) fi ca))
    (hcall : ∀ (args : Array Value) (w : World), (callFunc gf args).run P w = .ok (.enter gf args) w) (hN : N.y = true) (hS : St B w L hf) (ha : ∀ l, fi ++ #[.func (.yield l) #[] #[]] ++ ca = args l)
    (hc : ∀ l d rc w, RecOK N env ps as bd rc → St B w (pts l (.loop rc) :: pts d (.deferred (some [])) :: L) hf → Calls P gf (args l) w (Ret (K l d rc)))
    (hr : ∀ l d rc v w, RecOK N env ps as bd rc → K l d rc v w → RE P ⟨N.n, mark d :: N.D, true⟩ l Q env w) : RC P N Q (.rangeFunc gg ps as bd) env w := fun a hA => by
  refine ⟨hN, (wpIn_wide (n := 0)).1 (wpIn_rangeFunc fun fn _ => ?_)⟩
  obtain ⟨r0, hr0⟩ : ∃ r : Loop, r = { state := .ready, pending := none, fn, tmps := a.tmps, params := ps, assign := as, body := bd, defers := w.heap.size } := ⟨_, rfl⟩
  have hS2 := (hS.new (w' := w.alloc (.deferred (some []))) (.deferred (some [])) rfl rfl).new (w' := (w.alloc (.deferred (some []))).alloc (.loop r0)) (.loop r0) rfl rfl
  rw [World.size_alloc] at hS2
  have hrec : RecOK N env ps as bd r0 := by subst hr0; exact ⟨rfl, rfl, rfl, rfl, rfl, hA.size, hA.at_⟩
  have hent := run_enterLoop_outer (P := P) (w := w) fn a.tmps ps as bd
  rw [← hr0] at hent
  obtain ⟨W2, hW2⟩ : ∃ W, W = (w.alloc (.deferred (some []))).alloc (.loop r0) := ⟨_, rfl⟩
  rw [← hW2] at hent hS2
  have h1 : (resolve a.eval (rangeCall gg (w.heap.size + 1)) 0).run P W2 = .ok { target := .fn (.func gf) ca, args := fi ++ #[.func (.yield (w.heap.size + 1)) #[] #[]] } W2 := by
    have hk : ∀ v, a.eval (.const v) = v := fun _ => rfl
    simp only [resolve, hA.eval hg, List.map_toArray, List.map_cons, List.map_nil, hk, Deferred.ofValue, Sem.run_bind, Sem.run_pure, Result.andThen_ok]
  have h2 : (invoke (.fn (.func gf) ca) (fi ++ #[.func (.yield (w.heap.size + 1)) #[] #[]])).run P W2 = .ok (.enter gf (args (w.heap.size + 1))) W2 := by
    simp only [invoke, hcall, ha]
  have h3 := (callsIn_wide (n := 0)).2 (Calls.mono (R' := rangePost Fence.wide 0 P (w.heap.size + 1) Q { a with defers := [mark w.heap.size] ++ a.defers }) (hc _ _ _ _ hrec hS2) fun e w' he => by
    cases e with
    | returned v =>
      obtain ⟨jump, w₄, h1, h2⟩ := hr _ _ _ v w' hrec he { a with defers := mark w.heap.size :: a.defers } ⟨hA.size, by simp [hA.defers], hA.at_⟩
      refine ⟨jump, w₄, h1, ?_⟩
      cases jump with
      | none => exact h2
      | some c => exact (wpIn_wide (n := 0)).2 (wq_wp h2)
    | panicked c => exact he.elim
    | outgrown => exact he.elim)
  exact ⟨_, _, _, _, W2, gf, args (w.heap.size + 1), W2, hent, h1, fun _ _ => trivial, h2, fun h => by simp [Fence.wide] at h, h3⟩
/-! ### 29. A function that holds a range over a function -/
theorem enM {f : FuncId} {fn : Func} {c : Code} {n : Nat} {args : List Value} {R : Ending → World → Prop} (hf : P.funcs[f]? = some fn) (hb : fn.body = some c) (hN : fn.ntmps = n) (hle : Nat.ble args.length n = true)
    (h : RC P ⟨n, [], true⟩ (bodyPostM Fence.wide 0 P fn R) c (idx 0 args) w) : Calls P f args.toArray w R := by
  have hle := Nat.le_of_ble_eq_true hle
  refine (callsIn_wide (n := 0)).1 (callsIn_of_wp_marks hf hb trivial ((wpIn_wide (n := 0)).2 (wq_wp (h _ ⟨?_, rfl, fun t v e => ?_⟩))))
  · simp [hN]; omega
  · obtain ⟨_, h2⟩ := lk_idx args 0 t v e
    simp only [Nat.sub_zero] at h2
    have ht : t < args.length := (List.getElem?_eq_some_iff.1 h2).1
    rw [Array.getElem?_append_left (by simpa using ht)]
    simpa using h2
theorem leaves0 {fn : Func} {n : Nat} {D : List Deferred} {rs : List ResultVar} {vs : List Value} {a : Act} (ha : Has ⟨n, D, true⟩ env a) (hr : fn.results = rs.toArray) (h : ResV P w env rs vs) (hK : K (tup vs) w) : LeavesInM Fence.wide 0 P fn a.tmps (Ret K) [] .returning w :=
  ⟨_, run_results ha hr h, hK⟩
theorem leaves1 {fn : Func} {n : Nat} {D D' : List Deferred} {a : Act} (hS : St B w (pts d (.deferred (some [])) :: L) hf) (h : ∀ w, St B w L hf → LeavesInM Fence.wide 0 P fn a.tmps (Ret K) D' .returning w) : LeavesInM Fence.wide 0 P fn a.tmps (Ret K) (mark d :: D') .returning w :=
  ⟨by simp, .inl ⟨d, _, rfl, run_takeDeferred (hS.blk 0 rfl), h _ hS.putO.drop⟩⟩
theorem rtM0 {fn : Func} {n : Nat} {rs : List ResultVar} {vs : List Value} (hr : fn.results = rs.toArray) (h : ResV P w env rs vs) (hK : K (tup vs) w) : RQ ⟨n, [], true⟩ (bodyPostM Fence.wide 0 P fn (Ret K) .ret) env w := fun a ha => by
  show LeavesInM _ _ _ _ _ _ a.defers _ _
  rw [ha.defers]; exact leaves0 ha hr h hK
theorem rtE0 {fn : Func} {n : Nat} {rs : List ResultVar} {vs : List Value} (hr : fn.results = rs.toArray) (h : ResV P w env rs vs) (hK : K (tup vs) w) : RQ ⟨n, [], true⟩ (bodyPostM Fence.wide 0 P fn (Ret K) .normal) env w := fun a ha => by
  show LeavesInM _ _ _ _ _ _ a.defers _ _
  rw [ha.defers]; exact leaves0 ha hr h hK
theorem rtM1 {fn : Func} {n : Nat} {rs : List ResultVar} {vs : List Value} (hr : fn.results = rs.toArray) (hS : St B w (pts d (.deferred (some [])) :: L) hf) (h : ∀ w, St B w L hf → ResV P w env rs vs ∧ K (tup vs) w) : RQ ⟨n, [mark d], true⟩ (bodyPostM Fence.wide 0 P fn (Ret K) .ret) env w := fun a ha => by
  show LeavesInM _ _ _ _ _ _ a.defers _ _
  rw [ha.defers]; exact leaves1 (n := n) (D := []) hS fun w hS => leaves0 ha hr (h w hS).1 (h w hS).2
theorem rtE1 {fn : Func} {n : Nat} {rs : List ResultVar} {vs : List Value} (hr : fn.results = rs.toArray) (hS : St B w (pts d (.deferred (some [])) :: L) hf) (h : ∀ w, St B w L hf → ResV P w env rs vs ∧ K (tup vs) w) : RQ ⟨n, [mark d], true⟩ (bodyPostM Fence.wide 0 P fn (Ret K) .normal) env w := fun a ha => by
  show LeavesInM _ _ _ _ _ _ a.defers _ _
  rw [ha.defers]; exact leaves1 (n := n) (D := []) hS fun w hS => leaves0 ha hr (h w hS).1 (h w hS).2
end
end Go.Sl
