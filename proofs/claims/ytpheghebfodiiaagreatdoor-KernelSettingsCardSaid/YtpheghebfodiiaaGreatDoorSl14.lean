/-
  The own separation logic for the walks, part 14.
-/
import Derived.Test.YtpheghebfodiiaaGreatDoorSl13
import Derived.Recover
import Derived.Laws.OwnMore
set_option linter.unusedVariables false
set_option linter.unusedSimpArgs false
namespace Go.Sl

/-! ### 22. Panics, deferred calls, recover -/
def pan (v : Value) : List PanicEntry := [{ v, recovered := false }]
def panR (v : Value) : List PanicEntry := [{ v, recovered := true }]
def RetP (K Kp : Value → World → Prop) : Ending → World → Prop
  | .returned v, w => K v w
  | .panicked ch, w => ∃ v, ch = pan v ∧ Kp v w
  | .outgrown, _ => False
section
variable {P : Program} {N : Fr} {env : Env} {w : World} {dst : Option Tmp} {t : TypeId} {pos : String} {aft : Array Edge} {g : Option (Nat × Bool)} {B : Base} {l : List HProp} {hf : Hp} {Q : Exit → Act → World → Prop} {ops : Array Oper} {rest : List Oper}
def OWP (P : Program) (N : Fr) (o : Oper) (env : Env) (w : World) (K Kp : Value → World → Prop) : Prop :=
  ∀ a, Has N env a → ∀ (next : Act → World → Prop) (Q : Exit → Act → World → Prop), (∀ v w', K v w' → next (a.put o.dst v) w') → (∀ v w', Kp v w' → Q (.panic (pan v)) a w') → o.wp P a w next Q
theorem OWP.call {f : Operand} {F : FuncId} {fi ca : Array Value} {ls : List Operand} {vs : List Value} {tys : Array TypeId} {K Kp : Value → World → Prop} (hf : ev env f = some (.func (.func F) fi ca)) (hl : evs env ls = some vs)
    (hcall : ∀ (args : Array Value) (w : World), (callFunc F args).run P w = .ok (.enter F args) w) {args : Array Value} (ha : fi ++ vs.toArray ++ ca = args) (hc : Calls P F args w (RetP K Kp)) :
    OWP P N ⟨dst, .call ⟨.value f, ls.toArray, tys⟩, t, pos, aft, g⟩ env w K Kp := fun a hE next Q hn hp => by
  subst ha
  have hr : (execOp a.eval ⟨dst, .call ⟨.value f, ls.toArray, tys⟩, t, pos, aft, g⟩).run P w = .ok (.enter F (fi ++ vs.toArray ++ ca)) w := by
    simp only [execOp, resolve, hE.eval hf, List.map_toArray, hE.evals hl, Deferred.ofValue, Sem.run_bind, Sem.run_pure, Result.andThen_ok, invoke, hcall]
  simp only [Oper.wp, hr, Oper.upon]
  exact Calls.mono hc fun e w' he => by
    cases e with
    | returned v => exact hn v w' he
    | panicked c => obtain ⟨v, rfl, hk⟩ := he; exact hp v w' hk
    | outgrown => exact he.elim
theorem OWP.callF {F : FuncId} {ls : List Operand} {vs : List Value} {tys : Array TypeId} {K Kp : Value → World → Prop} (hl : evs env ls = some vs)
    (hcall : ∀ (args : Array Value) (w : World), (callFunc F args).run P w = .ok (.enter F args) w) (hc : Calls P F vs.toArray w (RetP K Kp)) :
    OWP P N ⟨dst, .call ⟨.value (.func F), ls.toArray, tys⟩, t, pos, aft, g⟩ env w K Kp :=
  OWP.call (fi := #[]) (ca := #[]) rfl hl hcall (by simp) hc
theorem RL.eP {d : Nat} {op : Op} {K Kp : Value → World → Prop} (h : OWP P N ⟨some d, op, t, pos, aft, g⟩ env w K Kp) (hd : Nat.blt d N.n = true) (hg : gd ops env ⟨some d, op, t, pos, aft, g⟩ = some true)
    (hr : ∀ v w', K v w' → RL P N ops Q rest ((d, v) :: env) w') (hp : ∀ v w', Kp v w' → RQ N (Q (.panic (pan v))) env w') : RL P N ops Q (⟨some d, op, t, pos, aft, g⟩ :: rest) env w := fun a ha => by
  unfold wqL
  rw [if_pos (gd_wanted ha hg)]
  exact .inl (h a ha _ _ (fun v w' hk => hr v w' hk _ (ha.put (some d) _ hd)) (fun v w' hk => hp v w' hk a ha))
theorem RL.panic {x : Operand} {T : TypeId} {v : Value} (hx : ev env x = some (.iface T v)) (h : RQ N (Q (.panic (pan (.iface T v)))) env w) : RL P N ops Q (⟨dst, .panic x, t, pos, aft, none⟩ :: rest) env w := fun a ha => by
  unfold wqL
  rw [if_pos (gd_wanted ha (b := true) rfl)]
  refine .inl ?_
  have hr : (execOp a.eval ⟨dst, .panic x, t, pos, aft, none⟩).run P w = .halt (.panic (.iface T v)) w := by
    have hp : (Instr.panic (.iface T v)).run P w = .halt (.panic (.iface T v)) w := rfl
    simp only [execOp, ha.eval hx, Sem.run_bind, hp, Result.andThen]
  simp only [Oper.wp, hr, Oper.upon]
  exact h a ha
theorem RQ.panT {next : Act → World → Prop} {ch : List PanicEntry} (h : RQ N (Q (.panic ch)) env w) : RQ N (Exit.then next Q (.panic ch)) env w := h
theorem RQ.panB {id : Nat} {ch : List PanicEntry} (h : RQ N (Q (.panic ch)) env w) : RQ N (Exit.inBlock id Q (.panic ch)) env w := h
theorem RQ.pan0 {fn : Func} {n : Nat} {K Kp : Value → World → Prop} {v : Value} (h : Kp v w) : RQ ⟨n, [], true⟩ (bodyPost P fn (RetP K Kp) (.panic (pan v))) env w := fun a ha => ⟨ha.defers, v, rfl, h⟩
theorem RQ.retP {fn : Func} {n : Nat} {rs : List ResultVar} {vs : List Value} {K Kp : Value → World → Prop} (hr : fn.results = rs.toArray) (h : ResV P w env rs vs) (hK : K (tup vs) w) :
    RQ ⟨n, [], true⟩ (bodyPost P fn (RetP K Kp) .ret) env w := fun a ha => ⟨ha.defers, _, run_results ha hr h, hK⟩
theorem RQ.endP {fn : Func} {n : Nat} {rs : List ResultVar} {vs : List Value} {K Kp : Value → World → Prop} (hr : fn.results = rs.toArray) (h : ResV P w env rs vs) (hK : K (tup vs) w) :
    RQ ⟨n, [], true⟩ (bodyPost P fn (RetP K Kp) .normal) env w := fun a ha => ⟨ha.defers, _, run_results ha hr h, hK⟩
/-- what no way leaves by a panic -/
def noPan (Q : Exit → Act → World → Prop) : Exit → Act → World → Prop
  | .panic _, _, _ => False
  | e, a, w => Q e a w
theorem NoTmp.noPan : NoTmp (Sl.noPan Q) := fun _ _ _ _ _ h => h
theorem RC.noPan {c : Code} (h : RC P N (Sl.noPan Q) c env w) : RC P N Q c env w := fun a ha => wq_mono c (fun e a w h => by cases e <;> first | exact h | exact h.elim) a _ (h a ha)
theorem RQ.noPan_n (h : RQ N (Q .normal) env w) : RQ N (Sl.noPan Q .normal) env w := h
/-- a function that defers -/
theorem enterD {f : FuncId} {fn : Func} {c : Code} {n : Nat} {args : List Value} {R : Ending → World → Prop} (hf : P.funcs[f]? = some fn) (hb : fn.body = some c) (hN : fn.ntmps = n) (hle : args.length ≤ n)
    (h : RC P ⟨n, [], true⟩ (bodyPostD P fn R) c (idx 0 args) w) : Calls P f args.toArray w R := by
  refine calls_of_wp_defers hf hb (wq_wp (h _ ⟨?_, rfl, fun t v e => ?_⟩))
  · simp [hN]; omega
  · obtain ⟨_, h2⟩ := lk_idx args 0 t v e
    simp only [Nat.sub_zero] at h2
    have ht : t < args.length := (List.getElem?_eq_some_iff.1 h2).1
    rw [Array.getElem?_append_left (by simpa using ht)]
    simpa using h2
theorem RL.defer {n : Nat} {D : List Deferred} {f : Operand} {F : FuncId} {ca : Array Value} (hx : ev env f = some (.func (.func F) #[] ca))
    (h : RL P ⟨n, ⟨.fn (.func F) ca, #[]⟩ :: D, true⟩ ops Q rest env w) : RL P ⟨n, D, true⟩ ops Q (⟨none, .defer ⟨.value f, #[], #[]⟩, t, pos, aft, none⟩ :: rest) env w := fun a ha => by
  unfold wqL
  rw [if_pos (gd_wanted ha (b := true) rfl)]
  refine .inl ?_
  have hr : (execOp a.eval ⟨none, .defer ⟨.value f, #[], #[]⟩, t, pos, aft, none⟩).run P w = .ok (.defer ⟨.fn (.func F) ca, #[]⟩) w := by
    simp [execOp, resolve, ha.eval hx, Deferred.ofValue]
  simp only [Oper.wp, hr, Oper.upon]
  exact h _ ⟨ha.size, by simp [Act.put, ha.defers], fun t v e => ha.at_ t v e⟩
theorem RQ.deferRet {n : Nat} {fn : Func} {F : FuncId} {ca : Array Value} {rs : List ResultVar} {K K1 : Value → World → Prop} (hr : fn.results = rs.toArray)
    (hi : ∀ w, (invoke (.fn (.func F) ca) #[]).run P w = .ok (.enter F ca) w) (h : CallsD P F ca .returning w fun e u' w' => u' = .returning ∧ Ret K1 e w')
    (hK : ∀ v w', K1 v w' → ∃ vs, ResV P w' env rs vs ∧ K (tup vs) w') : RQ ⟨n, [⟨.fn (.func F) ca, #[]⟩], true⟩ (bodyPostD P fn (Ret K) .ret) env w := fun a ha => by
  show Leaves P fn a.tmps (Ret K) a.defers .returning w
  rw [ha.defers]
  refine leaves_cons (by simp) (hi w) (h.mono fun e u' w' ⟨hu, he⟩ => ?_)
  subst hu
  cases e with
  | returned v =>
    obtain ⟨vs, h1, h2⟩ := hK v w' he
    exact ⟨_, run_results ha hr h1, h2⟩
  | panicked c => exact he.elim
  | outgrown => exact he.elim
theorem RQ.deferPan {n : Nat} {fn : Func} {F : FuncId} {ca : Array Value} {rs : List ResultVar} {K K1 : Value → World → Prop} {pv : Value} (hr : fn.results = rs.toArray)
    (hi : ∀ w, (invoke (.fn (.func F) ca) #[]).run P w = .ok (.enter F ca) w) (h : CallsD P F ca (.panicking (pan pv)) w fun e u' w' => u' = .panicking (panR pv) ∧ Ret K1 e w')
    (hK : ∀ v w', K1 v w' → ∃ vs, ResV P w' env rs vs ∧ K (tup vs) w') : RQ ⟨n, [⟨.fn (.func F) ca, #[]⟩], true⟩ (bodyPostD P fn (Ret K) (.panic (pan pv))) env w := fun a ha => by
  show Leaves P fn a.tmps (Ret K) a.defers (.panicking (pan pv)) w
  rw [ha.defers]
  refine leaves_cons (by simp) (hi w) (h.mono fun e u' w' ⟨hu, he⟩ => ?_)
  subst hu
  cases e with
  | returned v =>
    obtain ⟨vs, h1, h2⟩ := hK v w' he
    exact ⟨_, run_results ha hr h1, h2⟩
  | panicked c => exact he.elim
  | outgrown => exact he.elim
/-- a deferred function that begins with recover: of a frame that panics -/
theorem deferCatch {f : FuncId} {fn : Func} {id d n : Nat} {c : Code} {rt : TypeId} {args : List Value} {R : Ending → World → Prop} {T : TypeId} {pv : Value} (hf : P.funcs[f]? = some fn)
    (hb : fn.body = some (.seq (.region id #[⟨some d, .call ⟨.builtin .recover, #[], #[]⟩, rt, pos, aft, none⟩] false) c)) (hN : fn.ntmps = n) (hle : args.length ≤ n) (hd : Nat.blt d n = true)
    (h : RC P ⟨n, [], true⟩ (bodyPost P fn R) c ((d, .iface T pv) :: idx 0 args) w) : CallsD P f args.toArray (.panicking (pan (.iface T pv))) w fun e u' w' => u' = .panicking (panR (.iface T pv)) ∧ R e w' := by
  refine callsD_of_wpS hf hb fun c₀ cs hu => wpS_seq (wpS_region ?_)
  have hH : Has ⟨n, [], true⟩ (idx 0 args) { tmps := args.toArray ++ Array.replicate (fn.ntmps - args.toArray.size) undef, defers := [] } := ⟨by simp [hN]; omega, rfl, fun t v e => by
    obtain ⟨_, h2⟩ := lk_idx args 0 t v e
    simp only [Nat.sub_zero] at h2
    have ht : t < args.length := (List.getElem?_eq_some_iff.1 h2).1
    rw [Array.getElem?_append_left (by simpa using ht)]
    simpa using h2⟩
  have hx : ∀ (ev : Operand → Value) (w : World), (execOp ev ⟨some d, .call ⟨.builtin .recover, #[], #[]⟩, rt, pos, aft, none⟩).run P w = .ok .recover w := fun ev w => by
    simp [execOp, resolve, Go.invoke, Go.builtin]
  have hrec : recoverD (c₀ :: cs) = some (.iface T pv, { c₀ with mode := .panicking (panR (.iface T pv)) } :: cs) := by
    simp [recoverD, hu, pan, panR]
  show wpOpsS P _ _ [0] _ _ _
  have hw : Region.wanted ⟨some d, .call ⟨.builtin .recover, #[], #[]⟩, rt, pos, aft, none⟩ (yielded #[⟨some d, .call ⟨.builtin .recover, #[], #[]⟩, rt, pos, aft, none⟩] (args.toArray ++ Array.replicate (fn.ntmps - args.toArray.size) undef)) = true := rfl
  simp only [wpOpsS, List.getElem?_toArray, List.getElem?_cons_zero, hw, if_true, hx, hrec]
  refine wpS_of_wp (wp_mono (wq_wp (h _ (hH.put (some d) _ hd))) fun e a w hq => ?_)
  cases e with
  | normal => obtain ⟨h1, v, h2, h3⟩ := hq; exact ⟨h1, _, rfl, v, h2, rfl, h3⟩
  | ret => obtain ⟨h1, v, h2, h3⟩ := hq; exact ⟨h1, _, rfl, v, h2, rfl, h3⟩
  | panic ch => obtain ⟨h1, h2⟩ := hq; exact ⟨h1, _, rfl, rfl, h2⟩
  | exit id => exact hq.elim
  | goto l => exact hq.elim
  | outgrown => exact ⟨_, rfl, hq⟩
/-- of a frame that returns -/
theorem deferIdle {f : FuncId} {fn : Func} {id d n : Nat} {c : Code} {rt : TypeId} {args : List Value} {R : Ending → World → Prop} (hf : P.funcs[f]? = some fn)
    (hb : fn.body = some (.seq (.region id #[⟨some d, .call ⟨.builtin .recover, #[], #[]⟩, rt, pos, aft, none⟩] false) c)) (hN : fn.ntmps = n) (hle : args.length ≤ n) (hd : Nat.blt d n = true)
    (h : RC P ⟨n, [], true⟩ (bodyPost P fn R) c ((d, .nilIface) :: idx 0 args) w) : CallsD P f args.toArray .returning w fun e u' w' => u' = .returning ∧ R e w' := by
  refine callsD_of_wpS hf hb fun c₀ cs hu => wpS_seq (wpS_region ?_)
  have hH : Has ⟨n, [], true⟩ (idx 0 args) { tmps := args.toArray ++ Array.replicate (fn.ntmps - args.toArray.size) undef, defers := [] } := ⟨by simp [hN]; omega, rfl, fun t v e => by
    obtain ⟨_, h2⟩ := lk_idx args 0 t v e
    simp only [Nat.sub_zero] at h2
    have ht : t < args.length := (List.getElem?_eq_some_iff.1 h2).1
    rw [Array.getElem?_append_left (by simpa using ht)]
    simpa using h2⟩
  have hx : ∀ (ev : Operand → Value) (w : World), (execOp ev ⟨some d, .call ⟨.builtin .recover, #[], #[]⟩, rt, pos, aft, none⟩).run P w = .ok .recover w := fun ev w => by
    simp [execOp, resolve, Go.invoke, Go.builtin]
  have hrec : recoverD (c₀ :: cs) = none := by simp [recoverD, hu]
  show wpOpsS P _ _ [0] _ _ _
  have hw : Region.wanted ⟨some d, .call ⟨.builtin .recover, #[], #[]⟩, rt, pos, aft, none⟩ (yielded #[⟨some d, .call ⟨.builtin .recover, #[], #[]⟩, rt, pos, aft, none⟩] (args.toArray ++ Array.replicate (fn.ntmps - args.toArray.size) undef)) = true := rfl
  simp only [wpOpsS, List.getElem?_toArray, List.getElem?_cons_zero, hw, if_true, hx, hrec]
  refine wpS_of_wp (wp_mono (wq_wp (h _ (hH.put (some d) _ hd))) fun e a w hq => ?_)
  have hc : c₀ :: cs = { c₀ with mode := .returning } :: cs := by rw [← hu]
  cases e with
  | normal => obtain ⟨h1, v, h2, h3⟩ := hq; exact ⟨h1, _, hc, v, h2, rfl, h3⟩
  | ret => obtain ⟨h1, v, h2, h3⟩ := hq; exact ⟨h1, _, hc, v, h2, rfl, h3⟩
  | panic ch => obtain ⟨h1, h2⟩ := hq; exact ⟨h1, _, hc, rfl, h2⟩
  | exit id => exact hq.elim
  | goto l => exact hq.elim
  | outgrown => exact ⟨_, rfl, hq⟩

/-! ### 23. Maps of which each entry is known; parts of variables told by a function -/
def MapL (b : Nat) (es : List MapEntry) (clock : Nat) : HProp := pts b (.map es.toArray clock)
theorem OW.makeMapL {ty : TypeId} (hS : St B w l hf) : OW P N ⟨dst, .makeMap ty none, t, pos, aft, g⟩ env w (fun v' w' => ∃ b, v' = .map (some b) ∧ St B w' (MapL b [] 0 :: l) hf) := fun a ha next Q hn => by
  have hr : (execOp a.eval ⟨dst, .makeMap ty none, t, pos, aft, g⟩).run P w = .ok (.value (.map (some w.heap.size))) (w.alloc (.map #[] 0)) := by
    have hm : (Instr.makeMap ty none).run P w = .ok (.map (some w.heap.size)) (w.alloc (.map #[] 0)) := rfl
    simp only [execOp, Option.map_none, Sem.run_bind, hm, Result.andThen_ok, Sem.run_pure]
  simp only [Oper.wp, hr, Oper.upon]
  exact hn _ _ ⟨_, rfl, hS.new _ rfl rfl⟩
theorem run_checkKey_int {k : TypeId} {q q' : IntKind} {e : Bool} {n : Int} (hk : P.underlying k = some (.int q)) : (Instr.checkKey e 10000 k (.int q' n)).run P w = .ok () w := by
  unfold Instr.checkKey
  simp [run_underlying hk]
theorem OW.insertL {ty k e : TypeId} {q : IntKind} {m key x : Operand} {b c c' : Nat} {n : Int} {v : Value} {es es' : List MapEntry} {l' : List HProp} (i : Nat) (hS : St B w l hf) (hi : l[i]? = some (MapL b es c))
    (hu : P.underlying ty = some (.map k e)) (hk : P.underlying k = some (.int q)) (hm : ev env m = some (.map (some b))) (hkey : ev env key = some (.int q n)) (hx : ev env x = some v)
    (hf' : Instr.findNow (.int q) (.int q n) es 0 = some none) (he : es ++ [{ key := .int q n, val := v, born := c }] = es') (hc : c + 1 = c') (el : l.set i (MapL b es' c') = l') :
    OW P N ⟨dst, .insert ty m key x, t, pos, aft, g⟩ env w (fun v' w' => v' = undef ∧ St B w' l' hf) := fun a ha next Q hn => by
  subst he
  subst hc
  have hb := hS.blk i hi
  have hfk : (Instr.findKey k (.int q n) es.toArray.toList).run P w = .ok none w := by
    simp [Instr.findKey, run_underlying hk, hf']
  have hr : (execOp a.eval ⟨dst, .insert ty m key x, t, pos, aft, g⟩).run P w = .ok .skip ({ w with heap := w.heap.setIfInBounds b (.map (es ++ [({ key := .int q n, val := v, born := c } : MapEntry)]).toArray (c + 1)) } : World) := by
    simp only [List.toList_toArray] at hfk
    simp [execOp, ha.eval hm, ha.eval hkey, ha.eval hx, Instr.mapUpdate, run_underlying hu, MapKept.run_getObj_map hb, run_checkKey_int hk, hfk, MapKept.run_setObj_map _ hb, Result.andThen]
  simp only [Oper.wp, hr, Oper.upon]
  have hlt : b < w.heap.size := (Array.getElem?_eq_some_iff.1 hb).1
  refine hn _ _ ⟨rfl, ?_⟩
  refine hS.setAt (o' := .map (es ++ [({ key := .int q n, val := v, born := c } : MapEntry)]).toArray (c + 1)) i hi ?_ (fun b' hb' => ?_) ?_ el
  · rfl
  · simp only [hp]
    rw [Array.getElem?_setIfInBounds_ne (Ne.symm hb')]
  · simp only [hp]
    rw [Array.getElem?_setIfInBounds_self_of_lt hlt]
theorem Vl.lookupL {ty k e : TypeId} {q : IntKind} {m key : Operand} {b c j : Nat} {n n' : Int} {v : Value} {es : List MapEntry} (i : Nat) (hS : St B w l hf) (hi : l[i]? = some (MapL b es c))
    (hu : P.underlying ty = some (.map k e)) (hk : P.underlying k = some (.int q)) (hm : ev env m = some (.map (some b))) (hkey : ev env key = some (.int q n)) (hn : n = n')
    (hf' : Instr.findNow (.int q) (.int q n') es 0 = some (some (j, v))) : Vl P N ⟨dst, .lookup ty m key false, t, pos, aft, g⟩ env w v := fun a ha => by
  subst hn
  have hb := hS.blk i hi
  have hfk : (Instr.findKey k (.int q n) es.toArray.toList).run P w = .ok (some (j, v)) w := by
    simp [Instr.findKey, run_underlying hk, hf']
  have hfk' : (Instr.findKey k (.int q n) es).run P w = .ok (some (j, v)) w := by simpa using hfk
  simp [execOp, ha.eval hm, ha.eval hkey, Instr.lookup, run_underlying hu, MapKept.run_getObj_map hb, run_checkKey_int hk, hfk', Result.andThen]
theorem seg_get {α : Type} {mk : α → Value} {pre post : List Value} {n m k : Nat} {f : Nat → α} (hm : pre.length = m) (h : k < n) : (pre ++ (fc mk n f ++ post))[m + k]? = some (mk (f k)) := by
  subst hm
  rw [List.getElem?_append_right (by omega), Nat.add_sub_cancel_left, List.getElem?_append_left (by rw [fc_len]; exact h), fc_get h]
theorem seg_set {α : Type} {mk : α → Value} {pre post : List Value} {n m k : Nat} {f : Nat → α} {v : α} (hm : pre.length = m) (h : k < n) : setR (pre ++ (fc mk n f ++ post)) (m + k) [mk v] = pre ++ (fc mk n (upd f k v) ++ post) := by
  subst hm
  have e := fc_set (mk := mk) (f := f) (v := v) h
  simp only [setR, List.length_singleton] at *
  rw [← e, List.take_append, List.take_of_length_le (by omega), Nat.add_sub_cancel_left, List.take_append_of_le_length (by rw [fc_len]; omega), List.drop_append, List.drop_of_length_le (by omega), List.nil_append,
    show pre.length + k + 1 - pre.length = k + 1 by omega, List.drop_append_of_le_length (by rw [fc_len]; omega)]
  simp [List.append_assoc]
theorem mapseg_get {mk : Int → Value} {pre post : List Value} {l : List Int} {m : Nat} {x : Int} (hm : pre.length = m) (h0 : 0 ≤ x) (h1 : x < l.length) : (pre ++ (l.map mk ++ post))[m + x.toNat * 1]? = some (mk (nth l x)) := by
  subst hm
  obtain ⟨h, e⟩ := nth_eq h0 h1
  rw [Nat.mul_one, List.getElem?_append_right (by omega), Nat.add_sub_cancel_left, List.getElem?_append_left (by simpa using h), List.getElem?_map, List.getElem?_eq_getElem h, e]
  rfl
theorem OW.storeSeg {α : Type} {mk : α → Value} {T ty : TypeId} {x y : Operand} {b off n m : Nat} {u : α} {f : Nat → α} {pre post : List Value} {l' : List HProp} (i : Nat) (hS : St B w l hf) (e : l[i]? = some (Cl b (pre ++ (fc mk n f ++ post)) T)) (hm : pre.length = m)
    (hx : ev env x = some (.pointer (some ⟨b, m + off, none⟩))) (hy : ev env y = some (mk u)) (hz : ∀ w, (sizeOf ty).run P w = .ok 1 w) (hk : off < n) (hmk : ∀ v, (mk v).cells.toList = [mk v]) (h1 : ∀ v, (mk v).oneCell' = true) (el : l.set i (Cl b (pre ++ (fc mk n (upd f off u) ++ post)) T) = l') :
    OW P N ⟨dst, .store ty x y, t, pos, aft, g⟩ env w (fun v' w' => v' = undef ∧ St B w' l' hf) :=
  OW.store (cs := pre ++ (fc mk n f ++ post)) (vs := [mk u]) i hS e hx hy (hmk u) hz rfl (by simp [h1]) (by simp only [List.length_append, fc_len, hm]; exact Nat.ble_eq_true_of_le (by omega)) (by rw [seg_set hm hk]; exact el)
/-- into a row of known cells -/
theorem OW.storeLit {ty : TypeId} {x y : Operand} {e : TypeId} {sz off n c : Nat} {A : Option Addr} {v : Value} {cs vs : List Value} {l' : List HProp} (i : Nat) (hS : St B w l hf) (hi : l[i]? = some (OSl e sz (.slice A n c) n cs))
    (hx : ev env x = some (.pointer (some ((ad A).add off)))) (hy : ev env y = some v) (hv : v.cells.toList = vs) (hz : ∀ w, (sizeOf ty).run P w = .ok vs.length w)
    (h1' : vs.all Value.oneCell' = true) (hle : off + vs.length ≤ cs.length) (h0 : 0 < vs.length) (el : l.set i (OSl e sz (.slice A n c) n (setR cs off vs)) = l') :
    OW P N ⟨dst, .store ty x y, t, pos, aft, g⟩ env w (fun v' w' => v' = undef ∧ St B w' l' hf) := fun a ha next Q hn => by
  have h1 : ∀ u ∈ vs, u.oneCell' = true := List.all_eq_true.1 h1'
  have hc : v.cells.size = vs.length := by rw [← hv]; simp
  have hlen : i < l.length := (List.getElem?_eq_some_iff.1 hi).1
  have hP := hS.pull i hi rfl
  obtain ⟨h1p, ⟨hl, hA⟩, hs, hd, hr⟩ := hP.own
  rcases hA with ⟨e1, e2, _⟩ | ⟨gb, o, cap, cur, e1, hp', hcap, hmax, hcs, htk⟩
  · rw [e2, Nat.zero_mul] at hl; omega
  cases e1
  have hh : w.heap[gb]? = some (.cells cur e (0, 0)) := hs _ _ hp'.1
  have hcur : o + n * sz ≤ cur.size := Nat.le_trans (Nat.add_le_add_left (Nat.mul_le_mul_right _ hcap) _) hcs
  have hst := run_storeCells_at P gb (o + off) e vs 0 cur w hh (by omega) h1
  simp only [Nat.add_zero] at hst
  have hx' : ev env x = some (.pointer (some ⟨gb, o + off, none⟩)) := by
    rw [hx]
    simp only [ad, Option.getD_some]
    rw [add_mk]
  have hrun : (execOp a.eval ⟨dst, .store ty x y, t, pos, aft, g⟩).run P w = .ok .skip (w.setRow gb (cur.toList.take (o + off) ++ vs ++ cur.toList.drop (o + off + vs.length)).toArray) := by
    simp only [execOp, ha.eval hx', ha.eval hy, Instr.storeAt, Instr.sureAddr, storeVar, Sem.run_bind, Sem.run_pure, Result.andThen_ok, hz, hc, ne_eq, not_true_eq_false, if_false, hv, hst]
  simp only [Oper.wp, hrun, Oper.upon]
  have hfin : St B (w.setRow gb (cur.toList.take (o + off) ++ vs ++ cur.toList.drop (o + off + vs.length)).toArray) (OSl e sz (.slice (some ⟨gb, o, none⟩) n c) n (setR cs off vs) :: l.eraseIdx i) hf := by
    have hPt : St B w (pts gb (.cells cur e (0, 0)) :: l.eraseIdx i) hf := ⟨hP.base, hP.sub, h1p, hp', hs, hd, hr⟩
    have h2 := hPt.put (w' := w.setRow gb (cur.toList.take (o + off) ++ vs ++ cur.toList.drop (o + off + vs.length)).toArray) (o' := .cells (cur.toList.take (o + off) ++ vs ++ cur.toList.drop (o + off + vs.length)).toArray e (0, 0)) rfl
      (fun b' hb' => setRow_other w gb b' _ hb') (heap_setRow w gb cur _ e (0, 0) hh)
    refine h2.imp fun k hk => ⟨?_, .inr ⟨gb, o, c, _, rfl, hk, hcap, hmax, ?_, ?_⟩⟩
    · simp only [setR, List.length_append, List.length_take, List.length_drop]; omega
    · simp only [List.size_toArray, List.length_append, List.length_take, List.length_drop, Array.length_toList]; omega
    · simp only [List.toList_toArray, setR]
      rw [← htk]
      apply List.ext_getElem?
      intro j
      have hcl : cs.length = n * sz := hl
      have hcl2 : ((cur.toList.drop o).take (n * sz)).length = n * sz := by rw [htk]; exact hl
      simp only [List.getElem?_take, List.getElem?_append, List.length_append, List.length_take, List.getElem?_drop, List.length_drop, Array.length_toList]
      repeat' split
      all_goals first | rfl | (exfalso; omega) | (congr 1; omega) | skip
  refine hn _ _ ⟨rfl, ?_⟩
  rw [← el]
  exact hfin.perm (perm_set l i _ hlen)
theorem OW.storeLitF {α : Type} {mk : α → Value} {ty : TypeId} {x y : Operand} {e : TypeId} {off n c : Nat} {A : Option Addr} {u : α} {f : Nat → α} {l' : List HProp} (i : Nat) (hS : St B w l hf) (hi : l[i]? = some (OSl e 1 (.slice A n c) n (fc mk n f)))
    (hx : ev env x = some (.pointer (some ((ad A).add off)))) (hy : ev env y = some (mk u)) (hz : ∀ w, (sizeOf ty).run P w = .ok 1 w) (hk : off < n) (hmk : ∀ v, (mk v).cells.toList = [mk v]) (h1 : ∀ v, (mk v).oneCell' = true)
    (el : l.set i (OSl e 1 (.slice A n c) n (fc mk n (upd f off u))) = l') :
    OW P N ⟨dst, .store ty x y, t, pos, aft, g⟩ env w (fun v' w' => v' = undef ∧ St B w' l' hf) :=
  OW.storeLit (vs := [mk u]) i hS hi hx hy (hmk u) hz (by simp [h1]) (by rw [fc_len, List.length_singleton]; omega) (by simp) (by rw [fc_set hk]; exact el)
/-- a function of which the first values are told -/
def ovl {α : Type} (l : List α) (f : Nat → α) : Nat → α := fun j => match l[j]? with
  | some v => v
  | none => f j
theorem OW.makeF {ty e : TypeId} {i : TypeInfo} {z : Value} {x y : Operand} {kl kc : IntKind} {c sz : Nat} {cs : List Value} (hS : St B w l hf) (hu : P.underlying ty = some (.slice e)) (hi : P.info? e = some i) (hz : i.zero = some z) (hs : i.size = sz)
    (hx : ev env x = some (.int kl (c : Nat))) (hy : ev env y = some (.int kc (c : Nat))) (hb : i.bytes * c ≤ 281474976710656) (hm : c ≤ maxLen) (hcs : (madeCells z.cells (c * sz)).toList = cs) :
    OW P N ⟨dst, .makeSlice ty x y, t, pos, aft, g⟩ env w (fun v' w' => ∃ b, v' = .slice (some ⟨b, 0, none⟩) c c ∧ St B w' (OSl e sz v' c cs :: l) hf) := fun a ha next Q hn => by
  subst hcs
  obtain ⟨w', hr, ho, hg⟩ := run_make_full (P := P) (w := w) 0 ty e i z sz hu hi hz hs kl kc c hb hm (Nat.zero_le _)
  have hr' : (execOp a.eval ⟨dst, .makeSlice ty x y, t, pos, aft, g⟩).run P w = .ok (.value (.slice (some ⟨w.heap.size, 0, none⟩) c c)) w' := by
    simp only [execOp, ha.eval hx, ha.eval hy, Sem.run_bind, hr, Result.andThen_ok, Sem.run_pure]
  simp only [Oper.wp, hr', Oper.upon]
  refine hn _ _ ⟨_, rfl, ?_⟩
  exact (hS.nilSlR e sz).grown (v := .slice none 0 0) (n := 0) (xs := []) hg ho (.inr rfl)
/-- a[:] -/
theorem Vl.sliceArr {ty e : TypeId} {x : Operand} {n sz : Nat} {a' : Addr} (hu : P.underlying ty = some (.array n e)) (hz : ∀ w, (sizeOf e).run P w = .ok sz w) (hx : ev env x = some (.pointer (some a'))) :
    Vl P N ⟨dst, .slice ty x none none none, t, pos, aft, g⟩ env w (.slice (some a') n n) := fun a ha => by
  have h0 : a'.add 0 = a' := by cases a'; rfl
  simp [execOp, ha.eval hx, Instr.sliceAt, Instr.slice, Instr.sliceBounds, run_underlying hu, hz, asAddr, Instr.sureAddr, h0]
/-- copy from one variable's part to another's -/
theorem OW.copyB {dT sT e : TypeId} {x y : Operand} {T T' : TypeId} {b b' o o' dn dc sn sc m : Nat} {cs ds vs : List Value} {l' : List HProp} (i j : Nat) (hS : St B w l hf) (hi : l[i]? = some (Cl b cs T)) (hj : l[j]? = some (Cl b' ds T'))
    (hu : P.underlying dT = some (.slice e)) (hs : (P.info? e).map (·.size) = some 1) (hx : ev env x = some (.slice (some ⟨b, o, none⟩) dn dc)) (hy : ev env y = some (.slice (some ⟨b', o', none⟩) sn sc))
    (hn : Nat.min sn dn = m) (hv : (ds.drop o').take m = vs) (hvl : vs.length = m) (hle : o + m ≤ cs.length) (h1 : vs.all Value.oneCell' = true) (el : l.set i (Cl b (setR cs o vs) T) = l') :
    OW P N ⟨dst, .call ⟨.builtin .copy, #[x, y], #[dT, sT]⟩, t, pos, aft, g⟩ env w (fun v' w' => v' = .int .i64 m ∧ St B w' l' hf) := fun a ha next Q hnx => by
  have hh := hS.blk i hi
  have hrun := run_copy_row (P := P) w dT sT t e b o dn dc ⟨b', o', none⟩ sn sc cs.toArray T vs hu hs hh (by rw [hvl, hn]) (fun k u hk => by
    rw [add_mk]
    refine hS.cell j hj ?_
    have hk' : k < vs.length := (List.getElem?_eq_some_iff.1 hk).1
    rw [← hv, List.getElem?_take, if_pos (by omega), List.getElem?_drop] at hk
    exact hk) (by simp; omega) (List.all_eq_true.1 h1)
  have hr : (execOp a.eval ⟨dst, .call ⟨.builtin .copy, #[x, y], #[dT, sT]⟩, t, pos, aft, g⟩).run P w = .ok (.value (.int .i64 m)) (w.setRow b (setR cs o vs).toArray) := by
    simp only [execOp, resolve, Sem.run_bind, Sem.run_pure, Result.andThen_ok, List.map_toArray, List.map_cons, List.map_nil, ha.eval hx, ha.eval hy, Go.invoke, Go.builtin, hrun, hvl, List.toList_toArray, setR, goInt]
  simp only [Oper.wp, hr, Oper.upon]
  refine hnx _ _ ⟨rfl, hS.setAt (w' := w.setRow b (setR cs o vs).toArray) i hi rfl (fun b' hb' => ?_) (o' := .cells (setR cs o vs).toArray T (0, 0)) ?_ el⟩
  · exact setRow_other w b b' _ hb'
  · exact heap_setRow w b _ _ T (0, 0) hh
end
end Go.Sl
