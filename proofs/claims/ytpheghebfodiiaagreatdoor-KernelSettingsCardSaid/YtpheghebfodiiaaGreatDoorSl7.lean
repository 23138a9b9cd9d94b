/-
  The own separation logic for the walks, part 7.
-/
import Derived.Test.YtpheghebfodiiaaGreatDoorSl6
import Derived.Stop.Asserts
import Derived.Laws.Externs
set_option linter.unusedVariables false
set_option linter.unusedSimpArgs false
namespace Go.Sl

/-! ### 13. Interfaces -/
section
variable {P : Program} {N : Fr} {env : Env} {w : World} {dst : Option Tmp} {t : TypeId} {pos : String} {aft : Array Edge} {g : Option (Nat × Bool)} {B : Base} {l : List HProp} {hf : Hp}
theorem Vl.tassert {x : Operand} {xT asserted : TypeId} {co : Bool} {v r : Value} (hx : ev env x = some v) (hr : ∀ w, (Instr.typeAssert v xT asserted co).run P w = .ok r w) :
    Vl P N ⟨dst, .typeAssert x xT asserted co, t, pos, aft, g⟩ env w r := fun a ha => by
  simp only [execOp, ha.eval hx, Sem.run_bind, hr, Result.andThen_ok, Sem.run_pure]
theorem run_eqGuard_ifaces (op : BinOp) (xt : TypeId) (x y : Operand) (tx ty : TypeId) (m n : Value) : (eqGuard op xt x y (.iface tx m) (.iface ty n)).run P w = .ok () w := by
  cases op <;> simp [eqGuard]
/-- two interface values of different types -/
theorem Vl.ifaceNeq {xt yt : TypeId} {x y : Operand} {tx ty : TypeId} {vx vy : Value} {ms : Array (String × TypeId)} (hx : ev env x = some (.iface tx vx)) (hy : ev env y = some (.iface ty vy)) (hi : P.underlying xt = some (.interface ms)) (hne : Nat.beq tx ty = false) :
    Vl P N ⟨dst, .binOp .eql xt x y yt, t, pos, aft, g⟩ env w (.bool false) :=
  Vl.bin hx hy (by
    show ((eqGuard .eql xt x y (.iface tx vx) (.iface ty vy)) >>= fun _ => binOp .eql xt (.iface tx vx) (.iface ty vy)).run P w = _
    rw [Sem.run_bind, run_eqGuard_ifaces]
    simp only [Result.andThen_ok]
    exact run_eql_iface_types tx ty vx vy hi (Nat.ne_of_beq_eq_false hne) w)
theorem Vl.ifaceInt {xt yt : TypeId} {x y : Operand} {tx : TypeId} {k k' : IntKind} {m n : Int} {ms : Array (String × TypeId)} {ti : TypeInfo} (hx : ev env x = some (.iface tx (.int k m))) (hy : ev env y = some (.iface tx (.int k n))) (hi : P.underlying xt = some (.interface ms))
    (hu : P.underlying tx = some (.int k')) (hti : P.info? tx = some ti) (hc : ti.comparable = true) :
    Vl P N ⟨dst, .binOp .eql xt x y yt, t, pos, aft, g⟩ env w (.bool (decide (m = n))) :=
  Vl.bin hx hy (by
    show ((eqGuard .eql xt x y (.iface tx (.int k m)) (.iface tx (.int k n))) >>= fun _ => binOp .eql xt (.iface tx (.int k m)) (.iface tx (.int k n))).run P w = _
    rw [Sem.run_bind, run_eqGuard_ifaces]
    simp only [Result.andThen_ok]
    have h : ∀ d : Nat, (Op.equalIn (d + 2) xt (.iface tx (.int k m)) (.iface tx (.int k n))).run P w = .ok (decide (m = n)) w := fun d => by simp [Op.equalIn, run_underlying hi, run_underlying hu, typeInfo, hti, hc, int_beq]
    simp only [binOp]
    simp [Op.equal, Op.maxDepth, h 9998])
theorem run_tassert_nilI {asserted : TypeId} {want : Array (String × TypeId)} {z : Value} (hu : P.underlying asserted = some (.interface want)) (hz : (P.info? asserted).map (·.zero) = some (some z)) (xT : TypeId) (w : World) :
    (Instr.typeAssert .nilIface xT asserted true).run P w = .ok (.tuple #[z, .bool false]) w := by
  obtain ⟨j, hj, hz'⟩ := Option.map_eq_some_iff.1 hz
  simp [Instr.typeAssert, run_underlying hu, zeroValue, typeInfo, hj, hz']
def isIface : TypeDesc → Bool
  | .interface _ => true
  | _ => false
theorem run_tassert_nilC {asserted : TypeId} {d : TypeDesc} {z : Value} (hu : P.underlying asserted = some d) (hd : isIface d = false) (hz : ∀ w, (zeroValue asserted).run P w = .ok z w) (xT : TypeId) (w : World) :
    (Instr.typeAssert .nilIface xT asserted true).run P w = .ok (.tuple #[z, .bool false]) w := by
  cases d <;> simp [isIface] at hd <;> simp [Instr.typeAssert, run_underlying hu, hz]
theorem run_tassert_same {asserted : TypeId} {d : TypeDesc} (hu : P.underlying asserted = some d) (hd : isIface d = false) (v : Value) (xT : TypeId) (w : World) :
    (Instr.typeAssert (.iface asserted v) xT asserted true).run P w = .ok (.tuple #[v, .bool true]) w := by
  cases d <;> simp [isIface] at hd <;> simp [Instr.typeAssert, run_underlying hu]
theorem run_tassert_same1 {asserted : TypeId} {d : TypeDesc} (hu : P.underlying asserted = some d) (hd : isIface d = false) (v : Value) (xT : TypeId) (w : World) :
    (Instr.typeAssert (.iface asserted v) xT asserted false).run P w = .ok v w := by
  cases d <;> simp [isIface] at hd <;> simp [Instr.typeAssert, run_underlying hu]
theorem run_tassert_other {t' asserted : TypeId} {d : TypeDesc} {z : Value} (hu : P.underlying asserted = some d) (hd : isIface d = false) (hne : Nat.beq t' asserted = false) (hz : ∀ w, (zeroValue asserted).run P w = .ok z w) (v : Value) (xT : TypeId) (w : World) :
    (Instr.typeAssert (.iface t' v) xT asserted true).run P w = .ok (.tuple #[z, .bool false]) w := by
  have hn := Nat.ne_of_beq_eq_false hne
  cases d <;> simp [isIface] at hd <;> simp [Instr.typeAssert, run_underlying hu, hz, hn]
/-- a function of Go's library that the model knows by itself -/
theorem Vl.extern {F : FuncId} {ls : List Operand} {vs : List Value} {tys : Array TypeId} {fn : Func} {e : Array Value → Sem Value} {v : Value} (hl : evs env ls = some vs) (hf : P.funcs[F]? = some fn) (hname : (fn.name == "runtime.NumGoroutine") = false)
    (hb : fn.body.isNone = true) (hn : Extern.findNext fn = none) (he : Extern.find fn = some e) (hr : ∀ w, (e vs.toArray).run P w = .ok v w) :
    Vl P N ⟨dst, .call ⟨.value (.func F), ls.toArray, tys⟩, t, pos, aft, g⟩ env w v := fun a hE => by
  have hc := run_callFunc_extern hf hname hb hn he vs.toArray w
  rw [hr] at hc
  simp only [Result.andThen_ok] at hc
  simp [execOp, resolve, Act.eval, Frame.eval, List.map_toArray, hE.evals hl, Deferred.ofValue, Sem.run_bind, Sem.run_pure, Result.andThen_ok, invoke, hc]
theorem Vl.invokeX {F : FuncId} {x : Operand} {tx : TypeId} {u u' : Value} {name : String} {ls : List Operand} {vs : List Value} {tys : Array TypeId} {fn : Func} {e : Array Value → Sem Value} {v : Value} (hx : ev env x = some (.iface tx u)) (hl : evs env ls = some vs)
    (hm : ∀ w, (method (P.types.size + Made.depth) tx u name).run P w = .ok (F, u') w) (hf : P.funcs[F]? = some fn) (hname : (fn.name == "runtime.NumGoroutine") = false)
    (hb : fn.body.isNone = true) (hn : Extern.findNext fn = none) (he : Extern.find fn = some e) (hr : ∀ w, (e (#[u'] ++ vs.toArray)).run P w = .ok v w) :
    Vl P N ⟨dst, .call ⟨.invoke x name, ls.toArray, tys⟩, t, pos, aft, g⟩ env w v := fun a hE => by
  have hc := run_callFunc_extern hf hname hb hn he (#[u'] ++ vs.toArray) w
  rw [hr] at hc
  simp only [Result.andThen_ok] at hc
  have hex : ((#[Value.iface tx u] ++ vs.toArray).extract 1 (#[Value.iface tx u] ++ vs.toArray).size) = vs.toArray := by simp
  simp only [execOp, resolve, hE.eval hx, List.map_toArray, hE.evals hl, Sem.run_bind, Sem.run_pure, Result.andThen_ok, invoke, hex, callMethod]
  have hsh : (#[u'] ++ vs.toArray) = (u' :: vs).toArray := by simp
  rw [hsh] at hc
  simp [callMethod, run_program, hm, hc]
/-- a call of a method behind an interface -/
theorem OW.invoke {F : FuncId} {x : Operand} {tx : TypeId} {u u' : Value} {name : String} {ls : List Operand} {vs : List Value} {tys : Array TypeId} {K : Value → World → Prop} (hx : ev env x = some (.iface tx u)) (hl : evs env ls = some vs)
    (hm : ∀ w, (method (P.types.size + Made.depth) tx u name).run P w = .ok (F, u') w) (hcall : ∀ (args : Array Value) (w : World), (callFunc F args).run P w = .ok (.enter F args) w)
    {args : Array Value} (hA : #[u'] ++ vs.toArray = args) (hc : Calls P F args w (Ret K)) :
    OW P N ⟨dst, .call ⟨.invoke x name, ls.toArray, tys⟩, t, pos, aft, g⟩ env w K := fun a hE next Q hn => by
  subst hA
  have hex : ((#[Value.iface tx u] ++ vs.toArray).extract 1 (#[Value.iface tx u] ++ vs.toArray).size) = vs.toArray := by simp
  have hr : (execOp a.eval ⟨dst, .call ⟨.invoke x name, ls.toArray, tys⟩, t, pos, aft, g⟩).run P w = .ok (.enter F (#[u'] ++ vs.toArray)) w := by
    simp only [execOp, resolve, hE.eval hx, List.map_toArray, hE.evals hl, Sem.run_bind, Sem.run_pure, Result.andThen_ok, Go.invoke, hex, callMethod]
    simp [callMethod, run_program, hm, hcall]
  simp only [Oper.wp, hr, Oper.upon]
  exact Calls.mono hc fun e w' he => by
    cases e with
    | returned v => exact hn v w' he
    | panicked c => exact he.elim
    | outgrown => exact he.elim
end
end Go.Sl
