/-
  The own separation logic for the walks, part 12.
-/
import Derived.Test.YtpheghebfodiiaaGreatDoorSl11
set_option linter.unusedVariables false
set_option linter.unusedSimpArgs false
namespace Go.Sl

/-! ### 19. internal/reflectlite's entries that touch memory; a variable of the package's own that is laid -/
def GlobAt (h : Hp) (g : Nat) (v : Value) : Prop := cellH h ⟨g, 0, none⟩ = some v
theorem GlobAt.mono {h k : Hp} {g : Nat} {v : Value} (s : Sub h k) (x : GlobAt h g v) : GlobAt k g v := cellH_mono s x
section
variable {P : Program} {N : Fr} {env : Env} {w : World} {dst : Option Tmp} {t : TypeId} {pos : String} {aft : Array Edge} {g : Option (Nat × Bool)} {B : Base} {l : List HProp} {hf : Hp}
/-- an entry that lays a new variable -/
theorem OW.externNew {F : FuncId} {ls : List Operand} {vs : List Value} {tys : Array TypeId} {fn : Func} {e : Array Value → Sem Value} {cs : List Value} {T : TypeId} {v : Nat → Value} (hS : St B w l hf) (hl : evs env ls = some vs) (hf' : P.funcs[F]? = some fn) (hname : (fn.name == "runtime.NumGoroutine") = false)
    (hb : fn.body.isNone = true) (hn : Extern.findNext fn = none) (he : Extern.find fn = some e) (hr : ∀ w, (e vs.toArray).run P w = .ok (v w.heap.size) (w.alloc (.cells cs.toArray T))) :
    OW P N ⟨dst, .call ⟨.value (.func F), ls.toArray, tys⟩, t, pos, aft, g⟩ env w (fun v' w' => ∃ b, v' = v b ∧ St B w' (Cl b cs T :: l) hf) := fun a hE next Q hnx => by
  have hc := run_callFunc_extern hf' hname hb hn he vs.toArray w
  rw [hr] at hc
  simp only [Result.andThen_ok] at hc
  have hx : (execOp a.eval ⟨dst, .call ⟨.value (.func F), ls.toArray, tys⟩, t, pos, aft, g⟩).run P w = .ok (.value (v w.heap.size)) (w.alloc (.cells cs.toArray T)) := by
    simp [execOp, resolve, Act.eval, Frame.eval, List.map_toArray, hE.evals hl, Deferred.ofValue, Sem.run_bind, Sem.run_pure, Result.andThen_ok, Go.invoke, hc]
  simp only [Oper.wp, hx, Oper.upon]
  exact hnx _ _ ⟨_, rfl, hS.new _ rfl rfl⟩
/-- an entry that reads: its answer at this world -/
theorem Vl.externAt {F : FuncId} {ls : List Operand} {vs : List Value} {tys : Array TypeId} {fn : Func} {e : Array Value → Sem Value} {v : Value} (hl : evs env ls = some vs) (hf : P.funcs[F]? = some fn) (hname : (fn.name == "runtime.NumGoroutine") = false)
    (hb : fn.body.isNone = true) (hn : Extern.findNext fn = none) (he : Extern.find fn = some e) (hr : (e vs.toArray).run P w = .ok v w) :
    Vl P N ⟨dst, .call ⟨.value (.func F), ls.toArray, tys⟩, t, pos, aft, g⟩ env w v := fun a hE => by
  have hc := run_callFunc_extern hf hname hb hn he vs.toArray w
  rw [hr] at hc
  simp only [Result.andThen_ok] at hc
  simp [execOp, resolve, Act.eval, Frame.eval, List.map_toArray, hE.evals hl, Deferred.ofValue, Sem.run_bind, Sem.run_pure, Result.andThen_ok, invoke, hc]
/-! ### 20. Values of internal/reflectlite -/
theorem rlMethod (z : Sem Value) (f : TypeId → Addr → Nat → Nat → Sem Value) (v : Value) :
    Extern.ReflectliteValue.method z f #[v] = (do match ← Extern.ReflectliteValue.parts v with | none => z | some (t, a, fl) => f t a fl (fl % 32)) := rfl
theorem run_isNil {T e : TypeId} {a p : Addr} {n : Nat} {v : Value} {z : Sem Value} (hp : ∀ w, (Extern.ReflectliteValue.parts v).run P w = .ok (some (T, a, n)) w) (hu : P.underlying T = some (.pointer e)) (hk : n % 32 = 22) (ha : w.cell? a = some (.pointer (some p))) :
    (Extern.ReflectliteValue.method z Extern.ReflectliteValue.isNil #[v]).run P w = .ok (.bool false) w := by
  rw [rlMethod]
  simp only [Sem.run_bind, hp, Result.andThen]
  simp [hk, Extern.ReflectliteValue.isNil, loadVar, isAgg, run_underlying hu, ha, Result.andThen]
theorem run_elemV {T e : TypeId} {a p : Addr} {n : Nat} {v r : Value} {z : Sem Value} (hp : ∀ w, (Extern.ReflectliteValue.parts v).run P w = .ok (some (T, a, n)) w) (hu : P.underlying T = some (.pointer e)) (hk : n % 32 = 22) (ha : w.cell? a = some (.pointer (some p)))
    (he : ∀ w, (Extern.Rtype.elem? T).run P w = .ok (some e) w) (hm : ∀ w, (Extern.ReflectliteValue.mk e p Extern.ReflectliteValue.flagAddr).run P w = .ok r w) :
    (Extern.ReflectliteValue.method z Extern.ReflectliteValue.elem #[v]).run P w = .ok r w := by
  rw [rlMethod]
  simp only [Sem.run_bind, hp, Result.andThen]
  simp [hk, Extern.ReflectliteValue.elem, loadVar, isAgg, run_underlying hu, ha, Result.andThen, he, hm]
theorem rlSet (v x : Value) : Extern.ReflectliteValue.set #[v, x] = (do
    let (some (dst, a, fl), some (src, b, _)) := (← Extern.ReflectliteValue.parts v, ← Extern.ReflectliteValue.parts x)
      | unsupported (.noEntry "extern/(internal/reflectlite.Value).Set.zeroValue")
    if fl / Extern.ReflectliteValue.flagAddr % 2 == 0 then unsupported (.noEntry "extern/(internal/reflectlite.Value).Set.unaddressable")
    let val ← loadVar src b
    if ← Extern.Rtype.directlyAssignable dst src then storeVar dst a val
    else if ← Extern.Rtype.implements dst src then
      if (← Extern.Rtype.kind src) == 20 then
        match val with
        | .nilIface => unsupported (.noEntry "extern/reflectlite: a nil value of one interface type handed on as a value of another")
        | _ => storeVar dst a val
      else storeVar dst a (.iface src val)
    else panicString ("reflectlite.Set: value of type " ++ (← Extern.Rtype.spelt src) ++ " is not assignable to type " ++ (← Extern.Rtype.spelt dst))
    pure (.tuple #[])) := rfl
/-- (Value).Set of a whole variable of the call's own, of the very type -/
theorem OW.setV {F : FuncId} {ls : List Operand} {v x val : Value} {tys : Array TypeId} {fn : Func} {T : TypeId} {b n m sz : Nat} {a2 : Addr} {cs vs : List Value} {l' : List HProp} (i : Nat) (hS : St B w l hf) (e : l[i]? = some (Cl b cs T)) (hl : evs env ls = some [v, x]) (hf' : P.funcs[F]? = some fn) (hname : (fn.name == "runtime.NumGoroutine") = false)
    (hb : fn.body.isNone = true) (hn : Extern.findNext fn = none) (he : Extern.find fn = some Extern.ReflectliteValue.set)
    (hp : ∀ w, (Extern.ReflectliteValue.parts v).run P w = .ok (some (T, ⟨b, 0, none⟩, n)) w) (hx : ∀ w, (Extern.ReflectliteValue.parts x).run P w = .ok (some (T, a2, m)) w) (hfl : (n / Extern.ReflectliteValue.flagAddr % 2 == 0) = false)
    (hd : ∀ w, (Extern.Rtype.directlyAssignable T T).run P w = .ok true w) (hv : (loadVar T a2).run P w = .ok val w) (hc : val.cells.toList = vs) (hz : ∀ w, (sizeOf T).run P w = .ok sz w) (hsz : vs.length = sz)
    (h1' : vs.all Value.oneCell' = true) (hle : cs.length = sz) (el : l.set i (Cl b vs T) = l') :
    OW P N ⟨dst, .call ⟨.value (.func F), ls.toArray, tys⟩, t, pos, aft, g⟩ env w (fun v' w' => v' = .tuple #[] ∧ St B w' l' hf) := fun a hE next Q hnx => by
  subst hsz
  have h1 : ∀ u ∈ vs, u.oneCell' = true := List.all_eq_true.1 h1'
  have hcs : val.cells.size = vs.length := by rw [← hc]; simp
  have hh := hS.blk i e
  have hst := run_storeCells_at P b 0 T vs 0 cs.toArray w hh (by simp; omega) h1
  have hall : (cs.toArray.toList.take (0 + 0) ++ vs ++ cs.toArray.toList.drop (0 + 0 + vs.length)) = vs := by
    simp only [Nat.add_zero, Nat.zero_add, List.take_zero, List.nil_append, List.toList_toArray]
    rw [List.drop_of_length_le (by omega), List.append_nil]
  rw [hall] at hst
  have hrun : (Extern.ReflectliteValue.set #[v, x]).run P w = .ok (.tuple #[]) (w.setRow b vs.toArray) := by
    rw [rlSet]
    simp only [Sem.run_bind, hp, hx, Result.andThen]
    simp [hfl, hv, hd, storeVar, hz, hcs, hc, hst, Result.andThen]
  have hcall := run_callFunc_extern hf' hname hb hn he #[v, x] w
  rw [hrun] at hcall
  simp only [Result.andThen_ok] at hcall
  have hr : (execOp a.eval ⟨dst, .call ⟨.value (.func F), ls.toArray, tys⟩, t, pos, aft, g⟩).run P w = .ok (.value (.tuple #[])) (w.setRow b vs.toArray) := by
    simp [execOp, resolve, Act.eval, Frame.eval, List.map_toArray, hE.evals hl, Deferred.ofValue, Sem.run_bind, Sem.run_pure, Result.andThen_ok, Go.invoke, hcall]
  simp only [Oper.wp, hr, Oper.upon]
  refine hnx _ _ ⟨rfl, hS.setAt (w' := w.setRow b vs.toArray) i e rfl (fun b' hb' => ?_) (o' := .cells vs.toArray T (0, 0)) ?_ el⟩
  · show (w.setRow b _).heap[b']? = w.heap[b']?
    exact setRow_other w b b' _ hb'
  · exact heap_setRow w b _ _ T (0, 0) hh
end
end Go.Sl
