/-
  The own separation logic for the walks, part 3.
-/
import Derived.Test.YtpheghebfodiiaaGreatDoorSl2
set_option linter.unusedVariables false
set_option linter.unusedSimpArgs false
namespace Go.Sl

/-! ### 5. Operations that leave the world alone -/
theorem add_add (a : Addr) (m n : Nat) : (a.add m).add n = a.add (m + n) := by
  unfold Addr.add
  by_cases hm : m = 0
  · by_cases hn : n = 0 <;> simp [hm, hn]
  · by_cases hn : n = 0
    · simp [hm, hn]
    · simp [hm, hn, Nat.add_assoc]
theorem add_zero' (a : Addr) : a.add 0 = a := by simp [Addr.add]
theorem add_mk (b o n : Nat) : (⟨b, o, none⟩ : Addr).add n = ⟨b, o + n, none⟩ := by
  unfold Addr.add; split <;> simp_all
/-- whole numbers' operations that always have a value -/
def binI (op : BinOp) (k : IntKind) (m n : Int) : Option Value := match op with
  | .add => some (.int k (k.wrap (m + n)))
  | .sub => some (.int k (k.wrap (m - n)))
  | .mul => some (.int k (k.wrap (m * n)))
  | .eql => some (.bool (decide (m = n)))
  | .neq => some (.bool (!decide (m = n)))
  | .lss => some (.bool (decide (m < n)))
  | .leq => some (.bool (decide (m ≤ n)))
  | .gtr => some (.bool (decide (n < m)))
  | .geq => some (.bool (decide (n ≤ m)))
  | .and => some (.int k (k.wrap (BitVec.ofInt k.bits m &&& BitVec.ofInt k.bits n).toNat))
  | .or => some (.int k (k.wrap (BitVec.ofInt k.bits m ||| BitVec.ofInt k.bits n).toNat))
  | .xor => some (.int k (k.wrap (BitVec.ofInt k.bits m ^^^ BitVec.ofInt k.bits n).toNat))
  | .andNot => some (.int k (k.wrap (BitVec.ofInt k.bits m &&& ~~~ BitVec.ofInt k.bits n).toNat))
  | _ => none
theorem int_beq (m n : Int) : (m == n) = decide (m = n) := by
  by_cases h : m = n <;> simp [h]
theorem int_bne (m n : Int) : (m != n) = !decide (m = n) := by
  by_cases h : m = n <;> simp [h]
section
variable {P : Program} {N : Fr} {env : Env} {w : World} {dst : Option Tmp} {t : TypeId} {pos : String} {aft : Array Edge} {g : Option (Nat × Bool)}
theorem Vl.move {x : Operand} {v : Value} (hx : ev env x = some v) : Vl P N ⟨dst, .move x, t, pos, aft, g⟩ env w v := fun a ha => by
  simp [execOp, ha.eval hx]
theorem Vl.assign {x : Operand} {v : Value} (hx : ev env x = some v) : Vl P N ⟨dst, .assign x, t, pos, aft, g⟩ env w v := fun a ha => by
  simp [execOp, ha.eval hx]
theorem Vl.pickT {c x y : Operand} {v : Value} (hc : ev env c = some (.bool true)) (hx : ev env x = some v) : Vl P N ⟨dst, .pick c x y, t, pos, aft, g⟩ env w v := fun a ha => by
  simp [execOp, ha.eval hc, ha.eval hx, asBool]
theorem Vl.pickF {c x y : Operand} {v : Value} (hc : ev env c = some (.bool false)) (hy : ev env y = some v) : Vl P N ⟨dst, .pick c x y, t, pos, aft, g⟩ env w v := fun a ha => by
  simp [execOp, ha.eval hc, ha.eval hy, asBool]
theorem run_eqGuard_int (op : BinOp) (xt : TypeId) (x y : Operand) (k k' : IntKind) (m n : Int) : (eqGuard op xt x y (.int k m) (.int k' n)).run P w = .ok () w := by
  cases op <;> simp [eqGuard]
theorem Vl.bin {op : BinOp} {xt yt : TypeId} {x y : Operand} {vx vy v : Value} (hx : ev env x = some vx) (hy : ev env y = some vy)
    (hr : ((eqGuard op xt x y vx vy).bind fun _ => binOp op xt vx vy).run P w = .ok v w) : Vl P N ⟨dst, .binOp op xt x y yt, t, pos, aft, g⟩ env w v := fun a ha => by
  have hr' : ((do eqGuard op xt x y vx vy; binOp op xt vx vy) : Sem Value).run P w = .ok v w := hr
  simp only [execOp, ha.eval hx, ha.eval hy, Sem.run_bind, hr']
  rfl
theorem Vl.int {op : BinOp} {xt yt : TypeId} {x y : Operand} {k : IntKind} {m n : Int} {v : Value} (hx : ev env x = some (.int k m)) (hy : ev env y = some (.int k n))
    (hv : binI op k m n = some v) : Vl P N ⟨dst, .binOp op xt x y yt, t, pos, aft, g⟩ env w v := Vl.bin hx hy (by
  show ((eqGuard op xt x y (.int k m) (.int k n)) >>= fun _ => binOp op xt (.int k m) (.int k n)).run P w = .ok v w
  rw [Sem.run_bind, run_eqGuard_int]
  cases op <;> simp [binI] at hv <;> subst hv <;> simp [binOp, Op.intArith, Op.intBits, Op.intCmp, int_beq, int_bne])
theorem Vl.quo {xt yt : TypeId} {x y : Operand} {k : IntKind} {m n : Int} (hx : ev env x = some (.int k m)) (hy : ev env y = some (.int k n)) (hn : n ≠ 0) :
    Vl P N ⟨dst, .binOp .quo xt x y yt, t, pos, aft, g⟩ env w (.int k (k.wrap (m.tdiv n))) := Vl.bin hx hy (by
  show ((eqGuard .quo xt x y (.int k m) (.int k n)) >>= fun _ => binOp .quo xt (.int k m) (.int k n)).run P w = _
  rw [Sem.run_bind, run_eqGuard_int]
  simp [binOp, Op.intDiv, hn])
theorem Vl.rem {xt yt : TypeId} {x y : Operand} {k : IntKind} {m n : Int} (hx : ev env x = some (.int k m)) (hy : ev env y = some (.int k n)) (hn : n ≠ 0) :
    Vl P N ⟨dst, .binOp .rem xt x y yt, t, pos, aft, g⟩ env w (.int k (m.tmod n)) := Vl.bin hx hy (by
  show ((eqGuard .rem xt x y (.int k m) (.int k n)) >>= fun _ => binOp .rem xt (.int k m) (.int k n)).run P w = _
  rw [Sem.run_bind, run_eqGuard_int]
  simp [binOp, Op.intDiv, hn])
theorem Vl.shr {xt yt : TypeId} {x y : Operand} {k k' : IntKind} {m n : Int} (hx : ev env x = some (.int k m)) (hy : ev env y = some (.int k' n)) (hn : 0 ≤ n) :
    Vl P N ⟨dst, .binOp .shr xt x y yt, t, pos, aft, g⟩ env w (.int k (m.fdiv (2 ^ (min n.toNat k.bits)))) := Vl.bin hx hy (by
  show ((eqGuard .shr xt x y (.int k m) (.int k' n)) >>= fun _ => binOp .shr xt (.int k m) (.int k' n)).run P w = _
  rw [Sem.run_bind, run_eqGuard_int]
  simp [binOp, Op.shift, Int.not_lt.2 hn])
theorem Vl.shl {xt yt : TypeId} {x y : Operand} {k k' : IntKind} {m n : Int} (hx : ev env x = some (.int k m)) (hy : ev env y = some (.int k' n)) (hn : 0 ≤ n) :
    Vl P N ⟨dst, .binOp .shl xt x y yt, t, pos, aft, g⟩ env w (.int k (k.wrap (m * 2 ^ (min n.toNat k.bits)))) := Vl.bin hx hy (by
  show ((eqGuard .shl xt x y (.int k m) (.int k' n)) >>= fun _ => binOp .shl xt (.int k m) (.int k' n)).run P w = _
  rw [Sem.run_bind, run_eqGuard_int]
  simp [binOp, Op.shift, Int.not_lt.2 hn])
theorem Vl.not {xt : TypeId} {x : Operand} {b : Bool} (hx : ev env x = some (.bool b)) : Vl P N ⟨dst, .unOp .not xt x, t, pos, aft, g⟩ env w (.bool !b) := fun a ha => by
  simp [execOp, ha.eval hx, Op.unary]
theorem Vl.neg {xt : TypeId} {x : Operand} {k : IntKind} {m : Int} (hx : ev env x = some (.int k m)) : Vl P N ⟨dst, .unOp .neg xt x, t, pos, aft, g⟩ env w (.int k (k.wrap (0 - m))) := fun a ha => by
  simp [execOp, ha.eval hx, Op.unary, Op.intArith]
theorem Vl.conv {src d : TypeId} {x : Operand} {k k' : IntKind} {n : Int} {ds : TypeDesc} (hs : P.underlying src = some ds) (hd : P.underlying d = some (.int k)) (hx : ev env x = some (.int k' n)) :
    Vl P N ⟨dst, .convert src d x, t, pos, aft, g⟩ env w (.int k (k.wrap n)) := fun a ha => by
  have h1 : (underlying src).run P w = .ok ds w := by simp [underlying, hs]
  have h2 : (underlying d).run P w = .ok (.int k) w := by simp [underlying, hd]
  simp only [execOp, ha.eval hx, convert, Sem.run_bind, h1, h2, Result.andThen_ok]
  cases ds <;> rfl
theorem Vl.convStr {src d : TypeId} {x : Operand} {s : ByteArray} {ds : TypeDesc} (hs : P.underlying src = some ds) (hd : P.underlying d = some .string) (hx : ev env x = some (.string s)) :
    Vl P N ⟨dst, .convert src d x, t, pos, aft, g⟩ env w (.string s) := fun a ha => by
  have h1 : (underlying src).run P w = .ok ds w := by simp [underlying, hs]
  have h2 : (underlying d).run P w = .ok .string w := by simp [underlying, hd]
  simp only [execOp, ha.eval hx, convert, Sem.run_bind, h1, h2, Result.andThen_ok]
  cases ds <;> rfl
theorem Vl.nilCheck {x : Operand} {a' : Addr} (hx : ev env x = some (.pointer (some a'))) : Vl P N ⟨dst, .nilCheck x, t, pos, aft, g⟩ env w (.pointer (some a')) := fun a ha => by
  simp [execOp, ha.eval hx]
theorem Vl.nilCheckF {x : Operand} {f : FuncId} {l r : Array Value} (hx : ev env x = some (.func (.func f) l r)) : Vl P N ⟨dst, .nilCheck x, t, pos, aft, g⟩ env w (.func (.func f) l r) := fun a ha => by
  simp [execOp, ha.eval hx]
theorem Vl.extract {x : Operand} {i : Nat} {vs : Array Value} {v : Value} (hx : ev env x = some (.tuple vs)) (hv : vs[i]? = some v) : Vl P N ⟨dst, .extract x i, t, pos, aft, g⟩ env w v := fun a ha => by
  simp [execOp, ha.eval hx, Instr.extract, hv]
theorem Vl.fieldAddr {s : TypeId} {x : Operand} {f n : Nat} {a' a'' : Addr} {fs : Array Field} {fld : Field} (hu : P.underlying s = some (.struct fs)) (hf : fs[f]? = some fld)
    (hz : ∀ w, (sizeOf fld.type).run P w = .ok (n + 1) w) (hx : ev env x = some (.pointer (some a'))) (ha' : a'.add fld.offset = a'') :
    Vl P N ⟨dst, .fieldAddr s x f, t, pos, aft, g⟩ env w (.pointer (some a'')) := fun a ha => by
  have h1 : (underlying s).run P w = .ok (.struct fs) w := by simp [underlying, hu]
  subst ha'
  simp [execOp, ha.eval hx, Instr.fieldAt, h1, hf, Instr.sureAddr, fieldPlace, hz]
theorem Vl.indexAddr {ty e : TypeId} {x ix : Operand} {k : IntKind} {i : Int} {n c sz : Nat} {A : Option Addr} {a' a'' : Addr} (hu : P.underlying ty = some (.slice e)) (hz : ∀ w, (sizeOf e).run P w = .ok sz w)
    (hx : ev env x = some (.slice A n c)) (hi : ev env ix = some (.int k i)) (hA : A = some a') (h0 : 0 ≤ i) (h1 : i < n) (ha' : a'.add (i.toNat * sz) = a'') :
    Vl P N ⟨dst, .indexAddr ty x ix, t, pos, aft, g⟩ env w (.pointer (some a'')) := fun a ha => by
  have hu' : (underlying ty).run P w = .ok (.slice e) w := by simp [underlying, hu]
  subst ha'
  subst hA
  simp [execOp, ha.eval hx, ha.eval hi, Instr.indexAt, asIntOf, hu', h0, h1, hz]
theorem Vl.indexAddrA {ty e : TypeId} {x ix : Operand} {k : IntKind} {i : Int} {n sz : Nat} {a' a'' : Addr} (hu : P.underlying ty = some (.array n e)) (hz : ∀ w, (sizeOf e).run P w = .ok sz w)
    (hx : ev env x = some (.pointer (some a'))) (hi : ev env ix = some (.int k i)) (h0 : 0 ≤ i) (h1 : i < n) (ha' : a'.add (i.toNat * sz) = a'') :
    Vl P N ⟨dst, .indexAddr ty x ix, t, pos, aft, g⟩ env w (.pointer (some a'')) := fun a ha => by
  have hu' : (underlying ty).run P w = .ok (.array n e) w := by simp [underlying, hu]
  subst ha'
  simp [execOp, ha.eval hx, ha.eval hi, Instr.indexAt, asIntOf, hu', h0, h1, hz, Instr.sureAddr]
/-- a string's byte -/
def bt (s : ByteArray) (i : Int) : Int := if h : i.toNat < s.size then ((s[i.toNat]'h).toNat : Int) else 0
theorem Vl.indexS {ty : TypeId} {x ix : Operand} {k : IntKind} {i : Int} {s : ByteArray} (hu : P.underlying ty = some .string)
    (hx : ev env x = some (.string s)) (hi : ev env ix = some (.int k i)) (h0 : 0 ≤ i) (h1 : i < (s.size : Int)) :
    Vl P N ⟨dst, .index ty x ix, t, pos, aft, g⟩ env w (.int .u8 (bt s i)) := fun a ha => by
  have hu' : (underlying ty).run P w = .ok .string w := by simp [underlying, hu]
  have h2 : i.toNat < s.size := by omega
  have hg : s[i.toNat]? = some (s[i.toNat]'h2) := by simp [h2]
  simp [execOp, ha.eval hx, ha.eval hi, Instr.index, asIntOf, hu', h0, hg, bt, h2]
theorem Vl.indexA {ty e : TypeId} {x ix : Operand} {k : IntKind} {i : Int} {n sz : Nat} {cs : Array Value} {v : Value} (hu : P.underlying ty = some (.array n e)) (hz : ∀ w, (sizeOf e).run P w = .ok sz w)
    (hx : ev env x = some (.agg cs)) (hi : ev env ix = some (.int k i)) (h0 : 0 ≤ i) (h1 : i < n) (hv : (part e cs (i.toNat * sz)).run P w = .ok v w) :
    Vl P N ⟨dst, .index ty x ix, t, pos, aft, g⟩ env w v := fun a ha => by
  have hu' : (underlying ty).run P w = .ok (.array n e) w := by simp [underlying, hu]
  simp [execOp, ha.eval hx, ha.eval hi, Instr.index, asIntOf, hu', h0, h1, hz, hv]
theorem run_part1 {e : TypeId} {cs : Array Value} {off : Nat} {v : Value} (hg : ∀ w, (isAgg e).run P w = .ok false w) (hv : cs[off]? = some v) : (part e cs off).run P w = .ok v w := by
  simp [part, hg, hv]
theorem run_partA {e : TypeId} {cs : Array Value} {off sz : Nat} (hg : ∀ w, (isAgg e).run P w = .ok true w) (hz : ∀ w, (sizeOf e).run P w = .ok sz w) : (part e cs off).run P w = .ok (.agg (cs.extract off (off + sz))) w := by
  simp [part, hg, hz]
theorem Vl.field {ty : TypeId} {x : Operand} {f : Nat} {cs : Array Value} {v : Value} {fs : Array Field} {fld : Field} (hu : P.underlying ty = some (.struct fs)) (hf : fs[f]? = some fld)
    (hx : ev env x = some (.agg cs)) (hv : (part fld.type cs fld.offset).run P w = .ok v w) : Vl P N ⟨dst, .field ty x f, t, pos, aft, g⟩ env w v := fun a ha => by
  have hu' : (underlying ty).run P w = .ok (.struct fs) w := by simp [underlying, hu]
  simp [execOp, ha.eval hx, Instr.field, hu', hf, asAgg, hv]
theorem Vl.load {ty : TypeId} {x : Operand} {a' : Addr} {v : Value} (hg : ∀ w, (isAgg ty).run P w = .ok false w) (hx : ev env x = some (.pointer (some a'))) (hc : w.cell? a' = some v) :
    Vl P N ⟨dst, .load ty x, t, pos, aft, g⟩ env w v := fun a ha => by
  simp [execOp, ha.eval hx, Instr.loadAt, Instr.sureAddr, loadVar, hg, hc]
/-- the cells `vs` lie in `w` from `a` on -/
def CellsAt (w : World) (a : Addr) (vs : List Value) : Prop := ∀ j v, vs[j]? = some v → w.cell? (a.add j) = some v
theorem Vl.loadA {ty : TypeId} {x : Operand} {a' : Addr} {vs : List Value} {sz : Nat} (hg : ∀ w, (isAgg ty).run P w = .ok true w) (hz : ∀ w, (sizeOf ty).run P w = .ok sz w) (hl : vs.length = sz)
    (hx : ev env x = some (.pointer (some a'))) (hc : CellsAt w a' vs) : Vl P N ⟨dst, .load ty x, t, pos, aft, g⟩ env w (.agg vs.toArray) := fun a ha => by
  subst hl
  have h := run_loadCells_list (P := P) (w := w) a' vs hc
  simp [execOp, ha.eval hx, Instr.loadAt, Instr.sureAddr, loadVar, hg, hz, h]
def evp (env : Env) : List (Nat × Operand) → Option (List (Nat × Value))
  | [] => some []
  | (i, x) :: l => match ev env x with
    | some v => match evp env l with
      | some vs => some ((i, v) :: vs)
      | none => none
    | none => none
theorem Has.evps {a : Act} (h : Has N env a) : ∀ {l : List (Nat × Operand)} {vs : List (Nat × Value)}, evp env l = some vs → l.map (fun x => (x.1, a.eval x.2)) = vs
  | [], vs, e => by simpa [evp] using e
  | (i, x) :: l, vs, e => by
    simp only [evp] at e
    cases h1 : ev env x with
    | none => simp [h1] at e
    | some v =>
      cases h2 : evp env l with
      | none => simp [h1, h2] at e
      | some ws =>
        simp [h1, h2] at e
        subst e
        simp [h.eval h1, h.evps h2]
theorem Vl.build {ty : TypeId} {parts : List (Nat × Operand)} {vs : List (Nat × Value)} {v : Value} (hp : evp env parts = some vs) (hr : (Instr.build ty vs.toArray).run P w = .ok v w) :
    Vl P N ⟨dst, .build ty parts.toArray, t, pos, aft, g⟩ env w v := fun a ha => by
  have e : (parts.toArray.map fun (x : Nat × Operand) => (x.1, a.eval x.2)) = vs.toArray := by rw [List.map_toArray, ha.evps hp]
  simp only [execOp]
  have e' : (parts.toArray.map fun (i, x) => (i, a.eval x)) = vs.toArray := e
  rw [e', Sem.run_bind, hr]
  rfl
theorem Vl.makeIface {xt : TypeId} {x : Operand} {v : Value} {d : TypeDesc} (hu : P.underlying xt = some d) (hd : (match d with | .interface _ => false | _ => true) = true) (hx : ev env x = some v) :
    Vl P N ⟨dst, .makeInterface xt x, t, pos, aft, g⟩ env w (.iface xt v) := fun a ha => by
  have hu' : (underlying xt).run P w = .ok d w := by simp [underlying, hu]
  simp only [execOp, ha.eval hx, Instr.makeInterface, Sem.run_bind, hu', Result.andThen_ok]
  cases d <;> first | rfl | simp at hd
theorem Vl.makeFunc {fn : Fn} {fi ca : List Operand} {vs us : List Value} (hf : evs env fi = some vs) (hc : evs env ca = some us) :
    Vl P N ⟨dst, .makeFunc fn fi.toArray ca.toArray, t, pos, aft, g⟩ env w (.func fn vs.toArray us.toArray) := fun a ha => by
  have e1 : fi.toArray.map a.eval = vs.toArray := by rw [List.map_toArray, ha.evals hf]
  have e2 : ca.toArray.map a.eval = us.toArray := by rw [List.map_toArray, ha.evals hc]
  simp only [execOp, e1, e2]
  rfl
theorem resolve_builtin {ρ : Operand → Value} {b : Builtin} {l : List Operand} {vs : List Value} {tys : Array TypeId} {ty : TypeId} (h : l.map ρ = vs) :
    ∃ cs, (resolve ρ ⟨.builtin b, l.toArray, tys⟩ ty).run P w = .ok { target := .builtin b tys ty cs, args := vs.toArray } w := by
  obtain ⟨cs, h1⟩ : ∃ cs, (resolve ρ ⟨.builtin b, l.toArray, tys⟩ ty).run P w = .ok { target := .builtin b tys ty cs, args := l.toArray.map ρ } w := ⟨_, rfl⟩
  refine ⟨cs, ?_⟩
  rw [h1, List.map_toArray, h]
theorem Vl.builtin {b : Builtin} {l : List Operand} {vs : List Value} {tys : Array TypeId} {v : Value} (hl : evs env l = some vs)
    (hr : ∀ cs, (Go.builtin b tys t cs vs.toArray).run P w = .ok (.value v) w) : Vl P N ⟨dst, .call ⟨.builtin b, l.toArray, tys⟩, t, pos, aft, g⟩ env w v := fun a ha => by
  obtain ⟨cs, h⟩ := resolve_builtin (P := P) (w := w) (b := b) (tys := tys) (ty := t) (ha.evals hl)
  simp only [execOp, Sem.run_bind, h, Result.andThen_ok, invoke, hr]
theorem Vl.lenSl {x : Operand} {ty e : TypeId} {a' : Option Addr} {n c : Nat} (hu : P.underlying ty = some (.slice e)) (hx : ev env x = some (.slice a' n c)) :
    Vl P N ⟨dst, .call ⟨.builtin .len, #[x], #[ty]⟩, t, pos, aft, g⟩ env w (.int .i64 (n : Int)) :=
  Vl.builtin (l := [x]) (vs := [.slice a' n c]) (by simp [evs, hx]) (fun cs => by simp [Go.builtin, Builtin.len_, underlying, hu, goInt])
theorem Vl.lenStr {x : Operand} {ty : TypeId} {s : ByteArray} (hu : P.underlying ty = some .string) (hx : ev env x = some (.string s)) :
    Vl P N ⟨dst, .call ⟨.builtin .len, #[x], #[ty]⟩, t, pos, aft, g⟩ env w (.int .i64 (s.size : Int)) :=
  Vl.builtin (l := [x]) (vs := [.string s]) (by simp [evs, hx]) (fun cs => by simp [Go.builtin, Builtin.len_, underlying, hu, goInt])
theorem Vl.min2 {x y : Operand} {tys : Array TypeId} {k : IntKind} {m n : Int} (hx : ev env x = some (.int k m)) (hy : ev env y = some (.int k n)) :
    Vl P N ⟨dst, .call ⟨.builtin .min, #[x, y], tys⟩, t, pos, aft, g⟩ env w (.int k (if n < m then n else m)) :=
  Vl.builtin (l := [x, y]) (vs := [.int k m, .int k n]) (by simp [evs, hx, hy]) (fun cs => by simp [Go.builtin, Builtin.min_, Builtin.min2])
theorem Vl.max2 {x y : Operand} {tys : Array TypeId} {k : IntKind} {m n : Int} (hx : ev env x = some (.int k m)) (hy : ev env y = some (.int k n)) :
    Vl P N ⟨dst, .call ⟨.builtin .max, #[x, y], tys⟩, t, pos, aft, g⟩ env w (.int k (if m < n then n else m)) :=
  Vl.builtin (l := [x, y]) (vs := [.int k m, .int k n]) (by simp [evs, hx, hy]) (fun cs => by simp [Go.builtin, Builtin.max_, Builtin.max2])
theorem run_eqGuard_str (op : BinOp) (xt : TypeId) (x y : Operand) (m n : ByteArray) : (eqGuard op xt x y (.string m) (.string n)).run P w = .ok () w := by
  cases op <;> simp [eqGuard]
theorem run_eqGuard_bool (op : BinOp) (xt : TypeId) (x y : Operand) (m n : Bool) : (eqGuard op xt x y (.bool m) (.bool n)).run P w = .ok () w := by
  cases op <;> simp [eqGuard]
theorem bytes_beq (m n : ByteArray) : (m.toList == n.toList) = decide (m = n) := by
  by_cases h : m = n
  · subst h; simp
  · have : m.toList ≠ n.toList := fun e => h (by rw [ByteArray.toList_eq, ByteArray.toList_eq] at e; exact ByteArray.ext (Array.toList_inj.1 e))
    simp [h, this]
theorem Vl.strEq {xt yt : TypeId} {x y : Operand} {m n : ByteArray} (hx : ev env x = some (.string m)) (hy : ev env y = some (.string n)) :
    Vl P N ⟨dst, .binOp .eql xt x y yt, t, pos, aft, g⟩ env w (.bool (decide (m = n))) := Vl.bin hx hy (by
  show ((eqGuard .eql xt x y (.string m) (.string n)) >>= fun _ => binOp .eql xt (.string m) (.string n)).run P w = _
  rw [Sem.run_bind, run_eqGuard_str]
  simp [binOp, Op.stringOp, bytes_beq])
theorem Vl.strNe {xt yt : TypeId} {x y : Operand} {m n : ByteArray} (hx : ev env x = some (.string m)) (hy : ev env y = some (.string n)) :
    Vl P N ⟨dst, .binOp .neq xt x y yt, t, pos, aft, g⟩ env w (.bool (!decide (m = n))) := Vl.bin hx hy (by
  show ((eqGuard .neq xt x y (.string m) (.string n)) >>= fun _ => binOp .neq xt (.string m) (.string n)).run P w = _
  rw [Sem.run_bind, run_eqGuard_str]
  simp [binOp, Op.stringOp, bytes_beq])
theorem Vl.strAdd {xt yt : TypeId} {x y : Operand} {m n : ByteArray} (hb : m.size + n.size ≤ 9223372036854775807) (hx : ev env x = some (.string m)) (hy : ev env y = some (.string n)) :
    Vl P N ⟨dst, .binOp .add xt x y yt, t, pos, aft, g⟩ env w (.string (m ++ n)) := Vl.bin hx hy (by
  show ((eqGuard .add xt x y (.string m) (.string n)) >>= fun _ => binOp .add xt (.string m) (.string n)).run P w = _
  rw [Sem.run_bind, run_eqGuard_str]
  have : ¬ ((m.size + n.size : Nat) : Int) > IntKind.i64.max := by
    have e : IntKind.i64.max = 9223372036854775807 := by decide
    rw [e]
    omega
  simp only [binOp, Op.stringOp, this, if_false, Sem.run_pure, Result.andThen_ok])
theorem Vl.eqlS {α : Type} {xt yt : TypeId} {x y : Operand} {vx vy : Value} {d1 d2 : α} [DecidableEq α] (hr : ∀ w, ((eqGuard .eql xt x y vx vy).bind fun _ => binOp .eql xt vx vy).run P w = .ok (.bool (decide (d1 = d2))) w) (hx : ev env x = some vx) (hy : ev env y = some vy) :
    Vl P N ⟨dst, .binOp .eql xt x y yt, t, pos, aft, g⟩ env w (.bool (decide (d1 = d2))) := Vl.bin hx hy (hr w)
theorem Vl.neqS {α : Type} {xt yt : TypeId} {x y : Operand} {vx vy : Value} {d1 d2 : α} [DecidableEq α] (hr : ∀ w, ((eqGuard .neq xt x y vx vy).bind fun _ => binOp .neq xt vx vy).run P w = .ok (.bool (!decide (d1 = d2))) w) (hx : ev env x = some vx) (hy : ev env y = some vy) :
    Vl P N ⟨dst, .binOp .neq xt x y yt, t, pos, aft, g⟩ env w (.bool (!decide (d1 = d2))) := Vl.bin hx hy (hr w)
theorem Vl.boolEql {P : Program} {N : Fr} {env : Env} {w : World} {dst : Option Tmp} {t : TypeId} {pos : String} {aft : Array Edge} {g : Option (Nat × Bool)} {xt yt : TypeId} {x y : Operand} {m n : Bool} (hu : P.underlying xt = some .bool) (hx : ev env x = some (.bool m)) (hy : ev env y = some (.bool n)) :
    Vl P N ⟨dst, .binOp .eql xt x y yt, t, pos, aft, g⟩ env w (.bool (decide (m = n))) := Vl.bin hx hy (by
  show ((eqGuard .eql xt x y (.bool m) (.bool n)) >>= fun _ => binOp .eql xt (.bool m) (.bool n)).run P w = _
  rw [Sem.run_bind, run_eqGuard_bool]
  simp only [Result.andThen_ok]
  have h : ∀ d : Nat, (Op.equalIn (d + 1) xt (.bool m) (.bool n)).run P w = .ok (decide (m = n)) w := fun d => by
    cases m <;> cases n <;> simp [Op.equalIn, run_underlying hu]
  simp only [binOp]
  simp [Op.equal, Op.maxDepth, h 9999])
theorem Vl.boolNeq {P : Program} {N : Fr} {env : Env} {w : World} {dst : Option Tmp} {t : TypeId} {pos : String} {aft : Array Edge} {g : Option (Nat × Bool)} {xt yt : TypeId} {x y : Operand} {m n : Bool} (hu : P.underlying xt = some .bool) (hx : ev env x = some (.bool m)) (hy : ev env y = some (.bool n)) :
    Vl P N ⟨dst, .binOp .neq xt x y yt, t, pos, aft, g⟩ env w (.bool (!decide (m = n))) := Vl.bin hx hy (by
  show ((eqGuard .neq xt x y (.bool m) (.bool n)) >>= fun _ => binOp .neq xt (.bool m) (.bool n)).run P w = _
  rw [Sem.run_bind, run_eqGuard_bool]
  simp only [Result.andThen_ok]
  have h : ∀ d : Nat, (Op.equalIn (d + 1) xt (.bool m) (.bool n)).run P w = .ok (decide (m = n)) w := fun d => by
    cases m <;> cases n <;> simp [Op.equalIn, run_underlying hu]
  simp only [binOp]
  simp [Op.equal, Op.maxDepth, h 9999])
theorem notdec_pos {p : Prop} [Decidable p] (h : p) : (!decide p) = false := by simp [h]
theorem notdec_neg {p : Prop} [Decidable p] (h : ¬ p) : (!decide p) = true := by simp [h]
theorem eq_false_of {b : Bool} (h : ¬ b = true) : b = false := by simpa using h
theorem notb_pos {b : Bool} (h : b = true) : (!b) = false := by simp [h]
theorem notb_neg {b : Bool} (h : ¬ b = true) : (!b) = true := by simpa using h
end
end Go.Sl
