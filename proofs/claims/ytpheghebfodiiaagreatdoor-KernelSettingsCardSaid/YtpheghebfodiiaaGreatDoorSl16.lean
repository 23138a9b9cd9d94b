/-
  The own separation logic for the walks, part 16.
-/
import Derived.Test.YtpheghebfodiiaaGreatDoorSl15
set_option linter.unusedVariables false
set_option linter.unusedSimpArgs false
namespace Go.Sl
section
variable {P : Program} {N : Fr} {B : Base} {w : World} {l l' : List HProp} {hf : Hp} {env env' : Env} {ops : Array Oper} {Q : Exit → Act → World → Prop} {rest os' : List Oper} {dst : Option Tmp} {t : TypeId} {pos : String} {aft : Array Edge} {g : Option (Nat × Bool)} {S : Nat → World → Prop} {tl : Nat → List Nat} {pl pl' : Pl} {c : Code}
/-! ### 24. Operations that look at nothing but the temporaries, as many as come one behind the other -/
def ikN : IntKind → Nat
  | .i8 => 0 | .i16 => 1 | .i32 => 2 | .i64 => 3 | .u8 => 4 | .u16 => 5 | .u32 => 6 | .u64 => 7
theorem ikN_inj {a b : IntKind} (h : Nat.beq (ikN a) (ikN b) = true) : a = b := by
  cases a <;> cases b <;> first | rfl | (exact absurd h (by decide))
def pv (env : Env) : Op → Option Value
  | .move x => ev env x
  | .assign x => ev env x
  | .pick c x y => match ev env c with
    | some (.bool true) => ev env x
    | some (.bool false) => ev env y
    | _ => none
  | .extract x i => match ev env x with
    | some (.tuple vs) => vs.toList[i]?
    | _ => none
  | .nilCheck x => match ev env x with
    | some (.pointer (some a)) => some (.pointer (some a))
    | _ => none
  | .unOp u _ x => match u with
    | .not => match ev env x with
      | some (.bool b) => some (.bool !b)
      | _ => none
    | _ => none
  | .binOp op _ x y _ => match ev env x with
    | some (.int k m) => match ev env y with
      | some (.int k' n) => bif Nat.beq (ikN k) (ikN k') then binI op k m n else none
      | _ => none
    | _ => none
  | _ => none
theorem pv_spec {op : Op} {v : Value} (h : pv env op = some v) : Vl P N ⟨dst, op, t, pos, aft, g⟩ env w v := by
  cases op <;> simp only [pv] at h
  all_goals try (cases h; done)
  case move => exact Vl.move h
  case assign => exact Vl.assign h
  case pick =>
    split at h
    · rename_i e; exact Vl.pickT e h
    · rename_i e; exact Vl.pickF e h
    · cases h
  case extract =>
    split at h
    · rename_i e; exact Vl.extract e (by simpa using h)
    · cases h
  case nilCheck =>
    split at h
    · rename_i e; cases h; exact Vl.nilCheck e
    · cases h
  case unOp op _ _ =>
    cases op <;> simp only at h
    all_goals try (cases h; done)
    split at h
    · rename_i e; cases h; exact Vl.not e
    · cases h
  case binOp =>
    split at h
    · rename_i e
      split at h
      · rename_i e'
        cases hk : Nat.beq (ikN _) (ikN _) with
        | false => rw [hk] at h; cases h
        | true => rw [hk] at h; cases ikN_inj hk; exact Vl.int e e' h
      · cases h
    · cases h
/-- one operation, whether it is wanted or not -/
def rn1 (n : Nat) (ops : Array Oper) (env : Env) : Oper → Option Env
  | ⟨some d, op, t, pos, aft, none⟩ => bif Nat.blt d n then match pv env op with
      | some v => some ((d, v) :: env)
      | none => none
    else none
  | ⟨some d, op, t, pos, aft, some jw⟩ => bif Nat.blt d n then match gd ops env ⟨some d, op, t, pos, aft, some jw⟩ with
      | some true => match pv env op with
        | some v => some ((d, v) :: env)
        | none => none
      | some false => some ((d, undef) :: env)
      | none => none
    else none
  | ⟨none, op, t, pos, aft, some jw⟩ => match gd ops env ⟨none, op, t, pos, aft, some jw⟩ with
      | some false => some env
      | _ => none
  | _ => none
theorem bif_some {α : Type} {b : Bool} {x : Option α} {y : α} (h : (bif b then x else none) = some y) : b = true ∧ x = some y := by
  cases b
  · cases h
  · exact ⟨rfl, h⟩
theorem rn1_RL {o : Oper} (h : rn1 N.n ops env o = some env') (hr : RL P N ops Q rest env' w) : RL P N ops Q (o :: rest) env w := by
  obtain ⟨d, op, t, pos, aft, g⟩ := o
  cases d with
  | some d =>
    cases g with
    | none =>
      obtain ⟨hd, h⟩ := bif_some h
      split at h
      · rename_i e; cases h; exact RL.s (pv_spec e) hd hr
      · cases h
    | some jw =>
      obtain ⟨hd, h⟩ := bif_some h
      split at h
      · rename_i hg
        split at h
        · rename_i e; cases h; exact RL.sg (pv_spec e) hd hg hr
        · cases h
      · rename_i hg; cases h; exact RL.nn hd hg hr
      · cases h
  | none =>
    cases g with
    | none => cases h
    | some jw =>
      simp only [rn1] at h
      split at h
      · rename_i hg; cases h; exact RL.n0 hg hr
      · cases h
def rn (n : Nat) (ops : Array Oper) : Nat → Env → List Oper → Option (Env × List Oper)
  | 0, env, os => some (env, os)
  | k + 1, env, o :: os => match rn1 n ops env o with
    | some env' => rn n ops k env' os
    | none => none
  | _ + 1, _, [] => none
theorem pn (k : Nat) (h : rn N.n ops k env rest = some (env', os')) (hr : RL P N ops Q os' env' w) : RL P N ops Q rest env w := by
  induction k generalizing env rest with
  | zero => cases h; exact hr
  | succ k ih =>
    cases rest with
    | nil => cases h
    | cons o os =>
      simp only [rn] at h
      split at h
      · rename_i e; exact rn1_RL e (ih h)
      · cases h
theorem rn1_RP {i : Nat} {o : Oper} (hi : ops[i]? = some o) (h : rn1 N.n ops env o = some env') (hr : RP P N ops Q S tl pl env' w) : RP P N ops Q S tl (.pure i pl) env w := by
  obtain ⟨d, op, t, pos, aft, g⟩ := o
  cases d with
  | some d =>
    cases g with
    | none =>
      obtain ⟨hd, h⟩ := bif_some h
      split at h
      · rename_i e; cases h; exact RP.s0 i hi (fun w => pv_spec e) hd hr
      · cases h
    | some jw =>
      obtain ⟨hd, h⟩ := bif_some h
      split at h
      · rename_i hg
        split at h
        · rename_i e; cases h; exact RP.sg0 i hi (fun w => pv_spec e) hd hg hr
        · cases h
      · rename_i hg; cases h; exact RP.nn0 i hi hd hg hr
      · cases h
  | none =>
    cases g with
    | none => cases h
    | some jw =>
      simp only [rn1] at h
      split at h
      · rename_i hg
        cases h
        intro listed hp hs ht hQ
        simp only [planOK, Bool.and_eq_true] at hp
        exact RA.no i hi hg rfl hs hp.1.1 hp.1.2 hQ (hr _ hp.2 hs ht hQ)
      · cases h
def rp (n : Nat) (ops : Array Oper) : Nat → Env → Pl → Option (Env × Pl)
  | 0, env, pl => some (env, pl)
  | k + 1, env, .pure i pl => match ops.toList[i]? with
    | some o => match rn1 n ops env o with
      | some env' => rp n ops k env' pl
      | none => none
    | none => none
  | _ + 1, _, _ => none
theorem pp (k : Nat) (h : rp N.n ops k env pl = some (env', pl')) (hr : RP P N ops Q S tl pl' env' w) : RP P N ops Q S tl pl env w := by
  induction k generalizing env pl with
  | zero => cases h; exact hr
  | succ k ih =>
    cases pl with
    | pure i q =>
      simp only [rp] at h
      split at h
      · rename_i o hi
        split at h
        · rename_i e; exact rn1_RP (by simpa using hi) e (ih h)
        · cases h
      · cases h
    | nil => cases h
    | early i g q => cases h
    | last i q => cases h
    | fork i j p q => cases h
    | fork3 i j k p q r => cases h
    | fork4 i j k m p q r s => cases h
/-- a plan, told by numbers: 3 i: pure; 3 (i + 1000 g) + 1: taken first, by what is kept in the group g; 3 i + 2: nothing else may come up -/
def plD : List Nat → Pl
  | [] => .nil
  | x :: l => match x % 3 with
    | 0 => .pure (x / 3) (plD l)
    | 1 => .early (x / 3 % 1000) (x / 3 / 1000) (plD l)
    | _ => .last (x / 3) (plD l)
/-! ### 25. Other operations, shortly -/
theorem Vl.ld {ty : TypeId} {x : Operand} {b off : Nat} {cs : List Value} {T : TypeId} {v : Value} (i : Nat) (hS : St B w l hf) (hg : ∀ w, (isAgg ty).run P w = .ok false w) (hx : ev env x = some (.pointer (some ⟨b, off, none⟩))) (e : l[i]? = some (Cl b cs T)) (ho : cs[off]? = some v) :
    Vl P N ⟨dst, .load ty x, t, pos, aft, g⟩ env w v := Vl.load hg hx (hS.cell i e ho)
theorem Vl.lw {ty : TypeId} {x : Operand} {b sz : Nat} {cs : List Value} {T : TypeId} (i : Nat) (hS : St B w l hf) (hg : ∀ w, (isAgg ty).run P w = .ok true w) (hz : ∀ w, (sizeOf ty).run P w = .ok sz w) (hx : ev env x = some (.pointer (some ⟨b, 0, none⟩))) (e : l[i]? = some (Cl b cs T)) (hl : cs.length = sz) :
    Vl P N ⟨dst, .load ty x, t, pos, aft, g⟩ env w (.agg cs.toArray) := Vl.loadA hg hz hl hx (hS.cellsAt i e (by simp))
section
variable {d : Nat}
theorem al {T : TypeId} {z : Value} {cs : List Value} (hS : St B w l hf) (hz : ∀ w, (zeroValue T).run P w = .ok z w) (hv : z.cells = cs.toArray) (hd : Nat.blt d N.n = true) (hg : gd ops env ⟨some d, .alloc T, t, pos, aft, g⟩ = some true)
    (hr : ∀ b w, St B w (Cl b cs T :: l) hf → RL P N ops Q rest ((d, .pointer (some ⟨b, 0, none⟩)) :: env) w) : RL P N ops Q (⟨some d, .alloc T, t, pos, aft, g⟩ :: rest) env w :=
  RL.e (OW.alloc hS hz hv) hd hg fun _ w ⟨b, e, h⟩ => by subst e; exact hr b w h
theorem bx {T : TypeId} {x : Operand} {v : Value} {cs : List Value} (hS : St B w l hf) (hx : ev env x = some v) (hv : v.cells = cs.toArray) (hd : Nat.blt d N.n = true) (hg : gd ops env ⟨some d, .box T x, t, pos, aft, g⟩ = some true)
    (hr : ∀ b w, St B w (Cl b cs T :: l) hf → RL P N ops Q rest ((d, .pointer (some ⟨b, 0, none⟩)) :: env) w) : RL P N ops Q (⟨some d, .box T x, t, pos, aft, g⟩ :: rest) env w :=
  RL.e (OW.box hS hx hv) hd hg fun _ w ⟨b, e, h⟩ => by subst e; exact hr b w h
/-- a call: what it gives, and on -/
theorem cF {F : FuncId} {ls : List Operand} {vs : List Value} {tys : Array TypeId} {α β : Type} {o : Option α} {k : α → Option β} {φ : β → Prop} {K : α → Value → World → Prop}
    (hc : ∀ r, o = some r → Calls P F vs.toArray w (Ret (K r))) (hcall : ∀ (args : Array Value) (w : World), (callFunc F args).run P w = .ok (.enter F args) w) (h : Holds φ (o.bind k)) (hl : evs env ls = some vs)
    (hd : Nat.blt d N.n = true) (hg : gd ops env ⟨some d, .call ⟨.value (.func F), ls.toArray, tys⟩, t, pos, aft, g⟩ = some true) (hr : ∀ r, Holds φ (k r) → ∀ v w, K r v w → RL P N ops Q rest ((d, v) :: env) w) :
    RL P N ops Q (⟨some d, .call ⟨.value (.func F), ls.toArray, tys⟩, t, pos, aft, g⟩ :: rest) env w := by
  obtain ⟨r, e, hk⟩ := h.bind
  exact RL.e (OW.callF hl hcall (hc r e)) hd hg fun v w hv => hr r hk v w hv
theorem cF0 {F : FuncId} {ls : List Operand} {vs : List Value} {tys : Array TypeId} {α β : Type} {o : Option α} {k : α → Option β} {φ : β → Prop} {K : α → Value → World → Prop}
    (hc : ∀ r, o = some r → Calls P F vs.toArray w (Ret (K r))) (hcall : ∀ (args : Array Value) (w : World), (callFunc F args).run P w = .ok (.enter F args) w) (h : Holds φ (o.bind k)) (hl : evs env ls = some vs)
    (hg : gd ops env ⟨none, .call ⟨.value (.func F), ls.toArray, tys⟩, t, pos, aft, g⟩ = some true) (hr : ∀ r, Holds φ (k r) → ∀ v w, K r v w → RL P N ops Q rest env w) :
    RL P N ops Q (⟨none, .call ⟨.value (.func F), ls.toArray, tys⟩, t, pos, aft, g⟩ :: rest) env w := by
  obtain ⟨r, e, hk⟩ := h.bind
  exact RL.e0 (OW.callF hl hcall (hc r e)) hg fun v w hv => hr r hk v w hv
end
/-! ### 26. A function's beginning and end, shortly -/
theorem en {f : FuncId} {fn : Func} {c : Code} {n : Nat} {args : List Value} {R : Ending → World → Prop} (hf : P.funcs[f]? = some fn) (hb : fn.body = some c) (hN : fn.ntmps = n) (hle : Nat.ble args.length n = true)
    (h : RC P ⟨n, [], true⟩ (bodyPost P fn R) c (idx 0 args) w) : Calls P f args.toArray w R := enter hf hb hN (Nat.le_of_ble_eq_true hle) h
def rsT (env : Env) : List ResultVar → Option (List Value)
  | [] => some []
  | .tmp t :: rs => match lk env t with
    | some v => match rsT env rs with
      | some vs => some (v :: vs)
      | none => none
    | none => none
  | _ => none
theorem rsT_spec : ∀ {rs : List ResultVar} {vs : List Value}, rsT env rs = some vs → ResV P w env rs vs
  | [], vs, h => by cases h; trivial
  | .tmp t :: rs, vs, h => by
    simp only [rsT] at h
    split at h
    · rename_i e
      split at h
      · rename_i e'; cases h; exact ⟨e, rsT_spec e'⟩
      · cases h
    · cases h
  | .cell _ _ :: _, _, h => by cases h
theorem rt {fn : Func} {n : Nat} {rs : List ResultVar} {vs : List Value} {K : Value → World → Prop} (hr : fn.results = rs.toArray) (h : rsT env rs = some vs) (hK : K (tup vs) w) :
    RQ ⟨n, [], true⟩ (bodyPost P fn (Ret K) .ret) env w := RQ.ret0 hr (rsT_spec h) hK
theorem rtE {fn : Func} {n : Nat} {rs : List ResultVar} {vs : List Value} {K : Value → World → Prop} (hr : fn.results = rs.toArray) (h : rsT env rs = some vs) (hK : K (tup vs) w) :
    RQ ⟨n, [], true⟩ (bodyPost P fn (Ret K) .normal) env w := RQ.end0 hr (rsT_spec h) hK

/-! ### 27. The pieces' order -/
variable {a0 a1 a2 a3 a4 a5 a6 a7 a8 a9 a10 a11 a12 a13 a14 a15 : HProp}
theorem St.p1 (h : St B w (a0 :: a1 :: l) hf) : St B w (a1 :: a0 :: l) hf := h.pull 1 rfl rfl
theorem St.p2 (h : St B w (a0 :: a1 :: a2 :: l) hf) : St B w (a2 :: a0 :: a1 :: l) hf := h.pull 2 rfl rfl
theorem St.p3 (h : St B w (a0 :: a1 :: a2 :: a3 :: l) hf) : St B w (a3 :: a0 :: a1 :: a2 :: l) hf := h.pull 3 rfl rfl
theorem St.p4 (h : St B w (a0 :: a1 :: a2 :: a3 :: a4 :: l) hf) : St B w (a4 :: a0 :: a1 :: a2 :: a3 :: l) hf := h.pull 4 rfl rfl
theorem St.p5 (h : St B w (a0 :: a1 :: a2 :: a3 :: a4 :: a5 :: l) hf) : St B w (a5 :: a0 :: a1 :: a2 :: a3 :: a4 :: l) hf := h.pull 5 rfl rfl
theorem St.p6 (h : St B w (a0 :: a1 :: a2 :: a3 :: a4 :: a5 :: a6 :: l) hf) : St B w (a6 :: a0 :: a1 :: a2 :: a3 :: a4 :: a5 :: l) hf := h.pull 6 rfl rfl
theorem St.p7 (h : St B w (a0 :: a1 :: a2 :: a3 :: a4 :: a5 :: a6 :: a7 :: l) hf) : St B w (a7 :: a0 :: a1 :: a2 :: a3 :: a4 :: a5 :: a6 :: l) hf := h.pull 7 rfl rfl
theorem St.p8 (h : St B w (a0 :: a1 :: a2 :: a3 :: a4 :: a5 :: a6 :: a7 :: a8 :: l) hf) : St B w (a8 :: a0 :: a1 :: a2 :: a3 :: a4 :: a5 :: a6 :: a7 :: l) hf := h.pull 8 rfl rfl
theorem St.p9 (h : St B w (a0 :: a1 :: a2 :: a3 :: a4 :: a5 :: a6 :: a7 :: a8 :: a9 :: l) hf) : St B w (a9 :: a0 :: a1 :: a2 :: a3 :: a4 :: a5 :: a6 :: a7 :: a8 :: l) hf := h.pull 9 rfl rfl
theorem St.p10 (h : St B w (a0 :: a1 :: a2 :: a3 :: a4 :: a5 :: a6 :: a7 :: a8 :: a9 :: a10 :: l) hf) : St B w (a10 :: a0 :: a1 :: a2 :: a3 :: a4 :: a5 :: a6 :: a7 :: a8 :: a9 :: l) hf := h.pull 10 rfl rfl
theorem St.p11 (h : St B w (a0 :: a1 :: a2 :: a3 :: a4 :: a5 :: a6 :: a7 :: a8 :: a9 :: a10 :: a11 :: l) hf) : St B w (a11 :: a0 :: a1 :: a2 :: a3 :: a4 :: a5 :: a6 :: a7 :: a8 :: a9 :: a10 :: l) hf := h.pull 11 rfl rfl
theorem St.p12 (h : St B w (a0 :: a1 :: a2 :: a3 :: a4 :: a5 :: a6 :: a7 :: a8 :: a9 :: a10 :: a11 :: a12 :: l) hf) : St B w (a12 :: a0 :: a1 :: a2 :: a3 :: a4 :: a5 :: a6 :: a7 :: a8 :: a9 :: a10 :: a11 :: l) hf := h.pull 12 rfl rfl
theorem St.p13 (h : St B w (a0 :: a1 :: a2 :: a3 :: a4 :: a5 :: a6 :: a7 :: a8 :: a9 :: a10 :: a11 :: a12 :: a13 :: l) hf) : St B w (a13 :: a0 :: a1 :: a2 :: a3 :: a4 :: a5 :: a6 :: a7 :: a8 :: a9 :: a10 :: a11 :: a12 :: l) hf := h.pull 13 rfl rfl
theorem St.p14 (h : St B w (a0 :: a1 :: a2 :: a3 :: a4 :: a5 :: a6 :: a7 :: a8 :: a9 :: a10 :: a11 :: a12 :: a13 :: a14 :: l) hf) : St B w (a14 :: a0 :: a1 :: a2 :: a3 :: a4 :: a5 :: a6 :: a7 :: a8 :: a9 :: a10 :: a11 :: a12 :: a13 :: l) hf := h.pull 14 rfl rfl
theorem St.p15 (h : St B w (a0 :: a1 :: a2 :: a3 :: a4 :: a5 :: a6 :: a7 :: a8 :: a9 :: a10 :: a11 :: a12 :: a13 :: a14 :: a15 :: l) hf) : St B w (a15 :: a0 :: a1 :: a2 :: a3 :: a4 :: a5 :: a6 :: a7 :: a8 :: a9 :: a10 :: a11 :: a12 :: a13 :: a14 :: l) hf := h.pull 15 rfl rfl
theorem St.d0 (h : St B w (a0 :: l) hf) : St B w (l) hf := h.dropAt 0 rfl
theorem St.d1 (h : St B w (a0 :: a1 :: l) hf) : St B w (a0 :: l) hf := h.dropAt 1 rfl
theorem St.d2 (h : St B w (a0 :: a1 :: a2 :: l) hf) : St B w (a0 :: a1 :: l) hf := h.dropAt 2 rfl
theorem St.d3 (h : St B w (a0 :: a1 :: a2 :: a3 :: l) hf) : St B w (a0 :: a1 :: a2 :: l) hf := h.dropAt 3 rfl
theorem St.d4 (h : St B w (a0 :: a1 :: a2 :: a3 :: a4 :: l) hf) : St B w (a0 :: a1 :: a2 :: a3 :: l) hf := h.dropAt 4 rfl
theorem St.d5 (h : St B w (a0 :: a1 :: a2 :: a3 :: a4 :: a5 :: l) hf) : St B w (a0 :: a1 :: a2 :: a3 :: a4 :: l) hf := h.dropAt 5 rfl
theorem St.d6 (h : St B w (a0 :: a1 :: a2 :: a3 :: a4 :: a5 :: a6 :: l) hf) : St B w (a0 :: a1 :: a2 :: a3 :: a4 :: a5 :: l) hf := h.dropAt 6 rfl
theorem St.d7 (h : St B w (a0 :: a1 :: a2 :: a3 :: a4 :: a5 :: a6 :: a7 :: l) hf) : St B w (a0 :: a1 :: a2 :: a3 :: a4 :: a5 :: a6 :: l) hf := h.dropAt 7 rfl
theorem St.d8 (h : St B w (a0 :: a1 :: a2 :: a3 :: a4 :: a5 :: a6 :: a7 :: a8 :: l) hf) : St B w (a0 :: a1 :: a2 :: a3 :: a4 :: a5 :: a6 :: a7 :: l) hf := h.dropAt 8 rfl
theorem St.d9 (h : St B w (a0 :: a1 :: a2 :: a3 :: a4 :: a5 :: a6 :: a7 :: a8 :: a9 :: l) hf) : St B w (a0 :: a1 :: a2 :: a3 :: a4 :: a5 :: a6 :: a7 :: a8 :: l) hf := h.dropAt 9 rfl
theorem St.d10 (h : St B w (a0 :: a1 :: a2 :: a3 :: a4 :: a5 :: a6 :: a7 :: a8 :: a9 :: a10 :: l) hf) : St B w (a0 :: a1 :: a2 :: a3 :: a4 :: a5 :: a6 :: a7 :: a8 :: a9 :: l) hf := h.dropAt 10 rfl
theorem St.d11 (h : St B w (a0 :: a1 :: a2 :: a3 :: a4 :: a5 :: a6 :: a7 :: a8 :: a9 :: a10 :: a11 :: l) hf) : St B w (a0 :: a1 :: a2 :: a3 :: a4 :: a5 :: a6 :: a7 :: a8 :: a9 :: a10 :: l) hf := h.dropAt 11 rfl
theorem St.d12 (h : St B w (a0 :: a1 :: a2 :: a3 :: a4 :: a5 :: a6 :: a7 :: a8 :: a9 :: a10 :: a11 :: a12 :: l) hf) : St B w (a0 :: a1 :: a2 :: a3 :: a4 :: a5 :: a6 :: a7 :: a8 :: a9 :: a10 :: a11 :: l) hf := h.dropAt 12 rfl
theorem St.d13 (h : St B w (a0 :: a1 :: a2 :: a3 :: a4 :: a5 :: a6 :: a7 :: a8 :: a9 :: a10 :: a11 :: a12 :: a13 :: l) hf) : St B w (a0 :: a1 :: a2 :: a3 :: a4 :: a5 :: a6 :: a7 :: a8 :: a9 :: a10 :: a11 :: a12 :: l) hf := h.dropAt 13 rfl
theorem St.d14 (h : St B w (a0 :: a1 :: a2 :: a3 :: a4 :: a5 :: a6 :: a7 :: a8 :: a9 :: a10 :: a11 :: a12 :: a13 :: a14 :: l) hf) : St B w (a0 :: a1 :: a2 :: a3 :: a4 :: a5 :: a6 :: a7 :: a8 :: a9 :: a10 :: a11 :: a12 :: a13 :: l) hf := h.dropAt 14 rfl
theorem St.d15 (h : St B w (a0 :: a1 :: a2 :: a3 :: a4 :: a5 :: a6 :: a7 :: a8 :: a9 :: a10 :: a11 :: a12 :: a13 :: a14 :: a15 :: l) hf) : St B w (a0 :: a1 :: a2 :: a3 :: a4 :: a5 :: a6 :: a7 :: a8 :: a9 :: a10 :: a11 :: a12 :: a13 :: a14 :: l) hf := h.dropAt 15 rfl
end
end Go.Sl
