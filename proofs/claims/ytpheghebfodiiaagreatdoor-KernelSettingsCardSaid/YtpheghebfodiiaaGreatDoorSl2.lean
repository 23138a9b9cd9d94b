/-
  The own separation logic for the walks, part 2.
-/
import Derived.Test.YtpheghebfodiiaaGreatDoorSl1
import Derived.Laws.StructEq
import Derived.Scope
import Derived.Control
import Derived.WalkKit
import Derived.RangeFuncRecord
import Derived.LoopNIn
import Derived.OrdersIn
set_option linter.unusedVariables false
set_option linter.unusedSimpArgs false
namespace Go.Sl

/-! ### 2. Frames: what is known of the temporaries -/
abbrev Env := List (Nat × Value)
def lk : Env → Nat → Option Value
  | [], _ => none
  | (k, v) :: l, t => bif Nat.beq k t then some v else lk l t
/-- how many temporaries a frame has; what it has deferred; may it call a loop's yield, and range over functions? (a round of a loop may not) -/
structure Fr where
  n : Nat
  D : List Deferred
  y : Bool
instance (k : Nat) : OfNat Fr k := ⟨⟨k, [], true⟩⟩
structure Has (N : Fr) (env : Env) (a : Act) : Prop where
  size : a.tmps.size = N.n
  defers : a.defers = N.D
  at_ : ∀ t v, lk env t = some v → a.tmps[t]? = some v
def ev (env : Env) : Operand → Option Value
  | .tmp t => lk env t
  | .const v => some v
  | .global g => some (.pointer (some ⟨g, 0, none⟩))
  | .func f => some (.func (.func f) #[] #[])
def evs (env : Env) : List Operand → Option (List Value)
  | [] => some []
  | x :: l => match ev env x with
    | some v => match evs env l with
      | some vs => some (v :: vs)
      | none => none
    | none => none
theorem Has.eval {N : Fr} {env : Env} {a : Act} (h : Has N env a) {x : Operand} {v : Value} (e : ev env x = some v) : a.eval x = v := by
  cases x with
  | tmp t => have := h.at_ t v e; simp [Act.eval, Array.getD_eq_getD_getElem?, this]
  | const c => simpa [ev, Act.eval] using e
  | global g => simpa [ev, Act.eval] using e
  | func f => simpa [ev, Act.eval] using e
theorem Has.evals {N : Fr} {env : Env} {a : Act} (h : Has N env a) : ∀ {l : List Operand} {vs : List Value}, evs env l = some vs → l.map a.eval = vs
  | [], vs, e => by simpa [evs] using e
  | x :: l, vs, e => by
    simp only [evs] at e
    cases h1 : ev env x with
    | none => simp [h1] at e
    | some v =>
      cases h2 : evs env l with
      | none => simp [h1, h2] at e
      | some ws =>
        simp [h1, h2] at e
        subst e
        simp [h.eval h1, h.evals h2]
theorem lk_cons (k : Nat) (v : Value) (l : Env) (t : Nat) : lk ((k, v) :: l) t = if k = t then some v else lk l t := by
  simp only [lk]
  by_cases h : k = t
  · simp [h]
  · have : Nat.beq k t = false := by
      cases e : Nat.beq k t with
      | false => rfl
      | true => exact absurd (Nat.eq_of_beq_eq_true e) h
    simp [this, h]
def putE (dst : Option Tmp) (v : Value) (env : Env) : Env := match dst with
  | some d => (d, v) :: env
  | none => env
def inB (N : Fr) : Option Tmp → Bool
  | some d => Nat.blt d N.n
  | none => true
theorem Has.put {N : Fr} {env : Env} {a : Act} (h : Has N env a) (dst : Option Tmp) (v : Value) (hd : inB N dst = true) : Has N (putE dst v env) (a.put dst v) := by
  cases dst with
  | none => exact h
  | some d =>
    have hd' : d < N.n := by simpa [inB, Nat.blt_eq] using hd
    refine ⟨by simp [Act.put, h.size], by simp [Act.put, h.defers], fun t u e => ?_⟩
    simp only [putE, lk_cons] at e
    simp only [Act.put]
    by_cases hdt : d = t
    · subst hdt
      simp only [if_true] at e
      rw [Array.getElem?_setIfInBounds]
      simp [h.size, hd', e]
    · rw [if_neg hdt] at e
      rw [Array.getElem?_setIfInBounds_ne hdt]
      exact h.at_ t u e
def AllE (p : Nat × Value → Prop) : Env → Prop
  | [] => True
  | x :: l => p x ∧ AllE p l
theorem lk_all {p : Nat × Value → Prop} : ∀ {l : Env} {t : Nat} {v : Value}, AllE p l → lk l t = some v → p (t, v)
  | [], _, _, _, e => by simp [lk] at e
  | (k, u) :: l, t, v, ⟨h, hl⟩, e => by
    rw [lk_cons] at e
    by_cases hk : k = t
    · subst hk; simp only [if_true, Option.some.injEq] at e; subst e; exact h
    · rw [if_neg hk] at e; exact lk_all hl e
theorem Has.to {N : Fr} {env env' : Env} {a : Act} (h : Has N env a) (hs : AllE (fun p => lk env p.1 = some p.2) env') : Has N env' a :=
  ⟨h.size, h.defers, fun t v e => h.at_ t v (lk_all hs e)⟩

/-! ### 3. Judgements -/
def noOut (Q : Exit → Act → World → Prop) : Exit → Act → World → Prop
  | .outgrown, _, _ => False
  | e, a, w => Q e a w
/-- an operation: as everywhere, or a call of a loop's yield -/
def wqO (P : Program) (y : Bool) (o : Oper) (a : Act) (w : World) (next : Act → World → Prop) (Q : Exit → Act → World → Prop) : Prop :=
  o.wp P a w next (noOut Q) ∨ (y = true ∧ ∃ l f tmps as bd w', (execOp a.eval o).run P w = .ok (.round l f tmps as bd) w' ∧ RoundIn Fence.wide 0 P l f tmps as bd w' fun e w'' => match e with
    | .returned v => next (a.put o.dst v) w''
    | _ => False)
def wqL (P : Program) (y : Bool) (ops : Array Oper) (Q : Exit → Act → World → Prop) : List Oper → Act → World → Prop
  | [], a, w => Q .normal a w
  | o :: rest, a, w => if Region.wanted o (yielded ops a.tmps) then wqO P y o a w (wqL P y ops Q rest) Q else wqL P y ops Q rest (a.put o.dst undef) w
/-- what is to be shown of a piece of code, by its form -/
def wq (P : Program) (y : Bool) : Code → (Exit → Act → World → Prop) → Act → World → Prop
  | .skip => fun Q a w => Q .normal a w
  | .seq x z => fun Q a w => wq P y x (Exit.then (fun a w => wq P y z Q a w) Q) a w
  | .cond c x z => fun Q a w => (a.eval c = .bool true ∧ wq P y x Q a w) ∨ (a.eval c = .bool false ∧ wq P y z Q a w)
  | .block id c => fun Q a w => wq P y c (Exit.inBlock id Q) a w
  | .region _ ops dr => fun Q a w => (dr = false ∧ wqL P y ops Q ops.toList a w) ∨ (dr = true ∧ P.follows .mixedOrders = true ∧ wpAny P .any ops (noOut Q) ops.size (Array.replicate ops.size false) a { w with drawn := w.drawn + 1 })
  | .exit id => fun Q a w => Q (.exit id) a w
  | .ret => fun Q a w => Q .ret a w
  | .loop c => fun Q a w => ∀ X : Act → World → Prop, (∀ a w, wq P y c (Exit.then X Q) a w → X a w) → X a w
  | .rangeFunc g ps as bd => fun Q a w => y = true ∧ (Code.rangeFunc g ps as bd).wp P Q a w
  | .scope c => fun Q a w => y = true ∧ wq P y c (Exit.noGoto Q) a w
  | .label _ => fun Q a w => y = true ∧ Q .normal a w
  | _ => fun _ _ _ => False
section
variable {P : Program} {y : Bool} {ops : Array Oper} {Q Q' : Exit → Act → World → Prop}
theorem noOut_mono (h : ∀ e a w, Q e a w → Q' e a w) (e : Exit) (a : Act) (w : World) (hq : noOut Q e a w) : noOut Q' e a w := by
  cases e <;> first | exact h _ _ _ hq | exact hq
theorem noOut_le (e : Exit) (a : Act) (w : World) (hq : noOut Q e a w) : Q e a w := by cases e <;> first | exact hq | exact hq.elim
theorem then_mono {K K' : Act → World → Prop} (hk : ∀ a w, K a w → K' a w) (h : ∀ e a w, Q e a w → Q' e a w) (e : Exit) (a : Act) (w : World) (hq : Exit.then K Q e a w) : Exit.then K' Q' e a w := by
  cases e <;> first | exact hk _ _ hq | exact h _ _ _ hq
theorem block_mono {id : Nat} (h : ∀ e a w, Q e a w → Q' e a w) (e : Exit) (a : Act) (w : World) (hq : Exit.inBlock id Q e a w) : Exit.inBlock id Q' e a w := by
  cases e <;> simp only [Exit.inBlock] at hq ⊢ <;> (try split at hq) <;> simp_all
theorem noGoto_mono (h : ∀ e a w, Q e a w → Q' e a w) (e : Exit) (a : Act) (w : World) (hq : Exit.noGoto Q e a w) : Exit.noGoto Q' e a w := by
  cases e <;> first | exact h _ _ _ hq | exact hq.elim
theorem upon_mono {o : Oper} {a : Act} {K K' : Act → World → Prop} (hk : ∀ a w, K a w → K' a w) (h : ∀ e a w, Q e a w → Q' e a w) {r : Result Next} (hh : o.upon P a K Q r) : o.upon P a K' Q' r := by
  cases r with
  | ok x w' =>
    cases x <;> simp only [Oper.upon] at hh ⊢
    case value => exact hk _ _ hh
    case skip => exact hk _ _ hh
    case defer => exact hk _ _ hh
    case enter =>
      refine Calls.mono hh fun e w'' he => ?_
      cases e with
      | returned v => exact hk _ _ he
      | panicked c => exact h _ _ _ he
      | outgrown => obtain ⟨a, w, hq⟩ := he; exact ⟨a, w, h _ _ _ hq⟩
    case row => exact Rows.mono hh fun v w'' he => hk _ _ he
  | halt x w' =>
    cases x <;> simp only [Oper.upon] at hh ⊢
    case panic => exact h _ _ _ hh
theorem wqO_mono {o : Oper} {a : Act} {w : World} {K K' : Act → World → Prop} (hk : ∀ a w, K a w → K' a w) (h : ∀ e a w, Q e a w → Q' e a w) (hh : wqO P y o a w K Q) : wqO P y o a w K' Q' := by
  rcases hh with hh | ⟨hy, l, f, tmps, as, bd, w', hr, hR⟩
  · exact .inl (upon_mono hk (noOut_mono h) hh)
  · exact .inr ⟨hy, l, f, tmps, as, bd, w', hr, hR.mono fun e w'' he => by cases e <;> first | exact hk _ _ he | exact he⟩
theorem wqL_mono (h : ∀ e a w, Q e a w → Q' e a w) : ∀ (l : List Oper) (a : Act) (w : World), wqL P y ops Q l a w → wqL P y ops Q' l a w
  | [], a, w, hh => h _ _ _ hh
  | o :: rest, a, w, hh => by
    simp only [wqL] at hh ⊢
    by_cases hw : Region.wanted o (yielded ops a.tmps) = true
    · rw [if_pos hw] at hh ⊢; exact wqO_mono (wqL_mono h rest) h hh
    · rw [if_neg hw] at hh ⊢; exact wqL_mono h rest _ _ hh
theorem wpOp_monoQ {i : Nat} {a : Act} {w : World} {K K' : Act → World → Prop} (hk : ∀ a w, K a w → K' a w) (h : ∀ e a w, Q e a w → Q' e a w) (hh : wpOp P ops Q i K a w) : wpOp P ops Q' i K' a w := by
  unfold wpOp at *
  cases ho : ops[i]? with
  | none => rw [ho] at hh; exact hk _ _ hh
  | some o =>
    rw [ho] at hh
    simp only at hh ⊢
    by_cases hw : Region.wanted o (yielded ops a.tmps) = true
    · rw [if_pos hw] at hh ⊢
      rcases hh with hh | ⟨h1, a', w', h2⟩
      · exact .inl (upon_mono hk h hh)
      · exact .inr ⟨h1, a', w', h _ _ _ h2⟩
    · rw [if_neg hw] at hh ⊢; exact hk _ _ hh
theorem wpAny_monoQ {md : Region.Mode} (h : ∀ e a w, Q e a w → Q' e a w) : ∀ (fuel : Nat) (listed : Array Bool) (a : Act) (w : World), wpAny P md ops Q fuel listed a w → wpAny P md ops Q' fuel listed a w
  | 0, _, _, _, hh => ⟨hh.1, h _ _ _ hh.2⟩
  | fuel + 1, _, _, _, hh => ⟨fun h0 => h _ _ _ (hh.1 h0), fun i hi => wpOp_monoQ (wpAny_monoQ h fuel _) h (hh.2 i hi)⟩
theorem wq_mono : ∀ (c : Code) {Q Q' : Exit → Act → World → Prop} (h : ∀ e a w, Q e a w → Q' e a w) (a : Act) (w : World), wq P y c Q a w → wq P y c Q' a w := by
  intro c
  induction c with
  | skip => exact fun h a w hh => h _ _ _ hh
  | seq x z ihx ihz => exact fun h a w hh => ihx (then_mono (ihz h) h) a w hh
  | cond c x z ihx ihz => exact fun h a w hh => hh.imp (fun ⟨e, k⟩ => ⟨e, ihx h a w k⟩) fun ⟨e, k⟩ => ⟨e, ihz h a w k⟩
  | block id c ih => exact fun h a w hh => ih (block_mono h) a w hh
  | region id ops dr => exact fun h a w hh => hh.imp (fun ⟨e, k⟩ => ⟨e, wqL_mono h _ a w k⟩) fun ⟨e, f, k⟩ => ⟨e, f, wpAny_monoQ (noOut_mono h) _ _ _ _ k⟩
  | exit id => exact fun h a w hh => h _ _ _ hh
  | ret => exact fun h a w hh => h _ _ _ hh
  | loop c ih => exact fun h a w hh X hX => hh X fun a w h1 => hX a w (ih (then_mono (fun _ _ h => h) h) a w h1)
  | rangeFunc g ps as bd => exact fun h a w hh => ⟨hh.1, wp_mono hh.2 h⟩
  | scope c ih => exact fun h a w hh => ⟨hh.1, ih (noGoto_mono h) a w hh.2⟩
  | label l => exact fun h a w hh => ⟨hh.1, h _ _ _ hh.2⟩
  | _ => exact fun h a w hh => hh.elim
/-! ### 3b. It is enough: for a function's frame, and for a round's -/
def fen (r : Option Nat) : Fence := { Fence.wide with round := r }
theorem callsIn_fc {r : Option Nat} {n : Nat} {f : FuncId} {args : Array Value} {w : World} {R : Ending → World → Prop} (h : Calls P f args w R) : CallsIn (fen r) n P f args w R := (callsIn_wide (n := n)).2 h
theorem rowsIn_fc {r : Option Nat} {n : Nat} {row : String} {args : Array Value} {w : World} {R : Value → World → Prop} (h : Rows P row args w R) : RowsIn (fen r) n P row args w R :=
  fun c cs _ => let ⟨v, w', hr, s⟩ := h c cs; ⟨v, w', hr, (stepsIn_wide (P := P)).2 s⟩
def nodef (o : Oper) : Bool := match o.op with
  | .defer _ => false
  | _ => true
def calm : Code → Bool
  | .seq x z => calm x && calm z
  | .cond _ x z => calm x && calm z
  | .block _ c => calm c
  | .loop c => calm c
  | .region _ ops _ => ops.toList.all nodef
  | _ => true
theorem semAt_fc {r : Option Nat} {o : Oper} {a : Act} (h : r = none ∨ nodef o = true) : o.semAt (fen r).round a.eval = execOp a.eval o := by
  show o.semAt r a.eval = _
  cases r with
  | none => rfl
  | some l =>
    rcases h with h | h
    · cases h
    · exact Oper.semAt_some l a.eval o fun c e => by simp [nodef, e] at h
theorem wp_fc {r : Option Nat} {n : Nat} {o : Oper} {a : Act} {w : World} {K K' : Act → World → Prop} (hd : r = none ∨ nodef o = true) (hk : ∀ a w, K a w → K' a w) (hh : o.wp P a w K (noOut Q)) : o.wpIn (fen r) n P a w K' (noOut Q) := by
  refine ⟨fun _ _ => trivial, ?_⟩
  rw [semAt_fc hd]
  unfold Oper.wp at hh
  generalize (execOp a.eval o).run P w = x at *
  cases x with
  | ok x w' =>
    cases x <;> simp only [Oper.upon, Oper.uponIn] at hh ⊢
    case value => exact hk _ _ hh
    case skip => exact hk _ _ hh
    case defer => exact hk _ _ hh
    case enter =>
      refine ⟨fun h => by simp [fen, Fence.wide] at h, callsIn_fc (Calls.mono hh fun e w'' he => ?_)⟩
      cases e with
      | returned v => exact hk _ _ he
      | panicked c => exact he
      | outgrown => exact he
    case row => exact ⟨fun h => by simp [fen, Fence.wide] at h, rowsIn_fc (Rows.mono hh fun v w'' he => hk _ _ he)⟩
  | halt x w' =>
    cases x <;> simp only [Oper.upon, Oper.uponIn] at hh ⊢
    case panic => exact hh
theorem roundIn_any {n m : Nat} {l : Nat} {f : FuncId} {tmps : Array Value} {as bd : Code} {w : World} {R : Ending → World → Prop} (h : RoundIn Fence.wide n P l f tmps as bd w R) : RoundIn Fence.wide m P l f tmps as bd w R :=
  ⟨h.1, fun c cs _ => h.2 c cs (room_wide _)⟩
theorem wqL_fc {r : Option Nat} {n : Nat} (hy : r = none ∨ y = false) : ∀ (l : List Oper) (a : Act) (w : World), (r = none ∨ l.all nodef = true) → wqL P y ops Q l a w → wpListIn (fen r) n P ops (noOut Q) l a w
  | [], a, w, _, hh => hh
  | o :: rest, a, w, hd, hh => by
    have hd' : r = none ∨ rest.all nodef = true := hd.imp id fun h => by simp only [List.all_cons, Bool.and_eq_true] at h; exact h.2
    have ho : r = none ∨ nodef o = true := hd.imp id fun h => by simp only [List.all_cons, Bool.and_eq_true] at h; exact h.1
    simp only [wqL, wpListIn] at hh ⊢
    by_cases hw : Region.wanted o (yielded ops a.tmps) = true
    · rw [if_pos hw] at hh ⊢
      rcases hh with hh | ⟨hyt, l, f, tmps, as, bd, w', hr, hR⟩
      · exact wp_fc ho (fun a w h => wqL_fc hy rest a w hd' h) hh
      · rcases hy with hy | hy
        · subst hy
          refine ⟨fun _ _ => trivial, ?_⟩
          rw [semAt_fc (.inl rfl), hr]
          refine ⟨fun h => by simp [fen, Fence.wide] at h, roundIn_any (hR.mono fun e w'' he => ?_)⟩
          cases e with
          | returned v => exact wqL_fc (.inl rfl) rest _ _ hd' he
          | panicked c => exact he.elim
          | outgrown => exact he.elim
        · rw [hy] at hyt; cases hyt
    · rw [if_neg hw] at hh ⊢; exact ⟨fun _ _ => trivial, wqL_fc hy rest _ _ hd' hh⟩
theorem wpAny_fc {r : Option Nat} {n : Nat} (hd : r = none ∨ ops.toList.all nodef = true) : ∀ (fuel : Nat) (listed : Array Bool) (a : Act) (w : World), wpAny P .any ops (noOut Q) fuel listed a w → wpAnyIn (fen r) n P .any ops (noOut Q) fuel listed a w
  | 0, _, _, _, hh => hh
  | fuel + 1, listed, a, w, hh => ⟨hh.1, fun i hi => by
    have h1 := hh.2 i hi
    unfold wpOp at h1
    unfold wpOpIn
    cases ho : ops[i]? with
    | none => rw [ho] at h1; exact wpAny_fc hd fuel _ a w h1
    | some o =>
      rw [ho] at h1
      simp only at h1 ⊢
      have hdo : r = none ∨ nodef o = true := hd.imp id fun h => List.all_eq_true.1 h o (by simpa using Array.mem_of_getElem? ho)
      by_cases hw : Region.wanted o (yielded ops a.tmps) = true
      · rw [if_pos hw] at h1 ⊢
        rcases h1 with h1 | ⟨_, _, _, h2⟩
        · exact wp_fc hdo (fun a w h => wpAny_fc hd fuel _ a w h) h1
        · exact h2.elim
      · rw [if_neg hw] at h1 ⊢; exact ⟨fun _ _ => trivial, wpAny_fc hd fuel _ _ w h1⟩⟩
theorem wq_fc {r : Option Nat} {n : Nat} (hy : r = none ∨ y = false) : ∀ (c : Code) {Q : Exit → Act → World → Prop} (a : Act) (w : World), (r = none ∨ calm c = true) → wq P y c Q a w → c.wpIn (fen r) n P Q a w := by
  intro c
  induction c with
  | skip => exact fun a w _ hh => wpIn_skip hh
  | seq x z ihx ihz =>
    intro Q a w hc hh
    have hcx : r = none ∨ calm x = true := hc.imp id fun h => by simp only [calm, Bool.and_eq_true] at h; exact h.1
    have hcz : r = none ∨ calm z = true := hc.imp id fun h => by simp only [calm, Bool.and_eq_true] at h; exact h.2
    exact wpIn_seq (wpIn_mono (ihx a w hcx hh) (then_mono (fun a w h => ihz a w hcz h) fun _ _ _ h => h))
  | cond c x z ihx ihz =>
    intro Q a w hc hh
    have hcx : r = none ∨ calm x = true := hc.imp id fun h => by simp only [calm, Bool.and_eq_true] at h; exact h.1
    have hcz : r = none ∨ calm z = true := hc.imp id fun h => by simp only [calm, Bool.and_eq_true] at h; exact h.2
    rcases hh with ⟨e, k⟩ | ⟨e, k⟩
    · exact wpIn_cond_true e (ihx a w hcx k)
    · exact wpIn_cond_false e (ihz a w hcz k)
  | block id c ih => exact fun a w hc hh => wpIn_block (ih a w hc hh)
  | region id ops dr =>
    intro Q a w hc hh
    rcases hh with ⟨rfl, k⟩ | ⟨rfl, hf, k⟩
    · exact wpIn_mono (wpIn_region_list (wqL_fc hy ops.toList a w hc k)) noOut_le
    · exact wpIn_mono (wpIn_region_any hf (wpAny_fc hc _ _ _ _ k)) noOut_le
  | exit id => exact fun a w _ hh => wpIn_exit hh
  | ret => exact fun a w _ hh => wpIn_ret hh
  | loop c ih =>
    intro Q a w hc hh b k cs hro hb hr
    obtain ⟨e, a', w', hq, harr⟩ := hh (fun a w => ∃ e a' w', Q e a' w' ∧ ArrivesIn (Machine.fenced P (fen r)) P (lone (b.atR a (.code c :: .inLoop c :: k)) cs w) b k cs e a' w') fun a w h1 => by
      obtain ⟨e, a₁, w₁, hq, harr⟩ := ih a w hc h1 b (.inLoop c :: k) cs hro hb hr
      have out : ∀ e, e ≠ .normal → Q e a₁ w₁ → ArrivesIn (Machine.fenced P (fen r)) P (lone (b.atR a (.code c :: .inLoop c :: k)) cs w) b (.inLoop c :: k) cs e a₁ w₁ → ∃ e a' w', Q e a' w' ∧ ArrivesIn (Machine.fenced P (fen r)) P (lone (b.atR a (.code c :: .inLoop c :: k)) cs w) b k cs e a' w' :=
        fun e he hq h => ⟨e, a₁, w₁, hq, .pass (x := .inLoop c) rfl (fun _ _ => .inl he) h⟩
      cases e with
      | normal =>
        obtain ⟨e₂, a₂, w₂, hq₂, harr₂⟩ := hq
        exact ⟨e₂, a₂, w₂, hq₂, .of_steps (StepsIn.trans harr (.one (fenced_calm hb hr rfl) stepR_inLoop)) harr₂⟩
      | exit id => exact out _ (by simp) hq harr
      | goto l => exact out _ (by simp) hq harr
      | ret => exact out _ (by simp) hq harr
      | panic ch => exact out _ (by simp) hq harr
      | outgrown => exact out _ (by simp) hq harr
    exact ⟨e, a', w', hq, .of_steps (.one (fenced_calm hb hr rfl) stepR_loop) harr⟩
  | rangeFunc g ps as bd =>
    intro Q a w hc ⟨h1, h2⟩
    rcases hy with rfl | hy
    · exact (wpIn_wide (n := n)).2 h2
    · rw [hy] at h1; cases h1
  | scope c ih =>
    intro Q a w hc ⟨h1, h2⟩
    rcases hy with rfl | hy
    · exact (wpIn_wide (n := n)).2 (wp_scope_straight ((wpIn_wide (n := n)).1 (ih a w (.inl rfl) h2)))
    · rw [hy] at h1; cases h1
  | label l =>
    intro Q a w hc ⟨h1, h2⟩
    rcases hy with rfl | hy
    · exact (wpIn_wide (n := n)).2 (wp_label h2)
    · rw [hy] at h1; cases h1
  | _ => exact fun a w _ hh => hh.elim
theorem wq_wp {c : Code} {a : Act} {w : World} (h : wq P y c Q a w) : c.wp P Q a w := (wpIn_wide (n := 0)).1 (wq_fc (r := none) (.inl rfl) c a w (.inl rfl) h)
end
def RC (P : Program) (N : Fr) (Q : Exit → Act → World → Prop) (c : Code) (env : Env) (w : World) : Prop := ∀ a, Has N env a → wq P N.y c Q a w
def RL (P : Program) (N : Fr) (ops : Array Oper) (Q : Exit → Act → World → Prop) (l : List Oper) (env : Env) (w : World) : Prop := ∀ a, Has N env a → wqL P N.y ops Q l a w
/-- where the walk of a piece of code ends -/
def RQ (N : Fr) (Q : Act → World → Prop) (env : Env) (w : World) : Prop := ∀ a, Has N env a → Q a w
section
variable {P : Program} {N : Fr} {Q : Exit → Act → World → Prop} {env : Env} {w : World} {ops : Array Oper} {rest : List Oper} {o : Oper}
theorem RC.to {c : Code} {env' : Env} (hs : AllE (fun p => lk env p.1 = some p.2) env') (h : RC P N Q c env' w) : RC P N Q c env w := fun a ha => h a (ha.to hs)
theorem RL.to {l : List Oper} {env' : Env} (hs : AllE (fun p => lk env p.1 = some p.2) env') (h : RL P N ops Q l env' w) : RL P N ops Q l env w := fun a ha => h a (ha.to hs)
theorem RL.re {l : List Oper} (d : Nat) {v v' : Value} (hv : lk env d = some v) (e : v = v') (h : RL P N ops Q l ((d, v') :: env) w) : RL P N ops Q l env w :=
  fun a ha => h a ⟨ha.size, ha.defers, fun t u x => by
    rw [lk_cons] at x
    by_cases hd : d = t
    · subst hd; simp only [if_true, Option.some.injEq] at x; subst x; subst e; exact ha.at_ _ _ hv
    · rw [if_neg hd] at x; exact ha.at_ _ _ x⟩
theorem RC.re {c : Code} (d : Nat) {v v' : Value} (hv : lk env d = some v) (e : v = v') (h : RC P N Q c ((d, v') :: env) w) : RC P N Q c env w :=
  fun a ha => h a ⟨ha.size, ha.defers, fun t u x => by
    rw [lk_cons] at x
    by_cases hd : d = t
    · subst hd; simp only [if_true, Option.some.injEq] at x; subst x; subst e; exact ha.at_ _ _ hv
    · rw [if_neg hd] at x; exact ha.at_ _ _ x⟩
-- code
theorem RC.seq {x y : Code} (h : RC P N (Exit.then (fun a w => wq P N.y y Q a w) Q) x env w) : RC P N Q (x.seq y) env w := h
theorem RC.scope {c : Code} (hy : N.y = true) (h : RC P N (Exit.noGoto Q) c env w) : RC P N Q (.scope c) env w := fun a ha => ⟨hy, h a ha⟩
theorem RC.label {l : Nat} (hy : N.y = true) (h : RQ N (Q .normal) env w) : RC P N Q (.label l) env w := fun a ha => ⟨hy, h a ha⟩
theorem RQ.scN (h : RQ N (Q .normal) env w) : RQ N (Exit.noGoto Q .normal) env w := h
theorem RQ.scR (h : RQ N (Q .ret) env w) : RQ N (Exit.noGoto Q .ret) env w := h
theorem RQ.scX {id : Nat} (h : RQ N (Q (.exit id)) env w) : RQ N (Exit.noGoto Q (.exit id)) env w := h
theorem RC.block {id : Nat} {c : Code} (h : RC P N (Exit.inBlock id Q) c env w) : RC P N Q (.block id c) env w := h
theorem RC.condT {c : Operand} {x y : Code} (hc : ev env c = some (.bool true)) (h : RC P N Q x env w) : RC P N Q (.cond c x y) env w := fun a ha => .inl ⟨ha.eval hc, h a ha⟩
theorem RC.condF {c : Operand} {x y : Code} (hc : ev env c = some (.bool false)) (h : RC P N Q y env w) : RC P N Q (.cond c x y) env w := fun a ha => .inr ⟨ha.eval hc, h a ha⟩
theorem RC.region {id : Nat} {l : List Oper} (h : RL P N l.toArray Q l env w) : RC P N Q (.region id l.toArray false) env w := fun a ha => .inl ⟨rfl, by simpa using h a ha⟩
theorem RC.skip (h : RQ N (Q .normal) env w) : RC P N Q .skip env w := h
theorem RC.exit {id : Nat} (h : RQ N (Q (.exit id)) env w) : RC P N Q (.exit id) env w := h
theorem RC.ret (h : RQ N (Q .ret) env w) : RC P N Q .ret env w := h
theorem RL.nil (h : RQ N (Q .normal) env w) : RL P N ops Q [] env w := fun a ha => h a ha
-- where a walk's end leads
theorem RQ.then_n {next : Act → World → Prop} (h : RQ N next env w) : RQ N (Exit.then next Q .normal) env w := h
theorem RQ.next {y : Code} (h : RC P N Q y env w) : RQ N (fun a w => wq P N.y y Q a w) env w := h
theorem RQ.ret {next : Act → World → Prop} (h : RQ N (Q .ret) env w) : RQ N (Exit.then next Q .ret) env w := h
theorem RQ.exitT {next : Act → World → Prop} {id : Nat} (h : RQ N (Q (.exit id)) env w) : RQ N (Exit.then next Q (.exit id)) env w := h
theorem RQ.inB_n {id : Nat} (h : RQ N (Q .normal) env w) : RQ N (Exit.inBlock id Q .normal) env w := h
theorem RQ.inB_ret {id : Nat} (h : RQ N (Q .ret) env w) : RQ N (Exit.inBlock id Q .ret) env w := h
theorem RQ.inB_hit {id : Nat} (h : RQ N (Q .normal) env w) : RQ N (Exit.inBlock id Q (.exit id)) env w := fun a ha => by
  have := h a ha
  simpa [Exit.inBlock] using this
theorem RQ.inB_miss {id id' : Nat} (hne : Nat.beq id' id = false) (h : RQ N (Q (.exit id')) env w) : RQ N (Exit.inBlock id Q (.exit id')) env w := fun a ha => by
  have := h a ha
  have hn : id' ≠ id := by rintro rfl; rw [Nat.beq_refl] at hne; cases hne
  simpa [Exit.inBlock, hn] using this
/-- the ways meet again -/
theorem RC.join {x y : Code} {σ : Type} (I : σ → Act → World → Prop) (hy : ∀ s a w, I s a w → wq P N.y y Q a w)
    (hx : RC P N (Exit.then (fun a w => ∃ s, I s a w) Q) x env w) : RC P N Q (x.seq y) env w := fun a ha =>
  wq_mono x (then_mono (fun a w ⟨s, hs⟩ => hy s a w hs) fun _ _ _ h => h) a w (hx a ha)
/-- one operation that leaves the world alone -/
def Vl (P : Program) (N : Fr) (o : Oper) (env : Env) (w : World) (v : Value) : Prop := ∀ a, Has N env a → (execOp a.eval o).run P w = .ok (.value v) w
/-- one operation, whatever it does -/
def OW (P : Program) (N : Fr) (o : Oper) (env : Env) (w : World) (K : Value → World → Prop) : Prop :=
  ∀ a, Has N env a → ∀ (next : Act → World → Prop) (Q : Exit → Act → World → Prop), (∀ v w', K v w' → next (a.put o.dst v) w') → o.wp P a w next Q
def gd (ops : Array Oper) (env : Env) (o : Oper) : Option Bool := match o.guard with
  | none => some true
  | some (j, want) => match (ops[j]?).bind (·.dst) with
    | none => none
    | some d => match lk env d with
      | some (.bool b) => some (b == want)
      | some (.tuple _) => some false
      | _ => none
theorem gd_wanted {a : Act} (ha : Has N env a) {b : Bool} (h : gd ops env o = some b) : Region.wanted o (yielded ops a.tmps) = b := by
  unfold gd at h
  unfold Region.wanted
  cases hg : o.guard with
  | none => simp [hg] at h; simp [h]
  | some p =>
    obtain ⟨j, want⟩ := p
    simp only [hg] at h
    cases hj : (ops[j]?).bind (·.dst) with
    | none => simp [hj] at h
    | some d =>
      simp only [hj] at h
      cases hl : lk env d with
      | none => simp [hl] at h
      | some v =>
        have hv := ha.at_ d v hl
        simp only [hl] at h
        cases v <;> simp at h
        · subst h; simp [yielded, hj, hv]
        · subst h; simp [yielded, hj, hv]
theorem Vl.ow {v : Value} (h : Vl P N o env w v) : OW P N o env w (fun v' w' => v' = v ∧ w' = w) := fun a ha next Q hn => by
  simp only [Oper.wp, h a ha, Oper.upon]
  exact hn v w ⟨rfl, rfl⟩
theorem RL.v {v : Value} (h : Vl P N o env w v) (hg : gd ops env o = some true) (hd : inB N o.dst = true) (hr : RL P N ops Q rest (putE o.dst v env) w) : RL P N ops Q (o :: rest) env w := fun a ha => by
  show wqL P N.y ops Q (o :: rest) a w
  unfold wqL
  rw [if_pos (gd_wanted ha hg)]
  refine .inl ?_
  simp only [Oper.wp, h a ha, Oper.upon]
  exact hr _ (ha.put _ _ hd)
theorem RL.op {K : Value → World → Prop} (h : OW P N o env w K) (hg : gd ops env o = some true) (hd : inB N o.dst = true) (hr : ∀ v w', K v w' → RL P N ops Q rest (putE o.dst v env) w') : RL P N ops Q (o :: rest) env w := fun a ha => by
  show wqL P N.y ops Q (o :: rest) a w
  unfold wqL
  rw [if_pos (gd_wanted ha hg)]
  exact .inl (h a ha _ _ fun v w' hk => hr v w' hk _ (ha.put _ _ hd))
theorem RL.no (hg : gd ops env o = some false) (hd : inB N o.dst = true) (hr : RL P N ops Q rest (putE o.dst undef env) w) : RL P N ops Q (o :: rest) env w := fun a ha => by
  show wqL P N.y ops Q (o :: rest) a w
  unfold wqL
  rw [if_neg (by rw [gd_wanted ha hg]; simp)]
  exact hr _ (ha.put _ _ hd)
end

/-! ### 4. A region that draws its order: some operations may be taken first; the last ones ('tl') wait for all others, and behind them nothing need be kept -/
section
variable {P : Program} {ops : Array Oper} {Q : Exit → Act → World → Prop} {S : Nat → World → Prop} {tl : Nat → List Nat}
def wpAnyP (P : Program) (ops : Array Oper) (Q : Exit → Act → World → Prop) (S : Nat → World → Prop) (tl : Nat → List Nat) : Nat → Array Bool → Act → World → Prop
  | 0, listed, a, w => Region.ready .any ops listed = [] ∧ Q .normal a w
  | fuel + 1, listed, a, w => (Region.ready .any ops listed = [] → Q .normal a w) ∧
    ∀ i ∈ Region.ready .any ops listed, wpOp P ops Q i (fun a' w' => (∀ g, (tl g).contains i = false → S g w → S g w') ∧ wpAnyP P ops Q S tl fuel (listed.setIfInBounds i true) a' w') a w
theorem wpAny_of_P : ∀ (fuel : Nat) (listed : Array Bool) (a : Act) (w : World), wpAnyP P ops Q S tl fuel listed a w → wpAny P .any ops Q fuel listed a w
  | 0, _, _, _, h => h
  | fuel + 1, _, _, _, h => ⟨h.1, fun i hi => wpOp_mono (fun a' w' h' => wpAny_of_P fuel _ a' w' h'.2) (h.2 i hi)⟩
/-- one waits for another, at once or through others -/
def depB (ops : Array Oper) : Nat → Nat → Nat → Bool
  | 0, _, _ => false
  | n + 1, j, i => match ops[j]? with
    | some o => o.after.any fun e => Region.binds .any e && (e.on == i || depB ops n e.on i)
    | none => false
def closedB (ops : Array Oper) (listed : Array Bool) : Bool := (List.range ops.size).all fun k => !listed.getD k false || match ops[k]? with
  | some o => o.after.all fun e => !Region.binds .any e || listed.getD e.on false
  | none => true
def Closed (ops : Array Oper) (listed : Array Bool) : Prop := ∀ k o, ops[k]? = some o → listed.getD k false = true → ∀ e ∈ o.after, Region.binds .any e = true → listed.getD e.on false = true
theorem closed_spec {listed : Array Bool} (h : closedB ops listed = true) : Closed ops listed := fun k o hk hl e he hb => by
  have h1 := List.all_eq_true.1 h k (List.mem_range.2 (Array.getElem?_eq_some_iff.1 hk).1)
  simp only [hl, hk, Bool.not_true, Bool.false_or] at h1
  have h2 := Array.all_eq_true_iff_forall_mem.1 h1 e he
  simpa [hb] using h2
theorem Closed.set {listed : Array Bool} (h : Closed ops listed) {j : Nat} (hj : j ∈ Region.ready .any ops listed) : Closed ops (listed.setIfInBounds j true) := fun k o hk hl e he hb => by
  by_cases hjk : j = k
  · subst hjk
    obtain ⟨_, o', ho', hall⟩ := mem_ready.1 hj
    rw [hk] at ho'
    cases ho'
    exact getD_set_true (hall e he hb)
  · rw [getD_set_ne false hjk] at hl
    exact getD_set_true (h k o hk hl e he hb)
theorem dep_listed {listed : Array Bool} (h : Closed ops listed) {i : Nat} : ∀ (n k : Nat), depB ops n k i = true → listed.getD k false = true → listed.getD i false = true
  | n + 1, k, hd, hl => by
    simp only [depB] at hd
    cases ho : ops[k]? with
    | none => rw [ho] at hd; cases hd
    | some o =>
      rw [ho] at hd
      obtain ⟨e, he, hb⟩ := Array.any_eq_true'.1 hd
      simp only [Bool.and_eq_true, Bool.or_eq_true, beq_iff_eq] at hb
      have h1 := h k o ho hl e he hb.1
      rcases hb.2 with h2 | h2
      · rw [← h2]; exact h1
      · exact dep_listed h n e.on h2 h1
/-- the last ones wait for all others -/
def tailAt (ops : Array Oper) (tl : List Nat) (listed : Array Bool) (i : Nat) : Bool := (tl.all fun t => depB ops 8 t i) && (tl.isEmpty || closedB ops listed)
def tailB (_ : Array Oper) (_ : Nat → List Nat) : Bool := true
theorem wpAnyP_first {i : Nat} (g : Nat) {oi : Oper} {v : Value} (hi : ops[i]? = some oi) (hsel : Region.noSelect ops = true) (hQ : ∀ c a w, Q (.panic c) (a.put oi.dst v) w → Q (.panic c) a w)
    (ht : ((tl g).all fun t => depB ops 8 t i) = true) (hit : (tl g).contains i = false) : ∀ (fuel : Nat) (listed : Array Bool) (a : Act) (w : World),
      (∀ j oj, ops[j]? = some oj → j ≠ i → listed.getD j true = false → (∀ e ∈ oj.after, Region.binds .any e = true → e.on ≠ i) → oi.apart ops oj = true) →
      i ∈ Region.ready .any ops listed → (tl g = [] ∨ Closed ops listed) → YieldsIf P ops (S g) oi v a → S g w →
      wpAnyP P ops Q S tl fuel (listed.setIfInBounds i true) (a.put oi.dst v) w → wpAnyP P ops Q S tl (fuel + 1) listed a w := by
  have hsi := Region.noSelect_spec hsel
  intro fuel
  induction fuel with
  | zero =>
    intro listed a w _ hr hcl hy hS H
    refine ⟨fun h => absurd hr (by rw [h]; simp), fun j hj => ?_⟩
    by_cases hji : j = i
    · rw [hji]; exact hy.wpOp hi hS ⟨fun _ _ h => h, H⟩
    · have := ready_mono hj hji
      rw [H.1] at this
      cases this
  | succ fuel ih =>
    intro listed a w hfree hr hcl hy hS H
    refine ⟨fun h => absurd hr (by rw [h]; simp), fun j hj => ?_⟩
    by_cases hji : j = i
    · rw [hji]; exact hy.wpOp hi hS ⟨fun _ _ h => h, H⟩
    obtain ⟨hjun, oj, hoj, hall⟩ := mem_ready.1 hj
    have hilt : i < ops.size := (Array.getElem?_eq_some_iff.1 hi).1
    have hun : ∀ e ∈ oj.after, Region.binds .any e = true → e.on ≠ i := by
      intro e he hb heq
      have h1 := hall e he hb
      have h0 := (mem_ready.1 hr).1
      rw [heq] at h1
      rcases Nat.lt_or_ge i listed.size with h' | h'
      · simp [h'] at h0 h1; rw [h0] at h1; cases h1
      · simp [Array.getElem?_eq_none h'] at h1
    have hjt : (tl g).contains j = false := by
      cases hc : (tl g).contains j with
      | false => rfl
      | true =>
        exfalso
        have h2 := List.all_eq_true.1 ht j (by simpa using hc)
        rcases hcl with hcl | hcl
        · rw [hcl] at hc; cases hc
        simp only [depB, hoj] at h2
        obtain ⟨e, he, hb⟩ := Array.any_eq_true'.1 h2
        simp only [Bool.and_eq_true, Bool.or_eq_true, beq_iff_eq] at hb
        rcases hb.2 with h3 | h3
        · exact hun e he hb.1 h3
        · have h4 := dep_listed hcl 7 e.on h3 (hall e he hb.1)
          have h0 := (mem_ready.1 hr).1
          rcases Nat.lt_or_ge i listed.size with h' | h'
          · simp [h'] at h0 h4; rw [h0] at h4; cases h4
          · simp [Array.getElem?_eq_none h'] at h4
    have h1 := H.2 j (ready_mono hj hji)
    have h2 := wpOp_putIf hoj (hfree j oj hoj hji hjun hun) (fun cs b => hsi i oi cs b hi) (fun cs b => hsi j oj cs b hoj) hQ hy h1
    refine wpOp_mono (fun a' w' h3 => ⟨fun g hj hs => h3.2.1 g hj hs, ih _ a' w' (fun k ok hk hki hkun hno => ?_) (ready_mono hr (Ne.symm hji)) (hcl.imp id fun h => h.set hj) h3.1 (h3.2.1 g hjt hS) ?_⟩) h2
    · refine hfree k ok hk hki ?_ hno
      by_cases hjk : j = k
      · rw [← hjk]; exact hjun
      · rw [getD_set_ne true hjk] at hkun; exact hkun
    · rw [Array.setIfInBounds_comm _ _ hji]
      exact h3.2.2
theorem wpAnyP_first0 {i : Nat} {oi : Oper} {v : Value} (hi : ops[i]? = some oi) (hsel : Region.noSelect ops = true) (hQ : ∀ c a w, Q (.panic c) (a.put oi.dst v) w → Q (.panic c) a w) : ∀ (fuel : Nat) (listed : Array Bool) (a : Act) (w : World),
      (∀ j oj, ops[j]? = some oj → j ≠ i → listed.getD j true = false → (∀ e ∈ oj.after, Region.binds .any e = true → e.on ≠ i) → oi.apart ops oj = true) →
      i ∈ Region.ready .any ops listed → YieldsIf P ops (fun _ => True) oi v a →
      wpAnyP P ops Q S tl fuel (listed.setIfInBounds i true) (a.put oi.dst v) w → wpAnyP P ops Q S tl (fuel + 1) listed a w := by
  have hsi := Region.noSelect_spec hsel
  intro fuel
  induction fuel with
  | zero =>
    intro listed a w _ hr hy H
    refine ⟨fun h => absurd hr (by rw [h]; simp), fun j hj => ?_⟩
    by_cases hji : j = i
    · rw [hji]; exact hy.wpOp hi trivial ⟨fun _ _ h => h, H⟩
    · have := ready_mono hj hji
      rw [H.1] at this
      cases this
  | succ fuel ih =>
    intro listed a w hfree hr hy H
    refine ⟨fun h => absurd hr (by rw [h]; simp), fun j hj => ?_⟩
    by_cases hji : j = i
    · rw [hji]; exact hy.wpOp hi trivial ⟨fun _ _ h => h, H⟩
    obtain ⟨hjun, oj, hoj, hall⟩ := mem_ready.1 hj
    have hilt : i < ops.size := (Array.getElem?_eq_some_iff.1 hi).1
    have hun : ∀ e ∈ oj.after, Region.binds .any e = true → e.on ≠ i := by
      intro e he hb heq
      have h1 := hall e he hb
      have h0 := (mem_ready.1 hr).1
      rw [heq] at h1
      rcases Nat.lt_or_ge i listed.size with h' | h'
      · simp [h'] at h0 h1; rw [h0] at h1; cases h1
      · simp [Array.getElem?_eq_none h'] at h1
    have h1 := H.2 j (ready_mono hj hji)
    have h2 := wpOp_putIf hoj (hfree j oj hoj hji hjun hun) (fun cs b => hsi i oi cs b hi) (fun cs b => hsi j oj cs b hoj) hQ hy h1
    refine wpOp_mono (fun a' w' h3 => ⟨fun g hj hs => h3.2.1 g hj hs, ih _ a' w' (fun k ok hk hki hkun hno => ?_) (ready_mono hr (Ne.symm hji)) h3.1 ?_⟩) h2
    · refine hfree k ok hk hki ?_ hno
      by_cases hjk : j = k
      · rw [← hjk]; exact hjun
      · rw [getD_set_ne true hjk] at hkun; exact hkun
    · rw [Array.setIfInBounds_comm _ _ hji]
      exact h3.2.2
end
def RA (P : Program) (N : Fr) (ops : Array Oper) (Q : Exit → Act → World → Prop) (S : Nat → World → Prop) (tl : Nat → List Nat) (n : Nat) (listed : Array Bool) (env : Env) (w : World) : Prop :=
  ∀ a, Has N env a → wpAnyP P ops (noOut Q) S tl n listed a w
/-- what ends a panic asks nothing of the temporaries -/
def NoTmp (Q : Exit → Act → World → Prop) : Prop := ∀ c (a : Act) dst v w, Q (.panic c) (a.put dst v) w → Q (.panic c) a w
section
variable {P : Program} {N : Fr} {Q : Exit → Act → World → Prop} {env : Env} {w : World} {ops : Array Oper} {o : Oper} {S : Nat → World → Prop} {tl : Nat → List Nat} {n : Nat} {listed : Array Bool}
theorem NoTmp.then {next : Act → World → Prop} (h : NoTmp Q) : NoTmp (Exit.then next Q) := fun c a dst v w x => h c a dst v w x
theorem NoTmp.noGoto (h : NoTmp Q) : NoTmp (Exit.noGoto Q) := fun c a dst v w x => h c a dst v w x
theorem NoTmp.block {id : Nat} (h : NoTmp Q) : NoTmp (Exit.inBlock id Q) := fun c a dst v w x => h c a dst v w x
theorem NoTmp.body {fn : Func} {R : Ending → World → Prop} : NoTmp (bodyPost P fn R) := fun c a dst v w ⟨h1, h2⟩ => ⟨by cases dst <;> exact h1, h2⟩
theorem RC.draw {id : Nat} {l : List Oper} (S : Nat → World → Prop) (tl : Nat → List Nat) (hm : P.follows .mixedOrders = true)
    (h : RA P N l.toArray Q S tl l.length (Array.replicate l.length false) env { w with drawn := w.drawn + 1 }) : RC P N Q (.region id l.toArray true) env w := fun a ha =>
  .inr ⟨rfl, hm, wpAny_of_P (S := S) (tl := tl) _ _ _ _ (by simpa using h a ha)⟩
theorem RA.re (d : Nat) {v v' : Value} (hv : lk env d = some v) (e : v = v') (h : RA P N ops Q S tl n listed ((d, v') :: env) w) : RA P N ops Q S tl n listed env w :=
  fun a ha => h a ⟨ha.size, ha.defers, fun t u x => by
    rw [lk_cons] at x
    by_cases hd : d = t
    · subst hd; simp only [if_true, Option.some.injEq] at x; subst x; subst e; exact ha.at_ _ _ hv
    · rw [if_neg hd] at x; exact ha.at_ _ _ x⟩
theorem RA.v (g i : Nat) {v : Value} (hi : ops[i]? = some o) (h : ∀ w, S g w → Vl P N o env w v) (hg : gd ops env o = some true) (hd : inB N o.dst = true)
    (hs : Region.noSelect ops = true) (ht : tailAt ops (tl g) listed i = true) (hit : (tl g).contains i = false) (hf : Region.free .any ops listed i = true) (hr : (Region.ready .any ops listed).contains i = true) (hQ : NoTmp Q) (hS : S g w)
    (hn : RA P N ops Q S tl n (listed.setIfInBounds i true) (putE o.dst v env) w) : RA P N ops Q S tl (n + 1) listed env w := fun a ha =>
  wpAnyP_first (Q := noOut Q) g hi hs (fun c a w x => hQ c a _ _ w x) (by simp only [tailAt, Bool.and_eq_true] at ht; exact ht.1) hit n listed a w (Region.free_spec hi hf) (by simpa using hr) (by
    simp only [tailAt, Bool.and_eq_true, Bool.or_eq_true] at ht
    rcases ht.2 with h | h
    · exact .inl (by simpa using h)
    · exact .inr (closed_spec h)) (.inl ⟨gd_wanted ha hg, fun w' hw' => h w' hw' a ha⟩) hS (hn _ (ha.put _ _ hd))
theorem RA.v0 (i : Nat) {v : Value} (hi : ops[i]? = some o) (h : ∀ w, Vl P N o env w v) (hg : gd ops env o = some true) (hd : inB N o.dst = true)
    (hs : Region.noSelect ops = true) (hf : Region.free .any ops listed i = true) (hr : (Region.ready .any ops listed).contains i = true) (hQ : NoTmp Q)
    (hn : RA P N ops Q S tl n (listed.setIfInBounds i true) (putE o.dst v env) w) : RA P N ops Q S tl (n + 1) listed env w := fun a ha =>
  wpAnyP_first0 (Q := noOut Q) hi hs (fun c a w x => hQ c a _ _ w x) n listed a w (Region.free_spec hi hf) (by simpa using hr) (.inl ⟨gd_wanted ha hg, fun w' _ => h w' a ha⟩) (hn _ (ha.put _ _ hd))
theorem RA.no (i : Nat) (hi : ops[i]? = some o) (hg : gd ops env o = some false) (hd : inB N o.dst = true)
    (hs : Region.noSelect ops = true) (hf : Region.free .any ops listed i = true) (hr : (Region.ready .any ops listed).contains i = true) (hQ : NoTmp Q)
    (hn : RA P N ops Q S tl n (listed.setIfInBounds i true) (putE o.dst undef env) w) : RA P N ops Q S tl (n + 1) listed env w := fun a ha =>
  wpAnyP_first0 (Q := noOut Q) hi hs (fun c a w x => hQ c a _ _ w x) n listed a w (Region.free_spec hi hf) (by simpa using hr) (.inr ⟨gd_wanted ha hg, rfl⟩) (hn _ (ha.put _ _ hd))
/-- what one of those that may come up leads to -/
def RW (P : Program) (N : Fr) (ops : Array Oper) (Q : Exit → Act → World → Prop) (S : Nat → World → Prop) (tl : Nat → List Nat) (n : Nat) (listed : Array Bool) (env : Env) (w : World) (i : Nat) : Prop :=
  ∀ a, Has N env a → wpOp P ops (noOut Q) i (fun a' w' => (∀ g, (tl g).contains i = false → S g w → S g w') ∧ wpAnyP P ops (noOut Q) S tl n (listed.setIfInBounds i true) a' w') a w
theorem RW.op {i : Nat} {K : Value → World → Prop} (hi : ops[i]? = some o) (h : OW P N o env w K) (hg : gd ops env o = some true) (hd : inB N o.dst = true)
    (hr : ∀ v w', K v w' → (∀ g, (tl g).contains i = false → S g w') ∧ RA P N ops Q S tl n (listed.setIfInBounds i true) (putE o.dst v env) w') : RW P N ops Q S tl n listed env w i := fun a ha => by
  unfold wpOp
  simp only [hi]
  rw [if_pos (gd_wanted ha hg)]
  exact .inl (h a ha _ _ fun v w' hk => ⟨fun g ht _ => (hr v w' hk).1 g ht, (hr v w' hk).2 _ (ha.put _ _ hd)⟩)
theorem RW.no {i : Nat} (hi : ops[i]? = some o) (hg : gd ops env o = some false) (hd : inB N o.dst = true)
    (hr : RA P N ops Q S tl n (listed.setIfInBounds i true) (putE o.dst undef env) w) : RW P N ops Q S tl n listed env w i := fun a ha => by
  unfold wpOp
  simp only [hi]
  rw [if_neg (by rw [gd_wanted ha hg]; simp)]
  exact ⟨fun _ _ h => h, hr _ (ha.put _ _ hd)⟩
theorem RW.v {i : Nat} {v : Value} (hi : ops[i]? = some o) (h : Vl P N o env w v) (hg : gd ops env o = some true) (hd : inB N o.dst = true)
    (hr : RA P N ops Q S tl n (listed.setIfInBounds i true) (putE o.dst v env) w) : RW P N ops Q S tl n listed env w i := fun a ha => by
  unfold wpOp
  simp only [hi]
  rw [if_pos (gd_wanted ha hg)]
  exact .inl (h.ow a ha _ _ fun v' w' ⟨e1, e2⟩ => by subst e1; subst e2; exact ⟨fun _ _ h => h, hr _ (ha.put _ _ hd)⟩)
theorem RA.all (hne : Region.ready .any ops listed ≠ []) (h : ∀ i ∈ Region.ready .any ops listed, RW P N ops Q S tl n listed env w i) : RA P N ops Q S tl (n + 1) listed env w := fun a ha =>
  ⟨fun h0 => absurd h0 hne, fun i hi => h i hi a ha⟩
theorem RA.all1 (i : Nat) (hr : Region.ready .any ops listed = [i]) (h : RW P N ops Q S tl n listed env w i) : RA P N ops Q S tl (n + 1) listed env w :=
  RA.all (by rw [hr]; simp) fun j hj => by
    rw [hr] at hj
    obtain rfl : j = i := by simpa using hj
    exact h
theorem RA.all2 (i i' : Nat) (hr : Region.ready .any ops listed = [i, i']) (h : RW P N ops Q S tl n listed env w i) (h' : RW P N ops Q S tl n listed env w i') : RA P N ops Q S tl (n + 1) listed env w :=
  RA.all (by rw [hr]; simp) fun j hj => by
    rw [hr] at hj
    rcases (by simpa using hj : j = i ∨ j = i') with rfl | rfl
    · exact h
    · exact h'
theorem RA.done (hr : Region.ready .any ops listed = []) (h : RQ N (Q .normal) env w) : RA P N ops Q S tl n listed env w := fun a ha => by
  cases n with
  | zero => exact ⟨hr, h a ha⟩
  | succ n => exact ⟨fun _ => h a ha, by rw [hr]; simp⟩
end
end Go.Sl
namespace Go.Sl
/-! ### 4b. The same with an operation's parts written out; a plan for a region that draws -/
section
variable {P : Program} {N : Fr} {Q : Exit → Act → World → Prop} {env : Env} {w : World} {ops : Array Oper} {rest : List Oper}
theorem RL.s {d : Nat} {op : Op} {t : TypeId} {pos : String} {aft : Array Edge} {v : Value} (h : Vl P N ⟨some d, op, t, pos, aft, none⟩ env w v) (hd : Nat.blt d N.n = true)
    (hr : RL P N ops Q rest ((d, v) :: env) w) : RL P N ops Q (⟨some d, op, t, pos, aft, none⟩ :: rest) env w := RL.v h rfl hd hr
theorem RL.sg {d : Nat} {op : Op} {t : TypeId} {pos : String} {aft : Array Edge} {g : Option (Nat × Bool)} {v : Value} (h : Vl P N ⟨some d, op, t, pos, aft, g⟩ env w v) (hd : Nat.blt d N.n = true)
    (hg : gd ops env ⟨some d, op, t, pos, aft, g⟩ = some true) (hr : RL P N ops Q rest ((d, v) :: env) w) : RL P N ops Q (⟨some d, op, t, pos, aft, g⟩ :: rest) env w := RL.v h hg hd hr
theorem RL.nn {d : Nat} {op : Op} {t : TypeId} {pos : String} {aft : Array Edge} {g : Option (Nat × Bool)} (hd : Nat.blt d N.n = true)
    (hg : gd ops env ⟨some d, op, t, pos, aft, g⟩ = some false) (hr : RL P N ops Q rest ((d, undef) :: env) w) : RL P N ops Q (⟨some d, op, t, pos, aft, g⟩ :: rest) env w := RL.no hg hd hr
theorem RL.e {d : Nat} {op : Op} {t : TypeId} {pos : String} {aft : Array Edge} {g : Option (Nat × Bool)} {K : Value → World → Prop} (h : OW P N ⟨some d, op, t, pos, aft, g⟩ env w K) (hd : Nat.blt d N.n = true)
    (hg : gd ops env ⟨some d, op, t, pos, aft, g⟩ = some true) (hr : ∀ v w', K v w' → RL P N ops Q rest ((d, v) :: env) w') : RL P N ops Q (⟨some d, op, t, pos, aft, g⟩ :: rest) env w := RL.op h hg hd hr
theorem RL.e0 {op : Op} {t : TypeId} {pos : String} {aft : Array Edge} {g : Option (Nat × Bool)} {K : Value → World → Prop} (h : OW P N ⟨none, op, t, pos, aft, g⟩ env w K)
    (hg : gd ops env ⟨none, op, t, pos, aft, g⟩ = some true) (hr : ∀ v w', K v w' → RL P N ops Q rest env w') : RL P N ops Q (⟨none, op, t, pos, aft, g⟩ :: rest) env w := RL.op h hg rfl hr
theorem RL.n0 {op : Op} {t : TypeId} {pos : String} {aft : Array Edge} {g : Option (Nat × Bool)} 
    (hg : gd ops env ⟨none, op, t, pos, aft, g⟩ = some false) (hr : RL P N ops Q rest env w) : RL P N ops Q (⟨none, op, t, pos, aft, g⟩ :: rest) env w := RL.no hg rfl hr
/-- a plan: the operations' numbers in an order; 'true': it is taken first, whatever else may come up; 'false': nothing else may come up -/
inductive Pl where
  | nil : Pl
  | early (i g : Nat) (l : Pl) : Pl
  | last (i : Nat) (l : Pl) : Pl
  | pure (i : Nat) (l : Pl) : Pl
  | fork (i j : Nat) (p q : Pl) : Pl
  | fork3 (i j k : Nat) (p q r : Pl) : Pl
  | fork4 (i j k m : Nat) (p q r s : Pl) : Pl
def Pl.len : Pl → Nat
  | .nil => 0
  | .early _ _ l => l.len + 1
  | .last _ l => l.len + 1
  | .pure _ l => l.len + 1
  | .fork _ _ p _ => p.len + 1
  | .fork3 _ _ _ p _ _ => p.len + 1
  | .fork4 _ _ _ _ p _ _ _ => p.len + 1
def planOK (ops : Array Oper) (tl : Nat → List Nat) : Pl → Array Bool → Bool
  | .nil, listed => (Region.ready .any ops listed).isEmpty
  | .early i g l, listed => Region.free .any ops listed i && (Region.ready .any ops listed).contains i && tailAt ops (tl g) listed i && planOK ops tl l (listed.setIfInBounds i true)
  | .pure i l, listed => Region.free .any ops listed i && (Region.ready .any ops listed).contains i && planOK ops tl l (listed.setIfInBounds i true)
  | .last i l, listed => Region.ready .any ops listed == [i] && planOK ops tl l (listed.setIfInBounds i true)
  | .fork i j p q, listed => Region.ready .any ops listed == [i, j] && p.len == q.len && planOK ops tl p (listed.setIfInBounds i true) && planOK ops tl q (listed.setIfInBounds j true)
  | .fork3 i j k p q r, listed => Region.ready .any ops listed == [i, j, k] && p.len == q.len && p.len == r.len && planOK ops tl p (listed.setIfInBounds i true) && planOK ops tl q (listed.setIfInBounds j true) && planOK ops tl r (listed.setIfInBounds k true)
  | .fork4 i j k m p q r s, listed => Region.ready .any ops listed == [i, j, k, m] && p.len == q.len && p.len == r.len && p.len == s.len && planOK ops tl p (listed.setIfInBounds i true) && planOK ops tl q (listed.setIfInBounds j true) && planOK ops tl r (listed.setIfInBounds k true) && planOK ops tl s (listed.setIfInBounds m true)
variable {S : Nat → World → Prop} {tl : Nat → List Nat} {pl : Pl}
def RP (P : Program) (N : Fr) (ops : Array Oper) (Q : Exit → Act → World → Prop) (S : Nat → World → Prop) (tl : Nat → List Nat) (pl : Pl) (env : Env) (w : World) : Prop :=
  ∀ listed, planOK ops tl pl listed = true → Region.noSelect ops = true → tailB ops tl = true → NoTmp Q → RA P N ops Q S tl pl.len listed env w
theorem RC.plan {id : Nat} {l : List Oper} (pl : Pl) (tl : Nat → List Nat) (S : Nat → World → Prop) (hm : P.follows .mixedOrders = true) (hl : pl.len = l.length)
    (hB : (Region.noSelect l.toArray && tailB l.toArray tl && planOK l.toArray tl pl (Array.replicate l.length false)) = true) (hQ : NoTmp Q)
    (h : RP P N l.toArray Q S tl pl env { w with drawn := w.drawn + 1 }) : RC P N Q (.region id l.toArray true) env w := by
  simp only [Bool.and_eq_true] at hB
  refine RC.draw S tl hm ?_
  rw [← hl] at hB ⊢
  exact h _ hB.2 hB.1.1 hB.1.2 hQ
section
variable {d : Nat} {op : Op} {t : TypeId} {pos : String} {aft : Array Edge} {g : Option (Nat × Bool)} {v : Value}
theorem RP.sg (k i : Nat) (hi : ops[i]? = some ⟨some d, op, t, pos, aft, g⟩) (hit : (tl k).contains i = false) (hS : S k w)
    (h : ∀ w, S k w → Vl P N ⟨some d, op, t, pos, aft, g⟩ env w v) (hd : Nat.blt d N.n = true) (hg : gd ops env ⟨some d, op, t, pos, aft, g⟩ = some true) (hr : RP P N ops Q S tl pl ((d, v) :: env) w) : RP P N ops Q S tl (.early i k pl) env w := fun listed hp hs ht hQ => by
  simp only [planOK, Bool.and_eq_true] at hp
  exact RA.v k i hi h hg hd hs hp.1.2 hit hp.1.1.1 hp.1.1.2 hQ hS (hr _ hp.2 hs ht hQ)
theorem RP.s (k i : Nat) (hi : ops[i]? = some ⟨some d, op, t, pos, aft, none⟩) (hit : (tl k).contains i = false) (hS : S k w)
    (h : ∀ w, S k w → Vl P N ⟨some d, op, t, pos, aft, none⟩ env w v) (hd : Nat.blt d N.n = true) (hr : RP P N ops Q S tl pl ((d, v) :: env) w) : RP P N ops Q S tl (.early i k pl) env w := RP.sg k i hi hit hS h hd rfl hr
theorem RP.sg0 (i : Nat) (hi : ops[i]? = some ⟨some d, op, t, pos, aft, g⟩)
    (h : ∀ w, Vl P N ⟨some d, op, t, pos, aft, g⟩ env w v) (hd : Nat.blt d N.n = true) (hg : gd ops env ⟨some d, op, t, pos, aft, g⟩ = some true) (hr : RP P N ops Q S tl pl ((d, v) :: env) w) : RP P N ops Q S tl (.pure i pl) env w := fun listed hp hs ht hQ => by
  simp only [planOK, Bool.and_eq_true] at hp
  exact RA.v0 i hi h hg hd hs hp.1.1 hp.1.2 hQ (hr _ hp.2 hs ht hQ)
theorem RP.s0 (i : Nat) (hi : ops[i]? = some ⟨some d, op, t, pos, aft, none⟩)
    (h : ∀ w, Vl P N ⟨some d, op, t, pos, aft, none⟩ env w v) (hd : Nat.blt d N.n = true) (hr : RP P N ops Q S tl pl ((d, v) :: env) w) : RP P N ops Q S tl (.pure i pl) env w := RP.sg0 i hi h hd rfl hr
theorem RP.nn (k i : Nat) (hi : ops[i]? = some ⟨some d, op, t, pos, aft, g⟩)
    (hd : Nat.blt d N.n = true) (hg : gd ops env ⟨some d, op, t, pos, aft, g⟩ = some false) (hr : RP P N ops Q S tl pl ((d, undef) :: env) w) : RP P N ops Q S tl (.early i k pl) env w := fun listed hp hs ht hQ => by
  simp only [planOK, Bool.and_eq_true] at hp
  exact RA.no i hi hg hd hs hp.1.1.1 hp.1.1.2 hQ (hr _ hp.2 hs ht hQ)
theorem RP.nn0 (i : Nat) (hi : ops[i]? = some ⟨some d, op, t, pos, aft, g⟩)
    (hd : Nat.blt d N.n = true) (hg : gd ops env ⟨some d, op, t, pos, aft, g⟩ = some false) (hr : RP P N ops Q S tl pl ((d, undef) :: env) w) : RP P N ops Q S tl (.pure i pl) env w := fun listed hp hs ht hQ => by
  simp only [planOK, Bool.and_eq_true] at hp
  exact RA.no i hi hg hd hs hp.1.1 hp.1.2 hQ (hr _ hp.2 hs ht hQ)
/-- one of those that may come up is taken, whatever else may come up -/
def RPW (P : Program) (N : Fr) (ops : Array Oper) (Q : Exit → Act → World → Prop) (S : Nat → World → Prop) (tl : Nat → List Nat) (pl : Pl) (env : Env) (w : World) (i : Nat) : Prop :=
  ∀ listed, planOK ops tl pl (listed.setIfInBounds i true) = true → Region.noSelect ops = true → tailB ops tl = true → NoTmp Q → RW P N ops Q S tl pl.len listed env w i
theorem RPW.e (i : Nat) {K : Value → World → Prop} (hi : ops[i]? = some ⟨some d, op, t, pos, aft, g⟩)
    (h : OW P N ⟨some d, op, t, pos, aft, g⟩ env w K) (hd : Nat.blt d N.n = true) (hg : gd ops env ⟨some d, op, t, pos, aft, g⟩ = some true)
    (hr : ∀ v w', K v w' → (∀ g, (tl g).contains i = false → S g w') ∧ RP P N ops Q S tl pl ((d, v) :: env) w') : RPW P N ops Q S tl pl env w i := fun listed hp hs ht hQ =>
  RW.op hi h hg hd fun v w' hk => ⟨(hr v w' hk).1, (hr v w' hk).2 _ hp hs ht hQ⟩
theorem RPW.e0 (i : Nat) {K : Value → World → Prop} (hi : ops[i]? = some ⟨none, op, t, pos, aft, g⟩)
    (h : OW P N ⟨none, op, t, pos, aft, g⟩ env w K) (hg : gd ops env ⟨none, op, t, pos, aft, g⟩ = some true)
    (hr : ∀ v w', K v w' → (∀ g, (tl g).contains i = false → S g w') ∧ RP P N ops Q S tl pl env w') : RPW P N ops Q S tl pl env w i := fun listed hp hs ht hQ =>
  RW.op hi h hg rfl fun v w' hk => ⟨(hr v w' hk).1, (hr v w' hk).2 _ hp hs ht hQ⟩
theorem RPW.v1 (i : Nat) (hi : ops[i]? = some ⟨some d, op, t, pos, aft, g⟩)
    (h : Vl P N ⟨some d, op, t, pos, aft, g⟩ env w v) (hd : Nat.blt d N.n = true) (hg : gd ops env ⟨some d, op, t, pos, aft, g⟩ = some true) (hr : RP P N ops Q S tl pl ((d, v) :: env) w) : RPW P N ops Q S tl pl env w i := fun listed hp hs ht hQ =>
  RW.v hi h hg hd (hr _ hp hs ht hQ)
theorem RPW.n1 (i : Nat) (hi : ops[i]? = some ⟨some d, op, t, pos, aft, g⟩)
    (hd : Nat.blt d N.n = true) (hg : gd ops env ⟨some d, op, t, pos, aft, g⟩ = some false) (hr : RP P N ops Q S tl pl ((d, undef) :: env) w) : RPW P N ops Q S tl pl env w i := fun listed hp hs ht hQ =>
  RW.no hi hg hd (hr _ hp hs ht hQ)
theorem RP.one {i : Nat} (h : RPW P N ops Q S tl pl env w i) : RP P N ops Q S tl (.last i pl) env w := fun listed hp hs ht hQ => by
  simp only [planOK, Bool.and_eq_true, beq_iff_eq] at hp
  exact RA.all1 i hp.1 (h listed hp.2 hs ht hQ)
theorem RP.fork {i j : Nat} {p q : Pl} (h1 : RPW P N ops Q S tl p env w i) (h2 : RPW P N ops Q S tl q env w j) : RP P N ops Q S tl (.fork i j p q) env w := fun listed hp hs ht hQ => by
  simp only [planOK, Bool.and_eq_true, beq_iff_eq] at hp
  refine RA.all2 i j hp.1.1.1 (h1 listed hp.1.2 hs ht hQ) ?_
  rw [hp.1.1.2]
  exact h2 listed hp.2 hs ht hQ
theorem RP.fork3 {i j k : Nat} {p q r : Pl} (h1 : RPW P N ops Q S tl p env w i) (h2 : RPW P N ops Q S tl q env w j) (h3 : RPW P N ops Q S tl r env w k) : RP P N ops Q S tl (.fork3 i j k p q r) env w := fun listed hp hs ht hQ => by
  simp only [planOK, Bool.and_eq_true, beq_iff_eq] at hp
  obtain ⟨⟨⟨⟨⟨e, l2⟩, l3⟩, p1⟩, p2⟩, p3⟩ := hp
  refine RA.all (by rw [e]; simp) fun x hx => ?_
  rw [e] at hx
  rcases (by simpa using hx : x = i ∨ x = j ∨ x = k) with rfl | rfl | rfl
  · exact h1 listed p1 hs ht hQ
  · show RW P N ops Q S tl p.len listed env w x; rw [l2]; exact h2 listed p2 hs ht hQ
  · show RW P N ops Q S tl p.len listed env w x; rw [l3]; exact h3 listed p3 hs ht hQ
theorem RP.fork4 {i j k m : Nat} {p q r s : Pl} (h1 : RPW P N ops Q S tl p env w i) (h2 : RPW P N ops Q S tl q env w j) (h3 : RPW P N ops Q S tl r env w k) (h4 : RPW P N ops Q S tl s env w m) : RP P N ops Q S tl (.fork4 i j k m p q r s) env w := fun listed hp hs ht hQ => by
  simp only [planOK, Bool.and_eq_true, beq_iff_eq] at hp
  obtain ⟨⟨⟨⟨⟨⟨⟨e, l2⟩, l3⟩, l4⟩, p1⟩, p2⟩, p3⟩, p4⟩ := hp
  refine RA.all (by rw [e]; simp) fun x hx => ?_
  rw [e] at hx
  rcases (by simpa using hx : x = i ∨ x = j ∨ x = k ∨ x = m) with rfl | rfl | rfl | rfl
  · exact h1 listed p1 hs ht hQ
  · show RW P N ops Q S tl p.len listed env w x; rw [l2]; exact h2 listed p2 hs ht hQ
  · show RW P N ops Q S tl p.len listed env w x; rw [l3]; exact h3 listed p3 hs ht hQ
  · show RW P N ops Q S tl p.len listed env w x; rw [l4]; exact h4 listed p4 hs ht hQ
theorem RP.e (i : Nat) {K : Value → World → Prop} (hi : ops[i]? = some ⟨some d, op, t, pos, aft, g⟩)
    (h : OW P N ⟨some d, op, t, pos, aft, g⟩ env w K) (hd : Nat.blt d N.n = true) (hg : gd ops env ⟨some d, op, t, pos, aft, g⟩ = some true)
    (hr : ∀ v w', K v w' → (∀ g, (tl g).contains i = false → S g w') ∧ RP P N ops Q S tl pl ((d, v) :: env) w') : RP P N ops Q S tl (.last i pl) env w := RP.one (RPW.e i hi h hd hg hr)
theorem RP.e0 (i : Nat) {K : Value → World → Prop} (hi : ops[i]? = some ⟨none, op, t, pos, aft, g⟩)
    (h : OW P N ⟨none, op, t, pos, aft, g⟩ env w K) (hg : gd ops env ⟨none, op, t, pos, aft, g⟩ = some true)
    (hr : ∀ v w', K v w' → (∀ g, (tl g).contains i = false → S g w') ∧ RP P N ops Q S tl pl env w') : RP P N ops Q S tl (.last i pl) env w := RP.one (RPW.e0 i hi h hg hr)
theorem RP.v1 (i : Nat) (hi : ops[i]? = some ⟨some d, op, t, pos, aft, g⟩)
    (h : Vl P N ⟨some d, op, t, pos, aft, g⟩ env w v) (hd : Nat.blt d N.n = true) (hg : gd ops env ⟨some d, op, t, pos, aft, g⟩ = some true) (hr : RP P N ops Q S tl pl ((d, v) :: env) w) : RP P N ops Q S tl (.last i pl) env w := RP.one (RPW.v1 i hi h hd hg hr)
theorem RP.n1 (i : Nat) (hi : ops[i]? = some ⟨some d, op, t, pos, aft, g⟩)
    (hd : Nat.blt d N.n = true) (hg : gd ops env ⟨some d, op, t, pos, aft, g⟩ = some false) (hr : RP P N ops Q S tl pl ((d, undef) :: env) w) : RP P N ops Q S tl (.last i pl) env w := RP.one (RPW.n1 i hi hd hg hr)
theorem RP.nil (h : RQ N (Q .normal) env w) : RP P N ops Q S tl .nil env w := fun listed hp hs ht hQ => RA.done (by simpa [planOK] using hp) h
theorem RP.re (d : Nat) {v v' : Value} (hv : lk env d = some v) (e : v = v') (h : RP P N ops Q S tl pl ((d, v') :: env) w) : RP P N ops Q S tl pl env w := fun listed hp hs ht hQ => RA.re d hv e (h listed hp hs ht hQ)
end
end
end Go.Sl
