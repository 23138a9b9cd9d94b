/-
  The own separation logic for the walks, part 24.
-/
import Derived.Test.YtpheghebfodiiaaGreatDoorSl23
import Derived.Lib.ConvBytes
import Derived.Lib.OthersKept
import Derived.Laws.RangeAny
import Derived.Shelf.LaysM
import Derived.Shelf.Strings.Split
import Derived.Shelf.Strings.Prefix
import Derived.Shelf.Strconv.ParseIntPublic10
set_option linter.unusedVariables false
set_option linter.unusedSimpArgs false
set_option linter.unusedSectionVars false
namespace Go.Proofs
open Go.Shelf Go.RowKit
set_option maxHeartbeats 1000000 in
/-- strings.Split at a separator of one byte: no variable is read -/
theorem Any.strings_Split_one {P : Program} {ρ : Ren} (L : Lays.n146 P ρ) (hi9 : (P.info? (ρ.t 9)).map (fun i => (i.zero, i.size, i.bytes)) = some (some (.string ByteArray.empty), 1, 16)) (s : ByteArray) (x : UInt8) (w : World) (hs : s.size < 4294967281) :
    Calls P (ρ.f 146) #[.string s, .string ⟨#[x]⟩] w fun e w' =>
      e = .returned (.slice (some ⟨w.heap.size, 0, none⟩) (Lib.countB s ⟨#[x]⟩ + 1) (Lib.countB s ⟨#[x]⟩ + 1)) ∧ w' = w.alloc (.cells ((Lib.splitB ⟨#[x]⟩ 0 (Lib.countB s ⟨#[x]⟩) s).map Value.string).toArray (ρ.t 9)) := by
  have h1 : 1 ≤ (⟨#[x]⟩ : ByteArray).size := Nat.le_refl _
  have hle := Lib.countB_le ⟨#[x]⟩ h1 s.size s (Nat.le_refl _)
  have hlen := Lib.splitB_all ⟨#[x]⟩ h1 0 _ s rfl
  have c := Any.strings_genSplit_core { L with } hi9 s ⟨#[x]⟩ 0 (-1) (Lib.countB s ⟨#[x]⟩ + 1) w hs h1 (Nat.zero_le _)
    (fun y c hy => Calls.mono (Any.strings_Index_one { L with } y x _) fun e w' ⟨he, hw⟩ => ⟨by rw [he]; show _ = Ending.returned (Value.int .i64 (Lib.index y.data.toList [x])); rw [Lib.index_one], hw⟩)
    (Calls.mono (Any.strings_Count_one { L with } s x w) fun e w' ⟨he, hw⟩ => ⟨by
      rw [he]
      show _ = Ending.returned (Value.int .i64 ((Lib.count s.data.toList [x] : Nat) : Int))
      rw [Lib.count_one]
      rfl, hw⟩) (by decide) (by decide) (by rw [if_pos (by decide)]; omega)
  rw [Nat.add_sub_cancel, hlen] at c
  have e2 : Lib.cellsOf (Lib.splitB ⟨#[x]⟩ 0 (Lib.countB s ⟨#[x]⟩) s) (Lib.countB s ⟨#[x]⟩ + 1) = ((Lib.splitB ⟨#[x]⟩ 0 (Lib.countB s ⟨#[x]⟩) s).map Value.string).toArray := by rw [← hlen]; exact Lib.cellsOf_full _
  rw [e2] at c
  have t3 := L.t3; have t9 := L.t9; have t31 := L.t31
  have a3 := L.a3; have a9 := L.a9; have a31 := L.a31
  have z3 := L.z3; have v3 := L.v3; have z9 := L.z9; have v9 := L.v9; have z31 := L.z31; have v31 := L.v31
  have e221 : ∀ args w, (callFunc (ρ.f 221) args).run P w = .ok (.enter (ρ.f 221) args) w := enters_of L.f221 (by kernel_rfl) rfl
  go_enter L.f146, Body.n146_ntmps ρ
  go_wp2_with (go_at_fn (ρ.f 221); refine c.mono ?_; rintro e w' ⟨rfl, hw⟩; rw [hw])
  go_ret
  exact ⟨rfl, rfl⟩
end Go.Proofs
namespace Go.Sl
section
variable {P : Program} {w : World} {B : Base} {l : List HProp} {hf : Hp}
theorem format_ok {F : FuncId} (hI : ∀ (n : Int), -9223372036854775808 ≤ n → n ≤ 9223372036854775807 → ∀ (w : World), Lib.TabIs P w "internal/strconv.uint64pow10" .u64 Lib.pow10Tab →
    Calls P F #[.int .i64 n, .int .i64 10] w fun e w' => e = .returned (.string ⟨(Lib.itoa n).toArray⟩) ∧ ∃ k os, w' = Go.Sort.grow (w.drewN k) os)
    (n : Int) (h0 : -9223372036854775808 ≤ n) (h1 : n ≤ 9223372036854775807) (hT : TabH P hf) (hS : St B w l hf) :
    Calls P F #[.int .i64 n, .int .i64 10] w (Ret fun v w' => v = .string (itoaB n) ∧ St B w' l hf) :=
  Calls.mono (hI n h0 h1 w (hT w hS.sub)) fun e w' ⟨he, k, os, hw⟩ => by
    subst he
    subst hw
    exact ⟨rfl, hS.grow k os⟩
def hasP (s p : ByteArray) : Bool := Lib.hasPrefix s.data.toList p.data.toList
theorem hasP_ok {F : FuncId} (h : ∀ (s p : ByteArray) (w : World), Calls P F #[.string s, .string p] w fun e w' => e = .returned (.bool (Lib.hasPrefix s.data.toList p.data.toList)) ∧ w' = w) (s p : ByteArray) (hS : St B w l hf) :
    Calls P F #[.string s, .string p] w (Ret fun v w' => v = .bool (hasP s p) ∧ St B w' l hf) :=
  Calls.mono (h s p w) fun e w' ⟨he, hw⟩ => by
    subst he
    subst hw
    exact ⟨rfl, hS⟩
/-- what strconv.ParseInt(s, 10, 64) gives, where it gives no error -/
def parseN (s : ByteArray) : Option Int := match Lib.parseIntB 64 s.data.toList with
  | .ok v => some v
  | _ => none
theorem parse_ok {F : FuncId} {u8 : TypeId} (h : ∀ (s : ByteArray), s.size ≤ 9223372036854775806 → ∀ (v : Int), Lib.parseIntB 64 s.data.toList = .ok v → ∀ (w : World),
    Calls P F #[.string s, .int .i64 10, .int .i64 64] w fun e w' => e = .returned (.tuple #[.int .i64 v, .nilIface]) ∧ (w' = w ∨ ∃ t, w' = Lib.bytesWorld w u8 t)) {s : ByteArray} {v : Int} (hv : parseN s = some v) (hs : s.size ≤ 9223372036854775806) (hS : St B w l hf) :
    Calls P F #[.string s, .int .i64 10, .int .i64 64] w (Ret fun r w' => r = .tuple #[.int .i64 v, .nilIface] ∧ St B w' l hf) := by
  have hp : Lib.parseIntB 64 s.data.toList = .ok v := by
    unfold parseN at hv
    split at hv
    · rename_i u hu
      cases hv
      exact hu
    · cases hv
  refine Calls.mono (h s hs v hp w) fun e w' ⟨he, hw⟩ => ?_
  subst he
  refine ⟨rfl, ?_⟩
  rcases hw with rfl | ⟨t, rfl⟩
  · exact hS
  · have hlt : ∀ b o, Sl.hp w b = some o → b < w.heap.size := fun b o e => (Array.getElem?_eq_some_iff.1 e).1
    have hold : ∀ b o, Sl.hp w b = some o → Sl.hp (Lib.bytesWorld w u8 t) b = some o := fun b o e => by
      have hb := hlt b o e
      simp only [Sl.hp] at e ⊢
      unfold Lib.bytesWorld World.freeze
      split
      · rw [show (w.drew.alloc _).heap[b]? = w.heap[b]? from heap_alloc_old w.drew _ hb]; exact e
      · simp only [Array.getElem?_modify]
        rw [if_neg (by omega), show (w.drew.alloc _).heap[b]? = w.heap[b]? from heap_alloc_old w.drew _ hb]; exact e
    refine ⟨?_, hS.sub.trans hold, hS.own.keep fun b o e => .inr (hold b o e)⟩
    rw [← hS.base]
    unfold Lib.bytesWorld World.freeze
    split <;> rfl
def splitL (s : ByteArray) (x : UInt8) : List ByteArray := Lib.splitB ⟨#[x]⟩ 0 (Lib.countB s ⟨#[x]⟩) s
theorem splitL_len (s : ByteArray) (x : UInt8) : (splitL s x).length = Lib.countB s ⟨#[x]⟩ + 1 := Lib.splitB_all ⟨#[x]⟩ (Nat.le_refl _) 0 _ s rfl
theorem split_ok {F : FuncId} {ts : TypeId} (h : ∀ (s : ByteArray) (x : UInt8) (w : World), s.size < 4294967281 → Calls P F #[.string s, .string ⟨#[x]⟩] w fun e w' =>
      e = .returned (.slice (some ⟨w.heap.size, 0, none⟩) (Lib.countB s ⟨#[x]⟩ + 1) (Lib.countB s ⟨#[x]⟩ + 1)) ∧ w' = w.alloc (.cells ((Lib.splitB ⟨#[x]⟩ 0 (Lib.countB s ⟨#[x]⟩) s).map Value.string).toArray ts))
    (s : ByteArray) (x : UInt8) (hs : s.size < 4294967281) (hS : St B w l hf) :
    Calls P F #[.string s, .string ⟨#[x]⟩] w (Ret fun r w' => ∃ b, r = .slice (some ⟨b, 0, none⟩) (splitL s x).length (splitL s x).length ∧ St B w' (OSf FS ts (.slice (some ⟨b, 0, none⟩) (splitL s x).length (splitL s x).length) (splitL s x) :: l) hf) := by
  refine Calls.mono (h s x w hs) fun e w' ⟨he, hw⟩ => ?_
  subst he
  subst hw
  refine ⟨w.heap.size, by rw [splitL_len], ?_⟩
  have h1 := hS.new (w' := w.alloc (.cells ((splitL s x).map Value.string).toArray ts)) (.cells ((splitL s x).map Value.string).toArray ts) rfl rfl
  refine h1.imp fun k hk => ?_
  have hl := splitL_len s x
  have hfm : ∀ xs : List ByteArray, xs.flatMap FS.enc = xs.map Value.string := fun xs => by
    induction xs with
    | nil => rfl
    | cons a xs ih => rw [List.flatMap_cons, ih]; rfl
  unfold OSf
  rw [hfm, show FS.sz = 1 from rfl]
  refine ⟨by simp, .inr ⟨w.heap.size, 0, (splitL s x).length, _, rfl, hk, Nat.le_refl _, ?_, by simp, ?_⟩⟩
  rotate_left
  · rw [List.drop_zero, Nat.mul_one]
    exact List.take_of_length_le (by simp)
  have := Lib.countB_le ⟨#[x]⟩ (Nat.le_refl _) s.size s (Nat.le_refl _)
  unfold maxLen
  omega
/-- a string's iterator -/
def It (s : ByteArray) (p : Int) (b : Nat) : HProp := pts b (.stringIter s p.toNat)
def itR (s : ByteArray) (p : Int) : Int := (Utf8.decode s p.toNat).1
def itS (s : ByteArray) (p : Int) : Int := (Utf8.decode s p.toNat).2
section
variable {N : Fr} {env : Env} {dst : Option Tmp} {t : TypeId} {pos : String} {aft : Array Edge} {g : Option (Nat × Bool)} {x : Operand} {s : ByteArray} {p : Int} {b : Nat}
theorem OW.rangeStr {xt : TypeId} (hS : St B w l hf) (hu : P.underlying xt = some .string) (hx : ev env x = some (.string s)) : OW P N ⟨dst, .range xt x, t, pos, aft, g⟩ env w (fun v w' => ∃ b, v = pV b ∧ St B w' (It s 0 b :: l) hf) := fun a ha next Q hn => by
  have hr : (execOp a.eval ⟨dst, .range xt x, t, pos, aft, g⟩).run P w = .ok (.value (.pointer (some ⟨w.heap.size, 0, none⟩))) (w.iter s 0) := by
    simp only [execOp, ha.eval hx, Sem.run_bind, run_range_string w xt s hu, Result.andThen_ok, Sem.run_pure]
  simp only [Oper.wp, hr, Oper.upon]
  exact hn _ _ ⟨_, rfl, hS.new (.stringIter s 0) rfl rfl⟩
theorem OW.nextT {l' : List HProp} (i : Nat) (hS : St B w l hf) (e : l[i]? = some (It s p b)) (el : l.eraseIdx i = l') (hx : ev env x = some (pV b)) (h0 : 0 ≤ p) (h : p < (s.size : Int)) :
    OW P N ⟨dst, .next x true, t, pos, aft, g⟩ env w (fun v w' => v = .tuple #[.bool true, .int .i64 p, .int .i32 (itR s p)] ∧ St B w' (It s (p + itS s p) b :: l') hf) := fun a ha next Q hn => by
  subst el
  have hk := hS.blk i e
  have hp : ((p.toNat : Nat) : Int) = p := by omega
  have hr : (execOp a.eval ⟨dst, .next x true, t, pos, aft, g⟩).run P w = .ok (.value (.tuple #[.bool true, .int .i64 p, .int .i32 (itR s p)])) (w.iterAt b s (p.toNat + (Utf8.decode s p.toNat).2)) := by
    simp only [execOp, ha.eval hx, Sem.run_bind, Lib.run_next_any_at w b s p.toNat t hk (by omega), Result.andThen_ok, Sem.run_pure, hp, itR]
  simp only [Oper.wp, hr, Oper.upon]
  refine hn _ _ ⟨rfl, ?_⟩
  have h2 := (hS.pull i e rfl).put (w' := w.iterAt b s (p.toNat + (Utf8.decode s p.toNat).2)) (o' := .stringIter s (p.toNat + (Utf8.decode s p.toNat).2)) rfl (fun b' hb' => Lib.iterAt_other w b b' s _ hb') (Lib.iterAt_heap w b s p.toNat _ hk)
  have h3 : (p + itS s p).toNat = p.toNat + (Utf8.decode s p.toNat).2 := by unfold itS; omega
  unfold It
  rw [h3]
  exact h2
theorem Vl.nextF (i : Nat) (hS : St B w l hf) (e : l[i]? = some (It s p b)) (hx : ev env x = some (pV b)) (h : ¬ p < (s.size : Int)) : Vl P N ⟨dst, .next x true, t, pos, aft, g⟩ env w (.tuple #[.bool false]) := fun a ha => by
  have hk := hS.blk i e
  simp only [execOp, ha.eval hx, Sem.run_bind, Lib.run_next_end_at w b s p.toNat t hk (by omega), Result.andThen_ok, Sem.run_pure]
end
end
end Go.Sl
