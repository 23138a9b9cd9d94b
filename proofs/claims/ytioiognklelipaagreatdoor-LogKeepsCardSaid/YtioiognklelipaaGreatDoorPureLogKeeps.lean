/-
  The plain law LogKeeps: however often states are kept, the log tells the same.
-/
import Derived.Test.YtioiognklelipaaGreatDoorLogJ
import Derived.Test.YtioiognklelipaaGreatDoorW12
namespace Go.Proofs.Gx
open Go.Sl
set_option linter.unusedVariables false
set_option linter.unusedSimpArgs false
theorem len_abs {a : log_Log} {A : AL} {b : Int} (h : Has2 a A b) : log_Log_Len.f a = some (A.1.length : Int) := by
  unfold log_Log_Len.f log_Log_none.f
  simp only [h.ok.made, Bool.not_true, Option.bind_some, Bool.false_eq_true, if_false, h.lg.len]
/-- the end of the law: all is compared -/
theorem keeps_end {a c : log_Log} {A : AL} {b b' : Int} (h : Has2 a A b) (h' : Has2 c A b') : Option.bind (log_Log_All.f a) (fun x => Option.bind (log_Log_All.f c) (fun y => Option.bind (isochronlaw10ventries.f x y) (fun t => (if t = true then Option.bind (log_Log_State.f a) (fun t1 => Option.bind (log_Log_State.f c) (fun t2 => (if t1 = t2 then Option.bind (log_Log_Kept.f a) (fun t3 => Option.bind (log_Log_Len.f a) (fun t4 => (if t3 ≤ IntKind.i64.wrap (t4 + 1) then Option.bind (log_Log_Kept.f c) (fun t5 => some (decide (1 ≤ t5))) else some false))) else some false))) else some false)))) = some true := by
  have hn := h.lg.len
  have hf := h.ok.few
  obtain ⟨K, k1, k2, k3⟩ := kept_abs h
  obtain ⟨K', k1', k2', k3'⟩ := kept_abs h'
  rw [all_abs h, all_abs h', state_abs h, state_abs h', len_abs h, k1, k1']
  simp only [Option.bind_some]
  rw [ents_self h]
  simp only [Option.bind_some, if_true]
  rw [if_pos (by rw [w64 (by omega) (by omega)]; omega)]
  simp [k2']
theorem Pure.logKeeps (x0 : api_World) (h0 : ok_api_World x0) (x1 : (List Int)) (h1 : (okl (fun n => (Lit.int .u8 n).wf = true) 1) x1) (x2 : Int) (h2 : (fun n => (Lit.int .u8 n).wf = true) x2) (x3 : Int) (h3 : (fun n => (Lit.int .u8 n).wf = true) x3) (x4 : Int) (h4 : (fun n => (Lit.int .u8 n).wf = true) x4) (x5 : Int) (h5 : (fun n => (Lit.int .u8 n).wf = true) x5) : isochronlaw10vLogKeeps.f x0 x1 x2 x3 x4 x5 = some true := by
  have he := every_in h4
  have he' := every_in h5
  have hx2 := wf8 h2
  have hx3 := wf8 h3
  have hM := evs_len x1
  unfold isochronlaw10vLogKeeps.f
  generalize IntKind.i64.wrap (1 + IntKind.i64.wrap (Int.tmod x4 20)) = e at he
  generalize IntKind.i64.wrap (1 + IntKind.i64.wrap (Int.tmod x5 20)) = e' at he'
  rw [show (⟨(⟨0, 0, 0, 0, 0, 0, 0, 0⟩ : Arr8xInti64), 0, 0⟩ : api_State) = zst from rfl, new_eq _ _ he, new_eq _ _ he']
  simp only [Option.bind_some]
  by_cases hC : chkW x0 = 0
  · rw [if_pos hC, if_pos hC]
    have hA := new_has hC e
    have hA' := new_has hC e'
    have hww : (⟨x0, true, zst, e', [], false⟩ : log_Log).w = (⟨x0, true, zst, e, [], false⟩ : log_Log).w := rfl
    generalize ha : (⟨x0, true, zst, e, [], false⟩ : log_Log) = a at hA hww
    generalize ha' : (⟨x0, true, zst, e', [], false⟩ : log_Log) = a' at hA' hww
    simp only []
    rw [events_eq h1]
    simp only [Option.bind_some]
    unfold isochronlaw10vLogKeeps.l4
    have e0 : (⟨a.w, a.made, a.state, a.every, [], a.stuck⟩ : log_Log) = a := by rw [← ha]
    have e0' : (⟨a'.w, a'.made, a'.state, a'.every, [], a'.stuck⟩ : log_Log) = a' := by rw [← ha']
    rw [e0, e0']
    have hu : ∀ k, k < (evs x1).length → (0 : Int) ≤ (fun k : Nat => 7 * (k : Int)) k ∧ (fun k : Nat => 7 * (k : Int)) k ≤ 1099511627776 := fun k hk => by show 0 ≤ 7 * (k : Int) ∧ 7 * (k : Int) ≤ _; omega
    have L := fun k => lRun_has hA (evs_vin h1) (fun k : Nat => 7 * (k : Int)) (by simp) (show (evs x1).length ≤ 200 by omega) (by decide) k
    have L' := fun k => lRun_has hA' (evs_vin h1) (fun k : Nat => 7 * (k : Int)) (by simp) (show (evs x1).length ≤ 200 by omega) (by decide) k
    rw [hww] at L'
    refine (show loopR _ ((fun k : Nat => (lRun a ([], zst, false) (evM x1) (fun k : Nat => 7 * (k : Int)) k, lRun a' ([], zst, false) (evM x1) (fun k : Nat => 7 * (k : Int)) k, (k : Int))) 0) = _ from loopR_steps (fun k : Nat => (lRun a ([], zst, false) (evM x1) (fun k : Nat => 7 * (k : Int)) k, lRun a' ([], zst, false) (evM x1) (fun k : Nat => 7 * (k : Int)) k, (k : Int))) (evs x1).length (fun k hk => ?_) ?_)
    · obtain ⟨g1, g2, g3, g4⟩ := L k (by omega)
      obtain ⟨f1, f2, f3, f4⟩ := L (k + 1) (by omega)
      obtain ⟨g1', g2', g3', g4'⟩ := L' k (by omega)
      obtain ⟨f1', f2', f3', f4'⟩ := L' (k + 1) (by omega)
      have hr := run_do hA (evs_vin h1) (fun k : Nat => 7 * (k : Int)) (by simp) (show (evs x1).length ≤ 200 by omega) (by decide) hk
      have hr' := run_do hA' (evs_vin h1) (fun k : Nat => 7 * (k : Int)) (by simp) (show (evs x1).length ≤ 200 by omega) (by decide) hk
      rw [hww] at hr'
      have hent : (if aMay (aRun a.w (evM x1) (fun k : Nat => 7 * (k : Int)) ([], zst, false) k) (evM x1 k) (7 * (k : Int)) = 0 then aEnt a.w (aRun a.w (evM x1) (fun k : Nat => 7 * (k : Int)) ([], zst, false) k) (evM x1 k) (7 * (k : Int)) else zent).Sent.length ≤ 8 := by
        split
        · rename_i h0
          have hA1 : aRun a.w (evM x1) (fun k : Nat => 7 * (k : Int)) ([], zst, false) (k + 1) = ((aRun a.w (evM x1) (fun k : Nat => 7 * (k : Int)) ([], zst, false) k).1 ++ [aEnt a.w (aRun a.w (evM x1) (fun k : Nat => 7 * (k : Int)) ([], zst, false) k) (evM x1 k) (7 * (k : Int))], (vmRun a.w (aRun a.w (evM x1) (fun k : Nat => 7 * (k : Int)) ([], zst, false) k).2.1 (evM x1 k)).1, !decide ((vmRun a.w (aRun a.w (evM x1) (fun k : Nat => 7 * (k : Int)) ([], zst, false) k).2.1 (evM x1 k)).2.2 = 0)) := by
            rw [aRun]; unfold aDo; rw [if_pos h0]
          have := f1.lg.few (aRun a.w (evM x1) (fun k : Nat => 7 * (k : Int)) ([], zst, false) k).1.length (by rw [hA1]; simp)
          rw [hA1] at this
          simp only [nth_sl] at this
          exact this
        · simp [zent]
      have hw7 : IntKind.i64.wrap (7 * (k : Int)) = 7 * (k : Int) := w64 (by omega) (by omega)
      simp only [isochronlaw10vLogKeeps.l4b]
      rw [if_pos (by omega), if_pos (by omega), evs_nth' hk, log_eta a _ g2 g4 g3, log_eta a' _ (g2'.trans hww.symm) g4' g3', hw7]
      show Option.bind (log_Log_Do.f _ _ ((fun k : Nat => 7 * (k : Int)) k) _) (fun x => Option.bind (log_Log_Do.f _ _ ((fun k : Nat => 7 * (k : Int)) k) _) _) = _
      rw [hr, hr']
      simp only [Option.bind_some]
      rw [entry_self _ (by omega)]
      simp only [Option.bind_some, if_true]
      rw [log_eta a _ f2 f4 f3, log_eta a' _ (f2'.trans hww.symm) f4' f3', w64 (x := (k : Int) + 1) (by omega) (by omega)]
      rfl
    · obtain ⟨g1, g2, g3, g4⟩ := L (evs x1).length (Nat.le_refl _)
      obtain ⟨g1', g2', g3', g4'⟩ := L' (evs x1).length (Nat.le_refl _)
      generalize hB : aRun a.w (evM x1) (fun k : Nat => 7 * (k : Int)) ([], zst, false) (evs x1).length = B at g1 g1'
      generalize hc : lRun a ([], zst, false) (evM x1) (fun k : Nat => 7 * (k : Int)) (evs x1).length = c at g1 g2 g3 g4
      generalize hc' : lRun a' ([], zst, false) (evM x1) (fun k : Nat => 7 * (k : Int)) (evs x1).length = c' at g1' g2' g3' g4'
      have g2' := g2'.trans hww.symm
      simp only [isochronlaw10vLogKeeps.l4b]
      rw [if_neg (by omega)]
      by_cases hz : 0 < ((evs x1).length : Int)
      · rw [if_pos hz, if_pos (by omega)]
        have hw2 : IntKind.i64.wrap x2 = x2 := w64 (by omega) (by omega)
        have hw3 : IntKind.i64.wrap x3 = x3 := w64 (by omega) (by omega)
        have t1 := Int.tmod_nonneg ((evs x1).length : Int) hx2.1
        have t2 := Int.tmod_lt_of_pos x2 hz
        have t3 := Int.tmod_nonneg ((evs x1).length : Int) hx3.1
        have t4 := Int.tmod_lt_of_pos x3 hz
        obtain ⟨d, ed⟩ : ∃ k : Nat, Int.tmod (IntKind.i64.wrap x2) ((evs x1).length : Int) = (k : Int) := ⟨(Int.tmod x2 ((evs x1).length : Int)).toNat, by rw [hw2]; omega⟩
        obtain ⟨k, ek⟩ : ∃ k : Nat, Int.tmod (IntKind.i64.wrap x3) ((evs x1).length : Int) = (k : Int) := ⟨(Int.tmod x3 ((evs x1).length : Int)).toNat, by rw [hw3]; omega⟩
        rw [ed, ek]
        rw [hw2] at ed
        rw [hw3] at ek
        have hd : d < (evs x1).length := by omega
        have hk : k < (evs x1).length := by omega
        rw [if_pos (by omega), log_eta a _ g2 g4 g3, log_eta a' _ g2' g4' g3', drop_abs g1, drop_abs g1']
        simp only [Option.bind_some]
        generalize (nth (evs x1) (d : Int)).Key.Time = t
        have hdA := g1.drop t
        have hdA' := g1'.drop t
        have hself : isochronlaw10ventries.f (B.1.take (nT B.1 t)) (B.1.take (nT B.1 t)) = some true := by
          have hT := nT_le B.1 t
          have hl := g1.lg.len
          have hf := g1.ok.few
          have hl1 : (B.1.take (nT B.1 t)).length = nT B.1 t := by rw [List.length_take]; omega
          refine entries_self _ (by omega) (fun j hj => ?_)
          rw [show nth (B.1.take (nT B.1 t)) (j : Int) = nth B.1 (j : Int) by rw [nth_nat (by omega), nth_nat (by omega), List.getElem_take]]
          have := g1.lg.few j (by omega); omega
        rw [hself]
        simp only [Option.bind_some, if_true]
        have e1 : (⟨a.w, a.made, c.state, a.every, dropL c B.1 t, c.stuck⟩ : log_Log) = dropA c B t := by unfold dropA; rw [g2, g4, g3]
        have e2 : (⟨a'.w, a'.made, c'.state, a'.every, dropL c' B.1 t, c'.stuck⟩ : log_Log) = dropA c' B t := by unfold dropA; rw [g2', g4', g3']
        rw [if_pos (by omega), e1, e2, evs_nth' hk, back_abs hdA, back_abs hdA']
        simp only [Option.bind_some]
        rw [gB_self hdA]
        simp only [Option.bind_some, if_true]
        obtain ⟨b1, b2, b3, b4⟩ := hdA.backC (evM x1 k)
        obtain ⟨b1', b2', b3', b4'⟩ := hdA'.backC (evM x1 k)
        rw [log_eta a _ (b2.trans g2) (b3.trans g4) (b4.trans g3), log_eta a' _ (b2'.trans g2') (b3'.trans g4') (b4'.trans g3')]
        exact congrArg (Option.map Sum.inr) (keeps_end b1 b1')
      · rw [if_neg hz, log_eta a _ g2 g4 g3, log_eta a' _ g2' g4' g3']
        exact congrArg (Option.map Sum.inr) (keeps_end g1 g1')
  · rw [if_neg hC, if_neg hC]
    simp [vm_check_eq, hC, awake_true]
end Go.Proofs.Gx
