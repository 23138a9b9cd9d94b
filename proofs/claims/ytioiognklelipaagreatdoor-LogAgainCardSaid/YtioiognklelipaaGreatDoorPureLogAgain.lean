/-
  The plain law LogAgain: events that are taken back, and done again, lead to the same entries and the same state.
-/
import Derived.Test.YtioiognklelipaaGreatDoorLogJ
import Derived.Test.YtioiognklelipaaGreatDoorW10
namespace Go.Proofs.Gx
open Go.Sl
set_option linter.unusedVariables false
set_option linter.unusedSimpArgs false
theorem len_abs {a : log_Log} {A : AL} {b : Int} (h : Has2 a A b) : log_Log_Len.f a = some (A.1.length : Int) := by
  unfold log_Log_Len.f log_Log_none.f
  simp only [h.ok.made, Bool.not_true, Option.bind_some, Bool.false_eq_true, if_false, h.lg.len]
theorem again_j8 {l : List Int} (hl : (okl (fun n => (Lit.int .u8 n).wf = true) 1) l) {y c : log_Log} (hw : c.w = y.w) (hm : c.made = y.made) (he : c.every = y.every) {A B : AL} {b : Int} (hc : Has2 c A b) (hb : b + 4096 * 200 ≤ 1125899906842624) (hB : Has2 c A b → isochronlaw10ventries.f B.1 B.1 = some true)
    {k : Nat} (hk : k < (evs l).length) (hA : A.1.length ≤ 100) (x : Int) (hx : Int.tmod (IntKind.i64.wrap x) ((evs l).length : Int) = (k : Int)) (hr : aRun y.w (fun j => evM l (k + j)) (fun _ => 0) A ((evs l).length - k) = B) :
    isochronlaw10vLogAgain.j8 x y (evs l) B.1 B.2.1 c = some true := by
  have hM := evs_len l
  unfold isochronlaw10vLogAgain.j8 isochronlaw10vLogAgain.l10
  have hv : ∀ j, j < (evs l).length - k → Vin (evM l (k + j)) := fun j hj => evs_vin hl (k + j) (by omega)
  have L := fun i => lRun_has hc hv (fun _ => 0) (by omega) (by omega) hb i
  rw [log_eta y c hw hm he, hx]
  refine (show loopR _ ((fun i : Nat => (lRun c A (fun j => evM l (k + j)) (fun _ => 0) i, ((k + i : Nat) : Int))) 0) = _ from loopR_steps (fun i : Nat => (lRun c A (fun j => evM l (k + j)) (fun _ => 0) i, ((k + i : Nat) : Int))) ((evs l).length - k) (fun i hi => ?_) ?_)
  · obtain ⟨g1, g2, g3, g4⟩ := L i (by omega)
    obtain ⟨f1, f2, f3, f4⟩ := L (i + 1) (by omega)
    have hr := run_do hc hv (fun _ => 0) (by omega) (by omega) hb hi
    simp only [isochronlaw10vLogAgain.l10b]
    rw [if_pos (by omega), if_pos (by omega), evs_nth' (show k + i < (evs l).length by omega), log_eta y _ (g2.trans hw) (g4.trans hm) (g3.trans he)]
    show Option.bind (log_Log_Do.f _ ((fun j => evM l (k + j)) i) ((fun _ => 0) i) _) _ = _
    rw [hr]
    simp only [Option.bind_some]
    rw [log_eta y _ (f2.trans hw) (f4.trans hm) (f3.trans he), w64 (by omega) (by omega)]
    rfl
  · obtain ⟨g1, g2, g3, g4⟩ := L ((evs l).length - k) (Nat.le_refl _)
    rw [hw, hr] at g1
    simp only [isochronlaw10vLogAgain.l10b]
    rw [if_neg (by omega), log_eta y _ (g2.trans hw) (g4.trans hm) (g3.trans he), all_abs g1]
    simp only [Option.bind_some]
    rw [hB hc]
    simp only [Option.bind_some, if_true]
    rw [state_abs g1]
    simp
theorem Pure.logAgain (x0 : api_World) (h0 : ok_api_World x0) (x1 : (List Int)) (h1 : (okl (fun n => (Lit.int .u8 n).wf = true) 1) x1) (x2 : Int) (h2 : (fun n => (Lit.int .u8 n).wf = true) x2) (x3 : Int) (h3 : (fun n => (Lit.int .u8 n).wf = true) x3) : isochronlaw10vLogAgain.f x0 x1 x2 x3 = some true := by
  have he := every_in h3
  have hx2 := wf8 h2
  have hM := evs_len x1
  unfold isochronlaw10vLogAgain.f
  generalize IntKind.i64.wrap (1 + IntKind.i64.wrap (Int.tmod x3 20)) = e at he
  rw [show (⟨(⟨0, 0, 0, 0, 0, 0, 0, 0⟩ : Arr8xInti64), 0, 0⟩ : api_State) = zst from rfl, new_eq _ _ he]
  simp only [Option.bind_some]
  by_cases hC : chkW x0 = 0
  · rw [if_pos hC]
    have hA := new_has hC e
    generalize ha : (⟨x0, true, zst, e, [], false⟩ : log_Log) = a at hA
    simp only [if_true]
    rw [events_eq h1]
    simp only [Option.bind_some]
    unfold isochronlaw10vLogAgain.l7
    have e0 : (⟨a.w, a.made, a.state, a.every, [], a.stuck⟩ : log_Log) = a := by rw [← ha]
    rw [e0]
    have hu : ∀ k, k < (evs x1).length → (0 : Int) ≤ (fun _ : Nat => (0 : Int)) k ∧ (fun _ : Nat => (0 : Int)) k ≤ 1099511627776 := fun _ _ => ⟨Int.le_refl 0, show (0 : Int) ≤ 1099511627776 by decide⟩
    have L := fun k => lRun_has hA (evs_vin h1) (fun _ => 0) (by simp) (show (evs x1).length ≤ 200 by omega) (by decide) k
    refine (show loopR _ ((fun k : Nat => (lRun a ([], zst, false) (evM x1) (fun _ => 0) k, (k : Int))) 0) = _ from loopR_steps (fun k : Nat => (lRun a ([], zst, false) (evM x1) (fun _ => 0) k, (k : Int))) (evs x1).length (fun k hk => ?_) ?_)
    · obtain ⟨g1, g2, g3, g4⟩ := L k (by omega)
      obtain ⟨f1, f2, f3, f4⟩ := L (k + 1) (by omega)
      have hr := run_do hA (evs_vin h1) (fun _ => 0) (by simp) (show (evs x1).length ≤ 200 by omega) (by decide) hk
      simp only [isochronlaw10vLogAgain.l7b]
      rw [if_pos (by omega), if_pos (by omega), evs_nth' hk, log_eta a _ g2 g4 g3]
      show Option.bind (log_Log_Do.f _ _ ((fun _ => 0) k) _) _ = _
      rw [hr]
      simp only [Option.bind_some]
      rw [log_eta a _ f2 f4 f3, w64 (by omega) (by omega)]
      rfl
    · obtain ⟨g1, g2, g3, g4⟩ := L (evs x1).length (Nat.le_refl _)
      have hF := run_fits h1 a.w hu (evs x1).length (Nat.le_refl _)
      have hP := run_pre h1 a.w hu (evs x1).length (Nat.le_refl _)
      have hAl := aRun_len a.w (evM x1) (fun _ => 0) ([], zst, false) (evs x1).length
      generalize hB : aRun a.w (evM x1) (fun _ => 0) ([], zst, false) (evs x1).length = B at g1 hF hP hAl
      generalize hc : lRun a ([], zst, false) (evM x1) (fun _ => 0) (evs x1).length = c at g1 g2 g3 g4
      have hself := ents_self g1
      simp only [List.length_nil] at hAl
      simp only [isochronlaw10vLogAgain.l7b]
      rw [if_neg (by omega), log_eta a _ g2 g4 g3, all_abs g1]
      simp only [Option.bind_some]
      rw [state_abs g1]
      simp only [Option.bind_some]
      by_cases hz : ((evs x1).length : Int) = 0
      · rw [if_pos hz]
        have : B.1.length = 0 := by omega
        rw [this]; rfl
      · have hw2 : IntKind.i64.wrap x2 = x2 := w64 (by omega) (by omega)
        have t1 := Int.tmod_nonneg ((evs x1).length : Int) hx2.1
        have t2 := Int.tmod_lt_of_pos x2 (show (0 : Int) < ((evs x1).length : Int) by omega)
        rw [if_neg hz, if_pos hz, if_pos (by rw [hw2]; omega)]
        obtain ⟨k, ek⟩ : ∃ k : Nat, Int.tmod (IntKind.i64.wrap x2) ((evs x1).length : Int) = (k : Int) := ⟨(Int.tmod x2 ((evs x1).length : Int)).toNat, by rw [hw2]; omega⟩
        have hk : k < (evs x1).length := by rw [hw2] at ek; omega
        have hfb := fB_ev h1 hF.ev hF.le hk B.1.length (Nat.le_refl _)
        obtain ⟨b1, b2, b3, b4⟩ := g1.backC (evM x1 k)
        have hgl : (gB B (evM x1 k)).length = B.1.length - min B.1.length k := by
          unfold gB
          rw [hfb]
          split
          · simp; omega
          · simp
        have hbA : aBack B (evM x1 k) = if k < B.1.length then aRun a.w (evM x1) (fun _ => 0) ([], zst, false) k else B := by
          unfold aBack
          rw [hfb]
          by_cases hlt : k < B.1.length
          · rw [if_neg (by omega), if_pos hlt, show min B.1.length k = k by omega, hP k hlt]
          · rw [if_pos (by omega), if_neg hlt]
        have hj : isochronlaw10vLogAgain.j8 x2 a (evs x1) B.1 B.2.1 (backC c B (evM x1 k)) = some true := by
          refine again_j8 (A := aBack B (evM x1 k)) h1 (b2.trans g2) (b3.trans g4) (b4.trans g3) b1 (by omega) (fun _ => hself) hk ?_ x2 ek ?_
          · have := b1.lg.len
            rw [hbA]
            split
            · have := aRun_len a.w (evM x1) (fun _ => 0) ([], zst, false) k
              simp only [List.length_nil] at this
              omega
            · omega
          · rw [hbA]
            by_cases hlt : k < B.1.length
            · rw [if_pos hlt]
              have := run_shift a.w (evM x1) (fun _ => 0) ([], zst, false) k ((evs x1).length - k)
              rw [show k + ((evs x1).length - k) = (evs x1).length by omega, hB] at this
              exact this
            · rw [if_neg hlt]
              refine run_stuck a.w _ _ ?_ _
              by_cases hs : B.2.2 = true
              · exact hs
              · have := hF.all (by simpa using hs); omega
        rw [ek, evs_nth' hk, back_abs g1]
        simp only [Option.bind_some]
        rw [hj, log_eta a _ (b2.trans g2) (b3.trans g4) (b4.trans g3), state_abs b1, len_abs b1, hgl, hbA]
        simp only [Option.bind_some]
        by_cases hlt : k < B.1.length
        · rw [if_pos (by omega), if_pos (by rw [w64 (by omega) (by omega)]; omega), if_pos (by rw [if_pos hlt, hP k hlt]), if_pos (by rw [if_pos hlt, hP k hlt, List.length_take]; omega)]
          rfl
        · rw [if_neg (by omega)]
          rfl
  · rw [if_neg hC]
    simp [vm_check_eq, hC, awake_true]
end Go.Proofs.Gx
