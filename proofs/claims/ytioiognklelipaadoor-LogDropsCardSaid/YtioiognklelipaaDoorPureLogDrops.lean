/-
  The plain law LogDrops: what is dropped stays done.
-/
import Derived.Test.YtioiognklelipaaDoorLogH
import Derived.Test.YtioiognklelipaaDoorW11
namespace Go.Proofs.Gx
open Go.Sl
set_option linter.unusedVariables false
set_option linter.unusedSimpArgs false
/-- what the law looks at behind the events -/
theorem drops_end {c : log_Log} {A : AL} {b : Int} (h : Has2 c A b) (t : Int) (ht : 0 ≤ t ∧ t ≤ 255) (y : log_Log) (hw : c.w = y.w) (hm : c.made = y.made) (he : c.every = y.every) (n : Int) (ms : List api_Message) (hn : ¬ n < (ms.length : Int)) :
    isochronlaw10vLogDrops.l6b t y ms (c, n) = some (.inr true) := by
  have hl := h.lg.len
  have hf := h.ok.few
  have hT := nT_le A.1 t
  have hd := h.drop t
  have e1 : ∀ L : List log_done, (⟨y.w, y.made, c.state, y.every, L, c.stuck⟩ : log_Log) = ⟨c.w, c.made, c.state, c.every, L, c.stuck⟩ := fun L => by rw [hw, hm, he]
  have e2 : (⟨c.w, c.made, c.state, c.every, dropL c A.1 t, c.stuck⟩ : log_Log) = dropA c A t := rfl
  have e3 : IntKind.i64.wrap t = t := w64 (by omega) (by omega)
  have hl1 : (A.1.take (nT A.1 t)).length = nT A.1 t := by rw [List.length_take]; omega
  have hl2 : (A.1.drop (nT A.1 t)).length = A.1.length - nT A.1 t := List.length_drop
  have s1 : subL A.1 0 (nT A.1 t : Int) = A.1.take (nT A.1 t) := by simp [subL]
  have s2 : subL A.1 (nT A.1 t : Int) (A.1.length : Int) = A.1.drop (nT A.1 t) := by
    have := hl2
    simp [subL]
    rw [List.take_of_length_le (by rw [List.length_drop]; omega)]
  have h1 : isochronlaw10ventries.f (A.1.take (nT A.1 t)) (A.1.take (nT A.1 t)) = some true := by
    refine entries_self _ (by omega) (fun k hk => ?_)
    rw [show nth (A.1.take (nT A.1 t)) (k : Int) = nth A.1 (k : Int) by rw [nth_nat (by omega), nth_nat (by omega), List.getElem_take]]
    have := h.lg.few k (by omega); omega
  have h2 : isochronlaw10ventries.f (A.1.drop (nT A.1 t)) (A.1.drop (nT A.1 t)) = some true := ents_self hd
  have hz : nT (A.1.drop (nT A.1 t)) t = 0 := by
    rcases Nat.lt_or_ge (nT A.1 t) A.1.length with hlt | hge
    · have := nT_ge hlt
      rw [nth_nat hlt] at this
      rw [List.drop_eq_getElem_cons hlt, nT, List.takeWhile_cons_of_neg (by simpa using this)]
      rfl
    · rw [List.drop_eq_nil_of_le hge]; rfl
  have hk : ∃ k : Int, log_Log_Kept.f (dropA (dropA c A t) (A.1.drop (nT A.1 t), A.2.1, A.2.2) t) = some k ∧ 1 ≤ k := by
    obtain ⟨k, k1, k2, _⟩ := kept_abs (hd.drop t)
    exact ⟨k, k1, k2⟩
  obtain ⟨K, hK1, hK2⟩ := hk
  have hlast : isochronlaw10vLogDrops.l8 t y c (A.1.take (nT A.1 t)) (dropL c A.1 t) (A.1.drop (nT A.1 t)) 0 = some true := by
    unfold isochronlaw10vLogDrops.l8
    refine (show loopR _ ((fun k : Nat => (k : Int)) 0) = _ from loopR_steps (fun k : Nat => (k : Int)) (nT A.1 t) (fun k hk => ?_) ?_)
    · have := nT_lt hk
      have e : nth (A.1.take (nT A.1 t)) (k : Int) = nth A.1 (k : Int) := by rw [nth_nat (by omega), nth_nat (by omega), List.getElem_take]
      simp only [isochronlaw10vLogDrops.l8b, hl1, e, e3]
      rw [if_pos (by omega), if_pos (by omega), if_neg (by omega), w64 (by omega) (by omega)]
      rfl
    · have e4 : (⟨(dropA c A t).w, (dropA c A t).made, (dropA c A t).state, (dropA c A t).every, dropL (dropA c A t) (A.1.drop (nT A.1 t)) t, (dropA c A t).stuck⟩ : log_Log) = dropA (dropA c A t) (A.1.drop (nT A.1 t), A.2.1, A.2.2) t := rfl
      have g : Option.bind (log_Log_Drop.f (⟨y.w, y.made, c.state, y.every, dropL c A.1 t, c.stuck⟩ : log_Log) t) (fun (x : List api_Entry × List log_done) => (if (x.1.length : Int) = 0 then ((log_Log_Kept.f (⟨y.w, y.made, c.state, y.every, x.2, c.stuck⟩ : log_Log)).bind fun t984 => some (decide (1 ≤ t984))) else some false)) = some true := by
        rw [e1, e2, drop_abs hd, hz]
        simp only [Option.bind_some, List.take_zero, List.length_nil]
        rw [if_pos (by omega), e1]
        show Option.bind (log_Log_Kept.f (dropA (dropA c A t) (A.1.drop (nT A.1 t), A.2.1, A.2.2) t)) _ = _
        rw [hK1]
        simp only [Option.bind_some, decide_eq_true hK2]
      simp only [isochronlaw10vLogDrops.l8b, hl1, hl2, e3]
      rw [if_neg (by omega)]
      by_cases hz' : ((A.1.length - nT A.1 t : Nat) : Int) = 0
      · rw [if_pos hz']
        exact congrArg (Option.map Sum.inr) g
      · rw [if_neg hz', if_pos (by omega), if_pos]
        · exact congrArg (Option.map Sum.inr) g
        · have hlt : nT A.1 t < A.1.length := by omega
          have := nT_ge hlt
          have e5 : nth (A.1.drop (nT A.1 t)) 0 = nth A.1 (nT A.1 t : Int) := by
            have : nth (A.1.drop (nT A.1 t)) ((0 : Nat) : Int) = _ := nth_nat (by omega)
            rw [show (0 : Int) = ((0 : Nat) : Int) from rfl, this, nth_nat hlt, List.getElem_drop]
            simp
          rw [e5]
          omega
  simp only [isochronlaw10vLogDrops.l6b]
  rw [if_neg hn, e1]
  show Option.map Sum.inr (Option.bind (log_Log_All.f c) _) = _
  rw [all_abs h]
  simp only [Option.bind_some]
  show Option.map Sum.inr (Option.bind (log_Log_State.f c) _) = _
  rw [state_abs h]
  simp only [Option.bind_some]
  show Option.map Sum.inr (Option.bind (log_Log_Drop.f c _) _) = _
  rw [e3, drop_abs h]
  simp only [Option.bind_some]
  rw [e1, e2, all_abs hd]
  simp only [Option.bind_some, hl1, hl2]
  rw [w64 (x := (nT A.1 t : Int) + _) (by omega) (by omega), if_pos (by omega), state_abs hd]
  simp only [Option.bind_some, if_true]
  rw [if_pos (by omega), s1, h1]
  simp only [Option.bind_some, if_true]
  rw [s2, h2]
  simp only [Option.bind_some, if_true]
  rw [hlast]
  rfl
theorem Pure.logDrops (x0 : api_World) (h0 : ok_api_World x0) (x1 : (List Int)) (h1 : (okl (fun n => (Lit.int .u8 n).wf = true) 1) x1) (x2 : Int) (h2 : (fun n => (Lit.int .u8 n).wf = true) x2) (x3 : Int) (h3 : (fun n => (Lit.int .u8 n).wf = true) x3) : isochronlaw10vLogDrops.f x0 x1 x2 x3 = some true := by
  have he := every_in h3
  unfold isochronlaw10vLogDrops.f
  generalize IntKind.i64.wrap (1 + IntKind.i64.wrap (Int.tmod x3 20)) = e at he
  rw [show (⟨(⟨0, 0, 0, 0, 0, 0, 0, 0⟩ : Arr8xInti64), 0, 0⟩ : api_State) = zst from rfl, new_eq _ _ he]
  simp only [Option.bind_some]
  by_cases hC : chkW x0 = 0
  · rw [if_pos hC]
    have hA := new_has hC e
    generalize ha : (⟨x0, true, zst, e, [], false⟩ : log_Log) = a at hA
    simp only []
    rw [events_eq h1]
    simp only [Option.bind_some]
    unfold isochronlaw10vLogDrops.l6
    have hM : (evs x1).length ≤ 200 := by rw [evs_len]; omega
    have e0 : (⟨a.w, a.made, a.state, a.every, [], a.stuck⟩ : log_Log) = a := by rw [← ha]
    rw [e0]
    refine (show loopR _ ((fun k : Nat => (lRun a ([], zst, false) (evM x1) (fun _ => 0) k, (k : Int))) 0) = _ from loopR_steps (fun k : Nat => (lRun a ([], zst, false) (evM x1) (fun _ => 0) k, (k : Int))) (evs x1).length (fun k hk => ?_) ?_)
    · obtain ⟨g1, g2, g3, g4⟩ := lRun_has hA (evs_vin h1) (fun _ => 0) (by simp) hM (by decide) k (by omega)
      obtain ⟨f1, f2, f3, f4⟩ := lRun_has hA (evs_vin h1) (fun _ => 0) (by simp) hM (by decide) (k + 1) (by omega)
      have hr := run_do hA (evs_vin h1) (fun _ => 0) (by simp) hM (by decide) hk
      have := evs_len x1
      simp only [isochronlaw10vLogDrops.l6b]
      rw [if_pos (by omega), if_pos (by omega), evs_nth' hk, log_eta a _ g2 g4 g3]
      show Option.bind (log_Log_Do.f _ _ ((fun _ => 0) k) _) _ = _
      rw [hr]
      simp only [Option.bind_some]
      rw [log_eta a _ f2 f4 f3, w64 (by omega) (by omega)]
      rfl
    · obtain ⟨g1, g2, g3, g4⟩ := lRun_has hA (evs_vin h1) (fun _ => 0) (by simp) hM (by decide) (evs x1).length (Nat.le_refl _)
      exact drops_end g1 x2 (wf8 h2) a g2 g4 g3 _ _ (by omega)
  · rw [if_neg hC]
    simp [vm_check_eq, hC, awake_true]
end Go.Proofs.Gx
