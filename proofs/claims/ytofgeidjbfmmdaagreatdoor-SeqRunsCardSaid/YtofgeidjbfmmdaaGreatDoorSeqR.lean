/-
  The reference's step is the program's.
-/
import Derived.Test.YtofgeidjbfmmdaaGreatDoorSeq
import Derived.Test.YtofgeidjbfmmdaaGreatDoorOrdR
import Derived.Test.YtofgeidjbfmmdaaGreatDoorVmRef
import Derived.Test.YtofgeidjbfmmdaaGreatDoorW14
namespace Go.Proofs.Gx
open Go.Sl
set_option linter.unusedVariables false
set_option linter.unusedSimpArgs false
theorem ref_sends_eq {w : api_World} {s : api_State} {m : api_Message} {l : List api_Out} (hF : Fine w m) (ho : OutOK w m l) (hl : l.length ≤ 8) (hs : 0 ≤ s.Sent ∧ s.Sent ≤ 1125899906842624) : isochronref05vSends.f w s m l 0 = some (sendsU w s m l) := by
  have ht := hF.time
  unfold isochronref05vSends.f isochronref05vSends.l2
  refine (show loopR (isochronref05vSends.l2b w s m l 0) ((fun k : Nat => ((List.range k).map (fun k => sendU w s m l k (k : Int)), ((k : Nat) : Int))) 0) = _ from loopR_steps (fun k : Nat => ((List.range k).map (fun k => sendU w s m l k (k : Int)), ((k : Nat) : Int))) l.length (fun k hk => ?_) ?_)
  · obtain ⟨⟨⟨c1, c2⟩, c3, c4⟩, _⟩ := ho _ (nth_mem (xs := l) (i := (k : Int)) (by omega) (by omega))
    have c5 : 1 ≤ (nth l (k : Int)).Delay := by
      have := hF.look (nth l (k : Int)).Link.toNat (by omega)
      rw [Int.toNat_of_nonneg c1] at this
      omega
    simp only [isochronref05vSends.l2b]
    rw [if_pos (by omega), if_pos (by omega), if_neg (by omega), if_neg (by omega), w64 (x := 4611686018427387903 - m.Key.Time) (by omega) (by omega), if_neg (by omega), if_pos ⟨c1, c2⟩, if_pos (by simp only [List.length_map, List.length_range]; omega),
      w64 (x := m.Key.Time + (nth l (k : Int)).Delay) (by omega) (by omega), w64 (x := s.Sent + (k : Int)) (by omega) (by omega), w64 (x := 0 + (k : Int)) (by omega) (by omega), w64 (x := (k : Int) + 1) (by omega) (by omega), List.range_succ, List.map_append, Int.zero_add]
    rfl
  · simp only [isochronref05vSends.l2b]
    rw [if_neg (by omega)]
    rfl
def refOut (s : SS) (r : (Int × Int) ⊕ SS) : Int × SS := match r with
  | .inl x => (x.1, s)
  | .inr s' => (0, s')
theorem ref_step_eq {m : api_Model} (hC : chkM m = 0) {s : SS} (hg : Good m s) :
    isochronref14vone_step.f m.Progs m.Links m.Starts m.Seed m.End m.Budget (worldsP m) s.1 s.2.1 s.2.2 = some (refOut s (oneStep (worldsP m) m.End m.Budget s)) := by
  obtain ⟨st, wt, dn⟩ := s
  have hz := sizes_of hC
  have hmany := hg.many
  have hdone := hg.done
  simp only at hmany hdone
  unfold isochronref14vone_step.f oneStep
  simp only
  by_cases h1 : (wt.length : Int) = 0
  · rw [if_pos h1, if_pos h1]; rfl
  rw [if_neg h1, if_neg h1, if_pos (by omega)]
  by_cases h2 : m.End < (nth wt 0).Key.Time
  · rw [if_pos h2, if_pos h2]; rfl
  rw [if_neg h2, if_neg h2]
  by_cases h3 : m.Budget ≤ (dn.length : Int)
  · rw [if_pos h3, if_pos h3]; rfl
  rw [if_neg h3, if_neg h3]
  obtain ⟨p, hf⟩ := first_of hg h1
  have hp := hf.lt
  have ht : (nth wt 0).To = (p : Int) := hf.to
  have hn : st.length = m.Progs.length := hg.n
  have hmsg : (⟨(nth wt 0).Key, (p : Int), (nth wt 0).Value, (nth wt 0).Uid, (nth wt 0).Anti⟩ : api_Message) = nth wt 0 := by rw [← ht]
  rw [ht, if_pos ⟨by omega, by rw [worlds_len]; omega⟩, if_pos (by rw [hn]; omega), worlds_nth hp,
    show isochronref05vRun.f (wldW m p) (nth st (p : Int)) (⟨(nth wt 0).Key, (p : Int), (nth wt 0).Value, (nth wt 0).Uid, (nth wt 0).Anti⟩ : api_Message) = some (vmRun (wldW m p) (nth st (p : Int)) (nth wt 0)) by
      rw [hmsg]; exact ref_run_eq _ _ _ (hg.regs p hp) hf.val]
  simp only [Option.bind_some]
  generalize hr : vmRun (wldW m p) (nth st (p : Int)) (nth wt 0) = r
  obtain ⟨s', l, f⟩ := r
  simp only
  unfold isochronref14vone_step.j4
  by_cases h4 : f = 0
  · subst h4
    have hR := vmRun_zero (hg.regs p hp) hf.val (by show (vmRun (wldW m p) (nth st (p : Int)) (nth wt 0)).2.2 = 0; rw [hr])
    have hR : RunOK (wldW m p) (nth st (p : Int)) (nth wt 0) := hR
    have hout := hR.outs
    have hfew := hR.few
    rw [hr] at hout hfew
    simp only at hout hfew
    rw [if_neg (by decide), if_pos rfl, if_pos rfl, if_pos (by rw [ht, worlds_len]; omega), if_pos (by rw [ht, hn]; omega)]
    rw [show isochronref05vSends.f (nth (worldsP m) (nth wt 0).To) (nth st (nth wt 0).To) (⟨(nth wt 0).Key, (nth wt 0).To, (nth wt 0).Value, (nth wt 0).Uid, (nth wt 0).Anti⟩ : api_Message) l 0 = some (sendsU (wldW m p) (nth st (p : Int)) (nth wt 0) l) by
      rw [ht, worlds_nth hp, hmsg]; exact ref_sends_eq hR.fine hout hfew hR.st.2]
    simp only [Option.bind_some]
    rw [if_pos (by omega)]
    unfold isochronref14vone_step.l6
    have hd : subL wt 1 (wt.length : Int) = wt.drop 1 := by simp only [subL, Int.toNat_natCast]; exact List.take_of_length_le (by simp)
    rw [hd]
    have hsl : (sendsU (wldW m p) (nth st (p : Int)) (nth wt 0) l).length = l.length := by simp [sendsU]
    have hin : ∀ k : Nat, k ≤ l.length → (insAll (wt.drop 1) ((List.range k).map (fun k => sendU (wldW m p) (nth st (p : Int)) (nth wt 0) l k 0))).length ≤ 1000000 := fun k hk => by
      rw [insAll_len]; simp only [List.length_drop, List.length_map, List.length_range]; omega
    let zs : Nat → List api_Message := fun k => (List.range l.length).map (fun j => sendU (wldW m p) (nth st (p : Int)) (nth wt 0) l j (if j < k then 0 else (j : Int)))
    have hzl : ∀ k, (zs k).length = l.length := fun k => by simp [zs]
    have hz0 : zs 0 = sendsU (wldW m p) (nth st (p : Int)) (nth wt 0) l := by simp [zs, sendsU]
    rw [← hz0]
    refine (show loopR _ ((fun k : Nat => (insAll (wt.drop 1) ((List.range k).map (fun k => sendU (wldW m p) (nth st (p : Int)) (nth wt 0) l k 0)), zs k, ((k : Nat) : Int))) 0) = _ from loopR_steps (fun k : Nat => (insAll (wt.drop 1) ((List.range k).map (fun k => sendU (wldW m p) (nth st (p : Int)) (nth wt 0) l k 0)), zs k, ((k : Nat) : Int))) l.length (fun k hk => ?_) ?_)
    · have hg' : nth (zs k) (k : Int) = sendU (wldW m p) (nth st (p : Int)) (nth wt 0) l k (k : Int) := by
        rw [nth_nat (by rw [hzl]; exact hk)]; simp [zs]
      have hset : setL (zs k) (k : Int) (sendU (wldW m p) (nth st (p : Int)) (nth wt 0) l k 0) = zs (k + 1) := by
        apply List.ext_getElem
        · rw [setL_len, hzl, hzl]
        · intro j h1 h2
          rw [hzl] at h2
          simp only [setL, Int.toNat_natCast, List.getElem_set, zs, List.getElem_map, List.getElem_range]
          by_cases hj : k = j
          · subst hj; rw [if_pos rfl, if_pos (by omega)]
          · rw [if_neg hj]
            by_cases hj2 : j < k
            · rw [if_pos hj2, if_pos (by omega)]
            · rw [if_neg hj2, if_neg (by omega)]
      simp only [isochronref14vone_step.l6b, hg']
      rw [if_pos (by rw [hzl]; omega), if_pos (by omega)]
      rw [show setL (zs k) (k : Int) (⟨(sendU (wldW m p) (nth st (p : Int)) (nth wt 0) l k (k : Int)).Key, (sendU (wldW m p) (nth st (p : Int)) (nth wt 0) l k (k : Int)).To, (sendU (wldW m p) (nth st (p : Int)) (nth wt 0) l k (k : Int)).Value, 0, (sendU (wldW m p) (nth st (p : Int)) (nth wt 0) l k (k : Int)).Anti⟩ : api_Message) = zs (k + 1) from hset]
      have hg2 : nth (zs (k + 1)) (k : Int) = sendU (wldW m p) (nth st (p : Int)) (nth wt 0) l k 0 := by
        rw [nth_nat (by rw [hzl]; exact hk)]; simp [zs]
      rw [hg2, if_pos (by rw [hzl]; omega), insert_eq _ _ (hin k (by omega))]
      simp only [Option.bind_some]
      rw [w64 (by omega) (by omega), List.range_succ, List.map_append, List.map_singleton, insAll_snoc]
      rfl
    · simp only [isochronref14vone_step.l6b]
      rw [if_neg (by rw [hzl]; omega), if_pos (by omega), ht]
      rfl
  · by_cases h5 : f = 10
    · rw [if_pos h5, if_neg h4, if_pos h5]; rfl
    · rw [if_neg h5, if_neg h4, if_neg h4, if_neg h5]; rfl
end Go.Proofs.Gx
