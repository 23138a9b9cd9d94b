/-
  The library's sort of messages, told plainly: ranges changed for one another, rotation, insertion.
-/
import Derived.Test.YtofgeidjbfmmdaaGreatDoorSortL
import Derived.Test.YtofgeidjbfmmdaaGreatDoorW20
import Derived.Test.YtofgeidjbfmmdaaGreatDoorW20
namespace Go.Proofs.Gx
open Go.Sl
set_option linter.unusedVariables false
set_option linter.unusedSimpArgs false
theorem swapR_eq (P U M V S : List api_Message) {a b n : Int} (hUV : U.length = V.length) (ha : a = (P.length : Int)) (hb : b = (P.length : Int) + U.length + M.length) (hn : n = (U.length : Int)) (hs : (P ++ (U ++ (M ++ (V ++ S)))).length ≤ 1099511627776) :
    slices_swapRangeCmpFunc_api_Message.f (P ++ (U ++ (M ++ (V ++ S)))) a b n = some (P ++ (V ++ (M ++ (U ++ S)))) := by
  subst ha hb hn
  have hl0 : (P ++ (U ++ (M ++ (V ++ S)))).length = P.length + (U.length + (M.length + (V.length + S.length))) := by simp
  rw [hl0] at hs
  unfold slices_swapRangeCmpFunc_api_Message.f slices_swapRangeCmpFunc_api_Message.l2
  have hst : ∀ k : Nat, k ≤ U.length → (P ++ (V.take k ++ (U.drop k ++ (M ++ (U.take k ++ (V.drop k ++ S)))))).length = P.length + (U.length + (M.length + (V.length + S.length))) := fun k hk => by
    simp only [List.length_append, List.length_take, List.length_drop]; omega
  refine (show loopR _ ((fun k : Nat => (P ++ (V.take k ++ (U.drop k ++ (M ++ (U.take k ++ (V.drop k ++ S))))), (k : Int))) 0) = _ from loopR_steps (fun k : Nat => (P ++ (V.take k ++ (U.drop k ++ (M ++ (U.take k ++ (V.drop k ++ S))))), (k : Int))) U.length (fun k hk => ?_) ?_)
  · have hk' : k < V.length := by omega
    have hl := hst k (by omega)
    simp only [slices_swapRangeCmpFunc_api_Message.l2b]
    rw [if_pos (by omega), w64 (x := (P.length : Int) + U.length + M.length + (k : Int)) (by omega) (by omega), w64 (x := (P.length : Int) + (k : Int)) (by omega) (by omega), w64 (x := (k : Int) + 1) (by omega) (by omega), if_pos (by rw [hl]; omega), if_pos (by rw [hl]; omega), if_pos (by rw [setL_len, hl]; omega)]
    have e1 : P ++ (V.take k ++ (U.drop k ++ (M ++ (U.take k ++ (V.drop k ++ S))))) = (P ++ V.take k) ++ U[k] :: ((U.drop (k + 1) ++ (M ++ U.take k)) ++ V[k] :: (V.drop (k + 1) ++ S)) := by
      rw [List.drop_eq_getElem_cons hk, List.drop_eq_getElem_cons hk']; simp only [List.append_assoc, List.cons_append]
    have e2 : P ++ (V.take (k + 1) ++ (U.drop (k + 1) ++ (M ++ (U.take (k + 1) ++ (V.drop (k + 1) ++ S))))) = (P ++ V.take k) ++ V[k] :: ((U.drop (k + 1) ++ (M ++ U.take k)) ++ U[k] :: (V.drop (k + 1) ++ S)) := by
      rw [List.take_succ_eq_append_getElem hk, List.take_succ_eq_append_getElem hk']; simp only [List.append_assoc, List.cons_append, List.nil_append]
    rw [e1, e2]
    refine congrArg (fun x => some (Sum.inl (x, (k : Int) + 1))) ?_
    exact swp_far (by simp only [List.length_append, List.length_take]; omega) (by simp only [List.length_append, List.length_take, List.length_drop]; omega)
  · have hl := hst U.length (Nat.le_refl _)
    simp only [slices_swapRangeCmpFunc_api_Message.l2b]
    rw [if_neg (by omega), if_pos (by rw [hl, hl0])]
    rw [List.take_of_length_le (l := V) (by omega), List.drop_of_length_le (l := U) (Nat.le_refl _), List.take_length, List.drop_of_length_le (l := V) (by omega)]
    simp
theorem rot_loop {d0 : List api_Message} {m : Int} (hd : d0.length ≤ 1099511627776) : ∀ (n : Nat) (P U V S : List api_Message), U.length + V.length ≤ n → 0 < U.length → 0 < V.length → m = (P.length : Int) + U.length → (P ++ (U ++ (V ++ S))).length = d0.length →
    loopR (slices_rotateCmpFunc_api_Message.l4b d0 m) (P ++ (U ++ (V ++ S)), (U.length : Int), (V.length : Int)) = some (P ++ (V ++ (U ++ S)))
  | 0, P, U, V, S, h, h1, h2, _, _ => by omega
  | n + 1, P, U, V, S, h, h1, h2, hm, hl => by
    have hl' := hl
    simp only [List.length_append] at hl'
    rw [loopR_eq]
    simp only [slices_rotateCmpFunc_api_Message.l4b]
    rw [w64 (x := m - (U.length : Int)) (by omega) (by omega), show m - (U.length : Int) = (P.length : Int) by omega]
    by_cases e : (U.length : Int) = (V.length : Int)
    · rw [if_pos e]
      have := swapR_eq P U [] V S (b := m) (n := (U.length : Int)) (by omega) rfl (by simp only [List.length_nil]; omega) rfl (by simp only [List.nil_append]; omega)
      simp only [List.nil_append] at this
      rw [this]
      simp only [Option.bind_some]
      rw [if_pos (by rw [← hl]; simp only [List.length_append]; omega)]
      rfl
    · rw [if_neg e]
      by_cases hlt : (V.length : Int) < (U.length : Int)
      · rw [if_pos hlt]
        have eU : U = U.take V.length ++ U.drop V.length := (List.take_append_drop _ _).symm
        generalize h3 : U.take V.length = U1 at eU
        generalize h4 : U.drop V.length = U2 at eU
        have l1 : U1.length = V.length := by rw [← h3, List.length_take]; omega
        have l2 : U2.length = U.length - V.length := by rw [← h4, List.length_drop]
        have hs1 : (P ++ (U1 ++ (U2 ++ (V ++ S)))).length ≤ 1099511627776 := by simp only [List.length_append]; omega
        have := swapR_eq P U1 U2 V S (b := m) (n := (V.length : Int)) l1 rfl (by omega) (by omega) hs1
        have e5 : P ++ (U ++ (V ++ S)) = P ++ (U1 ++ (U2 ++ (V ++ S))) := by rw [eU]; simp
        rw [e5, this]
        simp only [Option.bind_some]
        rw [w64 (x := (U.length : Int) - (V.length : Int)) (by omega) (by omega)]
        have ih := rot_loop (m := m) hd n (P ++ V) U2 U1 S (by omega) (by omega) (by omega) (by simp only [List.length_append]; omega) (by simp only [List.length_append]; omega)
        show loopR _ (P ++ (V ++ (U2 ++ (U1 ++ S))), (U.length : Int) - (V.length : Int), (V.length : Int)) = _
        rw [show (U.length : Int) - (V.length : Int) = (U2.length : Int) by omega, show (V.length : Int) = (U1.length : Int) by omega, show P ++ (V ++ (U2 ++ (U1 ++ S))) = (P ++ V) ++ (U2 ++ (U1 ++ S)) by simp, ih, eU]
        simp
      · rw [if_neg hlt]
        have eV : V = V.take (V.length - U.length) ++ V.drop (V.length - U.length) := (List.take_append_drop _ _).symm
        generalize h3 : V.take (V.length - U.length) = V1 at eV
        generalize h4 : V.drop (V.length - U.length) = V2 at eV
        have l1 : V1.length = V.length - U.length := by rw [← h3, List.length_take]; omega
        have l2 : V2.length = U.length := by rw [← h4, List.length_drop]; omega
        have hs1 : (P ++ (U ++ (V1 ++ (V2 ++ S)))).length ≤ 1099511627776 := by simp only [List.length_append]; omega
        have := swapR_eq P U V1 V2 S (b := m + (V.length : Int) - (U.length : Int)) (n := (U.length : Int)) l2.symm rfl (by omega) rfl hs1
        have e5 : P ++ (U ++ (V ++ S)) = P ++ (U ++ (V1 ++ (V2 ++ S))) := by rw [eV]; simp
        rw [e5, w64 (x := m + (V.length : Int)) (by omega) (by omega), w64 (x := m + (V.length : Int) - (U.length : Int)) (by omega) (by omega), this]
        simp only [Option.bind_some]
        rw [w64 (x := (V.length : Int) - (U.length : Int)) (by omega) (by omega)]
        have ih := rot_loop (m := m) hd n P V2 V1 (U ++ S) (by omega) (by omega) (by omega) (by omega) (by simp only [List.length_append]; omega)
        show loopR _ (P ++ (V2 ++ (V1 ++ (U ++ S))), (U.length : Int), (V.length : Int) - (U.length : Int)) = _
        rw [show (V.length : Int) - (U.length : Int) = (V1.length : Int) by omega, show (U.length : Int) = (V2.length : Int) by omega, ih, eV]
        simp
theorem rotate_eq (P U V S : List api_Message) {a m b : Int} (hU : 0 < U.length) (hV : 0 < V.length) (ha : a = (P.length : Int)) (hm : m = (P.length : Int) + U.length) (hb : b = (P.length : Int) + U.length + V.length) (hs : (P ++ (U ++ (V ++ S))).length ≤ 1099511627776) :
    slices_rotateCmpFunc_api_Message.f (P ++ (U ++ (V ++ S))) a m b = some (P ++ (V ++ (U ++ S))) := by
  have hl' := hs
  simp only [List.length_append] at hl'
  unfold slices_rotateCmpFunc_api_Message.f slices_rotateCmpFunc_api_Message.l4
  rw [w64 (x := m - a) (by omega) (by omega), w64 (x := b - m) (by omega) (by omega), show m - a = (U.length : Int) by omega, show b - m = (V.length : Int) by omega]
  exact rot_loop hs _ P U V S (Nat.le_refl _) hU hV hm rfl
/-! ### insertion -/
theorem ins_inner {a : Int} {i : Int} (hi : 0 ≤ i ∧ i ≤ 1099511627776) {P : List api_Message} (ha : a = (P.length : Int)) {T : List api_Message} {x : api_Message} : ∀ (n : Nat) (Z1 Z2 : List api_Message), Z1.length = n → SrtM (Z1 ++ Z2) → (∀ z ∈ Z2, leM x z) → (P ++ (Z1 ++ x :: (Z2 ++ T))).length ≤ 1099511627776 →
    ∃ W, SrtM W ∧ W.Perm (Z1 ++ x :: Z2) ∧ loopR (slices_insertionSortCmpFunc_api_Message.l14b a i) (P ++ (Z1 ++ x :: (Z2 ++ T)), (P.length : Int) + (Z1.length : Int)) = some (.inl (P ++ (W ++ T), i + 1))
  | 0, Z1, Z2, hn, hs, hx, hl => by
    have : Z1 = [] := List.length_eq_zero_iff.1 hn
    subst this
    refine ⟨x :: Z2, List.pairwise_cons.2 ⟨hx, hs⟩, List.Perm.refl _, ?_⟩
    rw [loopR_eq]
    simp only [slices_insertionSortCmpFunc_api_Message.l14b, List.length_nil]
    rw [if_neg (by omega), w64 (x := i + 1) (by omega) (by omega)]
    simp
  | n + 1, Z1, Z2, hn, hs, hx, hl => by
    have hne : Z1 ≠ [] := fun h => by rw [h] at hn; simp at hn
    obtain ⟨Y, y, rfl⟩ : ∃ Y y, Z1 = Y ++ [y] := ⟨Z1.dropLast, Z1.getLast hne, (List.dropLast_concat_getLast hne).symm⟩
    simp only [List.length_append, List.length_cons, List.length_nil] at hn hl
    rw [loopR_eq]
    have e1 : P ++ ((Y ++ [y]) ++ x :: (Z2 ++ T)) = (P ++ Y) ++ y :: ([] ++ x :: (Z2 ++ T)) := by simp
    have e2 : P ++ ((Y ++ [y]) ++ x :: (Z2 ++ T)) = (P ++ (Y ++ [y])) ++ x :: (Z2 ++ T) := by simp
    have hl1 : (P ++ ((Y ++ [y]) ++ x :: (Z2 ++ T))).length = P.length + (Y.length + 1 + (Z2.length + T.length + 1)) := by simp only [List.length_append, List.length_cons, List.length_nil]
    have hj : IntKind.i64.wrap ((P.length : Int) + ((Y ++ [y]).length : Int) - 1) = (P.length : Int) + (Y.length : Int) := by
      simp only [List.length_append, List.length_cons, List.length_nil]
      rw [w64 (by omega) (by omega)]; omega
    have n1 : nth (P ++ ((Y ++ [y]) ++ x :: (Z2 ++ T))) ((P.length : Int) + ((Y ++ [y]).length : Int)) = x := by
      rw [e2]; exact nth_mid (by simp only [List.length_append]; omega)
    have n2 : nth (P ++ ((Y ++ [y]) ++ x :: (Z2 ++ T))) ((P.length : Int) + (Y.length : Int)) = y := by
      rw [e1]; exact nth_mid (by simp only [List.length_append]; omega)
    simp only [slices_insertionSortCmpFunc_api_Message.l14b]
    rw [if_pos (by simp only [List.length_append, List.length_cons, List.length_nil]; omega), hj, if_pos (by rw [hl1]; simp only [List.length_append, List.length_cons, List.length_nil]; omega), if_pos (by rw [hl1]; omega), n1, n2]
    obtain ⟨v, ev, hv⟩ := order_eq x y
    rw [show event_order.f (⟨x.Key, x.To, x.Value, x.Uid, x.Anti⟩ : api_Message) (⟨y.Key, y.To, y.Value, y.Uid, y.Anti⟩ : api_Message) = some v from ev]
    simp only [Option.bind_some]
    by_cases hb : bef x y = true
    · rw [if_pos (hv.2 hb), if_pos (by rw [setL_len, hl1]; omega)]
      obtain ⟨hs1, hs2, hs3⟩ := List.pairwise_append.1 hs
      obtain ⟨W, w1, w2, w3⟩ := ins_inner hi ha (T := T) (x := x) n Y (y :: Z2) (by omega) (by simpa using hs) (fun z hz => by
        rcases List.mem_cons.1 hz with rfl | hz
        · exact leM_of_bef hb
        · exact hx z hz) (by simp only [List.length_append, List.length_cons]; omega)
      refine ⟨W, w1, w2.trans (by simp only [List.append_assoc, List.singleton_append]; exact List.Perm.append_left _ (List.Perm.swap _ _ _)), ?_⟩
      have hsw : setL (setL (P ++ ((Y ++ [y]) ++ x :: (Z2 ++ T))) ((P.length : Int) + ((Y ++ [y]).length : Int)) y) ((P.length : Int) + (Y.length : Int)) x = P ++ (Y ++ x :: ((y :: Z2) ++ T)) := by
        have := swp_back (P := P ++ Y) (M := []) (S := Z2 ++ T) (x := y) (y := x) (i := (P.length : Int) + (Y.length : Int)) (j := (P.length : Int) + ((Y ++ [y]).length : Int)) (by simp only [List.length_append]; omega) (by simp only [List.length_append, List.length_cons, List.length_nil]; omega)
        unfold swp at this
        rw [← e1, n1, n2] at this
        rw [this]; simp
      show loopR _ (setL (setL (P ++ ((Y ++ [y]) ++ x :: (Z2 ++ T))) ((P.length : Int) + ((Y ++ [y]).length : Int)) y) ((P.length : Int) + (Y.length : Int)) x, (P.length : Int) + (Y.length : Int)) = _
      rw [hsw]
      exact w3
    · rw [if_neg (fun h => hb (hv.1 h)), w64 (x := i + 1) (by omega) (by omega)]
      have hle : leM y x := leM_of_not hb
      refine ⟨(Y ++ [y]) ++ x :: Z2, srt_put hs (fun a ha => ?_) hx, List.Perm.refl _, by simp⟩
      rcases List.mem_append.1 ha with ha | ha
      · have := (List.pairwise_append.1 (List.pairwise_append.1 hs).1).2.2 a ha y (List.mem_singleton.2 rfl)
        exact leM_trans this hle
      · rw [List.mem_singleton.1 ha]; exact hle
theorem ins_outer {d0 : List api_Message} {a b : Int} (hd : d0.length ≤ 1099511627776) {P S : List api_Message} (ha : a = (P.length : Int)) : ∀ (n : Nat) (Z R : List api_Message), R.length = n → SrtM Z → b = (P.length : Int) + Z.length + R.length → (P ++ (Z ++ (R ++ S))).length = d0.length →
    ∃ W, SrtM W ∧ W.Perm (Z ++ R) ∧ loopR (slices_insertionSortCmpFunc_api_Message.l12b d0 a b) (P ++ (Z ++ (R ++ S)), (P.length : Int) + (Z.length : Int)) = some (P ++ (W ++ S))
  | 0, Z, R, hn, hs, hb, hl => by
    have : R = [] := List.length_eq_zero_iff.1 hn
    subst this
    refine ⟨Z, hs, by simp, ?_⟩
    rw [loopR_eq]
    simp only [slices_insertionSortCmpFunc_api_Message.l12b]
    rw [if_neg (by simp only [List.length_nil] at hb; omega), if_pos hl]
    simp
  | n + 1, Z, R, hn, hs, hb, hl => by
    cases R with
    | nil => simp at hn
    | cons x R =>
      simp only [List.length_cons] at hn hb
      have hl' := hl
      simp only [List.length_append, List.length_cons] at hl'
      rw [loopR_eq]
      simp only [slices_insertionSortCmpFunc_api_Message.l12b]
      rw [if_pos (by omega)]
      obtain ⟨W, w1, w2, w3⟩ := ins_inner (a := a) (i := (P.length : Int) + (Z.length : Int)) (by omega) (P := P) ha (T := R ++ S) (x := x) Z.length Z [] rfl (by simpa using hs) (fun z hz => by cases hz) (by simp only [List.length_append, List.length_cons, List.nil_append]; omega)
      unfold slices_insertionSortCmpFunc_api_Message.l14
      rw [show P ++ (Z ++ ((x :: R) ++ S)) = P ++ (Z ++ x :: ([] ++ (R ++ S))) by simp, w3]
      simp only [Option.bind_some]
      have hwl : W.length = Z.length + 1 := by have := w2.length_eq; simpa using this
      obtain ⟨W', q1, q2, q3⟩ := ins_outer (b := b) hd (P := P) (S := S) ha n W R (by omega) w1 (by omega) (by simp only [List.length_append]; omega)
      refine ⟨W', q1, q2.trans ?_, ?_⟩
      · refine (List.Perm.append_right R w2).trans ?_
        simp
      · show loopR _ (P ++ (W ++ (R ++ S)), (P.length : Int) + (Z.length : Int) + 1) = _
        rw [show (P.length : Int) + (Z.length : Int) + 1 = (P.length : Int) + (W.length : Int) by omega]
        exact q3
theorem insertion_eq (P X S : List api_Message) {a b : Int} (ha : a = (P.length : Int)) (hb : b = (P.length : Int) + X.length) (hs : (P ++ (X ++ S)).length ≤ 1099511627776) :
    ∃ W, SrtM W ∧ W.Perm X ∧ slices_insertionSortCmpFunc_api_Message.f (P ++ (X ++ S)) a b = some (P ++ (W ++ S)) := by
  have hl' := hs
  simp only [List.length_append] at hl'
  unfold slices_insertionSortCmpFunc_api_Message.f slices_insertionSortCmpFunc_api_Message.l12
  rw [w64 (x := a + 1) (by omega) (by omega)]
  cases X with
  | nil =>
    refine ⟨[], List.Pairwise.nil, List.Perm.refl _, ?_⟩
    rw [loopR_eq]
    simp only [slices_insertionSortCmpFunc_api_Message.l12b]
    rw [if_neg (by simp only [List.length_nil] at hb; omega), if_pos trivial]
    rfl
  | cons x R =>
    simp only [List.length_cons] at hb
    obtain ⟨W, w1, w2, w3⟩ := ins_outer (d0 := P ++ (x :: R ++ S)) (a := a) (b := b) hs (P := P) (S := S) ha R.length [x] R rfl (List.pairwise_singleton _ _) (by simp only [List.length_singleton]; omega) (by simp)
    refine ⟨W, w1, by simpa using w2, ?_⟩
    simp only [List.length_singleton] at w3
    rw [show a + 1 = (P.length : Int) + ((1 : Nat) : Int) by omega]
    exact w3
end Go.Proofs.Gx
