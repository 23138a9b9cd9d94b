/-
  The library's sort of messages, told plainly: two rows in order, one behind the other, become one.
-/
import Derived.Test.YtofgeidjbfmmdaaGreatDoorSort1
import Derived.Test.YtofgeidjbfmmdaaGreatDoorW21
namespace Go.Proofs.Gx
open Go.Sl
set_option linter.unusedVariables false
set_option linter.unusedSimpArgs false
theorem mid_eq {x : Int} (h0 : 0 ≤ x) (h1 : x ≤ 1125899906842624) : IntKind.i64.wrap (Int.fdiv (IntKind.u64.wrap (IntKind.i64.wrap x)) (2 ^ (min (1 : Int).toNat IntKind.u64.bits))) = x / 2 := by
  have e2 : (2 : Int) ^ (min (1 : Int).toNat IntKind.u64.bits) = 2 := by decide
  have eu : IntKind.u64.wrap x = x := by
    show x % (2 ^ 64) = x
    exact Int.emod_eq_of_lt h0 (by omega)
  rw [w64 (x := x) (by omega) (by omega), eu, e2, Int.fdiv_eq_ediv_of_nonneg _ (by decide), w64 (by omega) (by omega)]
theorem cA2 {α β γ : Type} (f : α → β → γ) {a b : α} {c d : β} (h1 : a = b) (h2 : c = d) : f a c = f b d := by rw [h1, h2]
/-- a search that halves -/
theorem search {R : Type} {body : Int × Int → Option ((Int × Int) ⊕ R)} {p : Int → Bool} {g : Int → Option R} {lo hi : Int}
    (h : ∀ i j, lo ≤ i → i < j → j ≤ hi → body (i, j) = some (.inl (if p ((i + j) / 2) = true then ((i + j) / 2 + 1, j) else (i, (i + j) / 2))))
    (he : ∀ i, lo ≤ i → i ≤ hi → body (i, i) = Option.map Sum.inr (g i)) : ∀ (n : Nat) (i j : Int), (j - i).toNat ≤ n → lo ≤ i → i ≤ j → j ≤ hi → ∃ k, i ≤ k ∧ k ≤ j ∧ (k = i ∨ p (k - 1) = true) ∧ (k = j ∨ p k = false) ∧ loopR body (i, j) = g k
  | 0, i, j, hn, h1, h2, h3 => by
    obtain rfl : i = j := by omega
    exact ⟨i, by omega, by omega, .inl rfl, .inl rfl, by rw [loopR_eq, he i h1 h3, inr_bind]⟩
  | n + 1, i, j, hn, h1, h2, h3 => by
    by_cases e : i = j
    · subst e
      exact ⟨i, by omega, by omega, .inl rfl, .inl rfl, by rw [loopR_eq, he i h1 h3, inr_bind]⟩
    · rw [loopR_eq, h i j h1 (by omega) h3]
      by_cases hp : p ((i + j) / 2) = true
      · rw [if_pos hp]
        obtain ⟨k, k1, k2, k3, k4, k5⟩ := search h he n ((i + j) / 2 + 1) j (by omega) (by omega) (by omega) h3
        refine ⟨k, by omega, k2, .inr ?_, k4, k5⟩
        rcases k3 with rfl | k3
        · rw [show (i + j) / 2 + 1 - 1 = (i + j) / 2 by omega]; exact hp
        · exact k3
      · rw [if_neg hp]
        obtain ⟨k, k1, k2, k3, k4, k5⟩ := search h he n i ((i + j) / 2) (by omega) h1 (by omega) (by omega)
        refine ⟨k, k1, by omega, k3, .inr ?_, k5⟩
        rcases k4 with rfl | k4
        · simpa using hp
        · exact k4
theorem nth_app {α : Type} [Inhabited α] {P X S : List α} {k : Nat} (hk : k < X.length) {i : Int} (hi : i = (P.length : Int) + (k : Int)) : nth (P ++ (X ++ S)) i = nth X (k : Int) := by
  subst hi
  have e : (P.length : Int) + (k : Int) = ((P.length + k : Nat) : Int) := by omega
  rw [e, nth_nat (by simp only [List.length_append]; omega), nth_nat hk, List.getElem_append_right (by omega), List.getElem_append_left (by omega)]
  congr 1; omega
/-- the first of a row is put into what stands behind it -/
theorem put_fwd {d0 : List api_Message} (hd : d0.length ≤ 1099511627776) (P Y1 Y2 : List api_Message) (x : api_Message) {i a : Int} (ha : a = (P.length : Int)) (hi : i = (P.length : Int) + 1 + Y1.length) (hl : (P ++ (x :: (Y1 ++ Y2))).length = d0.length) :
    slices_symMergeCmpFunc_api_Message.l23 d0 i (P ++ (x :: (Y1 ++ Y2)), a) = some (P ++ (Y1 ++ (x :: Y2))) := by
  subst ha hi
  have hl' := hl
  simp only [List.length_append, List.length_cons] at hl'
  unfold slices_symMergeCmpFunc_api_Message.l23
  have hst : ∀ k : Nat, (P ++ (Y1.take k ++ (x :: (Y1.drop k ++ Y2)))).length = d0.length := fun k => by
    simp only [List.length_append, List.length_take, List.length_drop, List.length_cons]; omega
  refine (show loopR _ ((fun k : Nat => (P ++ (Y1.take k ++ (x :: (Y1.drop k ++ Y2))), (P.length : Int) + (k : Int))) 0) = _ from loopR_steps (fun k : Nat => (P ++ (Y1.take k ++ (x :: (Y1.drop k ++ Y2))), (P.length : Int) + (k : Int))) Y1.length (fun k hk => ?_) ?_)
  · have hl1 := hst k
    simp only [slices_symMergeCmpFunc_api_Message.l23b]
    rw [w64 (x := (P.length : Int) + 1 + Y1.length - 1) (by omega) (by omega), if_pos (by omega), w64 (x := (P.length : Int) + (k : Int) + 1) (by omega) (by omega), if_pos (by rw [hl1]; omega), if_pos (by rw [hl1]; omega), if_pos (by rw [setL_len, hl1]; omega)]
    have e1 : P ++ (Y1.take k ++ (x :: (Y1.drop k ++ Y2))) = (P ++ Y1.take k) ++ x :: ([] ++ Y1[k] :: (Y1.drop (k + 1) ++ Y2)) := by
      rw [List.drop_eq_getElem_cons hk]; simp only [List.append_assoc, List.cons_append, List.nil_append]
    have e2 : P ++ (Y1.take (k + 1) ++ (x :: (Y1.drop (k + 1) ++ Y2))) = (P ++ Y1.take k) ++ Y1[k] :: ([] ++ x :: (Y1.drop (k + 1) ++ Y2)) := by
      rw [List.take_succ_eq_append_getElem hk]; simp only [List.append_assoc, List.cons_append, List.nil_append]
    rw [e1, e2]
    refine cA2 (fun x y => some (Sum.inl (x, y))) ?_ (by omega)
    exact swp_far (by simp only [List.length_append, List.length_take]; omega) (by simp only [List.length_append, List.length_take, List.length_nil]; omega)
  · have hl1 := hst Y1.length
    simp only [slices_symMergeCmpFunc_api_Message.l23b]
    rw [w64 (x := (P.length : Int) + 1 + Y1.length - 1) (by omega) (by omega), if_neg (by omega), if_pos hl1, List.take_length, List.drop_length]
    rfl
/-- the last of a row is put into what stands ahead of it -/
theorem put_bwd {d0 : List api_Message} (hd : d0.length ≤ 1099511627776) (P X2 S : List api_Message) (y : api_Message) {i m : Int} (hi : i = (P.length : Int)) (hm : m = (P.length : Int) + X2.length) (hl : (P ++ (X2 ++ (y :: S))).length = d0.length) :
    slices_symMergeCmpFunc_api_Message.l29 d0 i (P ++ (X2 ++ (y :: S)), m) = some (P ++ (y :: (X2 ++ S))) := by
  subst hi hm
  have hl' := hl
  simp only [List.length_append, List.length_cons] at hl'
  unfold slices_symMergeCmpFunc_api_Message.l29
  have hst : ∀ k : Nat, (P ++ (X2.take k ++ (y :: (X2.drop k ++ S)))).length = d0.length := fun k => by
    simp only [List.length_append, List.length_take, List.length_drop, List.length_cons]; omega
  have e0 : (P ++ (X2 ++ (y :: S)), (P.length : Int) + X2.length) = (fun k : Nat => (P ++ (X2.take (X2.length - k) ++ (y :: (X2.drop (X2.length - k) ++ S))), (P.length : Int) + ((X2.length - k : Nat) : Int))) 0 := by simp
  rw [e0]
  refine loopR_steps (fun k : Nat => (P ++ (X2.take (X2.length - k) ++ (y :: (X2.drop (X2.length - k) ++ S))), (P.length : Int) + ((X2.length - k : Nat) : Int))) X2.length (fun k hk => ?_) ?_
  · have hl1 := hst (X2.length - k)
    obtain ⟨q, hq⟩ : ∃ q, X2.length - k = q + 1 := ⟨X2.length - k - 1, by omega⟩
    have hq2 : X2.length - (k + 1) = q := by omega
    have hq3 : q < X2.length := by omega
    rw [hq] at hl1
    simp only [hq, hq2, slices_symMergeCmpFunc_api_Message.l29b]
    rw [if_pos (by omega), w64 (x := (P.length : Int) + ((q + 1 : Nat) : Int) - 1) (by omega) (by omega), if_pos (by rw [hl1]; omega), if_pos (by rw [hl1]; omega), if_pos (by rw [setL_len, hl1]; omega)]
    have e1 : P ++ (X2.take (q + 1) ++ (y :: (X2.drop (q + 1) ++ S))) = (P ++ X2.take q) ++ X2[q] :: ([] ++ y :: (X2.drop (q + 1) ++ S)) := by
      rw [List.take_succ_eq_append_getElem hq3]; simp only [List.append_assoc, List.cons_append, List.nil_append]
    have e2 : P ++ (X2.take q ++ (y :: (X2.drop q ++ S))) = (P ++ X2.take q) ++ y :: ([] ++ X2[q] :: (X2.drop (q + 1) ++ S)) := by
      rw [List.drop_eq_getElem_cons hq3]; simp only [List.append_assoc, List.cons_append, List.nil_append]
    rw [e1, e2]
    refine cA2 (fun x y => some (Sum.inl (x, y))) ?_ (by omega)
    exact swp_back (by simp only [List.length_append, List.length_take]; omega) (by simp only [List.length_append, List.length_take, List.length_nil]; omega)
  · have hl1 := hst 0
    simp only [Nat.sub_self, slices_symMergeCmpFunc_api_Message.l29b]
    rw [if_neg (by omega), if_pos hl1]
    rfl
/-- a row of one, and a row in order -/
theorem sym_one (P Y S : List api_Message) (x : api_Message) (hY : SrtM Y) {a m b : Int} (ha : a = (P.length : Int)) (hm : m = (P.length : Int) + 1) (hb : b = (P.length : Int) + 1 + Y.length) (hs : (P ++ (x :: (Y ++ S))).length ≤ 1099511627776) :
    ∃ Z, SrtM Z ∧ Z.Perm (x :: Y) ∧ slices_symMergeCmpFunc_api_Message.l22 (P ++ (x :: (Y ++ S))) a (m, b) = some (P ++ (Z ++ S)) := by
  have hl' := hs
  simp only [List.length_append, List.length_cons] at hl'
  have hlen : (P ++ (x :: (Y ++ S))).length = P.length + (Y.length + S.length + 1) := by simp only [List.length_append, List.length_cons]
  have e1 : P ++ (x :: (Y ++ S)) = (P ++ [x]) ++ (Y ++ S) := by simp
  have nx : nth (P ++ (x :: (Y ++ S))) a = x := nth_mid ha
  have ny : ∀ q : Nat, q < Y.length → nth (P ++ (x :: (Y ++ S))) (m + (q : Int)) = nth Y (q : Int) := fun q hq => by
    rw [e1]; exact nth_app hq (by simp only [List.length_append, List.length_singleton]; omega)
  unfold slices_symMergeCmpFunc_api_Message.l22
  obtain ⟨k, k1, k2, k3, k4, k5⟩ := search (body := slices_symMergeCmpFunc_api_Message.l22b (P ++ (x :: (Y ++ S))) a) (p := fun h => bef (nth (P ++ (x :: (Y ++ S))) h) x) (g := fun i => slices_symMergeCmpFunc_api_Message.l23 (P ++ (x :: (Y ++ S))) i (P ++ (x :: (Y ++ S)), a)) (lo := m) (hi := b)
    (fun i j h1 h2 h3 => by
      simp only [slices_symMergeCmpFunc_api_Message.l22b]
      rw [if_pos h2, mid_eq (by omega) (by omega), if_pos (by rw [hlen]; omega), if_pos (by rw [hlen]; omega), nx]
      obtain ⟨v, ev, hv⟩ := order_eq (nth (P ++ (x :: (Y ++ S))) ((i + j) / 2)) x
      rw [show event_order.f (⟨(nth (P ++ (x :: (Y ++ S))) ((i + j) / 2)).Key, (nth (P ++ (x :: (Y ++ S))) ((i + j) / 2)).To, (nth (P ++ (x :: (Y ++ S))) ((i + j) / 2)).Value, (nth (P ++ (x :: (Y ++ S))) ((i + j) / 2)).Uid, (nth (P ++ (x :: (Y ++ S))) ((i + j) / 2)).Anti⟩ : api_Message) (⟨x.Key, x.To, x.Value, x.Uid, x.Anti⟩ : api_Message) = some v from ev]
      simp only [Option.bind_some]
      by_cases hb' : bef (nth (P ++ (x :: (Y ++ S))) ((i + j) / 2)) x = true
      · rw [if_pos (hv.2 hb'), if_pos hb', w64 (by omega) (by omega)]
      · rw [if_neg (fun h => hb' (hv.1 h)), if_neg hb'])
    (fun i h1 h2 => by
      simp only [slices_symMergeCmpFunc_api_Message.l22b]
      rw [if_neg (by omega)]) _ m b (Nat.le_refl _) (Int.le_refl _) (by omega) (Int.le_refl _)
  obtain ⟨q, hq⟩ : ∃ q : Nat, k = m + (q : Int) := ⟨(k - m).toNat, by omega⟩
  subst hq
  have hqY : q ≤ Y.length := by omega
  have eY : Y = Y.take q ++ Y.drop q := (List.take_append_drop _ _).symm
  have l1 : (Y.take q).length = q := by rw [List.length_take]; omega
  have l2 : (Y.drop q).length = Y.length - q := List.length_drop
  have hs12 : SrtM (Y.take q ++ Y.drop q) := by rw [← eY]; exact hY
  obtain ⟨t1, t2, _⟩ := List.pairwise_append.1 hs12
  refine ⟨Y.take q ++ x :: Y.drop q, srt_put hs12 (fun z hz => srt_lastle t1 hz (fun n hn => ?_)) (fun z hz => srt_firstle t2 hz (fun hp => ?_)), ?_, ?_⟩
  · rcases k3 with k3 | k3
    · omega
    · have := leM_of_bef k3
      rw [show m + (q : Int) - 1 = m + (n : Int) by omega, ny n (by omega)] at this
      rw [show nth (Y.take q) (n : Int) = nth Y (n : Int) by rw [nth_nat (by omega), nth_nat (by omega), List.getElem_take]]
      exact this
  · rcases k4 with k4 | k4
    · omega
    · have k4' : leM x (nth (P ++ (x :: (Y ++ S))) (m + (q : Int))) := k4
      rw [ny q (by omega)] at k4'
      rw [show nth (Y.drop q) 0 = nth Y (q : Int) by
        have : nth (Y.drop q) ((0 : Nat) : Int) = _ := nth_nat (by omega)
        rw [show (0 : Int) = ((0 : Nat) : Int) from rfl, this, nth_nat (by omega), List.getElem_drop]; simp]
      exact k4'
  · conv => rhs; rw [eY]
    exact List.perm_middle
  · rw [k5]
    have e2 : P ++ (x :: (Y ++ S)) = P ++ (x :: (Y.take q ++ (Y.drop q ++ S))) := by rw [← List.append_assoc, List.take_append_drop]
    have := put_fwd (d0 := P ++ (x :: (Y ++ S))) hs P (Y.take q) (Y.drop q ++ S) x (i := m + (q : Int)) ha (by omega) (by rw [← e2])
    rw [← e2] at this
    rw [this]
    simp
theorem sym_oneB (P X S : List api_Message) (y : api_Message) (hX : SrtM X) {a m : Int} (ha : a = (P.length : Int)) (hm : m = (P.length : Int) + X.length) (hs : (P ++ (X ++ (y :: S))).length ≤ 1099511627776) :
    ∃ Z, SrtM Z ∧ Z.Perm (X ++ [y]) ∧ slices_symMergeCmpFunc_api_Message.l28 (P ++ (X ++ (y :: S))) m (a, m) = some (P ++ (Z ++ S)) := by
  have hl' := hs
  simp only [List.length_append, List.length_cons] at hl'
  have hlen : (P ++ (X ++ (y :: S))).length = P.length + (X.length + (S.length + 1)) := by simp only [List.length_append, List.length_cons]
  have e1 : P ++ (X ++ (y :: S)) = (P ++ X) ++ (y :: S) := by simp
  have ny : nth (P ++ (X ++ (y :: S))) m = y := by rw [e1]; exact nth_mid (by simp only [List.length_append]; omega)
  have nx : ∀ q : Nat, q < X.length → nth (P ++ (X ++ (y :: S))) (a + (q : Int)) = nth X (q : Int) := fun q hq => nth_app hq (by omega)
  unfold slices_symMergeCmpFunc_api_Message.l28
  obtain ⟨k, k1, k2, k3, k4, k5⟩ := search (body := slices_symMergeCmpFunc_api_Message.l28b (P ++ (X ++ (y :: S))) m) (p := fun h => !bef y (nth (P ++ (X ++ (y :: S))) h)) (g := fun i => slices_symMergeCmpFunc_api_Message.l29 (P ++ (X ++ (y :: S))) i (P ++ (X ++ (y :: S)), m)) (lo := a) (hi := m)
    (fun i j h1 h2 h3 => by
      simp only [slices_symMergeCmpFunc_api_Message.l28b]
      rw [if_pos h2, mid_eq (by omega) (by omega), if_pos (by rw [hlen]; omega), if_pos (by rw [hlen]; omega), ny]
      obtain ⟨v, ev, hv⟩ := order_eq y (nth (P ++ (X ++ (y :: S))) ((i + j) / 2))
      rw [show event_order.f (⟨y.Key, y.To, y.Value, y.Uid, y.Anti⟩ : api_Message) (⟨(nth (P ++ (X ++ (y :: S))) ((i + j) / 2)).Key, (nth (P ++ (X ++ (y :: S))) ((i + j) / 2)).To, (nth (P ++ (X ++ (y :: S))) ((i + j) / 2)).Value, (nth (P ++ (X ++ (y :: S))) ((i + j) / 2)).Uid, (nth (P ++ (X ++ (y :: S))) ((i + j) / 2)).Anti⟩ : api_Message) = some v from ev]
      simp only [Option.bind_some]
      by_cases hb' : bef y (nth (P ++ (X ++ (y :: S))) ((i + j) / 2)) = true
      · rw [if_pos (hv.2 hb'), if_neg (by rw [hb']; simp)]
      · rw [if_neg (fun h => hb' (hv.1 h)), if_pos (by simpa using hb'), w64 (by omega) (by omega)])
    (fun i h1 h2 => by
      simp only [slices_symMergeCmpFunc_api_Message.l28b]
      rw [if_neg (by omega)]) _ a m (Nat.le_refl _) (Int.le_refl _) (by omega) (Int.le_refl _)
  obtain ⟨q, hq⟩ : ∃ q : Nat, k = a + (q : Int) := ⟨(k - a).toNat, by omega⟩
  subst hq
  have hqX : q ≤ X.length := by omega
  have eX : X = X.take q ++ X.drop q := (List.take_append_drop _ _).symm
  have l1 : (X.take q).length = q := by rw [List.length_take]; omega
  have l2 : (X.drop q).length = X.length - q := List.length_drop
  have hs12 : SrtM (X.take q ++ X.drop q) := by rw [← eX]; exact hX
  obtain ⟨t1, t2, _⟩ := List.pairwise_append.1 hs12
  refine ⟨X.take q ++ y :: X.drop q, srt_put hs12 (fun z hz => srt_lastle t1 hz (fun n hn => ?_)) (fun z hz => srt_firstle t2 hz (fun hp => ?_)), ?_, ?_⟩
  · rcases k3 with k3 | k3
    · omega
    · have k3' : leM (nth (P ++ (X ++ (y :: S))) (a + (q : Int) - 1)) y := by simpa using k3
      rw [show a + (q : Int) - 1 = a + (n : Int) by omega, nx n (by omega)] at k3'
      rw [show nth (X.take q) (n : Int) = nth X (n : Int) by rw [nth_nat (by omega), nth_nat (by omega), List.getElem_take]]
      exact k3'
  · rcases k4 with k4 | k4
    · omega
    · have k4' : bef y (nth (P ++ (X ++ (y :: S))) (a + (q : Int))) = true := by simpa using k4
      rw [nx q (by omega)] at k4'
      rw [show nth (X.drop q) 0 = nth X (q : Int) by
        have : nth (X.drop q) ((0 : Nat) : Int) = _ := nth_nat (by omega)
        rw [show (0 : Int) = ((0 : Nat) : Int) from rfl, this, nth_nat (by omega), List.getElem_drop]; simp]
      exact leM_of_bef k4'
  · refine List.perm_middle.trans ?_
    rw [List.take_append_drop]
    exact (List.perm_append_singleton y X).symm
  · rw [k5]
    have e2 : P ++ (X ++ (y :: S)) = (P ++ X.take q) ++ (X.drop q ++ (y :: S)) := by
      rw [List.append_assoc, ← List.append_assoc (X.take q), List.take_append_drop]
    have := put_bwd (d0 := P ++ (X ++ (y :: S))) hs (P ++ X.take q) (X.drop q) S y (i := a + (q : Int)) (m := m) (by simp only [List.length_append]; omega) (by simp only [List.length_append]; omega) (by rw [← e2])
    rw [← e2] at this
    rw [this]
    simp
/-- what the two halves come to -/
def RecOn (rec_ : List api_Message → Int → Int → Int → Option (List api_Message)) (n : Nat) : Prop :=
  ∀ (P X Y S : List api_Message), 0 < X.length → 0 < Y.length → X.length + Y.length ≤ n → SrtM X → SrtM Y → (P ++ (X ++ (Y ++ S))).length ≤ 1099511627776 →
    ∃ Z, SrtM Z ∧ Z.Perm (X ++ Y) ∧ rec_ (P ++ (X ++ (Y ++ S))) (P.length : Int) ((P.length : Int) + X.length) ((P.length : Int) + X.length + Y.length) = some (P ++ (Z ++ S))
theorem sym_j34 {rec_ : List api_Message → Int → Int → Int → Option (List api_Message)} {n : Nat} (hR : RecOn rec_ n) {d0 : List api_Message} (hd : d0.length ≤ 1099511627776) {a m b s : Int} (P X Y S : List api_Message) (hX : SrtM X) (hY : SrtM Y) (hn : X.length + Y.length ≤ n) (h0 : 0 ≤ a + b ∧ a + b ≤ 1125899906842624) (hm : 0 ≤ m ∧ m ≤ 1099511627776) (hs0 : 0 ≤ s ∧ s ≤ 1099511627776)
    (e1 : (a + b) / 2 = (P.length : Int)) (e2 : (a + b) / 2 + m - s = (P.length : Int) + X.length) (e3 : b = (P.length : Int) + X.length + Y.length) (hl : (P ++ (X ++ (Y ++ S))).length = d0.length) :
    ∃ Z, SrtM Z ∧ Z.Perm (X ++ Y) ∧ slices_symMergeCmpFunc_api_Message.j34 rec_ d0 a m b s (P ++ (X ++ (Y ++ S))) = some (P ++ (Z ++ S)) := by
  have hl' := hl
  simp only [List.length_append] at hl'
  unfold slices_symMergeCmpFunc_api_Message.j34
  rw [mid_eq h0.1 h0.2, w64 (x := (a + b) / 2 + m) (by omega) (by omega), w64 (x := (a + b) / 2 + m - s) (by omega) (by omega), e2, e1, e3]
  by_cases c1 : (P.length : Int) < (P.length : Int) + X.length
  · rw [if_pos c1]
    by_cases c2 : (P.length : Int) + X.length < (P.length : Int) + X.length + Y.length
    · rw [if_pos c2]
      obtain ⟨Z, z1, z2, z3⟩ := hR P X Y S (by omega) (by omega) hn hX hY (by omega)
      have hz := z2.length_eq
      simp only [List.length_append] at hz
      rw [z3]
      simp only [Option.bind_some]
      rw [if_pos (by rw [← hl]; simp only [List.length_append]; omega)]
      exact ⟨Z, z1, z2, rfl⟩
    · rw [if_neg c2, if_pos hl]
      have : Y = [] := List.length_eq_zero_iff.1 (by omega)
      subst this
      exact ⟨X, hX, by simp, by simp⟩
  · rw [if_neg c1, if_pos hl]
    have : X = [] := List.length_eq_zero_iff.1 (by omega)
    subst this
    exact ⟨Y, hY, by simp, by simp⟩
theorem sym_j33 {rec_ : List api_Message → Int → Int → Int → Option (List api_Message)} {n : Nat} (hR : RecOn rec_ n) {d0 : List api_Message} (hd : d0.length ≤ 1099511627776) {a m b s : Int} (P X1 Y1 X2 Y2 S : List api_Message) (hX1 : SrtM X1) (hY1 : SrtM Y1) (hX2 : SrtM X2) (hY2 : SrtM Y2) (hn1 : X1.length + Y1.length ≤ n) (hn2 : X2.length + Y2.length ≤ n) (hm : 0 ≤ m ∧ m ≤ 1099511627776)
    (ha : a = (P.length : Int)) (es : s = (P.length : Int) + X1.length) (e1 : (a + b) / 2 = (P.length : Int) + X1.length + Y1.length) (e2 : (a + b) / 2 + m - s = (P.length : Int) + X1.length + Y1.length + X2.length) (e3 : b = (P.length : Int) + X1.length + Y1.length + X2.length + Y2.length) (hl : (P ++ (X1 ++ (Y1 ++ (X2 ++ (Y2 ++ S))))).length = d0.length) :
    ∃ Z1 Z2, SrtM Z1 ∧ Z1.Perm (X1 ++ Y1) ∧ SrtM Z2 ∧ Z2.Perm (X2 ++ Y2) ∧ slices_symMergeCmpFunc_api_Message.j33 rec_ d0 a m b s (P ++ (X1 ++ (Y1 ++ (X2 ++ (Y2 ++ S))))) = some (P ++ (Z1 ++ (Z2 ++ S))) := by
  subst ha; subst es
  have hl' := hl
  simp only [List.length_append] at hl'
  have fin : ∀ Z1 : List api_Message, SrtM Z1 → Z1.Perm (X1 ++ Y1) → ∃ Z2, SrtM Z2 ∧ Z2.Perm (X2 ++ Y2) ∧ slices_symMergeCmpFunc_api_Message.j34 rec_ d0 (P.length : Int) m b ((P.length : Int) + X1.length) (P ++ (Z1 ++ (X2 ++ (Y2 ++ S)))) = some (P ++ (Z1 ++ (Z2 ++ S))) := fun Z1 z1 z2 => by
    have hz := z2.length_eq
    simp only [List.length_append] at hz
    obtain ⟨Z2, w1, w2, w3⟩ := sym_j34 hR hd (a := (P.length : Int)) (m := m) (b := b) (s := (P.length : Int) + X1.length) (P ++ Z1) X2 Y2 S hX2 hY2 hn2 (by omega) hm (by omega) (by simp only [List.length_append]; omega) (by simp only [List.length_append]; omega) (by simp only [List.length_append]; omega) (by simp only [List.length_append]; omega)
    exact ⟨Z2, w1, w2, by simpa using w3⟩
  unfold slices_symMergeCmpFunc_api_Message.j33
  rw [mid_eq (by omega) (by omega), e1]
  by_cases c1 : (P.length : Int) < (P.length : Int) + X1.length
  · rw [if_pos c1]
    by_cases c2 : (P.length : Int) + X1.length < (P.length : Int) + X1.length + Y1.length
    · rw [if_pos c2]
      obtain ⟨Z1, z1, z2, z3⟩ := hR P X1 Y1 (X2 ++ (Y2 ++ S)) (by omega) (by omega) hn1 hX1 hY1 (by simp only [List.length_append]; omega)
      obtain ⟨Z2, w1, w2, w3⟩ := fin Z1 z1 z2
      rw [z3]
      simp only [Option.bind_some]
      exact ⟨Z1, Z2, z1, z2, w1, w2, w3⟩
    · rw [if_neg c2]
      have : Y1 = [] := List.length_eq_zero_iff.1 (by omega)
      subst this
      obtain ⟨Z2, w1, w2, w3⟩ := fin X1 hX1 (by simp)
      exact ⟨X1, Z2, hX1, by simp, w1, w2, by simpa using w3⟩
  · rw [if_neg c1]
    have : X1 = [] := List.length_eq_zero_iff.1 (by omega)
    subst this
    obtain ⟨Z2, w1, w2, w3⟩ := fin Y1 hY1 (by simp)
    exact ⟨Y1, Z2, hY1, by simp, w1, w2, by simpa using w3⟩
/-- the search for where both halves are cut, and what comes of it -/
theorem sym_cut {rec_ : List api_Message → Int → Int → Int → Option (List api_Message)} {n : Nat} (hR : RecOn rec_ n) (P X Y S : List api_Message) (hX : SrtM X) (hY : SrtM Y) (hn : X.length + Y.length ≤ n + 1) (h1 : 0 < X.length) (h2 : 0 < Y.length) {a m b s0 r0 : Int} (ha : a = (P.length : Int)) (hm : m = (P.length : Int) + X.length) (hb : b = (P.length : Int) + X.length + Y.length)
    (hs : (P ++ (X ++ (Y ++ S))).length ≤ 1099511627776) (hsr : s0 ≤ r0) (hs0 : s0 = a ∨ s0 = (a + b) / 2 + m - b) (hsa : a ≤ s0) (hr0 : r0 = m ∨ r0 = (a + b) / 2) (hrm : r0 ≤ m) (hrr : r0 ≤ (a + b) / 2) (hse : (a + b) / 2 + m - s0 ≤ b) :
    ∃ Z, SrtM Z ∧ Z.Perm (X ++ Y) ∧ slices_symMergeCmpFunc_api_Message.l32 rec_ (P ++ (X ++ (Y ++ S))) a m b (s0, r0) = some (P ++ (Z ++ S)) := by
  have hl' := hs
  simp only [List.length_append] at hl'
  have hlen : (P ++ (X ++ (Y ++ S))).length = P.length + (X.length + (Y.length + S.length)) := by simp only [List.length_append]
  have hM : (a + b) / 2 < b ∧ a < (a + b) / 2 + 1 := by omega
  have nx : ∀ q : Nat, q < X.length → nth (P ++ (X ++ (Y ++ S))) (a + (q : Int)) = nth X (q : Int) := fun q hq => nth_app hq (by omega)
  have ny : ∀ q : Nat, q < Y.length → nth (P ++ (X ++ (Y ++ S))) (m + (q : Int)) = nth Y (q : Int) := fun q hq => by
    rw [show P ++ (X ++ (Y ++ S)) = (P ++ X) ++ (Y ++ S) by simp]; exact nth_app hq (by simp only [List.length_append]; omega)
  generalize hd : P ++ (X ++ (Y ++ S)) = d at hs hlen nx ny
  unfold slices_symMergeCmpFunc_api_Message.l32
  have hmid : IntKind.i64.wrap (Int.fdiv (IntKind.u64.wrap (IntKind.i64.wrap (a + b))) (2 ^ (min (1 : Int).toNat IntKind.u64.bits))) = (a + b) / 2 := mid_eq (by omega) (by omega)
  obtain ⟨k, k1, k2, k3, k4, k5⟩ := search (body := slices_symMergeCmpFunc_api_Message.l32b rec_ d a m b) (p := fun c => !bef (nth d ((a + b) / 2 + m - 1 - c)) (nth d c)) (g := fun i => if i < m then (if m < (a + b) / 2 + m - i then ((slices_rotateCmpFunc_api_Message.f d i m ((a + b) / 2 + m - i)).bind fun t => slices_symMergeCmpFunc_api_Message.j33 rec_ d a m b i t) else slices_symMergeCmpFunc_api_Message.j33 rec_ d a m b i d) else slices_symMergeCmpFunc_api_Message.j33 rec_ d a m b i d) (lo := s0) (hi := r0)
    (fun i j h1 h2 h3 => by
      simp only [slices_symMergeCmpFunc_api_Message.l32b]
      rw [if_pos h2, hmid, mid_eq (x := i + j) (by omega) (by omega), w64 (x := (a + b) / 2 + m) (by omega) (by omega), w64 (x := (a + b) / 2 + m - 1) (by omega) (by omega), w64 (x := (a + b) / 2 + m - 1 - (i + j) / 2) (by omega) (by omega), if_pos (by rw [hlen]; omega), if_pos (by rw [hlen]; omega)]
      obtain ⟨v, ev, hv⟩ := order_eq (nth d ((a + b) / 2 + m - 1 - (i + j) / 2)) (nth d ((i + j) / 2))
      rw [show event_order.f (⟨(nth d ((a + b) / 2 + m - 1 - (i + j) / 2)).Key, (nth d ((a + b) / 2 + m - 1 - (i + j) / 2)).To, (nth d ((a + b) / 2 + m - 1 - (i + j) / 2)).Value, (nth d ((a + b) / 2 + m - 1 - (i + j) / 2)).Uid, (nth d ((a + b) / 2 + m - 1 - (i + j) / 2)).Anti⟩ : api_Message) (⟨(nth d ((i + j) / 2)).Key, (nth d ((i + j) / 2)).To, (nth d ((i + j) / 2)).Value, (nth d ((i + j) / 2)).Uid, (nth d ((i + j) / 2)).Anti⟩ : api_Message) = some v from ev]
      simp only [Option.bind_some]
      by_cases hb' : bef (nth d ((a + b) / 2 + m - 1 - (i + j) / 2)) (nth d ((i + j) / 2)) = true
      · rw [if_pos (hv.2 hb'), if_neg (by rw [hb']; simp)]
      · rw [if_neg (fun h => hb' (hv.1 h)), if_pos (by simpa using hb'), w64 (by omega) (by omega)])
    (fun i h1 h2 => by
      simp only [slices_symMergeCmpFunc_api_Message.l32b]
      rw [if_neg (by omega), hmid, w64 (x := (a + b) / 2 + m) (by omega) (by omega), w64 (x := (a + b) / 2 + m - i) (by omega) (by omega)]) _ s0 r0 (Nat.le_refl _) (Int.le_refl _) hsr (Int.le_refl _)
  rw [k5]
  obtain ⟨q, hq⟩ : ∃ q : Nat, k = a + (q : Int) := ⟨(k - a).toNat, by omega⟩
  obtain ⟨e, he⟩ : ∃ e : Nat, (a + b) / 2 + m - k = m + (e : Int) := ⟨((a + b) / 2 - k).toNat, by omega⟩
  have hqX : q ≤ X.length := by omega
  have heY : e ≤ Y.length := by omega
  have eX : X = X.take q ++ X.drop q := (List.take_append_drop _ _).symm
  have eY : Y = Y.take e ++ Y.drop e := (List.take_append_drop _ _).symm
  have x1 : (X.take q).length = q := by rw [List.length_take]; omega
  have x2 : (X.drop q).length = X.length - q := List.length_drop
  have y1 : (Y.take e).length = e := by rw [List.length_take]; omega
  have y2 : (Y.drop e).length = Y.length - e := List.length_drop
  have hsX : SrtM (X.take q ++ X.drop q) := by rw [← eX]; exact hX
  have hsY : SrtM (Y.take e ++ Y.drop e) := by rw [← eY]; exact hY
  obtain ⟨sx1, sx2, _⟩ := List.pairwise_append.1 hsX
  obtain ⟨sy1, sy2, _⟩ := List.pairwise_append.1 hsY
  have A1B2 : ∀ u ∈ X.take q, ∀ v ∈ Y.drop e, leM u v := fun u hu v hv => by
    refine srt_lastle sx1 hu (fun w hw => ?_)
    refine srt_firstle sy2 hv (fun hp => ?_)
    rcases k3 with k3 | k3
    · rcases hs0 with h | h <;> omega
    · have k3' : leM (nth d (k - 1)) (nth d ((a + b) / 2 + m - 1 - (k - 1))) := by simpa using k3
      rw [show (a + b) / 2 + m - 1 - (k - 1) = m + (e : Int) by omega, show k - 1 = a + (w : Int) by omega, nx w (by omega), ny e (by omega)] at k3'
      rw [show nth (X.take q) (w : Int) = nth X (w : Int) by rw [nth_nat (by omega), nth_nat (by omega), List.getElem_take], show nth (Y.drop e) 0 = nth Y (e : Int) by
        have : nth (Y.drop e) ((0 : Nat) : Int) = _ := nth_nat (by omega)
        rw [show (0 : Int) = ((0 : Nat) : Int) from rfl, this, nth_nat (by omega), List.getElem_drop]; simp]
      exact k3'
  have B1A2 : ∀ u ∈ Y.take e, ∀ v ∈ X.drop q, leM u v := fun u hu v hv => by
    refine srt_lastle sy1 hu (fun w hw => ?_)
    refine srt_firstle sx2 hv (fun hp => ?_)
    rcases k4 with k4 | k4
    · rcases hr0 with h | h <;> omega
    · have k4' : bef (nth d ((a + b) / 2 + m - 1 - k)) (nth d k) = true := by simpa using k4
      rw [show (a + b) / 2 + m - 1 - k = m + (w : Int) by omega, hq, nx q (by omega), ny w (by omega)] at k4'
      rw [show nth (Y.take e) (w : Int) = nth Y (w : Int) by rw [nth_nat (by omega), nth_nat (by omega), List.getElem_take], show nth (X.drop q) 0 = nth X (q : Int) by
        have : nth (X.drop q) ((0 : Nat) : Int) = _ := nth_nat (by omega)
        rw [show (0 : Int) = ((0 : Nat) : Int) from rfl, this, nth_nat (by omega), List.getElem_drop]; simp]
      exact leM_of_bef k4'
  have fin := sym_j33 hR hs (a := a) (m := m) (b := b) (s := k) P (X.take q) (Y.take e) (X.drop q) (Y.drop e) S sx1 sy1 sx2 sy2 (by omega) (by omega) (by omega) ha (by omega) (by omega) (by omega) (by omega) (by rw [hlen]; simp only [List.length_append]; omega)
  obtain ⟨Z1, Z2, z1, z2, z3, z4, z5⟩ := fin
  obtain ⟨g1, g2⟩ := srt_merge hsX hsY A1B2 B1A2 z1 z3 z2 z4
  refine ⟨Z1 ++ Z2, g1, by rw [← eX, ← eY] at g2; exact g2, ?_⟩
  have z5' : slices_symMergeCmpFunc_api_Message.j33 rec_ d a m b k (P ++ (X.take q ++ (Y.take e ++ (X.drop q ++ (Y.drop e ++ S))))) = some (P ++ (Z1 ++ Z2 ++ S)) := by rw [z5]; simp
  have ed : d = (P ++ X.take q) ++ (X.drop q ++ (Y.take e ++ (Y.drop e ++ S))) := by
    rw [← hd]
    conv => lhs; rw [eX, eY]
    simp only [List.append_assoc]
  have ed' : (P ++ X.take q) ++ (Y.take e ++ (X.drop q ++ (Y.drop e ++ S))) = P ++ (X.take q ++ (Y.take e ++ (X.drop q ++ (Y.drop e ++ S)))) := by simp
  show (if k < m then _ else _) = _
  by_cases c1 : k < m
  · rw [if_pos c1]
    by_cases c2 : m < (a + b) / 2 + m - k
    · rw [if_pos c2]
      have := rotate_eq (P ++ X.take q) (X.drop q) (Y.take e) (Y.drop e ++ S) (a := k) (m := m) (b := (a + b) / 2 + m - k) (by omega) (by omega) (by simp only [List.length_append]; omega) (by simp only [List.length_append]; omega) (by simp only [List.length_append]; omega) (by rw [← ed]; exact hs)
      rw [← ed, ed'] at this
      rw [this]
      exact z5'
    · rw [if_neg c2]
      have h0 : Y.take e = [] := List.length_eq_zero_iff.1 (by omega)
      rw [h0] at ed z5'
      have ed2 : d = P ++ (X.take q ++ ([] ++ (X.drop q ++ (Y.drop e ++ S)))) := by rw [ed]; simp only [List.nil_append, List.append_assoc]
      rw [← ed2] at z5'
      exact z5'
  · rw [if_neg c1]
    have h0 : X.drop q = [] := List.length_eq_zero_iff.1 (by omega)
    rw [h0] at ed' ed z5'
    have ed2 : d = P ++ (X.take q ++ (Y.take e ++ ([] ++ (Y.drop e ++ S)))) := by rw [ed]; simp
    rw [← ed2] at z5'
    exact z5'
theorem symF_eq : ∀ n, RecOn (slices_symMergeCmpFunc_api_Message.F (n + 1)) n
  | 0 => fun P X Y S h1 h2 h3 => by omega
  | n + 1 => fun P X Y S h1 h2 h3 hX hY hs => by
    have hR := symF_eq n
    have hl' := hs
    simp only [List.length_append] at hl'
    show ∃ Z, SrtM Z ∧ Z.Perm (X ++ Y) ∧ slices_symMergeCmpFunc_api_Message.f0 (slices_symMergeCmpFunc_api_Message.F (n + 1)) _ _ _ _ = _
    unfold slices_symMergeCmpFunc_api_Message.f0
    generalize ha : (P.length : Int) = a
    generalize hm : a + (X.length : Int) = m
    generalize hb : m + (Y.length : Int) = b
    rw [w64 (x := m - a) (by omega) (by omega), w64 (x := b - m) (by omega) (by omega)]
    by_cases c1 : m - a = 1
    · rw [if_pos c1]
      obtain ⟨x, rfl⟩ : ∃ x, X = [x] := by
        cases X with
        | nil => simp at h1
        | cons x X => cases X with
          | nil => exact ⟨x, rfl⟩
          | cons y X => simp only [List.length_cons] at hm; omega
      obtain ⟨Z, z1, z2, z3⟩ := sym_one P Y S x hY (a := a) (m := m) (b := b) ha.symm (by simp only [List.length_singleton] at hm; omega) (by simp only [List.length_singleton] at hm; omega) (by simpa using hs)
      exact ⟨Z, z1, z2, z3⟩
    · rw [if_neg c1]
      by_cases c2 : b - m = 1
      · rw [if_pos c2]
        obtain ⟨y, rfl⟩ : ∃ y, Y = [y] := by
          cases Y with
          | nil => simp at h2
          | cons x X => cases X with
            | nil => exact ⟨x, rfl⟩
            | cons y X => simp only [List.length_cons] at hb; omega
        obtain ⟨Z, z1, z2, z3⟩ := sym_oneB P X S y hX (a := a) (m := m) ha.symm (by omega) (by simpa using hs)
        exact ⟨Z, z1, z2, z3⟩
      · rw [if_neg c2, mid_eq (by omega) (by omega), w64 (x := (a + b) / 2 + m) (by omega) (by omega), w64 (x := (a + b) / 2 + m - b) (by omega) (by omega)]
        unfold slices_symMergeCmpFunc_api_Message.j30
        by_cases c3 : (a + b) / 2 < m
        · rw [if_pos c3]
          exact sym_cut hR P X Y S hX hY (by omega) h1 h2 ha.symm (by omega) (by omega) hs (by omega) (.inr rfl) (by omega) (.inr rfl) (by omega) (by omega) (by omega)
        · rw [if_neg c3]
          exact sym_cut hR P X Y S hX hY (by omega) h1 h2 ha.symm (by omega) (by omega) hs (by omega) (.inl rfl) (by omega) (.inl rfl) (by omega) (by omega) (by omega)
theorem RecOn.le {rec_ : List api_Message → Int → Int → Int → Option (List api_Message)} {n k : Nat} (h : RecOn rec_ n) (hk : k ≤ n) : RecOn rec_ k := fun P X Y S h1 h2 h3 => h P X Y S h1 h2 (by omega)
theorem sym_eq (P X Y S : List api_Message) (hX : SrtM X) (hY : SrtM Y) (h1 : 0 < X.length) (h2 : 0 < Y.length) {a m b : Int} (ha : a = (P.length : Int)) (hm : m = (P.length : Int) + X.length) (hb : b = (P.length : Int) + X.length + Y.length) (hs : (P ++ (X ++ (Y ++ S))).length ≤ 1099511627776) :
    ∃ Z, SrtM Z ∧ Z.Perm (X ++ Y) ∧ slices_symMergeCmpFunc_api_Message.f (P ++ (X ++ (Y ++ S))) a m b = some (P ++ (Z ++ S)) := by
  subst ha hm hb
  unfold slices_symMergeCmpFunc_api_Message.f
  exact symF_eq _ P X Y S h1 h2 (by simp only [List.length_append]; omega) hX hY hs
end Go.Proofs.Gx
