/-
  Entries are compared.
-/
import Derived.Test.YtioiognklelipaaDoorLogD
import Derived.Test.YtioiognklelipaaDoorW10
namespace Go.Proofs.Gx
open Go.Sl
set_option linter.unusedVariables false
set_option linter.unusedSimpArgs false
theorem entry_self (x : api_Entry) (h : x.Sent.length ≤ 1000000) : isochronlaw10ventry.f x x = some true := by
  unfold isochronlaw10ventry.f
  rw [if_pos rfl, if_pos rfl, if_pos rfl, if_pos rfl]
  unfold isochronlaw10ventry.l2
  refine (show loopR _ ((fun k : Nat => (k : Int)) 0) = _ from loopR_steps (fun k : Nat => (k : Int)) x.Sent.length (fun k hk => ?_) ?_)
  · simp only [isochronlaw10ventry.l2b]
    rw [if_pos (by omega), if_pos (by omega), if_pos (by omega), if_pos trivial, w64 (x := (k : Int) + 1) (by omega) (by omega)]
    rfl
  · simp only [isochronlaw10ventry.l2b]
    rw [if_neg (by omega)]
theorem entries_self (l : List api_Entry) (hl : l.length ≤ 1000000) (h : ∀ k : Nat, k < l.length → (nth l (k : Int)).Sent.length ≤ 1000000) : isochronlaw10ventries.f l l = some true := by
  unfold isochronlaw10ventries.f
  rw [if_pos rfl]
  unfold isochronlaw10ventries.l2
  refine (show loopR _ ((fun k : Nat => (k : Int)) 0) = _ from loopR_steps (fun k : Nat => (k : Int)) l.length (fun k hk => ?_) ?_)
  · simp only [isochronlaw10ventries.l2b]
    rw [if_pos (by omega), if_pos (by omega), if_pos (by omega)]
    show Option.bind (isochronlaw10ventry.f (nth l (k : Int)) (nth l (k : Int))) _ = _
    rw [entry_self _ (h k hk), w64 (x := (k : Int) + 1) (by omega) (by omega)]
    rfl
  · simp only [isochronlaw10ventries.l2b]
    rw [if_neg (by omega)]
end Go.Proofs.Gx
