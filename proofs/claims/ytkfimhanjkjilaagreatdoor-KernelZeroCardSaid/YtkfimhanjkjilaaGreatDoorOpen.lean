/-
  How the arguments of this seat's laws are read.
-/
import Derived.Test.YtkfimhanjkjilaaGreatDoorW0
namespace Go.Proofs.Gx
open Go.Sl
set_option linter.unusedVariables false
def ok_api_Pick (x : api_Pick) : Prop := (fun n => (Lit.int .i64 n).wf = true) x.What ∧ (fun n => (Lit.int .i64 n).wf = true) x.A ∧ (fun n => (Lit.int .i64 n).wf = true) x.B
set_option maxRecDepth 100000 in
theorem open_api_Pick : Opens Tryz.prog E_api_Pick.rep ok_api_Pick 23 := by
  refine Opens.map (t := 23) (fun x => (⟨x.1, x.2.1, x.2.2.1⟩ : api_Pick)) (Opens.struct Tryz.underlying23 (by kernel_rfl) (FieldsOpen.cons (ty := 3) (off := 0) (by kernel_rfl) (Opens.int Tryz.underlying3) (FieldsOpen.cons (ty := 3) (off := 1) (by kernel_rfl) (Opens.int Tryz.underlying3) (FieldsOpen.cons (ty := 3) (off := 2) (by kernel_rfl) (Opens.int Tryz.underlying3) FieldsOpen.nil)))) ?_ ?_
  · rintro h cs ⟨a0, a1, a2, u⟩ h0
    obtain ⟨_, _, rfl, e0, _, _, rfl, e1, _, _, rfl, e2, eu⟩ := h0
    have eu : _ = [] := eu
    subst eu
    have e0 : _ = (FI .i64).enc _ := e0
    subst e0
    have e1 : _ = (FI .i64).enc _ := e1
    subst e1
    have e2 : _ = (FI .i64).enc _ := e2
    subst e2
    rfl
  · rintro ⟨a0, a1, a2, u⟩ ⟨o0, o1, o2, _⟩
    exact ⟨o0, o1, o2⟩
end Go.Proofs.Gx
