/-
  How the arguments of this seat's laws are read.
-/
import Derived.Test.YtdiaknplnonddaaDoorWalk
namespace Go.Proofs.Gx
open Go.Sl
set_option linter.unusedVariables false
def ok_api_Instr (x : api_Instr) : Prop := (fun n => (Lit.int .i64 n).wf = true) x.Op ∧ (fun n => (Lit.int .i64 n).wf = true) x.A ∧ (fun n => (Lit.int .i64 n).wf = true) x.B ∧ (fun n => (Lit.int .i64 n).wf = true) x.C
theorem open_api_Instr : Opens Tryd.prog E_api_Instr.rep ok_api_Instr 23 := by
  refine Opens.map (t := 23) (fun x => (⟨x.1, x.2.1, x.2.2.1, x.2.2.2.1⟩ : api_Instr)) (Opens.struct Tryd.underlying23 (by kernel_rfl) (FieldsOpen.cons (ty := 3) (off := 0) (by kernel_rfl) (Opens.int Tryd.underlying3) (FieldsOpen.cons (ty := 3) (off := 1) (by kernel_rfl) (Opens.int Tryd.underlying3) (FieldsOpen.cons (ty := 3) (off := 2) (by kernel_rfl) (Opens.int Tryd.underlying3) (FieldsOpen.cons (ty := 3) (off := 3) (by kernel_rfl) (Opens.int Tryd.underlying3) FieldsOpen.nil))))) ?_ ?_
  · rintro h cs ⟨a0, a1, a2, a3, u⟩ h0
    obtain ⟨_, _, rfl, e0, _, _, rfl, e1, _, _, rfl, e2, _, _, rfl, e3, eu⟩ := h0
    have eu : _ = [] := eu
    subst eu
    have e0 : _ = (FI .i64).enc _ := e0
    subst e0
    have e1 : _ = (FI .i64).enc _ := e1
    subst e1
    have e2 : _ = (FI .i64).enc _ := e2
    subst e2
    have e3 : _ = (FI .i64).enc _ := e3
    subst e3
    rfl
  · rintro ⟨a0, a1, a2, a3, u⟩ ⟨o0, o1, o2, o3, _⟩
    exact ⟨o0, o1, o2, o3⟩
end Go.Proofs.Gx
