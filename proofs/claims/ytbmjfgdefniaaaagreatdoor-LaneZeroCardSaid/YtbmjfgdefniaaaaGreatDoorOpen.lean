/-
  How the arguments of this seat's laws are read.
-/
import Derived.Test.YtbmjfgdefniaaaaGreatDoorW0
namespace Go.Proofs.Gx
open Go.Sl
set_option linter.unusedVariables false
def ok_api_Key (x : api_Key) : Prop := (fun n => (Lit.int .i64 n).wf = true) x.Time ∧ (fun n => (Lit.int .i64 n).wf = true) x.From ∧ (fun n => (Lit.int .i64 n).wf = true) x.Seq
set_option maxRecDepth 100000 in
theorem open_api_Key : Opens Tryz.prog E_api_Key.rep ok_api_Key 23 := by
  refine Opens.map (t := 23) (fun x => (⟨x.1, x.2.1, x.2.2.1⟩ : api_Key)) (Opens.struct Tryz.underlying23 (by kernel_rfl) (FieldsOpen.cons (ty := 2) (off := 0) (by kernel_rfl) (Opens.int Tryz.underlying2) (FieldsOpen.cons (ty := 3) (off := 1) (by kernel_rfl) (Opens.int Tryz.underlying3) (FieldsOpen.cons (ty := 3) (off := 2) (by kernel_rfl) (Opens.int Tryz.underlying3) FieldsOpen.nil)))) ?_ ?_
  · rintro h cs ⟨a0, a1, a2, u⟩ h0
    obtain ⟨_, _, rfl, e0, _, _, rfl, e1, _, _, rfl, e2, eu⟩ := h0
    have eu : _ = [] := eu
    subst eu
    have e0 : _ = (FI .i64).enc _ := e0
    subst e0
    have e1 : _ = (FI .i64).enc _ := e1
    subst e1
    have e2 : _ = (FI .i64).enc _ := e2
    subst e2
    rfl
  · rintro ⟨a0, a1, a2, u⟩ ⟨o0, o1, o2, _⟩
    exact ⟨o0, o1, o2⟩
def ok_api_Message (x : api_Message) : Prop := ok_api_Key x.Key ∧ (fun n => (Lit.int .i64 n).wf = true) x.To ∧ (fun n => (Lit.int .i64 n).wf = true) x.Value ∧ (fun n => (Lit.int .i64 n).wf = true) x.Uid ∧ (fun _ => True) x.Anti
set_option maxRecDepth 100000 in
theorem open_api_Message : Opens Tryz.prog E_api_Message.rep ok_api_Message 25 := by
  refine Opens.map (t := 25) (fun x => (⟨x.1, x.2.1, x.2.2.1, x.2.2.2.1, x.2.2.2.2.1⟩ : api_Message)) (Opens.struct Tryz.underlying25 (by kernel_rfl) (FieldsOpen.cons (ty := 23) (off := 0) (by kernel_rfl) open_api_Key (FieldsOpen.cons (ty := 3) (off := 3) (by kernel_rfl) (Opens.int Tryz.underlying3) (FieldsOpen.cons (ty := 2) (off := 4) (by kernel_rfl) (Opens.int Tryz.underlying2) (FieldsOpen.cons (ty := 3) (off := 5) (by kernel_rfl) (Opens.int Tryz.underlying3) (FieldsOpen.cons (ty := 4) (off := 6) (by kernel_rfl) (Opens.bool Tryz.underlying4) FieldsOpen.nil)))))) ?_ ?_
  · rintro h cs ⟨a0, a1, a2, a3, a4, u⟩ h0
    obtain ⟨_, _, rfl, e0, _, _, rfl, e1, _, _, rfl, e2, _, _, rfl, e3, _, _, rfl, e4, eu⟩ := h0
    have eu : _ = [] := eu
    subst eu
    have e0 : _ = E_api_Key.enc _ := e0
    subst e0
    have e1 : _ = (FI .i64).enc _ := e1
    subst e1
    have e2 : _ = (FI .i64).enc _ := e2
    subst e2
    have e3 : _ = (FI .i64).enc _ := e3
    subst e3
    have e4 : _ = FB.enc _ := e4
    subst e4
    rfl
  · rintro ⟨a0, a1, a2, a3, a4, u⟩ ⟨o0, o1, o2, o3, o4, _⟩
    exact ⟨o0, o1, o2, o3, o4⟩
end Go.Proofs.Gx
