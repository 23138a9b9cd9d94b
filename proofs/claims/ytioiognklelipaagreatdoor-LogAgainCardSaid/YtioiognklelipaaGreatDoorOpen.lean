/-
  How the arguments of this seat's laws are read.
-/
import Derived.Test.YtioiognklelipaaGreatDoorW0
namespace Go.Proofs.Gx
open Go.Sl
set_option linter.unusedVariables false
def ok_api_Link (x : api_Link) : Prop := (fun n => (Lit.int .i64 n).wf = true) x.From ∧ (fun n => (Lit.int .i64 n).wf = true) x.To ∧ (fun n => (Lit.int .i64 n).wf = true) x.Look ∧ (fun _ => True) x.Loose
set_option maxRecDepth 100000 in
theorem open_api_Link : Opens Tryz.prog E_api_Link.rep ok_api_Link 63 := by
  refine Opens.map (t := 63) (fun x => (⟨x.1, x.2.1, x.2.2.1, x.2.2.2.1⟩ : api_Link)) (Opens.struct Tryz.underlying63 (by kernel_rfl) (FieldsOpen.cons (ty := 3) (off := 0) (by kernel_rfl) (Opens.int Tryz.underlying3) (FieldsOpen.cons (ty := 3) (off := 1) (by kernel_rfl) (Opens.int Tryz.underlying3) (FieldsOpen.cons (ty := 2) (off := 2) (by kernel_rfl) (Opens.int Tryz.underlying2) (FieldsOpen.cons (ty := 4) (off := 3) (by kernel_rfl) (Opens.bool Tryz.underlying4) FieldsOpen.nil))))) ?_ ?_
  · rintro h cs ⟨a0, a1, a2, a3, u⟩ h0
    obtain ⟨_, _, rfl, e0, _, _, rfl, e1, _, _, rfl, e2, _, _, rfl, e3, eu⟩ := h0
    have eu : _ = [] := eu
    subst eu
    have e0 : _ = (FI .i64).enc _ := e0
    subst e0
    have e1 : _ = (FI .i64).enc _ := e1
    subst e1
    have e2 : _ = (FI .i64).enc _ := e2
    subst e2
    have e3 : _ = FB.enc _ := e3
    subst e3
    rfl
  · rintro ⟨a0, a1, a2, a3, u⟩ ⟨o0, o1, o2, o3, _⟩
    exact ⟨o0, o1, o2, o3⟩
def ok_api_Instr (x : api_Instr) : Prop := (fun n => (Lit.int .i64 n).wf = true) x.Op ∧ (fun n => (Lit.int .i64 n).wf = true) x.A ∧ (fun n => (Lit.int .i64 n).wf = true) x.B ∧ (fun n => (Lit.int .i64 n).wf = true) x.C
set_option maxRecDepth 100000 in
theorem open_api_Instr : Opens Tryz.prog E_api_Instr.rep ok_api_Instr 91 := by
  refine Opens.map (t := 91) (fun x => (⟨x.1, x.2.1, x.2.2.1, x.2.2.2.1⟩ : api_Instr)) (Opens.struct Tryz.underlying91 (by kernel_rfl) (FieldsOpen.cons (ty := 3) (off := 0) (by kernel_rfl) (Opens.int Tryz.underlying3) (FieldsOpen.cons (ty := 3) (off := 1) (by kernel_rfl) (Opens.int Tryz.underlying3) (FieldsOpen.cons (ty := 3) (off := 2) (by kernel_rfl) (Opens.int Tryz.underlying3) (FieldsOpen.cons (ty := 3) (off := 3) (by kernel_rfl) (Opens.int Tryz.underlying3) FieldsOpen.nil))))) ?_ ?_
  · rintro h cs ⟨a0, a1, a2, a3, u⟩ h0
    obtain ⟨_, _, rfl, e0, _, _, rfl, e1, _, _, rfl, e2, _, _, rfl, e3, eu⟩ := h0
    have eu : _ = [] := eu
    subst eu
    have e0 : _ = (FI .i64).enc _ := e0
    subst e0
    have e1 : _ = (FI .i64).enc _ := e1
    subst e1
    have e2 : _ = (FI .i64).enc _ := e2
    subst e2
    have e3 : _ = (FI .i64).enc _ := e3
    subst e3
    rfl
  · rintro ⟨a0, a1, a2, a3, u⟩ ⟨o0, o1, o2, o3, _⟩
    exact ⟨o0, o1, o2, o3⟩
def ok_api_World (x : api_World) : Prop := (okl ok_api_Instr 32) x.Prog ∧ (fun n => (Lit.int .i64 n).wf = true) x.Self ∧ (okl ok_api_Link 32) x.Links ∧ (fun n => (Lit.int .u64 n).wf = true) x.Seed
set_option maxRecDepth 100000 in
theorem open_api_World : Opens Tryz.prog R_api_World ok_api_World 26 := by
  refine Opens.map (t := 26) (fun x => (⟨x.1, x.2.1, x.2.2.1, x.2.2.2.1⟩ : api_World)) (Opens.struct Tryz.underlying26 (by kernel_rfl) (FieldsOpen.cons (ty := 22) (off := 0) (by kernel_rfl) (Opens.sliceB (b := 32) Tryz.underlying22 (by kernel_rfl) (by kernel_rfl) open_api_Instr) (FieldsOpen.cons (ty := 3) (off := 1) (by kernel_rfl) (Opens.int Tryz.underlying3) (FieldsOpen.cons (ty := 23) (off := 2) (by kernel_rfl) (Opens.sliceB (b := 32) Tryz.underlying23 (by kernel_rfl) (by kernel_rfl) open_api_Link) (FieldsOpen.cons (ty := 24) (off := 3) (by kernel_rfl) (Opens.int Tryz.underlying24) FieldsOpen.nil))))) ?_ ?_
  · rintro h cs ⟨a0, a1, a2, a3, u⟩ h0
    obtain ⟨_, _, rfl, ⟨A0, k0, e0, f0⟩, _, _, rfl, e1, _, _, rfl, ⟨A2, k2, e2, f2⟩, _, _, rfl, e3, eu⟩ := h0
    have eu : _ = [] := eu
    subst eu
    subst e0
    have e1 : _ = (FI .i64).enc _ := e1
    subst e1
    subst e2
    have e3 : _ = (FI .u64).enc _ := e3
    subst e3
    exact ⟨A0, k0, A2, k2, rfl, f0, f2⟩
  · rintro ⟨a0, a1, a2, a3, u⟩ ⟨o0, o1, o2, o3, _⟩
    exact ⟨o0, o1, o2, o3⟩
end Go.Proofs.Gx
