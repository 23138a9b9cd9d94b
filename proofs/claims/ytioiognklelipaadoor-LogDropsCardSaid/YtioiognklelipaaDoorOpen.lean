/-
  How the arguments of this seat's laws are read.
-/
import Derived.Test.YtioiognklelipaaDoorW0
namespace Go.Proofs.Gx
open Go.Sl
set_option linter.unusedVariables false
def ok_api_Link (x : api_Link) : Prop := (fun n => (Lit.int .i64 n).wf = true) x.From ∧ (fun n => (Lit.int .i64 n).wf = true) x.To ∧ (fun n => (Lit.int .i64 n).wf = true) x.Look ∧ (fun _ => True) x.Loose
set_option maxRecDepth 100000 in
theorem open_api_Link : Opens Tryd.prog E_api_Link.rep ok_api_Link 62 := by
  refine Opens.map (t := 62) (fun x => (⟨x.1, x.2.1, x.2.2.1, x.2.2.2.1⟩ : api_Link)) (Opens.struct Tryd.underlying62 (by kernel_rfl) (FieldsOpen.cons (ty := 3) (off := 0) (by kernel_rfl) (Opens.int Tryd.underlying3) (FieldsOpen.cons (ty := 3) (off := 1) (by kernel_rfl) (Opens.int Tryd.underlying3) (FieldsOpen.cons (ty := 2) (off := 2) (by kernel_rfl) (Opens.int Tryd.underlying2) (FieldsOpen.cons (ty := 4) (off := 3) (by kernel_rfl) (Opens.bool Tryd.underlying4) FieldsOpen.nil))))) ?_ ?_
  · rintro h cs ⟨a0, a1, a2, a3, u⟩ h0
    obtain ⟨_, _, rfl, e0, _, _, rfl, e1, _, _, rfl, e2, _, _, rfl, e3, eu⟩ := h0
    have eu : _ = [] := eu
    subst eu
    have e0 : _ = (FI .i64).enc _ := e0
    subst e0
    have e1 : _ = (FI .i64).enc _ := e1
    subst e1
    have e2 : _ = (FI .i64).enc _ := e2
    subst e2
    have e3 : _ = FB.enc _ := e3
    subst e3
    rfl
  · rintro ⟨a0, a1, a2, a3, u⟩ ⟨o0, o1, o2, o3, _⟩
    exact ⟨o0, o1, o2, o3⟩
def ok_api_Instr (x : api_Instr) : Prop := (fun n => (Lit.int .i64 n).wf = true) x.Op ∧ (fun n => (Lit.int .i64 n).wf = true) x.A ∧ (fun n => (Lit.int .i64 n).wf = true) x.B ∧ (fun n => (Lit.int .i64 n).wf = true) x.C
set_option maxRecDepth 100000 in
theorem open_api_Instr : Opens Tryd.prog E_api_Instr.rep ok_api_Instr 89 := by
  refine Opens.map (t := 89) (fun x => (⟨x.1, x.2.1, x.2.2.1, x.2.2.2.1⟩ : api_Instr)) (Opens.struct Tryd.underlying89 (by kernel_rfl) (FieldsOpen.cons (ty := 3) (off := 0) (by kernel_rfl) (Opens.int Tryd.underlying3) (FieldsOpen.cons (ty := 3) (off := 1) (by kernel_rfl) (Opens.int Tryd.underlying3) (FieldsOpen.cons (ty := 3) (off := 2) (by kernel_rfl) (Opens.int Tryd.underlying3) (FieldsOpen.cons (ty := 3) (off := 3) (by kernel_rfl) (Opens.int Tryd.underlying3) FieldsOpen.nil))))) ?_ ?_
  · rintro h cs ⟨a0, a1, a2, a3, u⟩ h0
    obtain ⟨_, _, rfl, e0, _, _, rfl, e1, _, _, rfl, e2, _, _, rfl, e3, eu⟩ := h0
    have eu : _ = [] := eu
    subst eu
    have e0 : _ = (FI .i64).enc _ := e0
    subst e0
    have e1 : _ = (FI .i64).enc _ := e1
    subst e1
    have e2 : _ = (FI .i64).enc _ := e2
    subst e2
    have e3 : _ = (FI .i64).enc _ := e3
    subst e3
    rfl
  · rintro ⟨a0, a1, a2, a3, u⟩ ⟨o0, o1, o2, o3, _⟩
    exact ⟨o0, o1, o2, o3⟩
def ok_api_World (x : api_World) : Prop := (okl ok_api_Instr 32) x.Prog ∧ (fun n => (Lit.int .i64 n).wf = true) x.Self ∧ (okl ok_api_Link 32) x.Links ∧ (fun n => (Lit.int .u64 n).wf = true) x.Seed
set_option maxRecDepth 100000 in
theorem open_api_World : Opens Tryd.prog R_api_World ok_api_World 26 := by
  refine Opens.map (t := 26) (fun x => (⟨x.1, x.2.1, x.2.2.1, x.2.2.2.1⟩ : api_World)) (Opens.struct Tryd.underlying26 (by kernel_rfl) (FieldsOpen.cons (ty := 22) (off := 0) (by kernel_rfl) (Opens.sliceB (b := 32) Tryd.underlying22 (by kernel_rfl) (by kernel_rfl) open_api_Instr) (FieldsOpen.cons (ty := 3) (off := 1) (by kernel_rfl) (Opens.int Tryd.underlying3) (FieldsOpen.cons (ty := 23) (off := 2) (by kernel_rfl) (Opens.sliceB (b := 32) Tryd.underlying23 (by kernel_rfl) (by kernel_rfl) open_api_Link) (FieldsOpen.cons (ty := 24) (off := 3) (by kernel_rfl) (Opens.int Tryd.underlying24) FieldsOpen.nil))))) ?_ ?_
  · rintro h cs ⟨a0, a1, a2, a3, u⟩ h0
    obtain ⟨_, _, rfl, ⟨A0, k0, e0, f0⟩, _, _, rfl, e1, _, _, rfl, ⟨A2, k2, e2, f2⟩, _, _, rfl, e3, eu⟩ := h0
    have eu : _ = [] := eu
    subst eu
    subst e0
    have e1 : _ = (FI .i64).enc _ := e1
    subst e1
    subst e2
    have e3 : _ = (FI .u64).enc _ := e3
    subst e3
    exact ⟨A0, k0, A2, k2, rfl, f0, f2⟩
  · rintro ⟨a0, a1, a2, a3, u⟩ ⟨o0, o1, o2, o3, _⟩
    exact ⟨o0, o1, o2, o3⟩
def ok_api_Key (x : api_Key) : Prop := (fun n => (Lit.int .i64 n).wf = true) x.Time ∧ (fun n => (Lit.int .i64 n).wf = true) x.From ∧ (fun n => (Lit.int .i64 n).wf = true) x.Seq
set_option maxRecDepth 100000 in
theorem open_api_Key : Opens Tryd.prog E_api_Key.rep ok_api_Key 28 := by
  refine Opens.map (t := 28) (fun x => (⟨x.1, x.2.1, x.2.2.1⟩ : api_Key)) (Opens.struct Tryd.underlying28 (by kernel_rfl) (FieldsOpen.cons (ty := 2) (off := 0) (by kernel_rfl) (Opens.int Tryd.underlying2) (FieldsOpen.cons (ty := 3) (off := 1) (by kernel_rfl) (Opens.int Tryd.underlying3) (FieldsOpen.cons (ty := 3) (off := 2) (by kernel_rfl) (Opens.int Tryd.underlying3) FieldsOpen.nil)))) ?_ ?_
  · rintro h cs ⟨a0, a1, a2, u⟩ h0
    obtain ⟨_, _, rfl, e0, _, _, rfl, e1, _, _, rfl, e2, eu⟩ := h0
    have eu : _ = [] := eu
    subst eu
    have e0 : _ = (FI .i64).enc _ := e0
    subst e0
    have e1 : _ = (FI .i64).enc _ := e1
    subst e1
    have e2 : _ = (FI .i64).enc _ := e2
    subst e2
    rfl
  · rintro ⟨a0, a1, a2, u⟩ ⟨o0, o1, o2, _⟩
    exact ⟨o0, o1, o2⟩
def ok_api_Message (x : api_Message) : Prop := ok_api_Key x.Key ∧ (fun n => (Lit.int .i64 n).wf = true) x.To ∧ (fun n => (Lit.int .i64 n).wf = true) x.Value ∧ (fun n => (Lit.int .i64 n).wf = true) x.Uid ∧ (fun _ => True) x.Anti
set_option maxRecDepth 100000 in
theorem open_api_Message : Opens Tryd.prog E_api_Message.rep ok_api_Message 30 := by
  refine Opens.map (t := 30) (fun x => (⟨x.1, x.2.1, x.2.2.1, x.2.2.2.1, x.2.2.2.2.1⟩ : api_Message)) (Opens.struct Tryd.underlying30 (by kernel_rfl) (FieldsOpen.cons (ty := 28) (off := 0) (by kernel_rfl) open_api_Key (FieldsOpen.cons (ty := 3) (off := 3) (by kernel_rfl) (Opens.int Tryd.underlying3) (FieldsOpen.cons (ty := 2) (off := 4) (by kernel_rfl) (Opens.int Tryd.underlying2) (FieldsOpen.cons (ty := 3) (off := 5) (by kernel_rfl) (Opens.int Tryd.underlying3) (FieldsOpen.cons (ty := 4) (off := 6) (by kernel_rfl) (Opens.bool Tryd.underlying4) FieldsOpen.nil)))))) ?_ ?_
  · rintro h cs ⟨a0, a1, a2, a3, a4, u⟩ h0
    obtain ⟨_, _, rfl, e0, _, _, rfl, e1, _, _, rfl, e2, _, _, rfl, e3, _, _, rfl, e4, eu⟩ := h0
    have eu : _ = [] := eu
    subst eu
    have e0 : _ = E_api_Key.enc _ := e0
    subst e0
    have e1 : _ = (FI .i64).enc _ := e1
    subst e1
    have e2 : _ = (FI .i64).enc _ := e2
    subst e2
    have e3 : _ = (FI .i64).enc _ := e3
    subst e3
    have e4 : _ = FB.enc _ := e4
    subst e4
    rfl
  · rintro ⟨a0, a1, a2, a3, a4, u⟩ ⟨o0, o1, o2, o3, o4, _⟩
    exact ⟨o0, o1, o2, o3, o4⟩
end Go.Proofs.Gx
