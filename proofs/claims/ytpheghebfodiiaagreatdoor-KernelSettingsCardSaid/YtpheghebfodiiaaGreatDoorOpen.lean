/-
  How the arguments of this seat's laws are read.
-/
import Derived.Test.YtpheghebfodiiaaGreatDoorW0
namespace Go.Proofs.Gx
open Go.Sl
set_option linter.unusedVariables false
def ok_api_Start (x : api_Start) : Prop := (fun n => (Lit.int .i64 n).wf = true) x.To ∧ (fun n => (Lit.int .i64 n).wf = true) x.Time ∧ (fun n => (Lit.int .i64 n).wf = true) x.Value
set_option maxRecDepth 100000 in
theorem open_api_Start : Opens Tryz.prog E_api_Start.rep ok_api_Start 156 := by
  refine Opens.map (t := 156) (fun x => (⟨x.1, x.2.1, x.2.2.1⟩ : api_Start)) (Opens.struct Tryz.underlying156 (by kernel_rfl) (FieldsOpen.cons (ty := 3) (off := 0) (by kernel_rfl) (Opens.int Tryz.underlying3) (FieldsOpen.cons (ty := 2) (off := 1) (by kernel_rfl) (Opens.int Tryz.underlying2) (FieldsOpen.cons (ty := 2) (off := 2) (by kernel_rfl) (Opens.int Tryz.underlying2) FieldsOpen.nil)))) ?_ ?_
  · rintro h cs ⟨a0, a1, a2, u⟩ h0
    obtain ⟨_, _, rfl, e0, _, _, rfl, e1, _, _, rfl, e2, eu⟩ := h0
    have eu : _ = [] := eu
    subst eu
    have e0 : _ = (FI .i64).enc _ := e0
    subst e0
    have e1 : _ = (FI .i64).enc _ := e1
    subst e1
    have e2 : _ = (FI .i64).enc _ := e2
    subst e2
    rfl
  · rintro ⟨a0, a1, a2, u⟩ ⟨o0, o1, o2, _⟩
    exact ⟨o0, o1, o2⟩
def ok_api_Link (x : api_Link) : Prop := (fun n => (Lit.int .i64 n).wf = true) x.From ∧ (fun n => (Lit.int .i64 n).wf = true) x.To ∧ (fun n => (Lit.int .i64 n).wf = true) x.Look ∧ (fun _ => True) x.Loose
set_option maxRecDepth 100000 in
theorem open_api_Link : Opens Tryz.prog E_api_Link.rep ok_api_Link 65 := by
  refine Opens.map (t := 65) (fun x => (⟨x.1, x.2.1, x.2.2.1, x.2.2.2.1⟩ : api_Link)) (Opens.struct Tryz.underlying65 (by kernel_rfl) (FieldsOpen.cons (ty := 3) (off := 0) (by kernel_rfl) (Opens.int Tryz.underlying3) (FieldsOpen.cons (ty := 3) (off := 1) (by kernel_rfl) (Opens.int Tryz.underlying3) (FieldsOpen.cons (ty := 2) (off := 2) (by kernel_rfl) (Opens.int Tryz.underlying2) (FieldsOpen.cons (ty := 4) (off := 3) (by kernel_rfl) (Opens.bool Tryz.underlying4) FieldsOpen.nil))))) ?_ ?_
  · rintro h cs ⟨a0, a1, a2, a3, u⟩ h0
    obtain ⟨_, _, rfl, e0, _, _, rfl, e1, _, _, rfl, e2, _, _, rfl, e3, eu⟩ := h0
    have eu : _ = [] := eu
    subst eu
    have e0 : _ = (FI .i64).enc _ := e0
    subst e0
    have e1 : _ = (FI .i64).enc _ := e1
    subst e1
    have e2 : _ = (FI .i64).enc _ := e2
    subst e2
    have e3 : _ = FB.enc _ := e3
    subst e3
    rfl
  · rintro ⟨a0, a1, a2, a3, u⟩ ⟨o0, o1, o2, o3, _⟩
    exact ⟨o0, o1, o2, o3⟩
def ok_api_Instr (x : api_Instr) : Prop := (fun n => (Lit.int .i64 n).wf = true) x.Op ∧ (fun n => (Lit.int .i64 n).wf = true) x.A ∧ (fun n => (Lit.int .i64 n).wf = true) x.B ∧ (fun n => (Lit.int .i64 n).wf = true) x.C
set_option maxRecDepth 100000 in
theorem open_api_Instr : Opens Tryz.prog E_api_Instr.rep ok_api_Instr 312 := by
  refine Opens.map (t := 312) (fun x => (⟨x.1, x.2.1, x.2.2.1, x.2.2.2.1⟩ : api_Instr)) (Opens.struct Tryz.underlying312 (by kernel_rfl) (FieldsOpen.cons (ty := 3) (off := 0) (by kernel_rfl) (Opens.int Tryz.underlying3) (FieldsOpen.cons (ty := 3) (off := 1) (by kernel_rfl) (Opens.int Tryz.underlying3) (FieldsOpen.cons (ty := 3) (off := 2) (by kernel_rfl) (Opens.int Tryz.underlying3) (FieldsOpen.cons (ty := 3) (off := 3) (by kernel_rfl) (Opens.int Tryz.underlying3) FieldsOpen.nil))))) ?_ ?_
  · rintro h cs ⟨a0, a1, a2, a3, u⟩ h0
    obtain ⟨_, _, rfl, e0, _, _, rfl, e1, _, _, rfl, e2, _, _, rfl, e3, eu⟩ := h0
    have eu : _ = [] := eu
    subst eu
    have e0 : _ = (FI .i64).enc _ := e0
    subst e0
    have e1 : _ = (FI .i64).enc _ := e1
    subst e1
    have e2 : _ = (FI .i64).enc _ := e2
    subst e2
    have e3 : _ = (FI .i64).enc _ := e3
    subst e3
    rfl
  · rintro ⟨a0, a1, a2, a3, u⟩ ⟨o0, o1, o2, o3, _⟩
    exact ⟨o0, o1, o2, o3⟩
def ok_api_Model (x : api_Model) : Prop := (okl (okl ok_api_Instr 32) 24) x.Progs ∧ (okl ok_api_Link 32) x.Links ∧ (okl ok_api_Start 24) x.Starts ∧ (fun n => (Lit.int .u64 n).wf = true) x.Seed ∧ (fun n => (Lit.int .i64 n).wf = true) x.End ∧ (fun n => (Lit.int .i64 n).wf = true) x.Budget
set_option maxRecDepth 100000 in
theorem open_api_Model : Opens Tryz.prog R_api_Model ok_api_Model 27 := by
  refine Opens.map (t := 27) (fun x => (⟨x.1, x.2.1, x.2.2.1, x.2.2.2.1, x.2.2.2.2.1, x.2.2.2.2.2.1⟩ : api_Model)) (Opens.struct Tryz.underlying27 (by kernel_rfl) (FieldsOpen.cons (ty := 22) (off := 0) (by kernel_rfl) (Opens.sliceB (b := 24) Tryz.underlying22 (by kernel_rfl) (by kernel_rfl) (Opens.sliceB (b := 32) Tryz.underlying89 (by kernel_rfl) (by kernel_rfl) open_api_Instr)) (FieldsOpen.cons (ty := 23) (off := 1) (by kernel_rfl) (Opens.sliceB (b := 32) Tryz.underlying23 (by kernel_rfl) (by kernel_rfl) open_api_Link) (FieldsOpen.cons (ty := 24) (off := 2) (by kernel_rfl) (Opens.sliceB (b := 24) Tryz.underlying24 (by kernel_rfl) (by kernel_rfl) open_api_Start) (FieldsOpen.cons (ty := 25) (off := 3) (by kernel_rfl) (Opens.int Tryz.underlying25) (FieldsOpen.cons (ty := 2) (off := 4) (by kernel_rfl) (Opens.int Tryz.underlying2) (FieldsOpen.cons (ty := 3) (off := 5) (by kernel_rfl) (Opens.int Tryz.underlying3) FieldsOpen.nil))))))) ?_ ?_
  · rintro h cs ⟨a0, a1, a2, a3, a4, a5, u⟩ h0
    obtain ⟨_, _, rfl, ⟨A0, k0, e0, f0⟩, _, _, rfl, ⟨A1, k1, e1, f1⟩, _, _, rfl, ⟨A2, k2, e2, f2⟩, _, _, rfl, e3, _, _, rfl, e4, _, _, rfl, e5, eu⟩ := h0
    have eu : _ = [] := eu
    subst eu
    subst e0
    subst e1
    subst e2
    have e3 : _ = (FI .u64).enc _ := e3
    subst e3
    have e4 : _ = (FI .i64).enc _ := e4
    subst e4
    have e5 : _ = (FI .i64).enc _ := e5
    subst e5
    exact ⟨A0, k0, A1, k1, A2, k2, rfl, f0, f1, f2⟩
  · rintro ⟨a0, a1, a2, a3, a4, a5, u⟩ ⟨o0, o1, o2, o3, o4, o5, _⟩
    exact ⟨o0, o1, o2, o3, o4, o5⟩
def ok_api_Caps (x : api_Caps) : Prop := (fun n => (Lit.int .i64 n).wf = true) x.Link ∧ (fun n => (Lit.int .i64 n).wf = true) x.Wait ∧ (fun n => (Lit.int .i64 n).wf = true) x.Log
set_option maxRecDepth 100000 in
theorem open_api_Caps : Opens Tryz.prog E_api_Caps.rep ok_api_Caps 29 := by
  refine Opens.map (t := 29) (fun x => (⟨x.1, x.2.1, x.2.2.1⟩ : api_Caps)) (Opens.struct Tryz.underlying29 (by kernel_rfl) (FieldsOpen.cons (ty := 3) (off := 0) (by kernel_rfl) (Opens.int Tryz.underlying3) (FieldsOpen.cons (ty := 3) (off := 1) (by kernel_rfl) (Opens.int Tryz.underlying3) (FieldsOpen.cons (ty := 3) (off := 2) (by kernel_rfl) (Opens.int Tryz.underlying3) FieldsOpen.nil)))) ?_ ?_
  · rintro h cs ⟨a0, a1, a2, u⟩ h0
    obtain ⟨_, _, rfl, e0, _, _, rfl, e1, _, _, rfl, e2, eu⟩ := h0
    have eu : _ = [] := eu
    subst eu
    have e0 : _ = (FI .i64).enc _ := e0
    subst e0
    have e1 : _ = (FI .i64).enc _ := e1
    subst e1
    have e2 : _ = (FI .i64).enc _ := e2
    subst e2
    rfl
  · rintro ⟨a0, a1, a2, u⟩ ⟨o0, o1, o2, _⟩
    exact ⟨o0, o1, o2⟩
end Go.Proofs.Gx
