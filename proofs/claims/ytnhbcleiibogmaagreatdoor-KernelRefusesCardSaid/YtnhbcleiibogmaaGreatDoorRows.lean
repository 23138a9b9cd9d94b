/-
  NARROWER THAN 'FOR EVERY INPUT', by the rows' own cells (each row's printed sentence says how): KernelZero: laid · KernelBegins: laid · KernelNull: laid · KernelStands: laid · KernelSettings: laid · KernelRefuses: laid · KernelQuiet: laid · KernelGlobal: laid · KernelRuns: laid · KernelDone: laid · KernelRoom: laid.
  DERIVED. THE GIVEN ROWS OF THIS SEAT. 11 by the template 'for every input the law returns true; each argument reads behind the call as it read before'; 0 by the template 'total and deterministic' (their statements: YtnhbcleiibogmaaGreatDoorTotals.lean).
  GIVEN WITH THE SEED: the statements are not yours to turn. If you find one false, say at which input.
  Laid BY PROGRAM, IN A SANDBOX (cutbox-rows.mjs): the forced cells as the released guide's own fill.sh prints them over the translation fc975c806f8ecad1… (all of the seat's roots in one cut). By AI agents, Wed Nov 11 2026. No macro, syntax, notation, axiom, sorry.
-/
import Derived.Test.YtnhbcleiibogmaaGreatDoorChecked
import GoSem.Claim
import GoSem.ClaimJoined
import GoSem.ClaimMapViews
import Derived.JoinedTies
import Derived.KernelRfl
namespace Go.Proofs.YtnhbcleiibogmaaGreatDoor
/- THE CELL 'sum', in the pinned program and in every row, IS THE sha256 OF THE DUMP (.gsa) THAT YtnhbcleiibogmaaGreatDoorProg.lean LOADS. Nothing in Lean hashes anything: it is a label: what it is worth is what the hold of that sum in a sandbox is worth. -/
noncomputable def Tryz.pinned : Pinned := { name := "ytnhbcleiibogmaagreatdoor", sum := "fc975c806f8ecad15363f0dcbecc9fed64bafd410ab7767c5489aa662a6078e2", checked := Tryz.checked }
namespace Rows
def none {H : Type} : Left H := { results := [], args := [] }

/- WHAT THE LISTED PACKAGE-LEVEL VARIABLES READ AS WHEN THE CALL BEGINS. Each datum BY PROGRAM (the guide's laid-datum.mjs) off the statement by which the dump's own 'gosem.cut.vars' lays the variable. In a bare row this is a premise. The card (YtnhbcleiibogmaaGreatDoorCards.lean) ties it to the program's text. -/
def laid_errors_errorType {H : Type} : DataW H := .iface "internal/reflectlite.rtype" (.agg [.ptr (.lit (.string [101, 114, 114, 111, 114]))])

/-- 'isochronlaw18.KernelZero': WHATEVER THE INPUT: true; the input reads as it did. -/
def kernelZeroSpec : ChangeSpec := { name := "kernelZero", fn := fun _ => fun
  | [d1, d2] => { results := [.lit (.bool true)], args := [d1, d2] }
  | _ => none }
def kernelZeroRow : OpenClaim := { program := "ytnhbcleiibogmaagreatdoor", sum := "fc975c806f8ecad15363f0dcbecc9fed64bafd410ab7767c5489aa662a6078e2", func := "isochron/isochronlaw18.KernelZero", spec := "kernelZero", inPlace := ["internal/reflectlite.TypeOf", "internal/reflectlite.ValueOf", "(internal/reflectlite.Value).Type", "(internal/reflectlite.Value).IsNil", "(internal/reflectlite.Value).Elem", "(internal/reflectlite.Value).Set"], unfollowed := true, recurses := true, named := ["errors.errorType"], plainKeys := false, apart := false, laid := [("errors.errorType", laid_errors_errorType)] }
def KernelZeroSaid : Prop := kernelZeroRow.holds Tryz.pinned (OpenSpec.ofChange kernelZeroSpec)

/-- ITS FALSE NEIGHBOUR: 'it returns false'. Refute it at one input. -/
def kernelZeroWrong : ChangeSpec := { name := "kernelZero", fn := fun _ => fun
  | [d1, d2] => { results := [.lit (.bool false)], args := [d1, d2] }
  | _ => none }
def KernelZeroWrongFalsely : Prop := kernelZeroRow.holds Tryz.pinned (OpenSpec.ofChange kernelZeroWrong)

/-- 'isochronlaw18.KernelBegins': WHATEVER THE INPUT: true; the input reads as it did. -/
def kernelBeginsSpec : ChangeSpec := { name := "kernelBegins", fn := fun _ => fun
  | [d1, d2, d3] => { results := [.lit (.bool true)], args := [d1, d2, d3] }
  | _ => none }
def kernelBeginsRow : OpenClaim := { program := "ytnhbcleiibogmaagreatdoor", sum := "fc975c806f8ecad15363f0dcbecc9fed64bafd410ab7767c5489aa662a6078e2", func := "isochron/isochronlaw18.KernelBegins", spec := "kernelBegins", inPlace := ["internal/reflectlite.TypeOf", "internal/reflectlite.ValueOf", "(internal/reflectlite.Value).Type", "(internal/reflectlite.Value).IsNil", "(internal/reflectlite.Value).Elem", "(internal/reflectlite.Value).Set"], unfollowed := true, recurses := true, named := ["errors.errorType"], plainKeys := false, apart := false, laid := [("errors.errorType", laid_errors_errorType)] }
def KernelBeginsSaid : Prop := kernelBeginsRow.holds Tryz.pinned (OpenSpec.ofChange kernelBeginsSpec)

/-- ITS FALSE NEIGHBOUR: 'it returns false'. Refute it at one input. -/
def kernelBeginsWrong : ChangeSpec := { name := "kernelBegins", fn := fun _ => fun
  | [d1, d2, d3] => { results := [.lit (.bool false)], args := [d1, d2, d3] }
  | _ => none }
def KernelBeginsWrongFalsely : Prop := kernelBeginsRow.holds Tryz.pinned (OpenSpec.ofChange kernelBeginsWrong)

/-- 'isochronlaw18.KernelNull': WHATEVER THE INPUT: true; the input reads as it did. -/
def kernelNullSpec : ChangeSpec := { name := "kernelNull", fn := fun _ => fun
  | [d1, d2, d3] => { results := [.lit (.bool true)], args := [d1, d2, d3] }
  | _ => none }
def kernelNullRow : OpenClaim := { program := "ytnhbcleiibogmaagreatdoor", sum := "fc975c806f8ecad15363f0dcbecc9fed64bafd410ab7767c5489aa662a6078e2", func := "isochron/isochronlaw18.KernelNull", spec := "kernelNull", inPlace := ["internal/reflectlite.TypeOf", "internal/reflectlite.ValueOf", "(internal/reflectlite.Value).Type", "(internal/reflectlite.Value).IsNil", "(internal/reflectlite.Value).Elem", "(internal/reflectlite.Value).Set"], unfollowed := true, recurses := true, named := ["errors.errorType"], plainKeys := false, apart := false, laid := [("errors.errorType", laid_errors_errorType)] }
def KernelNullSaid : Prop := kernelNullRow.holds Tryz.pinned (OpenSpec.ofChange kernelNullSpec)

/-- ITS FALSE NEIGHBOUR: 'it returns false'. Refute it at one input. -/
def kernelNullWrong : ChangeSpec := { name := "kernelNull", fn := fun _ => fun
  | [d1, d2, d3] => { results := [.lit (.bool false)], args := [d1, d2, d3] }
  | _ => none }
def KernelNullWrongFalsely : Prop := kernelNullRow.holds Tryz.pinned (OpenSpec.ofChange kernelNullWrong)

/-- 'isochronlaw18.KernelStands': WHATEVER THE INPUT: true; the input reads as it did. -/
def kernelStandsSpec : ChangeSpec := { name := "kernelStands", fn := fun _ => fun
  | [d1, d2, d3, d4] => { results := [.lit (.bool true)], args := [d1, d2, d3, d4] }
  | _ => none }
def kernelStandsRow : OpenClaim := { program := "ytnhbcleiibogmaagreatdoor", sum := "fc975c806f8ecad15363f0dcbecc9fed64bafd410ab7767c5489aa662a6078e2", func := "isochron/isochronlaw18.KernelStands", spec := "kernelStands", inPlace := ["internal/reflectlite.TypeOf", "internal/reflectlite.ValueOf", "(internal/reflectlite.Value).Type", "(internal/reflectlite.Value).IsNil", "(internal/reflectlite.Value).Elem", "(internal/reflectlite.Value).Set"], unfollowed := true, recurses := true, named := ["errors.errorType"], plainKeys := false, apart := false, laid := [("errors.errorType", laid_errors_errorType)] }
def KernelStandsSaid : Prop := kernelStandsRow.holds Tryz.pinned (OpenSpec.ofChange kernelStandsSpec)

/-- ITS FALSE NEIGHBOUR: 'it returns false'. Refute it at one input. -/
def kernelStandsWrong : ChangeSpec := { name := "kernelStands", fn := fun _ => fun
  | [d1, d2, d3, d4] => { results := [.lit (.bool false)], args := [d1, d2, d3, d4] }
  | _ => none }
def KernelStandsWrongFalsely : Prop := kernelStandsRow.holds Tryz.pinned (OpenSpec.ofChange kernelStandsWrong)

/-- 'isochronlaw18.KernelSettings': WHATEVER THE INPUT: true; the input reads as it did. -/
def kernelSettingsSpec : ChangeSpec := { name := "kernelSettings", fn := fun _ => fun
  | [d1, d2, d3, d4, d5] => { results := [.lit (.bool true)], args := [d1, d2, d3, d4, d5] }
  | _ => none }
def kernelSettingsRow : OpenClaim := { program := "ytnhbcleiibogmaagreatdoor", sum := "fc975c806f8ecad15363f0dcbecc9fed64bafd410ab7767c5489aa662a6078e2", func := "isochron/isochronlaw18.KernelSettings", spec := "kernelSettings", inPlace := ["internal/reflectlite.TypeOf", "internal/reflectlite.ValueOf", "(internal/reflectlite.Value).Type", "(internal/reflectlite.Value).IsNil", "(internal/reflectlite.Value).Elem", "(internal/reflectlite.Value).Set"], unfollowed := true, recurses := true, named := ["errors.errorType"], plainKeys := false, apart := false, laid := [("errors.errorType", laid_errors_errorType)] }
def KernelSettingsSaid : Prop := kernelSettingsRow.holds Tryz.pinned (OpenSpec.ofChange kernelSettingsSpec)

/-- ITS FALSE NEIGHBOUR: 'it returns false'. Refute it at one input. -/
def kernelSettingsWrong : ChangeSpec := { name := "kernelSettings", fn := fun _ => fun
  | [d1, d2, d3, d4, d5] => { results := [.lit (.bool false)], args := [d1, d2, d3, d4, d5] }
  | _ => none }
def KernelSettingsWrongFalsely : Prop := kernelSettingsRow.holds Tryz.pinned (OpenSpec.ofChange kernelSettingsWrong)

/-- 'isochronlaw18.KernelRefuses': WHATEVER THE INPUT: true; the input reads as it did. -/
def kernelRefusesSpec : ChangeSpec := { name := "kernelRefuses", fn := fun _ => fun
  | [d1, d2, d3, d4] => { results := [.lit (.bool true)], args := [d1, d2, d3, d4] }
  | _ => none }
def kernelRefusesRow : OpenClaim := { program := "ytnhbcleiibogmaagreatdoor", sum := "fc975c806f8ecad15363f0dcbecc9fed64bafd410ab7767c5489aa662a6078e2", func := "isochron/isochronlaw18.KernelRefuses", spec := "kernelRefuses", inPlace := ["internal/reflectlite.TypeOf", "internal/reflectlite.ValueOf", "(internal/reflectlite.Value).Type", "(internal/reflectlite.Value).IsNil", "(internal/reflectlite.Value).Elem", "(internal/reflectlite.Value).Set"], unfollowed := true, recurses := true, named := ["errors.errorType"], plainKeys := false, apart := false, laid := [("errors.errorType", laid_errors_errorType)] }
def KernelRefusesSaid : Prop := kernelRefusesRow.holds Tryz.pinned (OpenSpec.ofChange kernelRefusesSpec)

/-- ITS FALSE NEIGHBOUR: 'it returns false'. Refute it at one input. -/
def kernelRefusesWrong : ChangeSpec := { name := "kernelRefuses", fn := fun _ => fun
  | [d1, d2, d3, d4] => { results := [.lit (.bool false)], args := [d1, d2, d3, d4] }
  | _ => none }
def KernelRefusesWrongFalsely : Prop := kernelRefusesRow.holds Tryz.pinned (OpenSpec.ofChange kernelRefusesWrong)

/-- 'isochronlaw18.KernelQuiet': WHATEVER THE INPUT: true; the input reads as it did. -/
def kernelQuietSpec : ChangeSpec := { name := "kernelQuiet", fn := fun _ => fun
  | [d1, d2] => { results := [.lit (.bool true)], args := [d1, d2] }
  | _ => none }
def kernelQuietRow : OpenClaim := { program := "ytnhbcleiibogmaagreatdoor", sum := "fc975c806f8ecad15363f0dcbecc9fed64bafd410ab7767c5489aa662a6078e2", func := "isochron/isochronlaw18.KernelQuiet", spec := "kernelQuiet", inPlace := ["internal/reflectlite.TypeOf", "internal/reflectlite.ValueOf", "(internal/reflectlite.Value).Type", "(internal/reflectlite.Value).IsNil", "(internal/reflectlite.Value).Elem", "(internal/reflectlite.Value).Set"], unfollowed := true, recurses := true, named := ["errors.errorType"], plainKeys := false, apart := false, laid := [("errors.errorType", laid_errors_errorType)] }
def KernelQuietSaid : Prop := kernelQuietRow.holds Tryz.pinned (OpenSpec.ofChange kernelQuietSpec)

/-- ITS FALSE NEIGHBOUR: 'it returns false'. Refute it at one input. -/
def kernelQuietWrong : ChangeSpec := { name := "kernelQuiet", fn := fun _ => fun
  | [d1, d2] => { results := [.lit (.bool false)], args := [d1, d2] }
  | _ => none }
def KernelQuietWrongFalsely : Prop := kernelQuietRow.holds Tryz.pinned (OpenSpec.ofChange kernelQuietWrong)

/-- 'isochronlaw18.KernelGlobal': WHATEVER THE INPUT: true; the input reads as it did. -/
def kernelGlobalSpec : ChangeSpec := { name := "kernelGlobal", fn := fun _ => fun
  | [d1, d2, d3] => { results := [.lit (.bool true)], args := [d1, d2, d3] }
  | _ => none }
def kernelGlobalRow : OpenClaim := { program := "ytnhbcleiibogmaagreatdoor", sum := "fc975c806f8ecad15363f0dcbecc9fed64bafd410ab7767c5489aa662a6078e2", func := "isochron/isochronlaw18.KernelGlobal", spec := "kernelGlobal", inPlace := ["internal/reflectlite.TypeOf", "internal/reflectlite.ValueOf", "(internal/reflectlite.Value).Type", "(internal/reflectlite.Value).IsNil", "(internal/reflectlite.Value).Elem", "(internal/reflectlite.Value).Set"], unfollowed := true, recurses := true, named := ["errors.errorType"], plainKeys := false, apart := false, laid := [("errors.errorType", laid_errors_errorType)] }
def KernelGlobalSaid : Prop := kernelGlobalRow.holds Tryz.pinned (OpenSpec.ofChange kernelGlobalSpec)

/-- ITS FALSE NEIGHBOUR: 'it returns false'. Refute it at one input. -/
def kernelGlobalWrong : ChangeSpec := { name := "kernelGlobal", fn := fun _ => fun
  | [d1, d2, d3] => { results := [.lit (.bool false)], args := [d1, d2, d3] }
  | _ => none }
def KernelGlobalWrongFalsely : Prop := kernelGlobalRow.holds Tryz.pinned (OpenSpec.ofChange kernelGlobalWrong)

/-- 'isochronlaw18.KernelRuns': WHATEVER THE INPUT: true; the input reads as it did. -/
def kernelRunsSpec : ChangeSpec := { name := "kernelRuns", fn := fun _ => fun
  | [d1, d2, d3] => { results := [.lit (.bool true)], args := [d1, d2, d3] }
  | _ => none }
def kernelRunsRow : OpenClaim := { program := "ytnhbcleiibogmaagreatdoor", sum := "fc975c806f8ecad15363f0dcbecc9fed64bafd410ab7767c5489aa662a6078e2", func := "isochron/isochronlaw18.KernelRuns", spec := "kernelRuns", inPlace := ["internal/reflectlite.TypeOf", "internal/reflectlite.ValueOf", "(internal/reflectlite.Value).Type", "(internal/reflectlite.Value).IsNil", "(internal/reflectlite.Value).Elem", "(internal/reflectlite.Value).Set"], unfollowed := true, recurses := true, named := ["errors.errorType"], plainKeys := false, apart := false, laid := [("errors.errorType", laid_errors_errorType)] }
def KernelRunsSaid : Prop := kernelRunsRow.holds Tryz.pinned (OpenSpec.ofChange kernelRunsSpec)

/-- ITS FALSE NEIGHBOUR: 'it returns false'. Refute it at one input. -/
def kernelRunsWrong : ChangeSpec := { name := "kernelRuns", fn := fun _ => fun
  | [d1, d2, d3] => { results := [.lit (.bool false)], args := [d1, d2, d3] }
  | _ => none }
def KernelRunsWrongFalsely : Prop := kernelRunsRow.holds Tryz.pinned (OpenSpec.ofChange kernelRunsWrong)

/-- 'isochronlaw18.KernelDone': WHATEVER THE INPUT: true; the input reads as it did. -/
def kernelDoneSpec : ChangeSpec := { name := "kernelDone", fn := fun _ => fun
  | [d1, d2, d3] => { results := [.lit (.bool true)], args := [d1, d2, d3] }
  | _ => none }
def kernelDoneRow : OpenClaim := { program := "ytnhbcleiibogmaagreatdoor", sum := "fc975c806f8ecad15363f0dcbecc9fed64bafd410ab7767c5489aa662a6078e2", func := "isochron/isochronlaw18.KernelDone", spec := "kernelDone", inPlace := ["internal/reflectlite.TypeOf", "internal/reflectlite.ValueOf", "(internal/reflectlite.Value).Type", "(internal/reflectlite.Value).IsNil", "(internal/reflectlite.Value).Elem", "(internal/reflectlite.Value).Set"], unfollowed := true, recurses := true, named := ["errors.errorType"], plainKeys := false, apart := false, laid := [("errors.errorType", laid_errors_errorType)] }
def KernelDoneSaid : Prop := kernelDoneRow.holds Tryz.pinned (OpenSpec.ofChange kernelDoneSpec)

/-- ITS FALSE NEIGHBOUR: 'it returns false'. Refute it at one input. -/
def kernelDoneWrong : ChangeSpec := { name := "kernelDone", fn := fun _ => fun
  | [d1, d2, d3] => { results := [.lit (.bool false)], args := [d1, d2, d3] }
  | _ => none }
def KernelDoneWrongFalsely : Prop := kernelDoneRow.holds Tryz.pinned (OpenSpec.ofChange kernelDoneWrong)

/-- 'isochronlaw18.KernelRoom': WHATEVER THE INPUT: true; the input reads as it did. -/
def kernelRoomSpec : ChangeSpec := { name := "kernelRoom", fn := fun _ => fun
  | [d1, d2, d3] => { results := [.lit (.bool true)], args := [d1, d2, d3] }
  | _ => none }
def kernelRoomRow : OpenClaim := { program := "ytnhbcleiibogmaagreatdoor", sum := "fc975c806f8ecad15363f0dcbecc9fed64bafd410ab7767c5489aa662a6078e2", func := "isochron/isochronlaw18.KernelRoom", spec := "kernelRoom", inPlace := ["internal/reflectlite.TypeOf", "internal/reflectlite.ValueOf", "(internal/reflectlite.Value).Type", "(internal/reflectlite.Value).IsNil", "(internal/reflectlite.Value).Elem", "(internal/reflectlite.Value).Set"], unfollowed := true, recurses := true, named := ["errors.errorType"], plainKeys := false, apart := false, laid := [("errors.errorType", laid_errors_errorType)] }
def KernelRoomSaid : Prop := kernelRoomRow.holds Tryz.pinned (OpenSpec.ofChange kernelRoomSpec)

/-- ITS FALSE NEIGHBOUR: 'it returns false'. Refute it at one input. -/
def kernelRoomWrong : ChangeSpec := { name := "kernelRoom", fn := fun _ => fun
  | [d1, d2, d3] => { results := [.lit (.bool false)], args := [d1, d2, d3] }
  | _ => none }
def KernelRoomWrongFalsely : Prop := kernelRoomRow.holds Tryz.pinned (OpenSpec.ofChange kernelRoomWrong)

/- THE SECOND FORM. 'bulk': how many values and letters a reading holds, each counted each time it is reached (what is shared counts as often as it is met; a slice's spare places count too). A statement '..UptoSaid' is the law's where the arguments, and the package variables that the reading takes, are together of bulk at most 1048576: NARROWER than '..Said'. Prove '..Said' where nothing that the law and all that it calls make is longer than what came in: it says more and counts as full. Else prove '..UptoSaid'. A law counts once. -/
mutual
def uptoBulk {H : Type} : DataW H → Nat
  | .lit (.string bytes) => bytes.length + 1
  | .lit _ => 1
  | .nil => 1
  | .ptr d => uptoBulk d + 1
  | .slice elems spare => uptoBulkAll elems + uptoBulkAll spare + 1
  | .agg parts => uptoBulkAll parts + 1
  | .iface _ d => uptoBulk d + 1
  | .map entries => uptoBulkEntries entries + 1
  | .held _ => 1
def uptoBulkAll {H : Type} : List (DataW H) → Nat
  | [] => 0
  | d :: r => uptoBulk d + uptoBulkAll r
def uptoBulkEntries {H : Type} : List (Lit × DataW H) → Nat
  | [] => 0
  | x :: r => uptoBulkEntry x + uptoBulkEntries r
def uptoBulkEntry {H : Type} : Lit × DataW H → Nat
  | (.string bytes, d) => bytes.length + uptoBulk d + 1
  | (_, d) => uptoBulk d + 1
 end
def uptoSmall : (H : Type) → List (DataW H) → Bool := fun _ ds => decide (uptoBulkAll ds ≤ 1048576)
def OpenSpec.upto (s : _root_.Go.ChangeSpec) : _root_.Go.OpenSpec := { _root_.Go.OpenSpec.ofChange s with cond := some uptoSmall }

/-- 'isochronlaw18.KernelZero', WHERE WHAT IT READS IS OF BULK AT MOST 1048576: true; the input reads as it did. -/
def kernelZeroUptoRow : OpenClaim := { program := "ytnhbcleiibogmaagreatdoor", sum := "fc975c806f8ecad15363f0dcbecc9fed64bafd410ab7767c5489aa662a6078e2", func := "isochron/isochronlaw18.KernelZero", spec := "kernelZero", inPlace := ["internal/reflectlite.TypeOf", "internal/reflectlite.ValueOf", "(internal/reflectlite.Value).Type", "(internal/reflectlite.Value).IsNil", "(internal/reflectlite.Value).Elem", "(internal/reflectlite.Value).Set"], unfollowed := true, recurses := true, named := ["errors.errorType"], plainKeys := false, apart := false, laid := [("errors.errorType", laid_errors_errorType)], narrowed := true }
def KernelZeroUptoSaid : Prop := kernelZeroUptoRow.holds Tryz.pinned (OpenSpec.upto kernelZeroSpec)

/-- 'isochronlaw18.KernelBegins', WHERE WHAT IT READS IS OF BULK AT MOST 1048576: true; the input reads as it did. -/
def kernelBeginsUptoRow : OpenClaim := { program := "ytnhbcleiibogmaagreatdoor", sum := "fc975c806f8ecad15363f0dcbecc9fed64bafd410ab7767c5489aa662a6078e2", func := "isochron/isochronlaw18.KernelBegins", spec := "kernelBegins", inPlace := ["internal/reflectlite.TypeOf", "internal/reflectlite.ValueOf", "(internal/reflectlite.Value).Type", "(internal/reflectlite.Value).IsNil", "(internal/reflectlite.Value).Elem", "(internal/reflectlite.Value).Set"], unfollowed := true, recurses := true, named := ["errors.errorType"], plainKeys := false, apart := false, laid := [("errors.errorType", laid_errors_errorType)], narrowed := true }
def KernelBeginsUptoSaid : Prop := kernelBeginsUptoRow.holds Tryz.pinned (OpenSpec.upto kernelBeginsSpec)

/-- 'isochronlaw18.KernelNull', WHERE WHAT IT READS IS OF BULK AT MOST 1048576: true; the input reads as it did. -/
def kernelNullUptoRow : OpenClaim := { program := "ytnhbcleiibogmaagreatdoor", sum := "fc975c806f8ecad15363f0dcbecc9fed64bafd410ab7767c5489aa662a6078e2", func := "isochron/isochronlaw18.KernelNull", spec := "kernelNull", inPlace := ["internal/reflectlite.TypeOf", "internal/reflectlite.ValueOf", "(internal/reflectlite.Value).Type", "(internal/reflectlite.Value).IsNil", "(internal/reflectlite.Value).Elem", "(internal/reflectlite.Value).Set"], unfollowed := true, recurses := true, named := ["errors.errorType"], plainKeys := false, apart := false, laid := [("errors.errorType", laid_errors_errorType)], narrowed := true }
def KernelNullUptoSaid : Prop := kernelNullUptoRow.holds Tryz.pinned (OpenSpec.upto kernelNullSpec)

/-- 'isochronlaw18.KernelStands', WHERE WHAT IT READS IS OF BULK AT MOST 1048576: true; the input reads as it did. -/
def kernelStandsUptoRow : OpenClaim := { program := "ytnhbcleiibogmaagreatdoor", sum := "fc975c806f8ecad15363f0dcbecc9fed64bafd410ab7767c5489aa662a6078e2", func := "isochron/isochronlaw18.KernelStands", spec := "kernelStands", inPlace := ["internal/reflectlite.TypeOf", "internal/reflectlite.ValueOf", "(internal/reflectlite.Value).Type", "(internal/reflectlite.Value).IsNil", "(internal/reflectlite.Value).Elem", "(internal/reflectlite.Value).Set"], unfollowed := true, recurses := true, named := ["errors.errorType"], plainKeys := false, apart := false, laid := [("errors.errorType", laid_errors_errorType)], narrowed := true }
def KernelStandsUptoSaid : Prop := kernelStandsUptoRow.holds Tryz.pinned (OpenSpec.upto kernelStandsSpec)

/-- 'isochronlaw18.KernelSettings', WHERE WHAT IT READS IS OF BULK AT MOST 1048576: true; the input reads as it did. -/
def kernelSettingsUptoRow : OpenClaim := { program := "ytnhbcleiibogmaagreatdoor", sum := "fc975c806f8ecad15363f0dcbecc9fed64bafd410ab7767c5489aa662a6078e2", func := "isochron/isochronlaw18.KernelSettings", spec := "kernelSettings", inPlace := ["internal/reflectlite.TypeOf", "internal/reflectlite.ValueOf", "(internal/reflectlite.Value).Type", "(internal/reflectlite.Value).IsNil", "(internal/reflectlite.Value).Elem", "(internal/reflectlite.Value).Set"], unfollowed := true, recurses := true, named := ["errors.errorType"], plainKeys := false, apart := false, laid := [("errors.errorType", laid_errors_errorType)], narrowed := true }
def KernelSettingsUptoSaid : Prop := kernelSettingsUptoRow.holds Tryz.pinned (OpenSpec.upto kernelSettingsSpec)

/-- 'isochronlaw18.KernelRefuses', WHERE WHAT IT READS IS OF BULK AT MOST 1048576: true; the input reads as it did. -/
def kernelRefusesUptoRow : OpenClaim := { program := "ytnhbcleiibogmaagreatdoor", sum := "fc975c806f8ecad15363f0dcbecc9fed64bafd410ab7767c5489aa662a6078e2", func := "isochron/isochronlaw18.KernelRefuses", spec := "kernelRefuses", inPlace := ["internal/reflectlite.TypeOf", "internal/reflectlite.ValueOf", "(internal/reflectlite.Value).Type", "(internal/reflectlite.Value).IsNil", "(internal/reflectlite.Value).Elem", "(internal/reflectlite.Value).Set"], unfollowed := true, recurses := true, named := ["errors.errorType"], plainKeys := false, apart := false, laid := [("errors.errorType", laid_errors_errorType)], narrowed := true }
def KernelRefusesUptoSaid : Prop := kernelRefusesUptoRow.holds Tryz.pinned (OpenSpec.upto kernelRefusesSpec)

/-- 'isochronlaw18.KernelQuiet', WHERE WHAT IT READS IS OF BULK AT MOST 1048576: true; the input reads as it did. -/
def kernelQuietUptoRow : OpenClaim := { program := "ytnhbcleiibogmaagreatdoor", sum := "fc975c806f8ecad15363f0dcbecc9fed64bafd410ab7767c5489aa662a6078e2", func := "isochron/isochronlaw18.KernelQuiet", spec := "kernelQuiet", inPlace := ["internal/reflectlite.TypeOf", "internal/reflectlite.ValueOf", "(internal/reflectlite.Value).Type", "(internal/reflectlite.Value).IsNil", "(internal/reflectlite.Value).Elem", "(internal/reflectlite.Value).Set"], unfollowed := true, recurses := true, named := ["errors.errorType"], plainKeys := false, apart := false, laid := [("errors.errorType", laid_errors_errorType)], narrowed := true }
def KernelQuietUptoSaid : Prop := kernelQuietUptoRow.holds Tryz.pinned (OpenSpec.upto kernelQuietSpec)

/-- 'isochronlaw18.KernelGlobal', WHERE WHAT IT READS IS OF BULK AT MOST 1048576: true; the input reads as it did. -/
def kernelGlobalUptoRow : OpenClaim := { program := "ytnhbcleiibogmaagreatdoor", sum := "fc975c806f8ecad15363f0dcbecc9fed64bafd410ab7767c5489aa662a6078e2", func := "isochron/isochronlaw18.KernelGlobal", spec := "kernelGlobal", inPlace := ["internal/reflectlite.TypeOf", "internal/reflectlite.ValueOf", "(internal/reflectlite.Value).Type", "(internal/reflectlite.Value).IsNil", "(internal/reflectlite.Value).Elem", "(internal/reflectlite.Value).Set"], unfollowed := true, recurses := true, named := ["errors.errorType"], plainKeys := false, apart := false, laid := [("errors.errorType", laid_errors_errorType)], narrowed := true }
def KernelGlobalUptoSaid : Prop := kernelGlobalUptoRow.holds Tryz.pinned (OpenSpec.upto kernelGlobalSpec)

/-- 'isochronlaw18.KernelRuns', WHERE WHAT IT READS IS OF BULK AT MOST 1048576: true; the input reads as it did. -/
def kernelRunsUptoRow : OpenClaim := { program := "ytnhbcleiibogmaagreatdoor", sum := "fc975c806f8ecad15363f0dcbecc9fed64bafd410ab7767c5489aa662a6078e2", func := "isochron/isochronlaw18.KernelRuns", spec := "kernelRuns", inPlace := ["internal/reflectlite.TypeOf", "internal/reflectlite.ValueOf", "(internal/reflectlite.Value).Type", "(internal/reflectlite.Value).IsNil", "(internal/reflectlite.Value).Elem", "(internal/reflectlite.Value).Set"], unfollowed := true, recurses := true, named := ["errors.errorType"], plainKeys := false, apart := false, laid := [("errors.errorType", laid_errors_errorType)], narrowed := true }
def KernelRunsUptoSaid : Prop := kernelRunsUptoRow.holds Tryz.pinned (OpenSpec.upto kernelRunsSpec)

/-- 'isochronlaw18.KernelDone', WHERE WHAT IT READS IS OF BULK AT MOST 1048576: true; the input reads as it did. -/
def kernelDoneUptoRow : OpenClaim := { program := "ytnhbcleiibogmaagreatdoor", sum := "fc975c806f8ecad15363f0dcbecc9fed64bafd410ab7767c5489aa662a6078e2", func := "isochron/isochronlaw18.KernelDone", spec := "kernelDone", inPlace := ["internal/reflectlite.TypeOf", "internal/reflectlite.ValueOf", "(internal/reflectlite.Value).Type", "(internal/reflectlite.Value).IsNil", "(internal/reflectlite.Value).Elem", "(internal/reflectlite.Value).Set"], unfollowed := true, recurses := true, named := ["errors.errorType"], plainKeys := false, apart := false, laid := [("errors.errorType", laid_errors_errorType)], narrowed := true }
def KernelDoneUptoSaid : Prop := kernelDoneUptoRow.holds Tryz.pinned (OpenSpec.upto kernelDoneSpec)

/-- 'isochronlaw18.KernelRoom', WHERE WHAT IT READS IS OF BULK AT MOST 1048576: true; the input reads as it did. -/
def kernelRoomUptoRow : OpenClaim := { program := "ytnhbcleiibogmaagreatdoor", sum := "fc975c806f8ecad15363f0dcbecc9fed64bafd410ab7767c5489aa662a6078e2", func := "isochron/isochronlaw18.KernelRoom", spec := "kernelRoom", inPlace := ["internal/reflectlite.TypeOf", "internal/reflectlite.ValueOf", "(internal/reflectlite.Value).Type", "(internal/reflectlite.Value).IsNil", "(internal/reflectlite.Value).Elem", "(internal/reflectlite.Value).Set"], unfollowed := true, recurses := true, named := ["errors.errorType"], plainKeys := false, apart := false, laid := [("errors.errorType", laid_errors_errorType)], narrowed := true }
def KernelRoomUptoSaid : Prop := kernelRoomUptoRow.holds Tryz.pinned (OpenSpec.upto kernelRoomSpec)

end Rows
end Go.Proofs.YtnhbcleiibogmaaGreatDoor
