/-
  NARROWER THAN 'FOR EVERY INPUT', by the rows' own cells (each row's printed sentence says how): SeqRuns: laid · SeqRises: laid · SeqEnds: laid · SeqBegins: laid · SeqWaits: laid · SeqAlone: laid.
  DERIVED. THE GIVEN ROWS OF THIS SEAT. 6 by the template 'for every input the law returns true; each argument reads behind the call as it read before'; 0 by the template 'total and deterministic' (their statements: YtofgeidjbfmmdaaGreatDoorTotals.lean).
  GIVEN WITH THE SEED: the statements are not yours to turn. If you find one false, say at which input.
  Laid BY PROGRAM, IN A SANDBOX (cutbox-rows.mjs): the forced cells as the released guide's own fill.sh prints them over the translation b6ec6d90793ba897… (all of the seat's roots in one cut). By AI agents, Wed Nov 11 2026. No macro, syntax, notation, axiom, sorry.
-/
import Derived.Test.YtofgeidjbfmmdaaGreatDoorChecked
import GoSem.Claim
import GoSem.ClaimJoined
import GoSem.ClaimMapViews
import Derived.JoinedTies
import Derived.KernelRfl
namespace Go.Proofs.YtofgeidjbfmmdaaGreatDoor
/- THE CELL 'sum', in the pinned program and in every row, IS THE sha256 OF THE DUMP (.gsa) THAT YtofgeidjbfmmdaaGreatDoorProg.lean LOADS. Nothing in Lean hashes anything: it is a label: what it is worth is what the hold of that sum in a sandbox is worth. -/
noncomputable def Tryz.pinned : Pinned := { name := "ytofgeidjbfmmdaagreatdoor", sum := "b6ec6d90793ba897ca5815165ddfebb3e8f64f81af43c14dba49000d329df25f", checked := Tryz.checked }
namespace Rows
def none {H : Type} : Left H := { results := [], args := [] }

/- WHAT THE LISTED PACKAGE-LEVEL VARIABLES READ AS WHEN THE CALL BEGINS. Each datum BY PROGRAM (the guide's laid-datum.mjs) off the statement by which the dump's own 'gosem.cut.vars' lays the variable. In a bare row this is a premise. The card (YtofgeidjbfmmdaaGreatDoorCards.lean) ties it to the program's text. -/
def laid_errors_errorType {H : Type} : DataW H := .iface "internal/reflectlite.rtype" (.agg [.ptr (.lit (.string [101, 114, 114, 111, 114]))])

/-- 'isochronlaw14.SeqRuns': WHATEVER THE INPUT: true; the input reads as it did. -/
def seqRunsSpec : ChangeSpec := { name := "seqRuns", fn := fun _ => fun
  | [d] => { results := [.lit (.bool true)], args := [d] }
  | _ => none }
def seqRunsRow : OpenClaim := { program := "ytofgeidjbfmmdaagreatdoor", sum := "b6ec6d90793ba897ca5815165ddfebb3e8f64f81af43c14dba49000d329df25f", func := "isochron/isochronlaw14.SeqRuns", spec := "seqRuns", inPlace := ["internal/reflectlite.TypeOf", "internal/reflectlite.ValueOf", "(internal/reflectlite.Value).Type", "(internal/reflectlite.Value).IsNil", "(internal/reflectlite.Value).Elem", "(internal/reflectlite.Value).Set"], unfollowed := true, recurses := true, named := ["errors.errorType"], apart := false, laid := [("errors.errorType", laid_errors_errorType)] }
def SeqRunsSaid : Prop := seqRunsRow.holds Tryz.pinned (OpenSpec.ofChange seqRunsSpec)

/-- ITS FALSE NEIGHBOUR: 'it returns false'. Refute it at one input. -/
def seqRunsWrong : ChangeSpec := { name := "seqRuns", fn := fun _ => fun
  | [d] => { results := [.lit (.bool false)], args := [d] }
  | _ => none }
def SeqRunsWrongFalsely : Prop := seqRunsRow.holds Tryz.pinned (OpenSpec.ofChange seqRunsWrong)

/-- 'isochronlaw14.SeqRises': WHATEVER THE INPUT: true; the input reads as it did. -/
def seqRisesSpec : ChangeSpec := { name := "seqRises", fn := fun _ => fun
  | [d] => { results := [.lit (.bool true)], args := [d] }
  | _ => none }
def seqRisesRow : OpenClaim := { program := "ytofgeidjbfmmdaagreatdoor", sum := "b6ec6d90793ba897ca5815165ddfebb3e8f64f81af43c14dba49000d329df25f", func := "isochron/isochronlaw14.SeqRises", spec := "seqRises", inPlace := ["internal/reflectlite.TypeOf", "internal/reflectlite.ValueOf", "(internal/reflectlite.Value).Type", "(internal/reflectlite.Value).IsNil", "(internal/reflectlite.Value).Elem", "(internal/reflectlite.Value).Set"], unfollowed := true, recurses := true, named := ["errors.errorType"], apart := false, laid := [("errors.errorType", laid_errors_errorType)] }
def SeqRisesSaid : Prop := seqRisesRow.holds Tryz.pinned (OpenSpec.ofChange seqRisesSpec)

/-- ITS FALSE NEIGHBOUR: 'it returns false'. Refute it at one input. -/
def seqRisesWrong : ChangeSpec := { name := "seqRises", fn := fun _ => fun
  | [d] => { results := [.lit (.bool false)], args := [d] }
  | _ => none }
def SeqRisesWrongFalsely : Prop := seqRisesRow.holds Tryz.pinned (OpenSpec.ofChange seqRisesWrong)

/-- 'isochronlaw14.SeqEnds': WHATEVER THE INPUT: true; the input reads as it did. -/
def seqEndsSpec : ChangeSpec := { name := "seqEnds", fn := fun _ => fun
  | [d1, d2, d3] => { results := [.lit (.bool true)], args := [d1, d2, d3] }
  | _ => none }
def seqEndsRow : OpenClaim := { program := "ytofgeidjbfmmdaagreatdoor", sum := "b6ec6d90793ba897ca5815165ddfebb3e8f64f81af43c14dba49000d329df25f", func := "isochron/isochronlaw14.SeqEnds", spec := "seqEnds", inPlace := ["internal/reflectlite.TypeOf", "internal/reflectlite.ValueOf", "(internal/reflectlite.Value).Type", "(internal/reflectlite.Value).IsNil", "(internal/reflectlite.Value).Elem", "(internal/reflectlite.Value).Set"], unfollowed := true, recurses := true, named := ["errors.errorType"], apart := false, laid := [("errors.errorType", laid_errors_errorType)] }
def SeqEndsSaid : Prop := seqEndsRow.holds Tryz.pinned (OpenSpec.ofChange seqEndsSpec)

/-- ITS FALSE NEIGHBOUR: 'it returns false'. Refute it at one input. -/
def seqEndsWrong : ChangeSpec := { name := "seqEnds", fn := fun _ => fun
  | [d1, d2, d3] => { results := [.lit (.bool false)], args := [d1, d2, d3] }
  | _ => none }
def SeqEndsWrongFalsely : Prop := seqEndsRow.holds Tryz.pinned (OpenSpec.ofChange seqEndsWrong)

/-- 'isochronlaw14.SeqBegins': WHATEVER THE INPUT: true; the input reads as it did. -/
def seqBeginsSpec : ChangeSpec := { name := "seqBegins", fn := fun _ => fun
  | [d1, d2, d3] => { results := [.lit (.bool true)], args := [d1, d2, d3] }
  | _ => none }
def seqBeginsRow : OpenClaim := { program := "ytofgeidjbfmmdaagreatdoor", sum := "b6ec6d90793ba897ca5815165ddfebb3e8f64f81af43c14dba49000d329df25f", func := "isochron/isochronlaw14.SeqBegins", spec := "seqBegins", inPlace := ["internal/reflectlite.TypeOf", "internal/reflectlite.ValueOf", "(internal/reflectlite.Value).Type", "(internal/reflectlite.Value).IsNil", "(internal/reflectlite.Value).Elem", "(internal/reflectlite.Value).Set"], unfollowed := true, recurses := true, named := ["errors.errorType"], apart := false, laid := [("errors.errorType", laid_errors_errorType)] }
def SeqBeginsSaid : Prop := seqBeginsRow.holds Tryz.pinned (OpenSpec.ofChange seqBeginsSpec)

/-- ITS FALSE NEIGHBOUR: 'it returns false'. Refute it at one input. -/
def seqBeginsWrong : ChangeSpec := { name := "seqBegins", fn := fun _ => fun
  | [d1, d2, d3] => { results := [.lit (.bool false)], args := [d1, d2, d3] }
  | _ => none }
def SeqBeginsWrongFalsely : Prop := seqBeginsRow.holds Tryz.pinned (OpenSpec.ofChange seqBeginsWrong)

/-- 'isochronlaw14.SeqWaits': WHATEVER THE INPUT: true; the input reads as it did. -/
def seqWaitsSpec : ChangeSpec := { name := "seqWaits", fn := fun _ => fun
  | [d1, d2] => { results := [.lit (.bool true)], args := [d1, d2] }
  | _ => none }
def seqWaitsRow : OpenClaim := { program := "ytofgeidjbfmmdaagreatdoor", sum := "b6ec6d90793ba897ca5815165ddfebb3e8f64f81af43c14dba49000d329df25f", func := "isochron/isochronlaw14.SeqWaits", spec := "seqWaits", inPlace := ["internal/reflectlite.TypeOf", "internal/reflectlite.ValueOf", "(internal/reflectlite.Value).Type", "(internal/reflectlite.Value).IsNil", "(internal/reflectlite.Value).Elem", "(internal/reflectlite.Value).Set"], unfollowed := true, recurses := true, named := ["errors.errorType"], apart := false, laid := [("errors.errorType", laid_errors_errorType)] }
def SeqWaitsSaid : Prop := seqWaitsRow.holds Tryz.pinned (OpenSpec.ofChange seqWaitsSpec)

/-- ITS FALSE NEIGHBOUR: 'it returns false'. Refute it at one input. -/
def seqWaitsWrong : ChangeSpec := { name := "seqWaits", fn := fun _ => fun
  | [d1, d2] => { results := [.lit (.bool false)], args := [d1, d2] }
  | _ => none }
def SeqWaitsWrongFalsely : Prop := seqWaitsRow.holds Tryz.pinned (OpenSpec.ofChange seqWaitsWrong)

/-- 'isochronlaw14.SeqAlone': WHATEVER THE INPUT: true; the input reads as it did. -/
def seqAloneSpec : ChangeSpec := { name := "seqAlone", fn := fun _ => fun
  | [d] => { results := [.lit (.bool true)], args := [d] }
  | _ => none }
def seqAloneRow : OpenClaim := { program := "ytofgeidjbfmmdaagreatdoor", sum := "b6ec6d90793ba897ca5815165ddfebb3e8f64f81af43c14dba49000d329df25f", func := "isochron/isochronlaw14.SeqAlone", spec := "seqAlone", inPlace := ["internal/reflectlite.TypeOf", "internal/reflectlite.ValueOf", "(internal/reflectlite.Value).Type", "(internal/reflectlite.Value).IsNil", "(internal/reflectlite.Value).Elem", "(internal/reflectlite.Value).Set"], unfollowed := true, recurses := true, named := ["errors.errorType"], apart := false, laid := [("errors.errorType", laid_errors_errorType)] }
def SeqAloneSaid : Prop := seqAloneRow.holds Tryz.pinned (OpenSpec.ofChange seqAloneSpec)

/-- ITS FALSE NEIGHBOUR: 'it returns false'. Refute it at one input. -/
def seqAloneWrong : ChangeSpec := { name := "seqAlone", fn := fun _ => fun
  | [d] => { results := [.lit (.bool false)], args := [d] }
  | _ => none }
def SeqAloneWrongFalsely : Prop := seqAloneRow.holds Tryz.pinned (OpenSpec.ofChange seqAloneWrong)

/- THE SECOND FORM. 'bulk': how many values and letters a reading holds, each counted each time it is reached (what is shared counts as often as it is met; a slice's spare places count too). A statement '..UptoSaid' is the law's where the arguments, and the package variables that the reading takes, are together of bulk at most 1048576: NARROWER than '..Said'. Prove '..Said' where nothing that the law and all that it calls make is longer than what came in: it says more and counts as full. Else prove '..UptoSaid'. A law counts once. -/
mutual
def uptoBulk {H : Type} : DataW H → Nat
  | .lit (.string bytes) => bytes.length + 1
  | .lit _ => 1
  | .nil => 1
  | .ptr d => uptoBulk d + 1
  | .slice elems spare => uptoBulkAll elems + uptoBulkAll spare + 1
  | .agg parts => uptoBulkAll parts + 1
  | .iface _ d => uptoBulk d + 1
  | .map entries => uptoBulkEntries entries + 1
  | .held _ => 1
def uptoBulkAll {H : Type} : List (DataW H) → Nat
  | [] => 0
  | d :: r => uptoBulk d + uptoBulkAll r
def uptoBulkEntries {H : Type} : List (Lit × DataW H) → Nat
  | [] => 0
  | x :: r => uptoBulkEntry x + uptoBulkEntries r
def uptoBulkEntry {H : Type} : Lit × DataW H → Nat
  | (.string bytes, d) => bytes.length + uptoBulk d + 1
  | (_, d) => uptoBulk d + 1
 end
def uptoSmall : (H : Type) → List (DataW H) → Bool := fun _ ds => decide (uptoBulkAll ds ≤ 1048576)
def OpenSpec.upto (s : _root_.Go.ChangeSpec) : _root_.Go.OpenSpec := { _root_.Go.OpenSpec.ofChange s with cond := some uptoSmall }

/-- 'isochronlaw14.SeqRuns', WHERE WHAT IT READS IS OF BULK AT MOST 1048576: true; the input reads as it did. -/
def seqRunsUptoRow : OpenClaim := { program := "ytofgeidjbfmmdaagreatdoor", sum := "b6ec6d90793ba897ca5815165ddfebb3e8f64f81af43c14dba49000d329df25f", func := "isochron/isochronlaw14.SeqRuns", spec := "seqRuns", inPlace := ["internal/reflectlite.TypeOf", "internal/reflectlite.ValueOf", "(internal/reflectlite.Value).Type", "(internal/reflectlite.Value).IsNil", "(internal/reflectlite.Value).Elem", "(internal/reflectlite.Value).Set"], unfollowed := true, recurses := true, named := ["errors.errorType"], apart := false, laid := [("errors.errorType", laid_errors_errorType)], narrowed := true }
def SeqRunsUptoSaid : Prop := seqRunsUptoRow.holds Tryz.pinned (OpenSpec.upto seqRunsSpec)

/-- 'isochronlaw14.SeqRises', WHERE WHAT IT READS IS OF BULK AT MOST 1048576: true; the input reads as it did. -/
def seqRisesUptoRow : OpenClaim := { program := "ytofgeidjbfmmdaagreatdoor", sum := "b6ec6d90793ba897ca5815165ddfebb3e8f64f81af43c14dba49000d329df25f", func := "isochron/isochronlaw14.SeqRises", spec := "seqRises", inPlace := ["internal/reflectlite.TypeOf", "internal/reflectlite.ValueOf", "(internal/reflectlite.Value).Type", "(internal/reflectlite.Value).IsNil", "(internal/reflectlite.Value).Elem", "(internal/reflectlite.Value).Set"], unfollowed := true, recurses := true, named := ["errors.errorType"], apart := false, laid := [("errors.errorType", laid_errors_errorType)], narrowed := true }
def SeqRisesUptoSaid : Prop := seqRisesUptoRow.holds Tryz.pinned (OpenSpec.upto seqRisesSpec)

/-- 'isochronlaw14.SeqEnds', WHERE WHAT IT READS IS OF BULK AT MOST 1048576: true; the input reads as it did. -/
def seqEndsUptoRow : OpenClaim := { program := "ytofgeidjbfmmdaagreatdoor", sum := "b6ec6d90793ba897ca5815165ddfebb3e8f64f81af43c14dba49000d329df25f", func := "isochron/isochronlaw14.SeqEnds", spec := "seqEnds", inPlace := ["internal/reflectlite.TypeOf", "internal/reflectlite.ValueOf", "(internal/reflectlite.Value).Type", "(internal/reflectlite.Value).IsNil", "(internal/reflectlite.Value).Elem", "(internal/reflectlite.Value).Set"], unfollowed := true, recurses := true, named := ["errors.errorType"], apart := false, laid := [("errors.errorType", laid_errors_errorType)], narrowed := true }
def SeqEndsUptoSaid : Prop := seqEndsUptoRow.holds Tryz.pinned (OpenSpec.upto seqEndsSpec)

/-- 'isochronlaw14.SeqBegins', WHERE WHAT IT READS IS OF BULK AT MOST 1048576: true; the input reads as it did. -/
def seqBeginsUptoRow : OpenClaim := { program := "ytofgeidjbfmmdaagreatdoor", sum := "b6ec6d90793ba897ca5815165ddfebb3e8f64f81af43c14dba49000d329df25f", func := "isochron/isochronlaw14.SeqBegins", spec := "seqBegins", inPlace := ["internal/reflectlite.TypeOf", "internal/reflectlite.ValueOf", "(internal/reflectlite.Value).Type", "(internal/reflectlite.Value).IsNil", "(internal/reflectlite.Value).Elem", "(internal/reflectlite.Value).Set"], unfollowed := true, recurses := true, named := ["errors.errorType"], apart := false, laid := [("errors.errorType", laid_errors_errorType)], narrowed := true }
def SeqBeginsUptoSaid : Prop := seqBeginsUptoRow.holds Tryz.pinned (OpenSpec.upto seqBeginsSpec)

/-- 'isochronlaw14.SeqWaits', WHERE WHAT IT READS IS OF BULK AT MOST 1048576: true; the input reads as it did. -/
def seqWaitsUptoRow : OpenClaim := { program := "ytofgeidjbfmmdaagreatdoor", sum := "b6ec6d90793ba897ca5815165ddfebb3e8f64f81af43c14dba49000d329df25f", func := "isochron/isochronlaw14.SeqWaits", spec := "seqWaits", inPlace := ["internal/reflectlite.TypeOf", "internal/reflectlite.ValueOf", "(internal/reflectlite.Value).Type", "(internal/reflectlite.Value).IsNil", "(internal/reflectlite.Value).Elem", "(internal/reflectlite.Value).Set"], unfollowed := true, recurses := true, named := ["errors.errorType"], apart := false, laid := [("errors.errorType", laid_errors_errorType)], narrowed := true }
def SeqWaitsUptoSaid : Prop := seqWaitsUptoRow.holds Tryz.pinned (OpenSpec.upto seqWaitsSpec)

/-- 'isochronlaw14.SeqAlone', WHERE WHAT IT READS IS OF BULK AT MOST 1048576: true; the input reads as it did. -/
def seqAloneUptoRow : OpenClaim := { program := "ytofgeidjbfmmdaagreatdoor", sum := "b6ec6d90793ba897ca5815165ddfebb3e8f64f81af43c14dba49000d329df25f", func := "isochron/isochronlaw14.SeqAlone", spec := "seqAlone", inPlace := ["internal/reflectlite.TypeOf", "internal/reflectlite.ValueOf", "(internal/reflectlite.Value).Type", "(internal/reflectlite.Value).IsNil", "(internal/reflectlite.Value).Elem", "(internal/reflectlite.Value).Set"], unfollowed := true, recurses := true, named := ["errors.errorType"], apart := false, laid := [("errors.errorType", laid_errors_errorType)], narrowed := true }
def SeqAloneUptoSaid : Prop := seqAloneUptoRow.holds Tryz.pinned (OpenSpec.upto seqAloneSpec)

end Rows
end Go.Proofs.YtofgeidjbfmmdaaGreatDoor
