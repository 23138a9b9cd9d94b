/-
  NARROWER THAN 'FOR EVERY INPUT', by the rows' own cells (each row's printed sentence says how): LaneLimits: laid · LaneZero: laid · LaneCancels: laid · LaneBalance: laid · LaneOrders: laid.
  DERIVED. THE GIVEN ROWS OF THIS SEAT. 5 by the template 'for every input the law returns true; each argument reads behind the call as it read before'; 0 by the template 'total and deterministic' (their statements: YtdaibkppbhbggaaGreatDoorTotals.lean).
  GIVEN WITH THE SEED: the statements are not yours to turn. If you find one false, say at which input.
  Laid BY PROGRAM, IN A SANDBOX (cutbox-rows.mjs): the forced cells as the released guide's own fill.sh prints them over the translation e50871e9fe092c4b… (all of the seat's roots in one cut). By AI agents, Wed Nov 11 2026. No macro, syntax, notation, axiom, sorry.
-/
import Derived.Test.YtdaibkppbhbggaaGreatDoorChecked
import GoSem.Claim
import GoSem.ClaimJoined
import GoSem.ClaimMapViews
import Derived.JoinedTies
import Derived.KernelRfl
namespace Go.Proofs.YtdaibkppbhbggaaGreatDoor
/- THE CELL 'sum', in the pinned program and in every row, IS THE sha256 OF THE DUMP (.gsa) THAT YtdaibkppbhbggaaGreatDoorProg.lean LOADS. Nothing in Lean hashes anything: it is a label: what it is worth is what the hold of that sum in a sandbox is worth. -/
noncomputable def Tryz.pinned : Pinned := { name := "ytdaibkppbhbggaagreatdoor", sum := "e50871e9fe092c4b1a820b9d8e9da60471982a45f4d2a273ee63bf2f7210c017", checked := Tryz.checked }
namespace Rows
def none {H : Type} : Left H := { results := [], args := [] }

/- WHAT THE LISTED PACKAGE-LEVEL VARIABLES READ AS WHEN THE CALL BEGINS. Each datum BY PROGRAM (the guide's laid-datum.mjs) off the statement by which the dump's own 'gosem.cut.vars' lays the variable. In a bare row this is a premise. The card (YtdaibkppbhbggaaGreatDoorCards.lean) ties it to the program's text. -/
def laid_errors_errorType {H : Type} : DataW H := .iface "internal/reflectlite.rtype" (.agg [.ptr (.lit (.string [101, 114, 114, 111, 114]))])

/-- 'isochronlaw17.LaneLimits': WHATEVER THE INPUT: true; the input reads as it did. -/
def laneLimitsSpec : ChangeSpec := { name := "laneLimits", fn := fun _ => fun
  | [d1, d2] => { results := [.lit (.bool true)], args := [d1, d2] }
  | _ => none }
def laneLimitsRow : OpenClaim := { program := "ytdaibkppbhbggaagreatdoor", sum := "e50871e9fe092c4b1a820b9d8e9da60471982a45f4d2a273ee63bf2f7210c017", func := "isochron/isochronlaw17.LaneLimits", spec := "laneLimits", inPlace := ["internal/reflectlite.TypeOf", "internal/reflectlite.ValueOf", "(internal/reflectlite.Value).Type", "(internal/reflectlite.Value).IsNil", "(internal/reflectlite.Value).Elem", "(internal/reflectlite.Value).Set"], unfollowed := true, recurses := true, named := ["errors.errorType"], plainKeys := false, apart := false, laid := [("errors.errorType", laid_errors_errorType)] }
def LaneLimitsSaid : Prop := laneLimitsRow.holds Tryz.pinned (OpenSpec.ofChange laneLimitsSpec)

/-- ITS FALSE NEIGHBOUR: 'it returns false'. Refute it at one input. -/
def laneLimitsWrong : ChangeSpec := { name := "laneLimits", fn := fun _ => fun
  | [d1, d2] => { results := [.lit (.bool false)], args := [d1, d2] }
  | _ => none }
def LaneLimitsWrongFalsely : Prop := laneLimitsRow.holds Tryz.pinned (OpenSpec.ofChange laneLimitsWrong)

/-- 'isochronlaw17.LaneZero': WHATEVER THE INPUT: true; the input reads as it did. -/
def laneZeroSpec : ChangeSpec := { name := "laneZero", fn := fun _ => fun
  | [d1, d2] => { results := [.lit (.bool true)], args := [d1, d2] }
  | _ => none }
def laneZeroRow : OpenClaim := { program := "ytdaibkppbhbggaagreatdoor", sum := "e50871e9fe092c4b1a820b9d8e9da60471982a45f4d2a273ee63bf2f7210c017", func := "isochron/isochronlaw17.LaneZero", spec := "laneZero", inPlace := ["internal/reflectlite.TypeOf", "internal/reflectlite.ValueOf", "(internal/reflectlite.Value).Type", "(internal/reflectlite.Value).IsNil", "(internal/reflectlite.Value).Elem", "(internal/reflectlite.Value).Set"], unfollowed := true, recurses := true, named := ["errors.errorType"], plainKeys := false, apart := false, laid := [("errors.errorType", laid_errors_errorType)] }
def LaneZeroSaid : Prop := laneZeroRow.holds Tryz.pinned (OpenSpec.ofChange laneZeroSpec)

/-- ITS FALSE NEIGHBOUR: 'it returns false'. Refute it at one input. -/
def laneZeroWrong : ChangeSpec := { name := "laneZero", fn := fun _ => fun
  | [d1, d2] => { results := [.lit (.bool false)], args := [d1, d2] }
  | _ => none }
def LaneZeroWrongFalsely : Prop := laneZeroRow.holds Tryz.pinned (OpenSpec.ofChange laneZeroWrong)

/-- 'isochronlaw17.LaneCancels': WHATEVER THE INPUT: true; the input reads as it did. -/
def laneCancelsSpec : ChangeSpec := { name := "laneCancels", fn := fun _ => fun
  | [d1, d2, d3, d4] => { results := [.lit (.bool true)], args := [d1, d2, d3, d4] }
  | _ => none }
def laneCancelsRow : OpenClaim := { program := "ytdaibkppbhbggaagreatdoor", sum := "e50871e9fe092c4b1a820b9d8e9da60471982a45f4d2a273ee63bf2f7210c017", func := "isochron/isochronlaw17.LaneCancels", spec := "laneCancels", inPlace := ["internal/reflectlite.TypeOf", "internal/reflectlite.ValueOf", "(internal/reflectlite.Value).Type", "(internal/reflectlite.Value).IsNil", "(internal/reflectlite.Value).Elem", "(internal/reflectlite.Value).Set"], unfollowed := true, recurses := true, named := ["errors.errorType"], plainKeys := false, apart := false, laid := [("errors.errorType", laid_errors_errorType)] }
def LaneCancelsSaid : Prop := laneCancelsRow.holds Tryz.pinned (OpenSpec.ofChange laneCancelsSpec)

/-- ITS FALSE NEIGHBOUR: 'it returns false'. Refute it at one input. -/
def laneCancelsWrong : ChangeSpec := { name := "laneCancels", fn := fun _ => fun
  | [d1, d2, d3, d4] => { results := [.lit (.bool false)], args := [d1, d2, d3, d4] }
  | _ => none }
def LaneCancelsWrongFalsely : Prop := laneCancelsRow.holds Tryz.pinned (OpenSpec.ofChange laneCancelsWrong)

/-- 'isochronlaw17.LaneBalance': WHATEVER THE INPUT: true; the input reads as it did. -/
def laneBalanceSpec : ChangeSpec := { name := "laneBalance", fn := fun _ => fun
  | [d1, d2, d3, d4] => { results := [.lit (.bool true)], args := [d1, d2, d3, d4] }
  | _ => none }
def laneBalanceRow : OpenClaim := { program := "ytdaibkppbhbggaagreatdoor", sum := "e50871e9fe092c4b1a820b9d8e9da60471982a45f4d2a273ee63bf2f7210c017", func := "isochron/isochronlaw17.LaneBalance", spec := "laneBalance", inPlace := ["internal/reflectlite.TypeOf", "internal/reflectlite.ValueOf", "(internal/reflectlite.Value).Type", "(internal/reflectlite.Value).IsNil", "(internal/reflectlite.Value).Elem", "(internal/reflectlite.Value).Set"], unfollowed := true, recurses := true, named := ["errors.errorType"], plainKeys := false, apart := false, laid := [("errors.errorType", laid_errors_errorType)] }
def LaneBalanceSaid : Prop := laneBalanceRow.holds Tryz.pinned (OpenSpec.ofChange laneBalanceSpec)

/-- ITS FALSE NEIGHBOUR: 'it returns false'. Refute it at one input. -/
def laneBalanceWrong : ChangeSpec := { name := "laneBalance", fn := fun _ => fun
  | [d1, d2, d3, d4] => { results := [.lit (.bool false)], args := [d1, d2, d3, d4] }
  | _ => none }
def LaneBalanceWrongFalsely : Prop := laneBalanceRow.holds Tryz.pinned (OpenSpec.ofChange laneBalanceWrong)

/-- 'isochronlaw17.LaneOrders': WHATEVER THE INPUT: true; the input reads as it did. -/
def laneOrdersSpec : ChangeSpec := { name := "laneOrders", fn := fun _ => fun
  | [d1, d2, d3, d4, d5] => { results := [.lit (.bool true)], args := [d1, d2, d3, d4, d5] }
  | _ => none }
def laneOrdersRow : OpenClaim := { program := "ytdaibkppbhbggaagreatdoor", sum := "e50871e9fe092c4b1a820b9d8e9da60471982a45f4d2a273ee63bf2f7210c017", func := "isochron/isochronlaw17.LaneOrders", spec := "laneOrders", inPlace := ["internal/reflectlite.TypeOf", "internal/reflectlite.ValueOf", "(internal/reflectlite.Value).Type", "(internal/reflectlite.Value).IsNil", "(internal/reflectlite.Value).Elem", "(internal/reflectlite.Value).Set"], unfollowed := true, recurses := true, named := ["errors.errorType"], plainKeys := false, apart := false, laid := [("errors.errorType", laid_errors_errorType)] }
def LaneOrdersSaid : Prop := laneOrdersRow.holds Tryz.pinned (OpenSpec.ofChange laneOrdersSpec)

/-- ITS FALSE NEIGHBOUR: 'it returns false'. Refute it at one input. -/
def laneOrdersWrong : ChangeSpec := { name := "laneOrders", fn := fun _ => fun
  | [d1, d2, d3, d4, d5] => { results := [.lit (.bool false)], args := [d1, d2, d3, d4, d5] }
  | _ => none }
def LaneOrdersWrongFalsely : Prop := laneOrdersRow.holds Tryz.pinned (OpenSpec.ofChange laneOrdersWrong)

/- THE SECOND FORM. 'bulk': how many values and letters a reading holds, each counted each time it is reached (what is shared counts as often as it is met; a slice's spare places count too). A statement '..UptoSaid' is the law's where the arguments, and the package variables that the reading takes, are together of bulk at most 1048576: NARROWER than '..Said'. Prove '..Said' where nothing that the law and all that it calls make is longer than what came in: it says more and counts as full. Else prove '..UptoSaid'. A law counts once. -/
mutual
def uptoBulk {H : Type} : DataW H → Nat
  | .lit (.string bytes) => bytes.length + 1
  | .lit _ => 1
  | .nil => 1
  | .ptr d => uptoBulk d + 1
  | .slice elems spare => uptoBulkAll elems + uptoBulkAll spare + 1
  | .agg parts => uptoBulkAll parts + 1
  | .iface _ d => uptoBulk d + 1
  | .map entries => uptoBulkEntries entries + 1
  | .held _ => 1
def uptoBulkAll {H : Type} : List (DataW H) → Nat
  | [] => 0
  | d :: r => uptoBulk d + uptoBulkAll r
def uptoBulkEntries {H : Type} : List (Lit × DataW H) → Nat
  | [] => 0
  | x :: r => uptoBulkEntry x + uptoBulkEntries r
def uptoBulkEntry {H : Type} : Lit × DataW H → Nat
  | (.string bytes, d) => bytes.length + uptoBulk d + 1
  | (_, d) => uptoBulk d + 1
 end
def uptoSmall : (H : Type) → List (DataW H) → Bool := fun _ ds => decide (uptoBulkAll ds ≤ 1048576)
def OpenSpec.upto (s : _root_.Go.ChangeSpec) : _root_.Go.OpenSpec := { _root_.Go.OpenSpec.ofChange s with cond := some uptoSmall }

/-- 'isochronlaw17.LaneLimits', WHERE WHAT IT READS IS OF BULK AT MOST 1048576: true; the input reads as it did. -/
def laneLimitsUptoRow : OpenClaim := { program := "ytdaibkppbhbggaagreatdoor", sum := "e50871e9fe092c4b1a820b9d8e9da60471982a45f4d2a273ee63bf2f7210c017", func := "isochron/isochronlaw17.LaneLimits", spec := "laneLimits", inPlace := ["internal/reflectlite.TypeOf", "internal/reflectlite.ValueOf", "(internal/reflectlite.Value).Type", "(internal/reflectlite.Value).IsNil", "(internal/reflectlite.Value).Elem", "(internal/reflectlite.Value).Set"], unfollowed := true, recurses := true, named := ["errors.errorType"], plainKeys := false, apart := false, laid := [("errors.errorType", laid_errors_errorType)], narrowed := true }
def LaneLimitsUptoSaid : Prop := laneLimitsUptoRow.holds Tryz.pinned (OpenSpec.upto laneLimitsSpec)

/-- 'isochronlaw17.LaneZero', WHERE WHAT IT READS IS OF BULK AT MOST 1048576: true; the input reads as it did. -/
def laneZeroUptoRow : OpenClaim := { program := "ytdaibkppbhbggaagreatdoor", sum := "e50871e9fe092c4b1a820b9d8e9da60471982a45f4d2a273ee63bf2f7210c017", func := "isochron/isochronlaw17.LaneZero", spec := "laneZero", inPlace := ["internal/reflectlite.TypeOf", "internal/reflectlite.ValueOf", "(internal/reflectlite.Value).Type", "(internal/reflectlite.Value).IsNil", "(internal/reflectlite.Value).Elem", "(internal/reflectlite.Value).Set"], unfollowed := true, recurses := true, named := ["errors.errorType"], plainKeys := false, apart := false, laid := [("errors.errorType", laid_errors_errorType)], narrowed := true }
def LaneZeroUptoSaid : Prop := laneZeroUptoRow.holds Tryz.pinned (OpenSpec.upto laneZeroSpec)

/-- 'isochronlaw17.LaneCancels', WHERE WHAT IT READS IS OF BULK AT MOST 1048576: true; the input reads as it did. -/
def laneCancelsUptoRow : OpenClaim := { program := "ytdaibkppbhbggaagreatdoor", sum := "e50871e9fe092c4b1a820b9d8e9da60471982a45f4d2a273ee63bf2f7210c017", func := "isochron/isochronlaw17.LaneCancels", spec := "laneCancels", inPlace := ["internal/reflectlite.TypeOf", "internal/reflectlite.ValueOf", "(internal/reflectlite.Value).Type", "(internal/reflectlite.Value).IsNil", "(internal/reflectlite.Value).Elem", "(internal/reflectlite.Value).Set"], unfollowed := true, recurses := true, named := ["errors.errorType"], plainKeys := false, apart := false, laid := [("errors.errorType", laid_errors_errorType)], narrowed := true }
def LaneCancelsUptoSaid : Prop := laneCancelsUptoRow.holds Tryz.pinned (OpenSpec.upto laneCancelsSpec)

/-- 'isochronlaw17.LaneBalance', WHERE WHAT IT READS IS OF BULK AT MOST 1048576: true; the input reads as it did. -/
def laneBalanceUptoRow : OpenClaim := { program := "ytdaibkppbhbggaagreatdoor", sum := "e50871e9fe092c4b1a820b9d8e9da60471982a45f4d2a273ee63bf2f7210c017", func := "isochron/isochronlaw17.LaneBalance", spec := "laneBalance", inPlace := ["internal/reflectlite.TypeOf", "internal/reflectlite.ValueOf", "(internal/reflectlite.Value).Type", "(internal/reflectlite.Value).IsNil", "(internal/reflectlite.Value).Elem", "(internal/reflectlite.Value).Set"], unfollowed := true, recurses := true, named := ["errors.errorType"], plainKeys := false, apart := false, laid := [("errors.errorType", laid_errors_errorType)], narrowed := true }
def LaneBalanceUptoSaid : Prop := laneBalanceUptoRow.holds Tryz.pinned (OpenSpec.upto laneBalanceSpec)

/-- 'isochronlaw17.LaneOrders', WHERE WHAT IT READS IS OF BULK AT MOST 1048576: true; the input reads as it did. -/
def laneOrdersUptoRow : OpenClaim := { program := "ytdaibkppbhbggaagreatdoor", sum := "e50871e9fe092c4b1a820b9d8e9da60471982a45f4d2a273ee63bf2f7210c017", func := "isochron/isochronlaw17.LaneOrders", spec := "laneOrders", inPlace := ["internal/reflectlite.TypeOf", "internal/reflectlite.ValueOf", "(internal/reflectlite.Value).Type", "(internal/reflectlite.Value).IsNil", "(internal/reflectlite.Value).Elem", "(internal/reflectlite.Value).Set"], unfollowed := true, recurses := true, named := ["errors.errorType"], plainKeys := false, apart := false, laid := [("errors.errorType", laid_errors_errorType)], narrowed := true }
def LaneOrdersUptoSaid : Prop := laneOrdersUptoRow.holds Tryz.pinned (OpenSpec.upto laneOrdersSpec)

end Rows
end Go.Proofs.YtdaibkppbhbggaaGreatDoor
