/-
  What the row of KernelSettings says of its program, asked of the program itself, one by one.
-/
import Derived.Test.YtpheghebfodiiaaGreatDoorRows
import Derived.Test.YtpheghebfodiiaaGreatDoorChecked
import Derived.ProofKit
import Derived.KernelRfl
import Derived.JoinedOf
namespace Go.Proofs.YtpheghebfodiiaaGreatDoor.kernelSettings
open Go.RowKit
noncomputable abbrev P := Tryz.prog
noncomputable abbrev c := Rows.kernelSettingsRow
noncomputable abbrev s := (OpenSpec.ofChange Rows.kernelSettingsSpec).bare
noncomputable abbrev fn := Tryz.f3
theorem cl_wf : (c.wf (OpenSpec.ofChange s)) = true := by kernel_rfl
theorem cl_laidOut : (laidOutB P) = true := by kernel_rfl
theorem cl_mapsRowed : (mapsRowed P) = true := by kernel_rfl
theorem cl_readable : (fn.params.all (P.readableRec ·)) = true := by kernel_rfl
theorem cl_namedTie : (namedTie P c.named s.vars) = true := by kernel_rfl
theorem cl_stops : (c.stops == []) = true := by kernel_rfl
theorem cl_stops2 : (P.stops == []) = true := by kernel_rfl
theorem cl_knobs : (c.knobs == []) = true := by kernel_rfl
theorem cl_stopKnobs : (P.stopKnobs == []) = true := by kernel_rfl
theorem cl_inPlace : (c.inPlace == P.inPlace 3) = true := by kernel_rfl
theorem cl_unfollowed : (c.unfollowed == P.unfollowed 3) = true := by kernel_rfl
theorem cl_recurses : (c.recurses == P.recurses 3) = true := by kernel_rfl
theorem cl_varsNamed : (c.named == P.varsNamed 3) = true := by kernel_rfl
theorem cl_maps : (c.maps == (fn.params.toList ++ s.plain.varTypes P).any (P.mapsRec ·)) = true := by kernel_rfl
theorem cl_ifaces : (c.ifaces == (fn.params.toList ++ s.plain.varTypes P).any (P.ifacesRec ·)) = true := by kernel_rfl
theorem cl_mapsOut : (c.mapsOut == P.mapsAmong fn.resultTypes.toList) = true := by kernel_rfl
theorem cl_loops : (c.loops == (fn.params.toList ++ s.plain.varTypes P).any (P.loopsFrom ·)) = true := by kernel_rfl
theorem cl_wideKeys : (c.wideKeys == (fn.params.toList ++ s.plain.varTypes P ++ fn.resultTypes.toList).any (P.wideKeysFrom ·)) = true := by kernel_rfl
theorem cl_vars : (s.vars.all (P.varReadable ·)) = true := by kernel_rfl
theorem cl_res : (fn.resultTypes.all (fun t => P.readableRec t && decide (t < P.types.size))) = true := by kernel_rfl
theorem cl_ifacesOut : (c.ifacesOut == fn.resultTypes.toList.any (P.ifacesRec ·)) = true := by kernel_rfl
theorem cl_loopsOut : (c.loopsOut == fn.resultTypes.toList.any (P.loopsFrom ·)) = true := by kernel_rfl
theorem cl_plainKeys : (c.plainKeys == P.plainKeys) = true := by kernel_rfl
theorem cl_shortTexts : (c.shortTexts.isNone) = true := by kernel_rfl
theorem cl_stopsHeard : (P.stopsHeard) = true := by kernel_rfl
theorem cl_mayEnter : (P.mayEnter) = true := by kernel_rfl
theorem cl_lifted : (c.lifted == P.liftsFinal) = true := by kernel_rfl
theorem cl_make : (P.make == some c.make) = true := by kernel_rfl
theorem cl_kinds : (c.kinds == (if c.domain.isEmpty then [] else fn.params.toList.map fun t => match P.underlying t with | some (.int k) => some k | _ => none)) = true := by kernel_rfl
theorem cl_pinned : (c.pinned == c.pinnedBy) = true := by kernel_rfl
theorem cl_veiled : (c.veiled == (fn.params.toList ++ s.plain.varTypes P ++ fn.resultTypes.toList).any (P.veiledRec ·)) = true := by kernel_rfl
theorem cl_veiledFits : (c.veiledFits P fn.params.toList (fn.params.toList ++ s.plain.varTypes P ++ fn.resultTypes.toList)) = true := by kernel_rfl
set_option maxRecDepth 100000 in
theorem closed : joinedFacts P 3 fn s c = true := by
  simp only [joinedFacts, Bool.and_eq_true]
  exact ⟨⟨⟨⟨⟨⟨⟨⟨⟨⟨⟨⟨⟨⟨⟨⟨⟨⟨⟨⟨⟨⟨⟨⟨⟨⟨⟨⟨⟨⟨⟨cl_wf, cl_laidOut⟩, cl_mapsRowed⟩, cl_readable⟩, cl_namedTie⟩, cl_stops⟩, cl_stops2⟩, cl_knobs⟩, cl_stopKnobs⟩, cl_inPlace⟩, cl_unfollowed⟩, cl_recurses⟩, cl_varsNamed⟩, cl_maps⟩, cl_ifaces⟩, cl_mapsOut⟩, cl_loops⟩, cl_wideKeys⟩, cl_vars⟩, cl_res⟩, cl_ifacesOut⟩, cl_loopsOut⟩, cl_plainKeys⟩, cl_shortTexts⟩, cl_stopsHeard⟩, cl_mayEnter⟩, cl_lifted⟩, cl_make⟩, cl_kinds⟩, cl_pinned⟩, cl_veiled⟩, cl_veiledFits⟩
end Go.Proofs.YtpheghebfodiiaaGreatDoor.kernelSettings
