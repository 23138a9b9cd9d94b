/-
  DERIVED. GIVEN WITH THE SEED: THE CARDS: each row of YtnhbcleiibogmaaGreatDoorRows.lean that lists a variable, with what it lists TIED to the program's text (the seventh form; the later family's looks); each row that meets fmt, with fmt's text TOLD by the authors' own Lean function (tested against real Go, not proved from fmt's source: count such statements apart). THE CARD IS WHAT COUNTS. Prove the row's statement (the work); the ties are given (YtnhbcleiibogmaaGreatDoorTie.lean); close each card by the builder's one call (the guide's Derived/Test/ToyasCard.lean, 'card_holds'). Laid BY PROGRAM, IN A SANDBOX (cutbox-door.mjs). By AI agents, Wed Nov 11 2026. No macro, syntax, notation, axiom, sorry.
-/
import Derived.Test.YtnhbcleiibogmaaGreatDoorRows
import GoSem.ClaimSeven
namespace Go.Proofs.YtnhbcleiibogmaaGreatDoor
namespace Rows

/-- THE TIED CARD OF 'isochronlaw18.KernelZero'. -/
def kernelZeroCard : Claim7 := { stood := { row := kernelZeroRow, standIns := [], harness := (true, "31125d50a13a6ebd9b68cd4148500b464cbb537d215e89df127b70666cfefa11"), looks := true }, kinds := [], alts := [], laidByText := true, laidKinds := [.handle], laidTests := true, laidLooks := .later }
def KernelZeroCardSaid : Prop := Claim7.holds Tryz.pinned (.plain (OpenSpec.ofChange kernelZeroSpec)) kernelZeroCard

/-- THE TIED CARD OF 'isochronlaw18.KernelBegins'. -/
def kernelBeginsCard : Claim7 := { stood := { row := kernelBeginsRow, standIns := [], harness := (true, "31125d50a13a6ebd9b68cd4148500b464cbb537d215e89df127b70666cfefa11"), looks := true }, kinds := [], alts := [], laidByText := true, laidKinds := [.handle], laidTests := true, laidLooks := .later }
def KernelBeginsCardSaid : Prop := Claim7.holds Tryz.pinned (.plain (OpenSpec.ofChange kernelBeginsSpec)) kernelBeginsCard

/-- THE TIED CARD OF 'isochronlaw18.KernelNull'. -/
def kernelNullCard : Claim7 := { stood := { row := kernelNullRow, standIns := [], harness := (true, "31125d50a13a6ebd9b68cd4148500b464cbb537d215e89df127b70666cfefa11"), looks := true }, kinds := [], alts := [], laidByText := true, laidKinds := [.handle], laidTests := true, laidLooks := .later }
def KernelNullCardSaid : Prop := Claim7.holds Tryz.pinned (.plain (OpenSpec.ofChange kernelNullSpec)) kernelNullCard

/-- THE TIED CARD OF 'isochronlaw18.KernelStands'. -/
def kernelStandsCard : Claim7 := { stood := { row := kernelStandsRow, standIns := [], harness := (true, "31125d50a13a6ebd9b68cd4148500b464cbb537d215e89df127b70666cfefa11"), looks := true }, kinds := [], alts := [], laidByText := true, laidKinds := [.handle], laidTests := true, laidLooks := .later }
def KernelStandsCardSaid : Prop := Claim7.holds Tryz.pinned (.plain (OpenSpec.ofChange kernelStandsSpec)) kernelStandsCard

/-- THE TIED CARD OF 'isochronlaw18.KernelSettings'. -/
def kernelSettingsCard : Claim7 := { stood := { row := kernelSettingsRow, standIns := [], harness := (true, "31125d50a13a6ebd9b68cd4148500b464cbb537d215e89df127b70666cfefa11"), looks := true }, kinds := [], alts := [], laidByText := true, laidKinds := [.handle], laidTests := true, laidLooks := .later }
def KernelSettingsCardSaid : Prop := Claim7.holds Tryz.pinned (.plain (OpenSpec.ofChange kernelSettingsSpec)) kernelSettingsCard

/-- THE TIED CARD OF 'isochronlaw18.KernelRefuses'. -/
def kernelRefusesCard : Claim7 := { stood := { row := kernelRefusesRow, standIns := [], harness := (true, "31125d50a13a6ebd9b68cd4148500b464cbb537d215e89df127b70666cfefa11"), looks := true }, kinds := [], alts := [], laidByText := true, laidKinds := [.handle], laidTests := true, laidLooks := .later }
def KernelRefusesCardSaid : Prop := Claim7.holds Tryz.pinned (.plain (OpenSpec.ofChange kernelRefusesSpec)) kernelRefusesCard

/-- THE TIED CARD OF 'isochronlaw18.KernelQuiet'. -/
def kernelQuietCard : Claim7 := { stood := { row := kernelQuietRow, standIns := [], harness := (true, "31125d50a13a6ebd9b68cd4148500b464cbb537d215e89df127b70666cfefa11"), looks := true }, kinds := [], alts := [], laidByText := true, laidKinds := [.handle], laidTests := true, laidLooks := .later }
def KernelQuietCardSaid : Prop := Claim7.holds Tryz.pinned (.plain (OpenSpec.ofChange kernelQuietSpec)) kernelQuietCard

/-- THE TIED CARD OF 'isochronlaw18.KernelGlobal'. -/
def kernelGlobalCard : Claim7 := { stood := { row := kernelGlobalRow, standIns := [], harness := (true, "31125d50a13a6ebd9b68cd4148500b464cbb537d215e89df127b70666cfefa11"), looks := true }, kinds := [], alts := [], laidByText := true, laidKinds := [.handle], laidTests := true, laidLooks := .later }
def KernelGlobalCardSaid : Prop := Claim7.holds Tryz.pinned (.plain (OpenSpec.ofChange kernelGlobalSpec)) kernelGlobalCard

/-- THE TIED CARD OF 'isochronlaw18.KernelRuns'. -/
def kernelRunsCard : Claim7 := { stood := { row := kernelRunsRow, standIns := [], harness := (true, "31125d50a13a6ebd9b68cd4148500b464cbb537d215e89df127b70666cfefa11"), looks := true }, kinds := [], alts := [], laidByText := true, laidKinds := [.handle], laidTests := true, laidLooks := .later }
def KernelRunsCardSaid : Prop := Claim7.holds Tryz.pinned (.plain (OpenSpec.ofChange kernelRunsSpec)) kernelRunsCard

/-- THE TIED CARD OF 'isochronlaw18.KernelDone'. -/
def kernelDoneCard : Claim7 := { stood := { row := kernelDoneRow, standIns := [], harness := (true, "31125d50a13a6ebd9b68cd4148500b464cbb537d215e89df127b70666cfefa11"), looks := true }, kinds := [], alts := [], laidByText := true, laidKinds := [.handle], laidTests := true, laidLooks := .later }
def KernelDoneCardSaid : Prop := Claim7.holds Tryz.pinned (.plain (OpenSpec.ofChange kernelDoneSpec)) kernelDoneCard

/-- THE TIED CARD OF 'isochronlaw18.KernelRoom'. -/
def kernelRoomCard : Claim7 := { stood := { row := kernelRoomRow, standIns := [], harness := (true, "31125d50a13a6ebd9b68cd4148500b464cbb537d215e89df127b70666cfefa11"), looks := true }, kinds := [], alts := [], laidByText := true, laidKinds := [.handle], laidTests := true, laidLooks := .later }
def KernelRoomCardSaid : Prop := Claim7.holds Tryz.pinned (.plain (OpenSpec.ofChange kernelRoomSpec)) kernelRoomCard

/-- THE SECOND FORM's CARD OF 'isochronlaw18.KernelZero'. -/
def kernelZeroUptoCard : Claim7 := { stood := { row := kernelZeroUptoRow, standIns := [], harness := (true, "31125d50a13a6ebd9b68cd4148500b464cbb537d215e89df127b70666cfefa11"), looks := true }, kinds := [], alts := [], laidByText := true, laidKinds := [.handle], laidTests := true, laidLooks := .later }
def KernelZeroUptoCardSaid : Prop := Claim7.holds Tryz.pinned (.plain (OpenSpec.upto kernelZeroSpec)) kernelZeroUptoCard

/-- THE SECOND FORM's CARD OF 'isochronlaw18.KernelBegins'. -/
def kernelBeginsUptoCard : Claim7 := { stood := { row := kernelBeginsUptoRow, standIns := [], harness := (true, "31125d50a13a6ebd9b68cd4148500b464cbb537d215e89df127b70666cfefa11"), looks := true }, kinds := [], alts := [], laidByText := true, laidKinds := [.handle], laidTests := true, laidLooks := .later }
def KernelBeginsUptoCardSaid : Prop := Claim7.holds Tryz.pinned (.plain (OpenSpec.upto kernelBeginsSpec)) kernelBeginsUptoCard

/-- THE SECOND FORM's CARD OF 'isochronlaw18.KernelNull'. -/
def kernelNullUptoCard : Claim7 := { stood := { row := kernelNullUptoRow, standIns := [], harness := (true, "31125d50a13a6ebd9b68cd4148500b464cbb537d215e89df127b70666cfefa11"), looks := true }, kinds := [], alts := [], laidByText := true, laidKinds := [.handle], laidTests := true, laidLooks := .later }
def KernelNullUptoCardSaid : Prop := Claim7.holds Tryz.pinned (.plain (OpenSpec.upto kernelNullSpec)) kernelNullUptoCard

/-- THE SECOND FORM's CARD OF 'isochronlaw18.KernelStands'. -/
def kernelStandsUptoCard : Claim7 := { stood := { row := kernelStandsUptoRow, standIns := [], harness := (true, "31125d50a13a6ebd9b68cd4148500b464cbb537d215e89df127b70666cfefa11"), looks := true }, kinds := [], alts := [], laidByText := true, laidKinds := [.handle], laidTests := true, laidLooks := .later }
def KernelStandsUptoCardSaid : Prop := Claim7.holds Tryz.pinned (.plain (OpenSpec.upto kernelStandsSpec)) kernelStandsUptoCard

/-- THE SECOND FORM's CARD OF 'isochronlaw18.KernelSettings'. -/
def kernelSettingsUptoCard : Claim7 := { stood := { row := kernelSettingsUptoRow, standIns := [], harness := (true, "31125d50a13a6ebd9b68cd4148500b464cbb537d215e89df127b70666cfefa11"), looks := true }, kinds := [], alts := [], laidByText := true, laidKinds := [.handle], laidTests := true, laidLooks := .later }
def KernelSettingsUptoCardSaid : Prop := Claim7.holds Tryz.pinned (.plain (OpenSpec.upto kernelSettingsSpec)) kernelSettingsUptoCard

/-- THE SECOND FORM's CARD OF 'isochronlaw18.KernelRefuses'. -/
def kernelRefusesUptoCard : Claim7 := { stood := { row := kernelRefusesUptoRow, standIns := [], harness := (true, "31125d50a13a6ebd9b68cd4148500b464cbb537d215e89df127b70666cfefa11"), looks := true }, kinds := [], alts := [], laidByText := true, laidKinds := [.handle], laidTests := true, laidLooks := .later }
def KernelRefusesUptoCardSaid : Prop := Claim7.holds Tryz.pinned (.plain (OpenSpec.upto kernelRefusesSpec)) kernelRefusesUptoCard

/-- THE SECOND FORM's CARD OF 'isochronlaw18.KernelQuiet'. -/
def kernelQuietUptoCard : Claim7 := { stood := { row := kernelQuietUptoRow, standIns := [], harness := (true, "31125d50a13a6ebd9b68cd4148500b464cbb537d215e89df127b70666cfefa11"), looks := true }, kinds := [], alts := [], laidByText := true, laidKinds := [.handle], laidTests := true, laidLooks := .later }
def KernelQuietUptoCardSaid : Prop := Claim7.holds Tryz.pinned (.plain (OpenSpec.upto kernelQuietSpec)) kernelQuietUptoCard

/-- THE SECOND FORM's CARD OF 'isochronlaw18.KernelGlobal'. -/
def kernelGlobalUptoCard : Claim7 := { stood := { row := kernelGlobalUptoRow, standIns := [], harness := (true, "31125d50a13a6ebd9b68cd4148500b464cbb537d215e89df127b70666cfefa11"), looks := true }, kinds := [], alts := [], laidByText := true, laidKinds := [.handle], laidTests := true, laidLooks := .later }
def KernelGlobalUptoCardSaid : Prop := Claim7.holds Tryz.pinned (.plain (OpenSpec.upto kernelGlobalSpec)) kernelGlobalUptoCard

/-- THE SECOND FORM's CARD OF 'isochronlaw18.KernelRuns'. -/
def kernelRunsUptoCard : Claim7 := { stood := { row := kernelRunsUptoRow, standIns := [], harness := (true, "31125d50a13a6ebd9b68cd4148500b464cbb537d215e89df127b70666cfefa11"), looks := true }, kinds := [], alts := [], laidByText := true, laidKinds := [.handle], laidTests := true, laidLooks := .later }
def KernelRunsUptoCardSaid : Prop := Claim7.holds Tryz.pinned (.plain (OpenSpec.upto kernelRunsSpec)) kernelRunsUptoCard

/-- THE SECOND FORM's CARD OF 'isochronlaw18.KernelDone'. -/
def kernelDoneUptoCard : Claim7 := { stood := { row := kernelDoneUptoRow, standIns := [], harness := (true, "31125d50a13a6ebd9b68cd4148500b464cbb537d215e89df127b70666cfefa11"), looks := true }, kinds := [], alts := [], laidByText := true, laidKinds := [.handle], laidTests := true, laidLooks := .later }
def KernelDoneUptoCardSaid : Prop := Claim7.holds Tryz.pinned (.plain (OpenSpec.upto kernelDoneSpec)) kernelDoneUptoCard

/-- THE SECOND FORM's CARD OF 'isochronlaw18.KernelRoom'. -/
def kernelRoomUptoCard : Claim7 := { stood := { row := kernelRoomUptoRow, standIns := [], harness := (true, "31125d50a13a6ebd9b68cd4148500b464cbb537d215e89df127b70666cfefa11"), looks := true }, kinds := [], alts := [], laidByText := true, laidKinds := [.handle], laidTests := true, laidLooks := .later }
def KernelRoomUptoCardSaid : Prop := Claim7.holds Tryz.pinned (.plain (OpenSpec.upto kernelRoomSpec)) kernelRoomUptoCard
end Rows
end Go.Proofs.YtnhbcleiibogmaaGreatDoor
