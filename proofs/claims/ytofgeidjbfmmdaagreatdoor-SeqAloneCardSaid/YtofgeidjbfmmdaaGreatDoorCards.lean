/-
  DERIVED. GIVEN WITH THE SEED: THE CARDS: each row of YtofgeidjbfmmdaaGreatDoorRows.lean that lists a variable, with what it lists TIED to the program's text (the seventh form; the later family's looks); each row that meets fmt, with fmt's text TOLD by the authors' own Lean function (tested against real Go, not proved from fmt's source: count such statements apart). THE CARD IS WHAT COUNTS. Prove the row's statement (the work); the ties are given (YtofgeidjbfmmdaaGreatDoorTie.lean); close each card by the builder's one call (the guide's Derived/Test/ToyasCard.lean, 'card_holds'). Laid BY PROGRAM, IN A SANDBOX (cutbox-door.mjs). By AI agents, Wed Nov 11 2026. No macro, syntax, notation, axiom, sorry.
-/
import Derived.Test.YtofgeidjbfmmdaaGreatDoorRows
import GoSem.ClaimSeven
namespace Go.Proofs.YtofgeidjbfmmdaaGreatDoor
namespace Rows

/-- THE TIED CARD OF 'isochronlaw14.SeqRuns'. -/
def seqRunsCard : Claim7 := { stood := { row := seqRunsRow, standIns := [], harness := (true, "77bbbc78f027b96c9cd4ee702f44168cf2690554fb05b7c1c185c138f834e419"), looks := true }, kinds := [], alts := [], laidByText := true, laidKinds := [.handle], laidTests := true, laidLooks := .later }
def SeqRunsCardSaid : Prop := Claim7.holds Tryz.pinned (.plain (OpenSpec.ofChange seqRunsSpec)) seqRunsCard

/-- THE TIED CARD OF 'isochronlaw14.SeqRises'. -/
def seqRisesCard : Claim7 := { stood := { row := seqRisesRow, standIns := [], harness := (true, "77bbbc78f027b96c9cd4ee702f44168cf2690554fb05b7c1c185c138f834e419"), looks := true }, kinds := [], alts := [], laidByText := true, laidKinds := [.handle], laidTests := true, laidLooks := .later }
def SeqRisesCardSaid : Prop := Claim7.holds Tryz.pinned (.plain (OpenSpec.ofChange seqRisesSpec)) seqRisesCard

/-- THE TIED CARD OF 'isochronlaw14.SeqEnds'. -/
def seqEndsCard : Claim7 := { stood := { row := seqEndsRow, standIns := [], harness := (true, "77bbbc78f027b96c9cd4ee702f44168cf2690554fb05b7c1c185c138f834e419"), looks := true }, kinds := [], alts := [], laidByText := true, laidKinds := [.handle], laidTests := true, laidLooks := .later }
def SeqEndsCardSaid : Prop := Claim7.holds Tryz.pinned (.plain (OpenSpec.ofChange seqEndsSpec)) seqEndsCard

/-- THE TIED CARD OF 'isochronlaw14.SeqBegins'. -/
def seqBeginsCard : Claim7 := { stood := { row := seqBeginsRow, standIns := [], harness := (true, "77bbbc78f027b96c9cd4ee702f44168cf2690554fb05b7c1c185c138f834e419"), looks := true }, kinds := [], alts := [], laidByText := true, laidKinds := [.handle], laidTests := true, laidLooks := .later }
def SeqBeginsCardSaid : Prop := Claim7.holds Tryz.pinned (.plain (OpenSpec.ofChange seqBeginsSpec)) seqBeginsCard

/-- THE TIED CARD OF 'isochronlaw14.SeqWaits'. -/
def seqWaitsCard : Claim7 := { stood := { row := seqWaitsRow, standIns := [], harness := (true, "77bbbc78f027b96c9cd4ee702f44168cf2690554fb05b7c1c185c138f834e419"), looks := true }, kinds := [], alts := [], laidByText := true, laidKinds := [.handle], laidTests := true, laidLooks := .later }
def SeqWaitsCardSaid : Prop := Claim7.holds Tryz.pinned (.plain (OpenSpec.ofChange seqWaitsSpec)) seqWaitsCard

/-- THE TIED CARD OF 'isochronlaw14.SeqAlone'. -/
def seqAloneCard : Claim7 := { stood := { row := seqAloneRow, standIns := [], harness := (true, "77bbbc78f027b96c9cd4ee702f44168cf2690554fb05b7c1c185c138f834e419"), looks := true }, kinds := [], alts := [], laidByText := true, laidKinds := [.handle], laidTests := true, laidLooks := .later }
def SeqAloneCardSaid : Prop := Claim7.holds Tryz.pinned (.plain (OpenSpec.ofChange seqAloneSpec)) seqAloneCard

/-- THE SECOND FORM's CARD OF 'isochronlaw14.SeqRuns'. -/
def seqRunsUptoCard : Claim7 := { stood := { row := seqRunsUptoRow, standIns := [], harness := (true, "77bbbc78f027b96c9cd4ee702f44168cf2690554fb05b7c1c185c138f834e419"), looks := true }, kinds := [], alts := [], laidByText := true, laidKinds := [.handle], laidTests := true, laidLooks := .later }
def SeqRunsUptoCardSaid : Prop := Claim7.holds Tryz.pinned (.plain (OpenSpec.upto seqRunsSpec)) seqRunsUptoCard

/-- THE SECOND FORM's CARD OF 'isochronlaw14.SeqRises'. -/
def seqRisesUptoCard : Claim7 := { stood := { row := seqRisesUptoRow, standIns := [], harness := (true, "77bbbc78f027b96c9cd4ee702f44168cf2690554fb05b7c1c185c138f834e419"), looks := true }, kinds := [], alts := [], laidByText := true, laidKinds := [.handle], laidTests := true, laidLooks := .later }
def SeqRisesUptoCardSaid : Prop := Claim7.holds Tryz.pinned (.plain (OpenSpec.upto seqRisesSpec)) seqRisesUptoCard

/-- THE SECOND FORM's CARD OF 'isochronlaw14.SeqEnds'. -/
def seqEndsUptoCard : Claim7 := { stood := { row := seqEndsUptoRow, standIns := [], harness := (true, "77bbbc78f027b96c9cd4ee702f44168cf2690554fb05b7c1c185c138f834e419"), looks := true }, kinds := [], alts := [], laidByText := true, laidKinds := [.handle], laidTests := true, laidLooks := .later }
def SeqEndsUptoCardSaid : Prop := Claim7.holds Tryz.pinned (.plain (OpenSpec.upto seqEndsSpec)) seqEndsUptoCard

/-- THE SECOND FORM's CARD OF 'isochronlaw14.SeqBegins'. -/
def seqBeginsUptoCard : Claim7 := { stood := { row := seqBeginsUptoRow, standIns := [], harness := (true, "77bbbc78f027b96c9cd4ee702f44168cf2690554fb05b7c1c185c138f834e419"), looks := true }, kinds := [], alts := [], laidByText := true, laidKinds := [.handle], laidTests := true, laidLooks := .later }
def SeqBeginsUptoCardSaid : Prop := Claim7.holds Tryz.pinned (.plain (OpenSpec.upto seqBeginsSpec)) seqBeginsUptoCard

/-- THE SECOND FORM's CARD OF 'isochronlaw14.SeqWaits'. -/
def seqWaitsUptoCard : Claim7 := { stood := { row := seqWaitsUptoRow, standIns := [], harness := (true, "77bbbc78f027b96c9cd4ee702f44168cf2690554fb05b7c1c185c138f834e419"), looks := true }, kinds := [], alts := [], laidByText := true, laidKinds := [.handle], laidTests := true, laidLooks := .later }
def SeqWaitsUptoCardSaid : Prop := Claim7.holds Tryz.pinned (.plain (OpenSpec.upto seqWaitsSpec)) seqWaitsUptoCard

/-- THE SECOND FORM's CARD OF 'isochronlaw14.SeqAlone'. -/
def seqAloneUptoCard : Claim7 := { stood := { row := seqAloneUptoRow, standIns := [], harness := (true, "77bbbc78f027b96c9cd4ee702f44168cf2690554fb05b7c1c185c138f834e419"), looks := true }, kinds := [], alts := [], laidByText := true, laidKinds := [.handle], laidTests := true, laidLooks := .later }
def SeqAloneUptoCardSaid : Prop := Claim7.holds Tryz.pinned (.plain (OpenSpec.upto seqAloneSpec)) seqAloneUptoCard
end Rows
end Go.Proofs.YtofgeidjbfmmdaaGreatDoor
