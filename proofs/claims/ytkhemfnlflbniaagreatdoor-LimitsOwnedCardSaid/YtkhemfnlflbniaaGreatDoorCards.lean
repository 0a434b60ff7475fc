/-
  DERIVED. GIVEN WITH THE SEED: THE CARDS: each row of YtkhemfnlflbniaaGreatDoorRows.lean that lists a variable, with what it lists TIED to the program's text (the seventh form; the later family's looks); each row that meets fmt, with fmt's text TOLD by the authors' own Lean function (tested against real Go, not proved from fmt's source: count such statements apart). THE CARD IS WHAT COUNTS. Prove the row's statement (the work); the ties are given (YtkhemfnlflbniaaGreatDoorTie.lean); close each card by the builder's one call (the guide's Derived/Test/ToyasCard.lean, 'card_holds'). Laid BY PROGRAM, IN A SANDBOX (cutbox-door.mjs). By AI agents, Wed Nov 11 2026. No macro, syntax, notation, axiom, sorry.
-/
import Derived.Test.YtkhemfnlflbniaaGreatDoorRows
import GoSem.ClaimSeven
namespace Go.Proofs.YtkhemfnlflbniaaGreatDoor
namespace Rows

/-- THE TIED CARD OF 'merestonelaw04.LimitsRegions'. -/
def limitsRegionsCard : Claim7 := { stood := { row := limitsRegionsRow, standIns := [], harness := (true, "a314527e42ba43a1a986057f2e4706a40430ee3f422109f3723c19ffe0241afc"), looks := false }, kinds := [], alts := [], laidByText := true, laidKinds := [.data, .data, .data], laidTests := true, laidLooks := .later }
def LimitsRegionsCardSaid : Prop := Claim7.holds Tryz.pinned (.plain (OpenSpec.ofChange limitsRegionsSpec)) limitsRegionsCard

/-- THE TIED CARD OF 'merestonelaw04.LimitsRising'. -/
def limitsRisingCard : Claim7 := { stood := { row := limitsRisingRow, standIns := [], harness := (true, "a314527e42ba43a1a986057f2e4706a40430ee3f422109f3723c19ffe0241afc"), looks := false }, kinds := [], alts := [], laidByText := true, laidKinds := [.data, .data, .data], laidTests := true, laidLooks := .later }
def LimitsRisingCardSaid : Prop := Claim7.holds Tryz.pinned (.plain (OpenSpec.ofChange limitsRisingSpec)) limitsRisingCard

/-- THE TIED CARD OF 'merestonelaw04.LimitsOrder'. -/
def limitsOrderCard : Claim7 := { stood := { row := limitsOrderRow, standIns := [], harness := (true, "a314527e42ba43a1a986057f2e4706a40430ee3f422109f3723c19ffe0241afc"), looks := false }, kinds := [], alts := [], laidByText := true, laidKinds := [.data, .data, .data], laidTests := true, laidLooks := .later }
def LimitsOrderCardSaid : Prop := Claim7.holds Tryz.pinned (.plain (OpenSpec.ofChange limitsOrderSpec)) limitsOrderCard

/-- THE TIED CARD OF 'merestonelaw04.LimitsChecks'. -/
def limitsChecksCard : Claim7 := { stood := { row := limitsChecksRow, standIns := [], harness := (true, "a314527e42ba43a1a986057f2e4706a40430ee3f422109f3723c19ffe0241afc"), looks := false }, kinds := [], alts := [], laidByText := true, laidKinds := [.data, .data, .data], laidTests := true, laidLooks := .later }
def LimitsChecksCardSaid : Prop := Claim7.holds Tryz.pinned (.plain (OpenSpec.ofChange limitsChecksSpec)) limitsChecksCard

/-- THE TIED CARD OF 'merestonelaw04.LimitsChanges'. -/
def limitsChangesCard : Claim7 := { stood := { row := limitsChangesRow, standIns := [], harness := (true, "a314527e42ba43a1a986057f2e4706a40430ee3f422109f3723c19ffe0241afc"), looks := false }, kinds := [], alts := [], laidByText := true, laidKinds := [.data, .data, .data], laidTests := true, laidLooks := .later }
def LimitsChangesCardSaid : Prop := Claim7.holds Tryz.pinned (.plain (OpenSpec.ofChange limitsChangesSpec)) limitsChangesCard

/-- THE TIED CARD OF 'merestonelaw04.LimitsMore'. -/
def limitsMoreCard : Claim7 := { stood := { row := limitsMoreRow, standIns := [], harness := (true, "a314527e42ba43a1a986057f2e4706a40430ee3f422109f3723c19ffe0241afc"), looks := false }, kinds := [], alts := [], laidByText := true, laidKinds := [.data, .data, .data], laidTests := true, laidLooks := .later }
def LimitsMoreCardSaid : Prop := Claim7.holds Tryz.pinned (.plain (OpenSpec.ofChange limitsMoreSpec)) limitsMoreCard

/-- THE TIED CARD OF 'merestonelaw04.LimitsConflicts'. -/
def limitsConflictsCard : Claim7 := { stood := { row := limitsConflictsRow, standIns := [], harness := (true, "a314527e42ba43a1a986057f2e4706a40430ee3f422109f3723c19ffe0241afc"), looks := false }, kinds := [], alts := [], laidByText := true, laidKinds := [.data, .data, .data], laidTests := true, laidLooks := .later }
def LimitsConflictsCardSaid : Prop := Claim7.holds Tryz.pinned (.plain (OpenSpec.ofChange limitsConflictsSpec)) limitsConflictsCard

/-- THE TIED CARD OF 'merestonelaw04.LimitsMemory'. -/
def limitsMemoryCard : Claim7 := { stood := { row := limitsMemoryRow, standIns := [], harness := (true, "a314527e42ba43a1a986057f2e4706a40430ee3f422109f3723c19ffe0241afc"), looks := false }, kinds := [], alts := [], laidByText := true, laidKinds := [.data, .data, .data], laidTests := true, laidLooks := .later }
def LimitsMemoryCardSaid : Prop := Claim7.holds Tryz.pinned (.plain (OpenSpec.ofChange limitsMemorySpec)) limitsMemoryCard

/-- THE TIED CARD OF 'merestonelaw04.LimitsIdle'. -/
def limitsIdleCard : Claim7 := { stood := { row := limitsIdleRow, standIns := [], harness := (true, "a314527e42ba43a1a986057f2e4706a40430ee3f422109f3723c19ffe0241afc"), looks := false }, kinds := [], alts := [], laidByText := true, laidKinds := [.data, .data, .data], laidTests := true, laidLooks := .later }
def LimitsIdleCardSaid : Prop := Claim7.holds Tryz.pinned (.plain (OpenSpec.ofChange limitsIdleSpec)) limitsIdleCard

/-- THE TIED CARD OF 'merestonelaw04.LimitsReasons'. -/
def limitsReasonsCard : Claim7 := { stood := { row := limitsReasonsRow, standIns := [], harness := (true, "a314527e42ba43a1a986057f2e4706a40430ee3f422109f3723c19ffe0241afc"), looks := false }, kinds := [], alts := [], laidByText := true, laidKinds := [.data, .data, .data], laidTests := true, laidLooks := .later }
def LimitsReasonsCardSaid : Prop := Claim7.holds Tryz.pinned (.plain (OpenSpec.ofChange limitsReasonsSpec)) limitsReasonsCard

/-- THE TIED CARD OF 'merestonelaw04.LimitsLand'. -/
def limitsLandCard : Claim7 := { stood := { row := limitsLandRow, standIns := [], harness := (true, "a314527e42ba43a1a986057f2e4706a40430ee3f422109f3723c19ffe0241afc"), looks := false }, kinds := [], alts := [], laidByText := true, laidKinds := [.data, .data, .data], laidTests := true, laidLooks := .later }
def LimitsLandCardSaid : Prop := Claim7.holds Tryz.pinned (.plain (OpenSpec.ofChange limitsLandSpec)) limitsLandCard

/-- THE TIED CARD OF 'merestonelaw04.LimitsAwards'. -/
def limitsAwardsCard : Claim7 := { stood := { row := limitsAwardsRow, standIns := [], harness := (true, "a314527e42ba43a1a986057f2e4706a40430ee3f422109f3723c19ffe0241afc"), looks := false }, kinds := [], alts := [], laidByText := true, laidKinds := [.data, .data, .data], laidTests := true, laidLooks := .later }
def LimitsAwardsCardSaid : Prop := Claim7.holds Tryz.pinned (.plain (OpenSpec.ofChange limitsAwardsSpec)) limitsAwardsCard

/-- THE TIED CARD OF 'merestonelaw04.LimitsProved'. -/
def limitsProvedCard : Claim7 := { stood := { row := limitsProvedRow, standIns := [], harness := (true, "a314527e42ba43a1a986057f2e4706a40430ee3f422109f3723c19ffe0241afc"), looks := false }, kinds := [], alts := [], laidByText := true, laidKinds := [.data, .data, .data], laidTests := true, laidLooks := .later }
def LimitsProvedCardSaid : Prop := Claim7.holds Tryz.pinned (.plain (OpenSpec.ofChange limitsProvedSpec)) limitsProvedCard

/-- THE TIED CARD OF 'merestonelaw04.LimitsEither'. -/
def limitsEitherCard : Claim7 := { stood := { row := limitsEitherRow, standIns := [], harness := (true, "a314527e42ba43a1a986057f2e4706a40430ee3f422109f3723c19ffe0241afc"), looks := false }, kinds := [], alts := [], laidByText := true, laidKinds := [.data, .data, .data], laidTests := true, laidLooks := .later }
def LimitsEitherCardSaid : Prop := Claim7.holds Tryz.pinned (.plain (OpenSpec.ofChange limitsEitherSpec)) limitsEitherCard

/-- THE TIED CARD OF 'merestonelaw04.LimitsSharp'. -/
def limitsSharpCard : Claim7 := { stood := { row := limitsSharpRow, standIns := [], harness := (true, "a314527e42ba43a1a986057f2e4706a40430ee3f422109f3723c19ffe0241afc"), looks := false }, kinds := [], alts := [], laidByText := true, laidKinds := [.data, .data, .data], laidTests := true, laidLooks := .later }
def LimitsSharpCardSaid : Prop := Claim7.holds Tryz.pinned (.plain (OpenSpec.ofChange limitsSharpSpec)) limitsSharpCard

/-- THE TIED CARD OF 'merestonelaw04.LimitsStrips'. -/
def limitsStripsCard : Claim7 := { stood := { row := limitsStripsRow, standIns := [], harness := (true, "a314527e42ba43a1a986057f2e4706a40430ee3f422109f3723c19ffe0241afc"), looks := false }, kinds := [], alts := [], laidByText := true, laidKinds := [.data, .data, .data], laidTests := true, laidLooks := .later }
def LimitsStripsCardSaid : Prop := Claim7.holds Tryz.pinned (.plain (OpenSpec.ofChange limitsStripsSpec)) limitsStripsCard

/-- THE TIED CARD OF 'merestonelaw04.LimitsShows'. -/
def limitsShowsCard : Claim7 := { stood := { row := limitsShowsRow, standIns := [], harness := (true, "a314527e42ba43a1a986057f2e4706a40430ee3f422109f3723c19ffe0241afc"), looks := false }, kinds := [], alts := [], laidByText := true, laidKinds := [.data, .data, .data], laidTests := true, laidLooks := .later }
def LimitsShowsCardSaid : Prop := Claim7.holds Tryz.pinned (.plain (OpenSpec.ofChange limitsShowsSpec)) limitsShowsCard

/-- THE TIED CARD OF 'merestonelaw04.LimitsDrawings'. -/
def limitsDrawingsCard : Claim7 := { stood := { row := limitsDrawingsRow, standIns := [], harness := (true, "a314527e42ba43a1a986057f2e4706a40430ee3f422109f3723c19ffe0241afc"), looks := false }, kinds := [], alts := [], laidByText := true, laidKinds := [.data, .data, .data], laidTests := true, laidLooks := .later }
def LimitsDrawingsCardSaid : Prop := Claim7.holds Tryz.pinned (.plain (OpenSpec.ofChange limitsDrawingsSpec)) limitsDrawingsCard

/-- THE TIED CARD OF 'merestonelaw04.LimitsOwned'. -/
def limitsOwnedCard : Claim7 := { stood := { row := limitsOwnedRow, standIns := [], harness := (true, "a314527e42ba43a1a986057f2e4706a40430ee3f422109f3723c19ffe0241afc"), looks := false }, kinds := [], alts := [], laidByText := true, laidKinds := [.data, .data, .data], laidTests := true, laidLooks := .later }
def LimitsOwnedCardSaid : Prop := Claim7.holds Tryz.pinned (.plain (OpenSpec.ofChange limitsOwnedSpec)) limitsOwnedCard

/-- THE SECOND FORM's CARD OF 'merestonelaw04.LimitsRegions'. -/
def limitsRegionsUptoCard : Claim7 := { stood := { row := limitsRegionsUptoRow, standIns := [], harness := (true, "a314527e42ba43a1a986057f2e4706a40430ee3f422109f3723c19ffe0241afc"), looks := false }, kinds := [], alts := [], laidByText := true, laidKinds := [.data, .data, .data], laidTests := true, laidLooks := .later }
def LimitsRegionsUptoCardSaid : Prop := Claim7.holds Tryz.pinned (.plain (OpenSpec.upto limitsRegionsSpec)) limitsRegionsUptoCard

/-- THE SECOND FORM's CARD OF 'merestonelaw04.LimitsRising'. -/
def limitsRisingUptoCard : Claim7 := { stood := { row := limitsRisingUptoRow, standIns := [], harness := (true, "a314527e42ba43a1a986057f2e4706a40430ee3f422109f3723c19ffe0241afc"), looks := false }, kinds := [], alts := [], laidByText := true, laidKinds := [.data, .data, .data], laidTests := true, laidLooks := .later }
def LimitsRisingUptoCardSaid : Prop := Claim7.holds Tryz.pinned (.plain (OpenSpec.upto limitsRisingSpec)) limitsRisingUptoCard

/-- THE SECOND FORM's CARD OF 'merestonelaw04.LimitsOrder'. -/
def limitsOrderUptoCard : Claim7 := { stood := { row := limitsOrderUptoRow, standIns := [], harness := (true, "a314527e42ba43a1a986057f2e4706a40430ee3f422109f3723c19ffe0241afc"), looks := false }, kinds := [], alts := [], laidByText := true, laidKinds := [.data, .data, .data], laidTests := true, laidLooks := .later }
def LimitsOrderUptoCardSaid : Prop := Claim7.holds Tryz.pinned (.plain (OpenSpec.upto limitsOrderSpec)) limitsOrderUptoCard

/-- THE SECOND FORM's CARD OF 'merestonelaw04.LimitsChecks'. -/
def limitsChecksUptoCard : Claim7 := { stood := { row := limitsChecksUptoRow, standIns := [], harness := (true, "a314527e42ba43a1a986057f2e4706a40430ee3f422109f3723c19ffe0241afc"), looks := false }, kinds := [], alts := [], laidByText := true, laidKinds := [.data, .data, .data], laidTests := true, laidLooks := .later }
def LimitsChecksUptoCardSaid : Prop := Claim7.holds Tryz.pinned (.plain (OpenSpec.upto limitsChecksSpec)) limitsChecksUptoCard

/-- THE SECOND FORM's CARD OF 'merestonelaw04.LimitsChanges'. -/
def limitsChangesUptoCard : Claim7 := { stood := { row := limitsChangesUptoRow, standIns := [], harness := (true, "a314527e42ba43a1a986057f2e4706a40430ee3f422109f3723c19ffe0241afc"), looks := false }, kinds := [], alts := [], laidByText := true, laidKinds := [.data, .data, .data], laidTests := true, laidLooks := .later }
def LimitsChangesUptoCardSaid : Prop := Claim7.holds Tryz.pinned (.plain (OpenSpec.upto limitsChangesSpec)) limitsChangesUptoCard

/-- THE SECOND FORM's CARD OF 'merestonelaw04.LimitsMore'. -/
def limitsMoreUptoCard : Claim7 := { stood := { row := limitsMoreUptoRow, standIns := [], harness := (true, "a314527e42ba43a1a986057f2e4706a40430ee3f422109f3723c19ffe0241afc"), looks := false }, kinds := [], alts := [], laidByText := true, laidKinds := [.data, .data, .data], laidTests := true, laidLooks := .later }
def LimitsMoreUptoCardSaid : Prop := Claim7.holds Tryz.pinned (.plain (OpenSpec.upto limitsMoreSpec)) limitsMoreUptoCard

/-- THE SECOND FORM's CARD OF 'merestonelaw04.LimitsConflicts'. -/
def limitsConflictsUptoCard : Claim7 := { stood := { row := limitsConflictsUptoRow, standIns := [], harness := (true, "a314527e42ba43a1a986057f2e4706a40430ee3f422109f3723c19ffe0241afc"), looks := false }, kinds := [], alts := [], laidByText := true, laidKinds := [.data, .data, .data], laidTests := true, laidLooks := .later }
def LimitsConflictsUptoCardSaid : Prop := Claim7.holds Tryz.pinned (.plain (OpenSpec.upto limitsConflictsSpec)) limitsConflictsUptoCard

/-- THE SECOND FORM's CARD OF 'merestonelaw04.LimitsMemory'. -/
def limitsMemoryUptoCard : Claim7 := { stood := { row := limitsMemoryUptoRow, standIns := [], harness := (true, "a314527e42ba43a1a986057f2e4706a40430ee3f422109f3723c19ffe0241afc"), looks := false }, kinds := [], alts := [], laidByText := true, laidKinds := [.data, .data, .data], laidTests := true, laidLooks := .later }
def LimitsMemoryUptoCardSaid : Prop := Claim7.holds Tryz.pinned (.plain (OpenSpec.upto limitsMemorySpec)) limitsMemoryUptoCard

/-- THE SECOND FORM's CARD OF 'merestonelaw04.LimitsIdle'. -/
def limitsIdleUptoCard : Claim7 := { stood := { row := limitsIdleUptoRow, standIns := [], harness := (true, "a314527e42ba43a1a986057f2e4706a40430ee3f422109f3723c19ffe0241afc"), looks := false }, kinds := [], alts := [], laidByText := true, laidKinds := [.data, .data, .data], laidTests := true, laidLooks := .later }
def LimitsIdleUptoCardSaid : Prop := Claim7.holds Tryz.pinned (.plain (OpenSpec.upto limitsIdleSpec)) limitsIdleUptoCard

/-- THE SECOND FORM's CARD OF 'merestonelaw04.LimitsReasons'. -/
def limitsReasonsUptoCard : Claim7 := { stood := { row := limitsReasonsUptoRow, standIns := [], harness := (true, "a314527e42ba43a1a986057f2e4706a40430ee3f422109f3723c19ffe0241afc"), looks := false }, kinds := [], alts := [], laidByText := true, laidKinds := [.data, .data, .data], laidTests := true, laidLooks := .later }
def LimitsReasonsUptoCardSaid : Prop := Claim7.holds Tryz.pinned (.plain (OpenSpec.upto limitsReasonsSpec)) limitsReasonsUptoCard

/-- THE SECOND FORM's CARD OF 'merestonelaw04.LimitsLand'. -/
def limitsLandUptoCard : Claim7 := { stood := { row := limitsLandUptoRow, standIns := [], harness := (true, "a314527e42ba43a1a986057f2e4706a40430ee3f422109f3723c19ffe0241afc"), looks := false }, kinds := [], alts := [], laidByText := true, laidKinds := [.data, .data, .data], laidTests := true, laidLooks := .later }
def LimitsLandUptoCardSaid : Prop := Claim7.holds Tryz.pinned (.plain (OpenSpec.upto limitsLandSpec)) limitsLandUptoCard

/-- THE SECOND FORM's CARD OF 'merestonelaw04.LimitsAwards'. -/
def limitsAwardsUptoCard : Claim7 := { stood := { row := limitsAwardsUptoRow, standIns := [], harness := (true, "a314527e42ba43a1a986057f2e4706a40430ee3f422109f3723c19ffe0241afc"), looks := false }, kinds := [], alts := [], laidByText := true, laidKinds := [.data, .data, .data], laidTests := true, laidLooks := .later }
def LimitsAwardsUptoCardSaid : Prop := Claim7.holds Tryz.pinned (.plain (OpenSpec.upto limitsAwardsSpec)) limitsAwardsUptoCard

/-- THE SECOND FORM's CARD OF 'merestonelaw04.LimitsProved'. -/
def limitsProvedUptoCard : Claim7 := { stood := { row := limitsProvedUptoRow, standIns := [], harness := (true, "a314527e42ba43a1a986057f2e4706a40430ee3f422109f3723c19ffe0241afc"), looks := false }, kinds := [], alts := [], laidByText := true, laidKinds := [.data, .data, .data], laidTests := true, laidLooks := .later }
def LimitsProvedUptoCardSaid : Prop := Claim7.holds Tryz.pinned (.plain (OpenSpec.upto limitsProvedSpec)) limitsProvedUptoCard

/-- THE SECOND FORM's CARD OF 'merestonelaw04.LimitsEither'. -/
def limitsEitherUptoCard : Claim7 := { stood := { row := limitsEitherUptoRow, standIns := [], harness := (true, "a314527e42ba43a1a986057f2e4706a40430ee3f422109f3723c19ffe0241afc"), looks := false }, kinds := [], alts := [], laidByText := true, laidKinds := [.data, .data, .data], laidTests := true, laidLooks := .later }
def LimitsEitherUptoCardSaid : Prop := Claim7.holds Tryz.pinned (.plain (OpenSpec.upto limitsEitherSpec)) limitsEitherUptoCard

/-- THE SECOND FORM's CARD OF 'merestonelaw04.LimitsSharp'. -/
def limitsSharpUptoCard : Claim7 := { stood := { row := limitsSharpUptoRow, standIns := [], harness := (true, "a314527e42ba43a1a986057f2e4706a40430ee3f422109f3723c19ffe0241afc"), looks := false }, kinds := [], alts := [], laidByText := true, laidKinds := [.data, .data, .data], laidTests := true, laidLooks := .later }
def LimitsSharpUptoCardSaid : Prop := Claim7.holds Tryz.pinned (.plain (OpenSpec.upto limitsSharpSpec)) limitsSharpUptoCard

/-- THE SECOND FORM's CARD OF 'merestonelaw04.LimitsStrips'. -/
def limitsStripsUptoCard : Claim7 := { stood := { row := limitsStripsUptoRow, standIns := [], harness := (true, "a314527e42ba43a1a986057f2e4706a40430ee3f422109f3723c19ffe0241afc"), looks := false }, kinds := [], alts := [], laidByText := true, laidKinds := [.data, .data, .data], laidTests := true, laidLooks := .later }
def LimitsStripsUptoCardSaid : Prop := Claim7.holds Tryz.pinned (.plain (OpenSpec.upto limitsStripsSpec)) limitsStripsUptoCard

/-- THE SECOND FORM's CARD OF 'merestonelaw04.LimitsShows'. -/
def limitsShowsUptoCard : Claim7 := { stood := { row := limitsShowsUptoRow, standIns := [], harness := (true, "a314527e42ba43a1a986057f2e4706a40430ee3f422109f3723c19ffe0241afc"), looks := false }, kinds := [], alts := [], laidByText := true, laidKinds := [.data, .data, .data], laidTests := true, laidLooks := .later }
def LimitsShowsUptoCardSaid : Prop := Claim7.holds Tryz.pinned (.plain (OpenSpec.upto limitsShowsSpec)) limitsShowsUptoCard

/-- THE SECOND FORM's CARD OF 'merestonelaw04.LimitsDrawings'. -/
def limitsDrawingsUptoCard : Claim7 := { stood := { row := limitsDrawingsUptoRow, standIns := [], harness := (true, "a314527e42ba43a1a986057f2e4706a40430ee3f422109f3723c19ffe0241afc"), looks := false }, kinds := [], alts := [], laidByText := true, laidKinds := [.data, .data, .data], laidTests := true, laidLooks := .later }
def LimitsDrawingsUptoCardSaid : Prop := Claim7.holds Tryz.pinned (.plain (OpenSpec.upto limitsDrawingsSpec)) limitsDrawingsUptoCard

/-- THE SECOND FORM's CARD OF 'merestonelaw04.LimitsOwned'. -/
def limitsOwnedUptoCard : Claim7 := { stood := { row := limitsOwnedUptoRow, standIns := [], harness := (true, "a314527e42ba43a1a986057f2e4706a40430ee3f422109f3723c19ffe0241afc"), looks := false }, kinds := [], alts := [], laidByText := true, laidKinds := [.data, .data, .data], laidTests := true, laidLooks := .later }
def LimitsOwnedUptoCardSaid : Prop := Claim7.holds Tryz.pinned (.plain (OpenSpec.upto limitsOwnedSpec)) limitsOwnedUptoCard
end Rows
end Go.Proofs.YtkhemfnlflbniaaGreatDoor
