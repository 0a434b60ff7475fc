/-
  No cell of these rows narrows 'for every input' (looked for: loops, veiled, ifaces, maps, wideKeys, modest, calm, conditions, laid).
  DERIVED. THE GIVEN ROWS OF THIS SEAT. 18 by the template 'for every input the law returns true; each argument reads behind the call as it read before'; 0 by the template 'total and deterministic' (their statements: YthjmkmjojlfejaaGreatTotals.lean).
  GIVEN WITH THE SEED: the statements are not yours to turn. If you find one false, say at which input.
  Laid BY PROGRAM, IN A SANDBOX (cutbox-rows.mjs): the forced cells as the released guide's own fill.sh prints them over the translation a8c94d9453b09b8a… (all of the seat's roots in one cut). By AI agents, Wed Nov 11 2026. No macro, syntax, notation, axiom, sorry.
-/
import Derived.Test.YthjmkmjojlfejaaGreatChecked
import GoSem.Claim
import GoSem.ClaimJoined
import GoSem.ClaimMapViews
import Derived.JoinedTies
import Derived.KernelRfl
namespace Go.Proofs.YthjmkmjojlfejaaGreat
/- THE CELL 'sum', in the pinned program and in every row, IS THE sha256 OF THE DUMP (.gsa) THAT YthjmkmjojlfejaaGreatProg.lean LOADS. Nothing in Lean hashes anything: it is a label: what it is worth is what the hold of that sum in a sandbox is worth. -/
noncomputable def Tryz.pinned : Pinned := { name := "ythjmkmjojlfejaagreat", sum := "a8c94d9453b09b8a3df266953dd77d434f21246330c8c914fee6973afe6d2bd7", checked := Tryz.checked }
namespace Rows
def none {H : Type} : Left H := { results := [], args := [] }

/-- 'merestonelaw05.AreaEnds': WHATEVER THE INPUT: true; the input reads as it did. -/
def areaEndsSpec : ChangeSpec := { name := "areaEnds", fn := fun _ => fun
  | [d1, d2] => { results := [.lit (.bool true)], args := [d1, d2] }
  | _ => none }
def areaEndsRow : OpenClaim := { program := "ythjmkmjojlfejaagreat", sum := "a8c94d9453b09b8a3df266953dd77d434f21246330c8c914fee6973afe6d2bd7", func := "merestone/merestonelaw05.AreaEnds", spec := "areaEnds", unfollowed := true, recurses := true, apart := false }
def AreaEndsSaid : Prop := areaEndsRow.holds Tryz.pinned (OpenSpec.ofChange areaEndsSpec)

/-- ITS FALSE NEIGHBOUR: 'it returns false'. Refute it at one input. -/
def areaEndsWrong : ChangeSpec := { name := "areaEnds", fn := fun _ => fun
  | [d1, d2] => { results := [.lit (.bool false)], args := [d1, d2] }
  | _ => none }
def AreaEndsWrongFalsely : Prop := areaEndsRow.holds Tryz.pinned (OpenSpec.ofChange areaEndsWrong)

/-- 'merestonelaw05.AreaRanks': WHATEVER THE INPUT: true; the input reads as it did. -/
def areaRanksSpec : ChangeSpec := { name := "areaRanks", fn := fun _ => fun
  | [d1, d2, d3, d4, d5] => { results := [.lit (.bool true)], args := [d1, d2, d3, d4, d5] }
  | _ => none }
def areaRanksRow : OpenClaim := { program := "ythjmkmjojlfejaagreat", sum := "a8c94d9453b09b8a3df266953dd77d434f21246330c8c914fee6973afe6d2bd7", func := "merestone/merestonelaw05.AreaRanks", spec := "areaRanks", unfollowed := true, recurses := true, apart := false }
def AreaRanksSaid : Prop := areaRanksRow.holds Tryz.pinned (OpenSpec.ofChange areaRanksSpec)

/-- ITS FALSE NEIGHBOUR: 'it returns false'. Refute it at one input. -/
def areaRanksWrong : ChangeSpec := { name := "areaRanks", fn := fun _ => fun
  | [d1, d2, d3, d4, d5] => { results := [.lit (.bool false)], args := [d1, d2, d3, d4, d5] }
  | _ => none }
def AreaRanksWrongFalsely : Prop := areaRanksRow.holds Tryz.pinned (OpenSpec.ofChange areaRanksWrong)

/-- 'merestonelaw05.AreaWest': WHATEVER THE INPUT: true; the input reads as it did. -/
def areaWestSpec : ChangeSpec := { name := "areaWest", fn := fun _ => fun
  | [d1, d2, d3, d4, d5] => { results := [.lit (.bool true)], args := [d1, d2, d3, d4, d5] }
  | _ => none }
def areaWestRow : OpenClaim := { program := "ythjmkmjojlfejaagreat", sum := "a8c94d9453b09b8a3df266953dd77d434f21246330c8c914fee6973afe6d2bd7", func := "merestone/merestonelaw05.AreaWest", spec := "areaWest", unfollowed := true, recurses := true, apart := false }
def AreaWestSaid : Prop := areaWestRow.holds Tryz.pinned (OpenSpec.ofChange areaWestSpec)

/-- ITS FALSE NEIGHBOUR: 'it returns false'. Refute it at one input. -/
def areaWestWrong : ChangeSpec := { name := "areaWest", fn := fun _ => fun
  | [d1, d2, d3, d4, d5] => { results := [.lit (.bool false)], args := [d1, d2, d3, d4, d5] }
  | _ => none }
def AreaWestWrongFalsely : Prop := areaWestRow.holds Tryz.pinned (OpenSpec.ofChange areaWestWrong)

/-- 'merestonelaw05.AreaOrder': WHATEVER THE INPUT: true; the input reads as it did. -/
def areaOrderSpec : ChangeSpec := { name := "areaOrder", fn := fun _ => fun
  | [d1, d2, d3, d4, d5] => { results := [.lit (.bool true)], args := [d1, d2, d3, d4, d5] }
  | _ => none }
def areaOrderRow : OpenClaim := { program := "ythjmkmjojlfejaagreat", sum := "a8c94d9453b09b8a3df266953dd77d434f21246330c8c914fee6973afe6d2bd7", func := "merestone/merestonelaw05.AreaOrder", spec := "areaOrder", unfollowed := true, recurses := true, apart := false }
def AreaOrderSaid : Prop := areaOrderRow.holds Tryz.pinned (OpenSpec.ofChange areaOrderSpec)

/-- ITS FALSE NEIGHBOUR: 'it returns false'. Refute it at one input. -/
def areaOrderWrong : ChangeSpec := { name := "areaOrder", fn := fun _ => fun
  | [d1, d2, d3, d4, d5] => { results := [.lit (.bool false)], args := [d1, d2, d3, d4, d5] }
  | _ => none }
def AreaOrderWrongFalsely : Prop := areaOrderRow.holds Tryz.pinned (OpenSpec.ofChange areaOrderWrong)

/-- 'merestonelaw05.AreaForms': WHATEVER THE INPUT: true; the input reads as it did. -/
def areaFormsSpec : ChangeSpec := { name := "areaForms", fn := fun _ => fun
  | [d1, d2, d3] => { results := [.lit (.bool true)], args := [d1, d2, d3] }
  | _ => none }
def areaFormsRow : OpenClaim := { program := "ythjmkmjojlfejaagreat", sum := "a8c94d9453b09b8a3df266953dd77d434f21246330c8c914fee6973afe6d2bd7", func := "merestone/merestonelaw05.AreaForms", spec := "areaForms", unfollowed := true, recurses := true, apart := false }
def AreaFormsSaid : Prop := areaFormsRow.holds Tryz.pinned (OpenSpec.ofChange areaFormsSpec)

/-- ITS FALSE NEIGHBOUR: 'it returns false'. Refute it at one input. -/
def areaFormsWrong : ChangeSpec := { name := "areaForms", fn := fun _ => fun
  | [d1, d2, d3] => { results := [.lit (.bool false)], args := [d1, d2, d3] }
  | _ => none }
def AreaFormsWrongFalsely : Prop := areaFormsRow.holds Tryz.pinned (OpenSpec.ofChange areaFormsWrong)

/-- 'merestonelaw05.AreaShares': WHATEVER THE INPUT: true; the input reads as it did. -/
def areaSharesSpec : ChangeSpec := { name := "areaShares", fn := fun _ => fun
  | [d1, d2, d3] => { results := [.lit (.bool true)], args := [d1, d2, d3] }
  | _ => none }
def areaSharesRow : OpenClaim := { program := "ythjmkmjojlfejaagreat", sum := "a8c94d9453b09b8a3df266953dd77d434f21246330c8c914fee6973afe6d2bd7", func := "merestone/merestonelaw05.AreaShares", spec := "areaShares", unfollowed := true, recurses := true, apart := false }
def AreaSharesSaid : Prop := areaSharesRow.holds Tryz.pinned (OpenSpec.ofChange areaSharesSpec)

/-- ITS FALSE NEIGHBOUR: 'it returns false'. Refute it at one input. -/
def areaSharesWrong : ChangeSpec := { name := "areaShares", fn := fun _ => fun
  | [d1, d2, d3] => { results := [.lit (.bool false)], args := [d1, d2, d3] }
  | _ => none }
def AreaSharesWrongFalsely : Prop := areaSharesRow.holds Tryz.pinned (OpenSpec.ofChange areaSharesWrong)

/-- 'merestonelaw05.AreaFair': WHATEVER THE INPUT: true; the input reads as it did. -/
def areaFairSpec : ChangeSpec := { name := "areaFair", fn := fun _ => fun
  | [d1, d2] => { results := [.lit (.bool true)], args := [d1, d2] }
  | _ => none }
def areaFairRow : OpenClaim := { program := "ythjmkmjojlfejaagreat", sum := "a8c94d9453b09b8a3df266953dd77d434f21246330c8c914fee6973afe6d2bd7", func := "merestone/merestonelaw05.AreaFair", spec := "areaFair", unfollowed := true, recurses := true, apart := false }
def AreaFairSaid : Prop := areaFairRow.holds Tryz.pinned (OpenSpec.ofChange areaFairSpec)

/-- ITS FALSE NEIGHBOUR: 'it returns false'. Refute it at one input. -/
def areaFairWrong : ChangeSpec := { name := "areaFair", fn := fun _ => fun
  | [d1, d2] => { results := [.lit (.bool false)], args := [d1, d2] }
  | _ => none }
def AreaFairWrongFalsely : Prop := areaFairRow.holds Tryz.pinned (OpenSpec.ofChange areaFairWrong)

/-- 'merestonelaw05.AreaCuts': WHATEVER THE INPUT: true; the input reads as it did. -/
def areaCutsSpec : ChangeSpec := { name := "areaCuts", fn := fun _ => fun
  | [d1, d2, d3, d4, d5, d6] => { results := [.lit (.bool true)], args := [d1, d2, d3, d4, d5, d6] }
  | _ => none }
def areaCutsRow : OpenClaim := { program := "ythjmkmjojlfejaagreat", sum := "a8c94d9453b09b8a3df266953dd77d434f21246330c8c914fee6973afe6d2bd7", func := "merestone/merestonelaw05.AreaCuts", spec := "areaCuts", unfollowed := true, recurses := true, apart := false }
def AreaCutsSaid : Prop := areaCutsRow.holds Tryz.pinned (OpenSpec.ofChange areaCutsSpec)

/-- ITS FALSE NEIGHBOUR: 'it returns false'. Refute it at one input. -/
def areaCutsWrong : ChangeSpec := { name := "areaCuts", fn := fun _ => fun
  | [d1, d2, d3, d4, d5, d6] => { results := [.lit (.bool false)], args := [d1, d2, d3, d4, d5, d6] }
  | _ => none }
def AreaCutsWrongFalsely : Prop := areaCutsRow.holds Tryz.pinned (OpenSpec.ofChange areaCutsWrong)

/-- 'merestonelaw05.AreaDivides': WHATEVER THE INPUT: true; the input reads as it did. -/
def areaDividesSpec : ChangeSpec := { name := "areaDivides", fn := fun _ => fun
  | [d1, d2, d3, d4] => { results := [.lit (.bool true)], args := [d1, d2, d3, d4] }
  | _ => none }
def areaDividesRow : OpenClaim := { program := "ythjmkmjojlfejaagreat", sum := "a8c94d9453b09b8a3df266953dd77d434f21246330c8c914fee6973afe6d2bd7", func := "merestone/merestonelaw05.AreaDivides", spec := "areaDivides", unfollowed := true, recurses := true, apart := false }
def AreaDividesSaid : Prop := areaDividesRow.holds Tryz.pinned (OpenSpec.ofChange areaDividesSpec)

/-- ITS FALSE NEIGHBOUR: 'it returns false'. Refute it at one input. -/
def areaDividesWrong : ChangeSpec := { name := "areaDivides", fn := fun _ => fun
  | [d1, d2, d3, d4] => { results := [.lit (.bool false)], args := [d1, d2, d3, d4] }
  | _ => none }
def AreaDividesWrongFalsely : Prop := areaDividesRow.holds Tryz.pinned (OpenSpec.ofChange areaDividesWrong)

/-- 'merestonelaw05.AreaParcels': WHATEVER THE INPUT: true; the input reads as it did. -/
def areaParcelsSpec : ChangeSpec := { name := "areaParcels", fn := fun _ => fun
  | [d1, d2, d3] => { results := [.lit (.bool true)], args := [d1, d2, d3] }
  | _ => none }
def areaParcelsRow : OpenClaim := { program := "ythjmkmjojlfejaagreat", sum := "a8c94d9453b09b8a3df266953dd77d434f21246330c8c914fee6973afe6d2bd7", func := "merestone/merestonelaw05.AreaParcels", spec := "areaParcels", unfollowed := true, recurses := true, apart := false }
def AreaParcelsSaid : Prop := areaParcelsRow.holds Tryz.pinned (OpenSpec.ofChange areaParcelsSpec)

/-- ITS FALSE NEIGHBOUR: 'it returns false'. Refute it at one input. -/
def areaParcelsWrong : ChangeSpec := { name := "areaParcels", fn := fun _ => fun
  | [d1, d2, d3] => { results := [.lit (.bool false)], args := [d1, d2, d3] }
  | _ => none }
def AreaParcelsWrongFalsely : Prop := areaParcelsRow.holds Tryz.pinned (OpenSpec.ofChange areaParcelsWrong)

/-- 'merestonelaw05.AreaMemory': WHATEVER THE INPUT: true; the input reads as it did. -/
def areaMemorySpec : ChangeSpec := { name := "areaMemory", fn := fun _ => fun
  | [d1, d2, d3, d4] => { results := [.lit (.bool true)], args := [d1, d2, d3, d4] }
  | _ => none }
def areaMemoryRow : OpenClaim := { program := "ythjmkmjojlfejaagreat", sum := "a8c94d9453b09b8a3df266953dd77d434f21246330c8c914fee6973afe6d2bd7", func := "merestone/merestonelaw05.AreaMemory", spec := "areaMemory", unfollowed := true, recurses := true, apart := false }
def AreaMemorySaid : Prop := areaMemoryRow.holds Tryz.pinned (OpenSpec.ofChange areaMemorySpec)

/-- ITS FALSE NEIGHBOUR: 'it returns false'. Refute it at one input. -/
def areaMemoryWrong : ChangeSpec := { name := "areaMemory", fn := fun _ => fun
  | [d1, d2, d3, d4] => { results := [.lit (.bool false)], args := [d1, d2, d3, d4] }
  | _ => none }
def AreaMemoryWrongFalsely : Prop := areaMemoryRow.holds Tryz.pinned (OpenSpec.ofChange areaMemoryWrong)

/-- 'merestonelaw05.AreaChecks': WHATEVER THE INPUT: true; the input reads as it did. -/
def areaChecksSpec : ChangeSpec := { name := "areaChecks", fn := fun _ => fun
  | [d1, d2, d3, d4, d5] => { results := [.lit (.bool true)], args := [d1, d2, d3, d4, d5] }
  | _ => none }
def areaChecksRow : OpenClaim := { program := "ythjmkmjojlfejaagreat", sum := "a8c94d9453b09b8a3df266953dd77d434f21246330c8c914fee6973afe6d2bd7", func := "merestone/merestonelaw05.AreaChecks", spec := "areaChecks", unfollowed := true, recurses := true, apart := false }
def AreaChecksSaid : Prop := areaChecksRow.holds Tryz.pinned (OpenSpec.ofChange areaChecksSpec)

/-- ITS FALSE NEIGHBOUR: 'it returns false'. Refute it at one input. -/
def areaChecksWrong : ChangeSpec := { name := "areaChecks", fn := fun _ => fun
  | [d1, d2, d3, d4, d5] => { results := [.lit (.bool false)], args := [d1, d2, d3, d4, d5] }
  | _ => none }
def AreaChecksWrongFalsely : Prop := areaChecksRow.holds Tryz.pinned (OpenSpec.ofChange areaChecksWrong)

/-- 'merestonelaw05.AreaSure': WHATEVER THE INPUT: true; the input reads as it did. -/
def areaSureSpec : ChangeSpec := { name := "areaSure", fn := fun _ => fun
  | [d1, d2, d3, d4, d5] => { results := [.lit (.bool true)], args := [d1, d2, d3, d4, d5] }
  | _ => none }
def areaSureRow : OpenClaim := { program := "ythjmkmjojlfejaagreat", sum := "a8c94d9453b09b8a3df266953dd77d434f21246330c8c914fee6973afe6d2bd7", func := "merestone/merestonelaw05.AreaSure", spec := "areaSure", unfollowed := true, recurses := true, apart := false }
def AreaSureSaid : Prop := areaSureRow.holds Tryz.pinned (OpenSpec.ofChange areaSureSpec)

/-- ITS FALSE NEIGHBOUR: 'it returns false'. Refute it at one input. -/
def areaSureWrong : ChangeSpec := { name := "areaSure", fn := fun _ => fun
  | [d1, d2, d3, d4, d5] => { results := [.lit (.bool false)], args := [d1, d2, d3, d4, d5] }
  | _ => none }
def AreaSureWrongFalsely : Prop := areaSureRow.holds Tryz.pinned (OpenSpec.ofChange areaSureWrong)

/-- 'merestonelaw05.AreaPieces': WHATEVER THE INPUT: true; the input reads as it did. -/
def areaPiecesSpec : ChangeSpec := { name := "areaPieces", fn := fun _ => fun
  | [d1, d2, d3, d4] => { results := [.lit (.bool true)], args := [d1, d2, d3, d4] }
  | _ => none }
def areaPiecesRow : OpenClaim := { program := "ythjmkmjojlfejaagreat", sum := "a8c94d9453b09b8a3df266953dd77d434f21246330c8c914fee6973afe6d2bd7", func := "merestone/merestonelaw05.AreaPieces", spec := "areaPieces", unfollowed := true, recurses := true, apart := false }
def AreaPiecesSaid : Prop := areaPiecesRow.holds Tryz.pinned (OpenSpec.ofChange areaPiecesSpec)

/-- ITS FALSE NEIGHBOUR: 'it returns false'. Refute it at one input. -/
def areaPiecesWrong : ChangeSpec := { name := "areaPieces", fn := fun _ => fun
  | [d1, d2, d3, d4] => { results := [.lit (.bool false)], args := [d1, d2, d3, d4] }
  | _ => none }
def AreaPiecesWrongFalsely : Prop := areaPiecesRow.holds Tryz.pinned (OpenSpec.ofChange areaPiecesWrong)

/-- 'merestonelaw05.AreaExtents': WHATEVER THE INPUT: true; the input reads as it did. -/
def areaExtentsSpec : ChangeSpec := { name := "areaExtents", fn := fun _ => fun
  | [d1, d2, d3, d4] => { results := [.lit (.bool true)], args := [d1, d2, d3, d4] }
  | _ => none }
def areaExtentsRow : OpenClaim := { program := "ythjmkmjojlfejaagreat", sum := "a8c94d9453b09b8a3df266953dd77d434f21246330c8c914fee6973afe6d2bd7", func := "merestone/merestonelaw05.AreaExtents", spec := "areaExtents", unfollowed := true, recurses := true, apart := false }
def AreaExtentsSaid : Prop := areaExtentsRow.holds Tryz.pinned (OpenSpec.ofChange areaExtentsSpec)

/-- ITS FALSE NEIGHBOUR: 'it returns false'. Refute it at one input. -/
def areaExtentsWrong : ChangeSpec := { name := "areaExtents", fn := fun _ => fun
  | [d1, d2, d3, d4] => { results := [.lit (.bool false)], args := [d1, d2, d3, d4] }
  | _ => none }
def AreaExtentsWrongFalsely : Prop := areaExtentsRow.holds Tryz.pinned (OpenSpec.ofChange areaExtentsWrong)

/-- 'merestonelaw05.AreaDual': WHATEVER THE INPUT: true; the input reads as it did. -/
def areaDualSpec : ChangeSpec := { name := "areaDual", fn := fun _ => fun
  | [d1, d2, d3, d4, d5] => { results := [.lit (.bool true)], args := [d1, d2, d3, d4, d5] }
  | _ => none }
def areaDualRow : OpenClaim := { program := "ythjmkmjojlfejaagreat", sum := "a8c94d9453b09b8a3df266953dd77d434f21246330c8c914fee6973afe6d2bd7", func := "merestone/merestonelaw05.AreaDual", spec := "areaDual", unfollowed := true, recurses := true, apart := false }
def AreaDualSaid : Prop := areaDualRow.holds Tryz.pinned (OpenSpec.ofChange areaDualSpec)

/-- ITS FALSE NEIGHBOUR: 'it returns false'. Refute it at one input. -/
def areaDualWrong : ChangeSpec := { name := "areaDual", fn := fun _ => fun
  | [d1, d2, d3, d4, d5] => { results := [.lit (.bool false)], args := [d1, d2, d3, d4, d5] }
  | _ => none }
def AreaDualWrongFalsely : Prop := areaDualRow.holds Tryz.pinned (OpenSpec.ofChange areaDualWrong)

/-- 'merestonelaw05.AreaBounds': WHATEVER THE INPUT: true; the input reads as it did. -/
def areaBoundsSpec : ChangeSpec := { name := "areaBounds", fn := fun _ => fun
  | [d1, d2, d3] => { results := [.lit (.bool true)], args := [d1, d2, d3] }
  | _ => none }
def areaBoundsRow : OpenClaim := { program := "ythjmkmjojlfejaagreat", sum := "a8c94d9453b09b8a3df266953dd77d434f21246330c8c914fee6973afe6d2bd7", func := "merestone/merestonelaw05.AreaBounds", spec := "areaBounds", unfollowed := true, recurses := true, apart := false }
def AreaBoundsSaid : Prop := areaBoundsRow.holds Tryz.pinned (OpenSpec.ofChange areaBoundsSpec)

/-- ITS FALSE NEIGHBOUR: 'it returns false'. Refute it at one input. -/
def areaBoundsWrong : ChangeSpec := { name := "areaBounds", fn := fun _ => fun
  | [d1, d2, d3] => { results := [.lit (.bool false)], args := [d1, d2, d3] }
  | _ => none }
def AreaBoundsWrongFalsely : Prop := areaBoundsRow.holds Tryz.pinned (OpenSpec.ofChange areaBoundsWrong)

/-- 'merestonelaw05.AreaMore': WHATEVER THE INPUT: true; the input reads as it did. -/
def areaMoreSpec : ChangeSpec := { name := "areaMore", fn := fun _ => fun
  | [d1, d2, d3, d4, d5, d6] => { results := [.lit (.bool true)], args := [d1, d2, d3, d4, d5, d6] }
  | _ => none }
def areaMoreRow : OpenClaim := { program := "ythjmkmjojlfejaagreat", sum := "a8c94d9453b09b8a3df266953dd77d434f21246330c8c914fee6973afe6d2bd7", func := "merestone/merestonelaw05.AreaMore", spec := "areaMore", unfollowed := true, recurses := true, apart := false }
def AreaMoreSaid : Prop := areaMoreRow.holds Tryz.pinned (OpenSpec.ofChange areaMoreSpec)

/-- ITS FALSE NEIGHBOUR: 'it returns false'. Refute it at one input. -/
def areaMoreWrong : ChangeSpec := { name := "areaMore", fn := fun _ => fun
  | [d1, d2, d3, d4, d5, d6] => { results := [.lit (.bool false)], args := [d1, d2, d3, d4, d5, d6] }
  | _ => none }
def AreaMoreWrongFalsely : Prop := areaMoreRow.holds Tryz.pinned (OpenSpec.ofChange areaMoreWrong)

/- THE SECOND FORM. 'bulk': how many values and letters a reading holds, each counted each time it is reached (what is shared counts as often as it is met; a slice's spare places count too). A statement '..UptoSaid' is the law's where the arguments, and the package variables that the reading takes, are together of bulk at most 1048576: NARROWER than '..Said'. Prove '..Said' where nothing that the law and all that it calls make is longer than what came in: it says more and counts as full. Else prove '..UptoSaid'. A law counts once. -/
mutual
def uptoBulk {H : Type} : DataW H → Nat
  | .lit (.string bytes) => bytes.length + 1
  | .lit _ => 1
  | .nil => 1
  | .ptr d => uptoBulk d + 1
  | .slice elems spare => uptoBulkAll elems + uptoBulkAll spare + 1
  | .agg parts => uptoBulkAll parts + 1
  | .iface _ d => uptoBulk d + 1
  | .map entries => uptoBulkEntries entries + 1
  | .held _ => 1
def uptoBulkAll {H : Type} : List (DataW H) → Nat
  | [] => 0
  | d :: r => uptoBulk d + uptoBulkAll r
def uptoBulkEntries {H : Type} : List (Lit × DataW H) → Nat
  | [] => 0
  | x :: r => uptoBulkEntry x + uptoBulkEntries r
def uptoBulkEntry {H : Type} : Lit × DataW H → Nat
  | (.string bytes, d) => bytes.length + uptoBulk d + 1
  | (_, d) => uptoBulk d + 1
 end
def uptoSmall : (H : Type) → List (DataW H) → Bool := fun _ ds => decide (uptoBulkAll ds ≤ 1048576)
def OpenSpec.upto (s : _root_.Go.ChangeSpec) : _root_.Go.OpenSpec := { _root_.Go.OpenSpec.ofChange s with cond := some uptoSmall }

/-- 'merestonelaw05.AreaEnds', WHERE WHAT IT READS IS OF BULK AT MOST 1048576: true; the input reads as it did. -/
def areaEndsUptoRow : OpenClaim := { program := "ythjmkmjojlfejaagreat", sum := "a8c94d9453b09b8a3df266953dd77d434f21246330c8c914fee6973afe6d2bd7", func := "merestone/merestonelaw05.AreaEnds", spec := "areaEnds", unfollowed := true, recurses := true, apart := false, narrowed := true }
def AreaEndsUptoSaid : Prop := areaEndsUptoRow.holds Tryz.pinned (OpenSpec.upto areaEndsSpec)

/-- 'merestonelaw05.AreaRanks', WHERE WHAT IT READS IS OF BULK AT MOST 1048576: true; the input reads as it did. -/
def areaRanksUptoRow : OpenClaim := { program := "ythjmkmjojlfejaagreat", sum := "a8c94d9453b09b8a3df266953dd77d434f21246330c8c914fee6973afe6d2bd7", func := "merestone/merestonelaw05.AreaRanks", spec := "areaRanks", unfollowed := true, recurses := true, apart := false, narrowed := true }
def AreaRanksUptoSaid : Prop := areaRanksUptoRow.holds Tryz.pinned (OpenSpec.upto areaRanksSpec)

/-- 'merestonelaw05.AreaWest', WHERE WHAT IT READS IS OF BULK AT MOST 1048576: true; the input reads as it did. -/
def areaWestUptoRow : OpenClaim := { program := "ythjmkmjojlfejaagreat", sum := "a8c94d9453b09b8a3df266953dd77d434f21246330c8c914fee6973afe6d2bd7", func := "merestone/merestonelaw05.AreaWest", spec := "areaWest", unfollowed := true, recurses := true, apart := false, narrowed := true }
def AreaWestUptoSaid : Prop := areaWestUptoRow.holds Tryz.pinned (OpenSpec.upto areaWestSpec)

/-- 'merestonelaw05.AreaOrder', WHERE WHAT IT READS IS OF BULK AT MOST 1048576: true; the input reads as it did. -/
def areaOrderUptoRow : OpenClaim := { program := "ythjmkmjojlfejaagreat", sum := "a8c94d9453b09b8a3df266953dd77d434f21246330c8c914fee6973afe6d2bd7", func := "merestone/merestonelaw05.AreaOrder", spec := "areaOrder", unfollowed := true, recurses := true, apart := false, narrowed := true }
def AreaOrderUptoSaid : Prop := areaOrderUptoRow.holds Tryz.pinned (OpenSpec.upto areaOrderSpec)

/-- 'merestonelaw05.AreaForms', WHERE WHAT IT READS IS OF BULK AT MOST 1048576: true; the input reads as it did. -/
def areaFormsUptoRow : OpenClaim := { program := "ythjmkmjojlfejaagreat", sum := "a8c94d9453b09b8a3df266953dd77d434f21246330c8c914fee6973afe6d2bd7", func := "merestone/merestonelaw05.AreaForms", spec := "areaForms", unfollowed := true, recurses := true, apart := false, narrowed := true }
def AreaFormsUptoSaid : Prop := areaFormsUptoRow.holds Tryz.pinned (OpenSpec.upto areaFormsSpec)

/-- 'merestonelaw05.AreaShares', WHERE WHAT IT READS IS OF BULK AT MOST 1048576: true; the input reads as it did. -/
def areaSharesUptoRow : OpenClaim := { program := "ythjmkmjojlfejaagreat", sum := "a8c94d9453b09b8a3df266953dd77d434f21246330c8c914fee6973afe6d2bd7", func := "merestone/merestonelaw05.AreaShares", spec := "areaShares", unfollowed := true, recurses := true, apart := false, narrowed := true }
def AreaSharesUptoSaid : Prop := areaSharesUptoRow.holds Tryz.pinned (OpenSpec.upto areaSharesSpec)

/-- 'merestonelaw05.AreaFair', WHERE WHAT IT READS IS OF BULK AT MOST 1048576: true; the input reads as it did. -/
def areaFairUptoRow : OpenClaim := { program := "ythjmkmjojlfejaagreat", sum := "a8c94d9453b09b8a3df266953dd77d434f21246330c8c914fee6973afe6d2bd7", func := "merestone/merestonelaw05.AreaFair", spec := "areaFair", unfollowed := true, recurses := true, apart := false, narrowed := true }
def AreaFairUptoSaid : Prop := areaFairUptoRow.holds Tryz.pinned (OpenSpec.upto areaFairSpec)

/-- 'merestonelaw05.AreaCuts', WHERE WHAT IT READS IS OF BULK AT MOST 1048576: true; the input reads as it did. -/
def areaCutsUptoRow : OpenClaim := { program := "ythjmkmjojlfejaagreat", sum := "a8c94d9453b09b8a3df266953dd77d434f21246330c8c914fee6973afe6d2bd7", func := "merestone/merestonelaw05.AreaCuts", spec := "areaCuts", unfollowed := true, recurses := true, apart := false, narrowed := true }
def AreaCutsUptoSaid : Prop := areaCutsUptoRow.holds Tryz.pinned (OpenSpec.upto areaCutsSpec)

/-- 'merestonelaw05.AreaDivides', WHERE WHAT IT READS IS OF BULK AT MOST 1048576: true; the input reads as it did. -/
def areaDividesUptoRow : OpenClaim := { program := "ythjmkmjojlfejaagreat", sum := "a8c94d9453b09b8a3df266953dd77d434f21246330c8c914fee6973afe6d2bd7", func := "merestone/merestonelaw05.AreaDivides", spec := "areaDivides", unfollowed := true, recurses := true, apart := false, narrowed := true }
def AreaDividesUptoSaid : Prop := areaDividesUptoRow.holds Tryz.pinned (OpenSpec.upto areaDividesSpec)

/-- 'merestonelaw05.AreaParcels', WHERE WHAT IT READS IS OF BULK AT MOST 1048576: true; the input reads as it did. -/
def areaParcelsUptoRow : OpenClaim := { program := "ythjmkmjojlfejaagreat", sum := "a8c94d9453b09b8a3df266953dd77d434f21246330c8c914fee6973afe6d2bd7", func := "merestone/merestonelaw05.AreaParcels", spec := "areaParcels", unfollowed := true, recurses := true, apart := false, narrowed := true }
def AreaParcelsUptoSaid : Prop := areaParcelsUptoRow.holds Tryz.pinned (OpenSpec.upto areaParcelsSpec)

/-- 'merestonelaw05.AreaMemory', WHERE WHAT IT READS IS OF BULK AT MOST 1048576: true; the input reads as it did. -/
def areaMemoryUptoRow : OpenClaim := { program := "ythjmkmjojlfejaagreat", sum := "a8c94d9453b09b8a3df266953dd77d434f21246330c8c914fee6973afe6d2bd7", func := "merestone/merestonelaw05.AreaMemory", spec := "areaMemory", unfollowed := true, recurses := true, apart := false, narrowed := true }
def AreaMemoryUptoSaid : Prop := areaMemoryUptoRow.holds Tryz.pinned (OpenSpec.upto areaMemorySpec)

/-- 'merestonelaw05.AreaChecks', WHERE WHAT IT READS IS OF BULK AT MOST 1048576: true; the input reads as it did. -/
def areaChecksUptoRow : OpenClaim := { program := "ythjmkmjojlfejaagreat", sum := "a8c94d9453b09b8a3df266953dd77d434f21246330c8c914fee6973afe6d2bd7", func := "merestone/merestonelaw05.AreaChecks", spec := "areaChecks", unfollowed := true, recurses := true, apart := false, narrowed := true }
def AreaChecksUptoSaid : Prop := areaChecksUptoRow.holds Tryz.pinned (OpenSpec.upto areaChecksSpec)

/-- 'merestonelaw05.AreaSure', WHERE WHAT IT READS IS OF BULK AT MOST 1048576: true; the input reads as it did. -/
def areaSureUptoRow : OpenClaim := { program := "ythjmkmjojlfejaagreat", sum := "a8c94d9453b09b8a3df266953dd77d434f21246330c8c914fee6973afe6d2bd7", func := "merestone/merestonelaw05.AreaSure", spec := "areaSure", unfollowed := true, recurses := true, apart := false, narrowed := true }
def AreaSureUptoSaid : Prop := areaSureUptoRow.holds Tryz.pinned (OpenSpec.upto areaSureSpec)

/-- 'merestonelaw05.AreaPieces', WHERE WHAT IT READS IS OF BULK AT MOST 1048576: true; the input reads as it did. -/
def areaPiecesUptoRow : OpenClaim := { program := "ythjmkmjojlfejaagreat", sum := "a8c94d9453b09b8a3df266953dd77d434f21246330c8c914fee6973afe6d2bd7", func := "merestone/merestonelaw05.AreaPieces", spec := "areaPieces", unfollowed := true, recurses := true, apart := false, narrowed := true }
def AreaPiecesUptoSaid : Prop := areaPiecesUptoRow.holds Tryz.pinned (OpenSpec.upto areaPiecesSpec)

/-- 'merestonelaw05.AreaExtents', WHERE WHAT IT READS IS OF BULK AT MOST 1048576: true; the input reads as it did. -/
def areaExtentsUptoRow : OpenClaim := { program := "ythjmkmjojlfejaagreat", sum := "a8c94d9453b09b8a3df266953dd77d434f21246330c8c914fee6973afe6d2bd7", func := "merestone/merestonelaw05.AreaExtents", spec := "areaExtents", unfollowed := true, recurses := true, apart := false, narrowed := true }
def AreaExtentsUptoSaid : Prop := areaExtentsUptoRow.holds Tryz.pinned (OpenSpec.upto areaExtentsSpec)

/-- 'merestonelaw05.AreaDual', WHERE WHAT IT READS IS OF BULK AT MOST 1048576: true; the input reads as it did. -/
def areaDualUptoRow : OpenClaim := { program := "ythjmkmjojlfejaagreat", sum := "a8c94d9453b09b8a3df266953dd77d434f21246330c8c914fee6973afe6d2bd7", func := "merestone/merestonelaw05.AreaDual", spec := "areaDual", unfollowed := true, recurses := true, apart := false, narrowed := true }
def AreaDualUptoSaid : Prop := areaDualUptoRow.holds Tryz.pinned (OpenSpec.upto areaDualSpec)

/-- 'merestonelaw05.AreaBounds', WHERE WHAT IT READS IS OF BULK AT MOST 1048576: true; the input reads as it did. -/
def areaBoundsUptoRow : OpenClaim := { program := "ythjmkmjojlfejaagreat", sum := "a8c94d9453b09b8a3df266953dd77d434f21246330c8c914fee6973afe6d2bd7", func := "merestone/merestonelaw05.AreaBounds", spec := "areaBounds", unfollowed := true, recurses := true, apart := false, narrowed := true }
def AreaBoundsUptoSaid : Prop := areaBoundsUptoRow.holds Tryz.pinned (OpenSpec.upto areaBoundsSpec)

/-- 'merestonelaw05.AreaMore', WHERE WHAT IT READS IS OF BULK AT MOST 1048576: true; the input reads as it did. -/
def areaMoreUptoRow : OpenClaim := { program := "ythjmkmjojlfejaagreat", sum := "a8c94d9453b09b8a3df266953dd77d434f21246330c8c914fee6973afe6d2bd7", func := "merestone/merestonelaw05.AreaMore", spec := "areaMore", unfollowed := true, recurses := true, apart := false, narrowed := true }
def AreaMoreUptoSaid : Prop := areaMoreUptoRow.holds Tryz.pinned (OpenSpec.upto areaMoreSpec)

end Rows
end Go.Proofs.YthjmkmjojlfejaaGreat
