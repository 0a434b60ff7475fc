/-
  NARROWER THAN 'FOR EVERY INPUT', by the rows' own cells (each row's printed sentence says how): LimitsRegions: laid · LimitsRising: laid · LimitsOrder: laid · LimitsChecks: laid · LimitsChanges: laid · LimitsMore: laid · LimitsConflicts: laid · LimitsMemory: laid · LimitsIdle: laid · LimitsReasons: laid · LimitsLand: laid · LimitsAwards: laid · LimitsProved: laid · LimitsEither: laid · LimitsSharp: laid · LimitsStrips: laid · LimitsShows: laid · LimitsDrawings: laid · LimitsOwned: laid.
  DERIVED. THE GIVEN ROWS OF THIS SEAT. 19 by the template 'for every input the law returns true; each argument reads behind the call as it read before'; 0 by the template 'total and deterministic' (their statements: YtkhemfnlflbniaaGreatDoorTotals.lean).
  GIVEN WITH THE SEED: the statements are not yours to turn. If you find one false, say at which input.
  Laid BY PROGRAM, IN A SANDBOX (cutbox-rows.mjs): the forced cells as the released guide's own fill.sh prints them over the translation f6eba4802917f526… (all of the seat's roots in one cut). By AI agents, Wed Nov 11 2026. No macro, syntax, notation, axiom, sorry.
-/
import Derived.Test.YtkhemfnlflbniaaGreatDoorChecked
import GoSem.Claim
import GoSem.ClaimJoined
import GoSem.ClaimMapViews
import Derived.JoinedTies
import Derived.KernelRfl
namespace Go.Proofs.YtkhemfnlflbniaaGreatDoor
/- THE CELL 'sum', in the pinned program and in every row, IS THE sha256 OF THE DUMP (.gsa) THAT YtkhemfnlflbniaaGreatDoorProg.lean LOADS. Nothing in Lean hashes anything: it is a label: what it is worth is what the hold of that sum in a sandbox is worth. -/
noncomputable def Tryz.pinned : Pinned := { name := "ytkhemfnlflbniaagreatdoor", sum := "f6eba4802917f526a5409dd60ec4f3053a2905b717f1e66248a245916be101e1", checked := Tryz.checked }
namespace Rows
def none {H : Type} : Left H := { results := [], args := [] }

/- WHAT THE LISTED PACKAGE-LEVEL VARIABLES READ AS WHEN THE CALL BEGINS. Each datum BY PROGRAM (the guide's laid-datum.mjs) off the statement by which the dump's own 'gosem.cut.vars' lays the variable. In a bare row this is a premise. The card (YtkhemfnlflbniaaGreatDoorCards.lean) ties it to the program's text. -/
def laid_math_bits_deBruijn32tab {H : Type} : DataW H := .agg [.lit (.int .u8 0), .lit (.int .u8 1), .lit (.int .u8 28), .lit (.int .u8 2), .lit (.int .u8 29), .lit (.int .u8 14), .lit (.int .u8 24), .lit (.int .u8 3), .lit (.int .u8 30), .lit (.int .u8 22), .lit (.int .u8 20), .lit (.int .u8 15), .lit (.int .u8 25), .lit (.int .u8 17), .lit (.int .u8 4), .lit (.int .u8 8), .lit (.int .u8 31), .lit (.int .u8 27), .lit (.int .u8 13), .lit (.int .u8 23), .lit (.int .u8 21), .lit (.int .u8 19), .lit (.int .u8 16), .lit (.int .u8 7), .lit (.int .u8 26), .lit (.int .u8 12), .lit (.int .u8 18), .lit (.int .u8 6), .lit (.int .u8 11), .lit (.int .u8 5), .lit (.int .u8 10), .lit (.int .u8 9)]
def laid_math_bits_deBruijn64tab {H : Type} : DataW H := .agg [.lit (.int .u8 0), .lit (.int .u8 1), .lit (.int .u8 56), .lit (.int .u8 2), .lit (.int .u8 57), .lit (.int .u8 49), .lit (.int .u8 28), .lit (.int .u8 3), .lit (.int .u8 61), .lit (.int .u8 58), .lit (.int .u8 42), .lit (.int .u8 50), .lit (.int .u8 38), .lit (.int .u8 29), .lit (.int .u8 17), .lit (.int .u8 4), .lit (.int .u8 62), .lit (.int .u8 47), .lit (.int .u8 59), .lit (.int .u8 36), .lit (.int .u8 45), .lit (.int .u8 43), .lit (.int .u8 51), .lit (.int .u8 22), .lit (.int .u8 53), .lit (.int .u8 39), .lit (.int .u8 33), .lit (.int .u8 30), .lit (.int .u8 24), .lit (.int .u8 18), .lit (.int .u8 12), .lit (.int .u8 5), .lit (.int .u8 63), .lit (.int .u8 55), .lit (.int .u8 48), .lit (.int .u8 27), .lit (.int .u8 60), .lit (.int .u8 41), .lit (.int .u8 37), .lit (.int .u8 16), .lit (.int .u8 46), .lit (.int .u8 35), .lit (.int .u8 44), .lit (.int .u8 21), .lit (.int .u8 52), .lit (.int .u8 32), .lit (.int .u8 23), .lit (.int .u8 11), .lit (.int .u8 54), .lit (.int .u8 26), .lit (.int .u8 40), .lit (.int .u8 15), .lit (.int .u8 34), .lit (.int .u8 20), .lit (.int .u8 31), .lit (.int .u8 10), .lit (.int .u8 25), .lit (.int .u8 14), .lit (.int .u8 19), .lit (.int .u8 9), .lit (.int .u8 13), .lit (.int .u8 8), .lit (.int .u8 7), .lit (.int .u8 6)]
def laid_internal_strconv_uint64pow10 {H : Type} : DataW H := .agg [.lit (.int .u64 1), .lit (.int .u64 10), .lit (.int .u64 100), .lit (.int .u64 1000), .lit (.int .u64 10000), .lit (.int .u64 100000), .lit (.int .u64 1000000), .lit (.int .u64 10000000), .lit (.int .u64 100000000), .lit (.int .u64 1000000000), .lit (.int .u64 10000000000), .lit (.int .u64 100000000000), .lit (.int .u64 1000000000000), .lit (.int .u64 10000000000000), .lit (.int .u64 100000000000000), .lit (.int .u64 1000000000000000), .lit (.int .u64 10000000000000000), .lit (.int .u64 100000000000000000), .lit (.int .u64 1000000000000000000), .lit (.int .u64 10000000000000000000)]

/-- 'merestonelaw04.LimitsRegions': WHATEVER THE INPUT: true; the input reads as it did. -/
def limitsRegionsSpec : ChangeSpec := { name := "limitsRegions", fn := fun _ => fun
  | [d1, d2, d3, d4] => { results := [.lit (.bool true)], args := [d1, d2, d3, d4] }
  | _ => none }
def limitsRegionsRow : OpenClaim := { program := "ytkhemfnlflbniaagreatdoor", sum := "f6eba4802917f526a5409dd60ec4f3053a2905b717f1e66248a245916be101e1", func := "merestone/merestonelaw04.LimitsRegions", spec := "limitsRegions", inPlace := ["internal/abi.NoEscape", "internal/bytealg.MakeNoZero"], unfollowed := true, recurses := true, named := ["internal/strconv.uint64pow10", "math/bits.deBruijn32tab", "math/bits.deBruijn64tab"], apart := false, laid := [("math/bits.deBruijn32tab", laid_math_bits_deBruijn32tab), ("math/bits.deBruijn64tab", laid_math_bits_deBruijn64tab), ("internal/strconv.uint64pow10", laid_internal_strconv_uint64pow10)] }
def LimitsRegionsSaid : Prop := limitsRegionsRow.holds Tryz.pinned (OpenSpec.ofChange limitsRegionsSpec)

/-- ITS FALSE NEIGHBOUR: 'it returns false'. Refute it at one input. -/
def limitsRegionsWrong : ChangeSpec := { name := "limitsRegions", fn := fun _ => fun
  | [d1, d2, d3, d4] => { results := [.lit (.bool false)], args := [d1, d2, d3, d4] }
  | _ => none }
def LimitsRegionsWrongFalsely : Prop := limitsRegionsRow.holds Tryz.pinned (OpenSpec.ofChange limitsRegionsWrong)

/-- 'merestonelaw04.LimitsRising': WHATEVER THE INPUT: true; the input reads as it did. -/
def limitsRisingSpec : ChangeSpec := { name := "limitsRising", fn := fun _ => fun
  | [d1, d2, d3] => { results := [.lit (.bool true)], args := [d1, d2, d3] }
  | _ => none }
def limitsRisingRow : OpenClaim := { program := "ytkhemfnlflbniaagreatdoor", sum := "f6eba4802917f526a5409dd60ec4f3053a2905b717f1e66248a245916be101e1", func := "merestone/merestonelaw04.LimitsRising", spec := "limitsRising", inPlace := ["internal/abi.NoEscape", "internal/bytealg.MakeNoZero"], unfollowed := true, recurses := true, named := ["internal/strconv.uint64pow10", "math/bits.deBruijn32tab", "math/bits.deBruijn64tab"], apart := false, laid := [("math/bits.deBruijn32tab", laid_math_bits_deBruijn32tab), ("math/bits.deBruijn64tab", laid_math_bits_deBruijn64tab), ("internal/strconv.uint64pow10", laid_internal_strconv_uint64pow10)] }
def LimitsRisingSaid : Prop := limitsRisingRow.holds Tryz.pinned (OpenSpec.ofChange limitsRisingSpec)

/-- ITS FALSE NEIGHBOUR: 'it returns false'. Refute it at one input. -/
def limitsRisingWrong : ChangeSpec := { name := "limitsRising", fn := fun _ => fun
  | [d1, d2, d3] => { results := [.lit (.bool false)], args := [d1, d2, d3] }
  | _ => none }
def LimitsRisingWrongFalsely : Prop := limitsRisingRow.holds Tryz.pinned (OpenSpec.ofChange limitsRisingWrong)

/-- 'merestonelaw04.LimitsOrder': WHATEVER THE INPUT: true; the input reads as it did. -/
def limitsOrderSpec : ChangeSpec := { name := "limitsOrder", fn := fun _ => fun
  | [d1, d2, d3, d4, d5, d6, d7] => { results := [.lit (.bool true)], args := [d1, d2, d3, d4, d5, d6, d7] }
  | _ => none }
def limitsOrderRow : OpenClaim := { program := "ytkhemfnlflbniaagreatdoor", sum := "f6eba4802917f526a5409dd60ec4f3053a2905b717f1e66248a245916be101e1", func := "merestone/merestonelaw04.LimitsOrder", spec := "limitsOrder", inPlace := ["internal/abi.NoEscape", "internal/bytealg.MakeNoZero"], unfollowed := true, recurses := true, named := ["internal/strconv.uint64pow10", "math/bits.deBruijn32tab", "math/bits.deBruijn64tab"], apart := false, laid := [("math/bits.deBruijn32tab", laid_math_bits_deBruijn32tab), ("math/bits.deBruijn64tab", laid_math_bits_deBruijn64tab), ("internal/strconv.uint64pow10", laid_internal_strconv_uint64pow10)] }
def LimitsOrderSaid : Prop := limitsOrderRow.holds Tryz.pinned (OpenSpec.ofChange limitsOrderSpec)

/-- ITS FALSE NEIGHBOUR: 'it returns false'. Refute it at one input. -/
def limitsOrderWrong : ChangeSpec := { name := "limitsOrder", fn := fun _ => fun
  | [d1, d2, d3, d4, d5, d6, d7] => { results := [.lit (.bool false)], args := [d1, d2, d3, d4, d5, d6, d7] }
  | _ => none }
def LimitsOrderWrongFalsely : Prop := limitsOrderRow.holds Tryz.pinned (OpenSpec.ofChange limitsOrderWrong)

/-- 'merestonelaw04.LimitsChecks': WHATEVER THE INPUT: true; the input reads as it did. -/
def limitsChecksSpec : ChangeSpec := { name := "limitsChecks", fn := fun _ => fun
  | [d1, d2] => { results := [.lit (.bool true)], args := [d1, d2] }
  | _ => none }
def limitsChecksRow : OpenClaim := { program := "ytkhemfnlflbniaagreatdoor", sum := "f6eba4802917f526a5409dd60ec4f3053a2905b717f1e66248a245916be101e1", func := "merestone/merestonelaw04.LimitsChecks", spec := "limitsChecks", inPlace := ["internal/abi.NoEscape", "internal/bytealg.MakeNoZero"], unfollowed := true, recurses := true, named := ["internal/strconv.uint64pow10", "math/bits.deBruijn32tab", "math/bits.deBruijn64tab"], apart := false, laid := [("math/bits.deBruijn32tab", laid_math_bits_deBruijn32tab), ("math/bits.deBruijn64tab", laid_math_bits_deBruijn64tab), ("internal/strconv.uint64pow10", laid_internal_strconv_uint64pow10)] }
def LimitsChecksSaid : Prop := limitsChecksRow.holds Tryz.pinned (OpenSpec.ofChange limitsChecksSpec)

/-- ITS FALSE NEIGHBOUR: 'it returns false'. Refute it at one input. -/
def limitsChecksWrong : ChangeSpec := { name := "limitsChecks", fn := fun _ => fun
  | [d1, d2] => { results := [.lit (.bool false)], args := [d1, d2] }
  | _ => none }
def LimitsChecksWrongFalsely : Prop := limitsChecksRow.holds Tryz.pinned (OpenSpec.ofChange limitsChecksWrong)

/-- 'merestonelaw04.LimitsChanges': WHATEVER THE INPUT: true; the input reads as it did. -/
def limitsChangesSpec : ChangeSpec := { name := "limitsChanges", fn := fun _ => fun
  | [d1, d2, d3] => { results := [.lit (.bool true)], args := [d1, d2, d3] }
  | _ => none }
def limitsChangesRow : OpenClaim := { program := "ytkhemfnlflbniaagreatdoor", sum := "f6eba4802917f526a5409dd60ec4f3053a2905b717f1e66248a245916be101e1", func := "merestone/merestonelaw04.LimitsChanges", spec := "limitsChanges", inPlace := ["internal/abi.NoEscape", "internal/bytealg.MakeNoZero"], unfollowed := true, recurses := true, named := ["internal/strconv.uint64pow10", "math/bits.deBruijn32tab", "math/bits.deBruijn64tab"], apart := false, laid := [("math/bits.deBruijn32tab", laid_math_bits_deBruijn32tab), ("math/bits.deBruijn64tab", laid_math_bits_deBruijn64tab), ("internal/strconv.uint64pow10", laid_internal_strconv_uint64pow10)] }
def LimitsChangesSaid : Prop := limitsChangesRow.holds Tryz.pinned (OpenSpec.ofChange limitsChangesSpec)

/-- ITS FALSE NEIGHBOUR: 'it returns false'. Refute it at one input. -/
def limitsChangesWrong : ChangeSpec := { name := "limitsChanges", fn := fun _ => fun
  | [d1, d2, d3] => { results := [.lit (.bool false)], args := [d1, d2, d3] }
  | _ => none }
def LimitsChangesWrongFalsely : Prop := limitsChangesRow.holds Tryz.pinned (OpenSpec.ofChange limitsChangesWrong)

/-- 'merestonelaw04.LimitsMore': WHATEVER THE INPUT: true; the input reads as it did. -/
def limitsMoreSpec : ChangeSpec := { name := "limitsMore", fn := fun _ => fun
  | [d1, d2, d3, d4, d5, d6, d7] => { results := [.lit (.bool true)], args := [d1, d2, d3, d4, d5, d6, d7] }
  | _ => none }
def limitsMoreRow : OpenClaim := { program := "ytkhemfnlflbniaagreatdoor", sum := "f6eba4802917f526a5409dd60ec4f3053a2905b717f1e66248a245916be101e1", func := "merestone/merestonelaw04.LimitsMore", spec := "limitsMore", inPlace := ["internal/abi.NoEscape", "internal/bytealg.MakeNoZero"], unfollowed := true, recurses := true, named := ["internal/strconv.uint64pow10", "math/bits.deBruijn32tab", "math/bits.deBruijn64tab"], apart := false, laid := [("math/bits.deBruijn32tab", laid_math_bits_deBruijn32tab), ("math/bits.deBruijn64tab", laid_math_bits_deBruijn64tab), ("internal/strconv.uint64pow10", laid_internal_strconv_uint64pow10)] }
def LimitsMoreSaid : Prop := limitsMoreRow.holds Tryz.pinned (OpenSpec.ofChange limitsMoreSpec)

/-- ITS FALSE NEIGHBOUR: 'it returns false'. Refute it at one input. -/
def limitsMoreWrong : ChangeSpec := { name := "limitsMore", fn := fun _ => fun
  | [d1, d2, d3, d4, d5, d6, d7] => { results := [.lit (.bool false)], args := [d1, d2, d3, d4, d5, d6, d7] }
  | _ => none }
def LimitsMoreWrongFalsely : Prop := limitsMoreRow.holds Tryz.pinned (OpenSpec.ofChange limitsMoreWrong)

/-- 'merestonelaw04.LimitsConflicts': WHATEVER THE INPUT: true; the input reads as it did. -/
def limitsConflictsSpec : ChangeSpec := { name := "limitsConflicts", fn := fun _ => fun
  | [d1, d2, d3] => { results := [.lit (.bool true)], args := [d1, d2, d3] }
  | _ => none }
def limitsConflictsRow : OpenClaim := { program := "ytkhemfnlflbniaagreatdoor", sum := "f6eba4802917f526a5409dd60ec4f3053a2905b717f1e66248a245916be101e1", func := "merestone/merestonelaw04.LimitsConflicts", spec := "limitsConflicts", inPlace := ["internal/abi.NoEscape", "internal/bytealg.MakeNoZero"], unfollowed := true, recurses := true, named := ["internal/strconv.uint64pow10", "math/bits.deBruijn32tab", "math/bits.deBruijn64tab"], apart := false, laid := [("math/bits.deBruijn32tab", laid_math_bits_deBruijn32tab), ("math/bits.deBruijn64tab", laid_math_bits_deBruijn64tab), ("internal/strconv.uint64pow10", laid_internal_strconv_uint64pow10)] }
def LimitsConflictsSaid : Prop := limitsConflictsRow.holds Tryz.pinned (OpenSpec.ofChange limitsConflictsSpec)

/-- ITS FALSE NEIGHBOUR: 'it returns false'. Refute it at one input. -/
def limitsConflictsWrong : ChangeSpec := { name := "limitsConflicts", fn := fun _ => fun
  | [d1, d2, d3] => { results := [.lit (.bool false)], args := [d1, d2, d3] }
  | _ => none }
def LimitsConflictsWrongFalsely : Prop := limitsConflictsRow.holds Tryz.pinned (OpenSpec.ofChange limitsConflictsWrong)

/-- 'merestonelaw04.LimitsMemory': WHATEVER THE INPUT: true; the input reads as it did. -/
def limitsMemorySpec : ChangeSpec := { name := "limitsMemory", fn := fun _ => fun
  | [d1, d2, d3] => { results := [.lit (.bool true)], args := [d1, d2, d3] }
  | _ => none }
def limitsMemoryRow : OpenClaim := { program := "ytkhemfnlflbniaagreatdoor", sum := "f6eba4802917f526a5409dd60ec4f3053a2905b717f1e66248a245916be101e1", func := "merestone/merestonelaw04.LimitsMemory", spec := "limitsMemory", inPlace := ["internal/abi.NoEscape", "internal/bytealg.MakeNoZero"], unfollowed := true, recurses := true, named := ["internal/strconv.uint64pow10", "math/bits.deBruijn32tab", "math/bits.deBruijn64tab"], apart := false, laid := [("math/bits.deBruijn32tab", laid_math_bits_deBruijn32tab), ("math/bits.deBruijn64tab", laid_math_bits_deBruijn64tab), ("internal/strconv.uint64pow10", laid_internal_strconv_uint64pow10)] }
def LimitsMemorySaid : Prop := limitsMemoryRow.holds Tryz.pinned (OpenSpec.ofChange limitsMemorySpec)

/-- ITS FALSE NEIGHBOUR: 'it returns false'. Refute it at one input. -/
def limitsMemoryWrong : ChangeSpec := { name := "limitsMemory", fn := fun _ => fun
  | [d1, d2, d3] => { results := [.lit (.bool false)], args := [d1, d2, d3] }
  | _ => none }
def LimitsMemoryWrongFalsely : Prop := limitsMemoryRow.holds Tryz.pinned (OpenSpec.ofChange limitsMemoryWrong)

/-- 'merestonelaw04.LimitsIdle': WHATEVER THE INPUT: true; the input reads as it did. -/
def limitsIdleSpec : ChangeSpec := { name := "limitsIdle", fn := fun _ => fun
  | [d1, d2, d3, d4] => { results := [.lit (.bool true)], args := [d1, d2, d3, d4] }
  | _ => none }
def limitsIdleRow : OpenClaim := { program := "ytkhemfnlflbniaagreatdoor", sum := "f6eba4802917f526a5409dd60ec4f3053a2905b717f1e66248a245916be101e1", func := "merestone/merestonelaw04.LimitsIdle", spec := "limitsIdle", inPlace := ["internal/abi.NoEscape", "internal/bytealg.MakeNoZero"], unfollowed := true, recurses := true, named := ["internal/strconv.uint64pow10", "math/bits.deBruijn32tab", "math/bits.deBruijn64tab"], apart := false, laid := [("math/bits.deBruijn32tab", laid_math_bits_deBruijn32tab), ("math/bits.deBruijn64tab", laid_math_bits_deBruijn64tab), ("internal/strconv.uint64pow10", laid_internal_strconv_uint64pow10)] }
def LimitsIdleSaid : Prop := limitsIdleRow.holds Tryz.pinned (OpenSpec.ofChange limitsIdleSpec)

/-- ITS FALSE NEIGHBOUR: 'it returns false'. Refute it at one input. -/
def limitsIdleWrong : ChangeSpec := { name := "limitsIdle", fn := fun _ => fun
  | [d1, d2, d3, d4] => { results := [.lit (.bool false)], args := [d1, d2, d3, d4] }
  | _ => none }
def LimitsIdleWrongFalsely : Prop := limitsIdleRow.holds Tryz.pinned (OpenSpec.ofChange limitsIdleWrong)

/-- 'merestonelaw04.LimitsReasons': WHATEVER THE INPUT: true; the input reads as it did. -/
def limitsReasonsSpec : ChangeSpec := { name := "limitsReasons", fn := fun _ => fun
  | [d1, d2, d3, d4, d5, d6] => { results := [.lit (.bool true)], args := [d1, d2, d3, d4, d5, d6] }
  | _ => none }
def limitsReasonsRow : OpenClaim := { program := "ytkhemfnlflbniaagreatdoor", sum := "f6eba4802917f526a5409dd60ec4f3053a2905b717f1e66248a245916be101e1", func := "merestone/merestonelaw04.LimitsReasons", spec := "limitsReasons", inPlace := ["internal/abi.NoEscape", "internal/bytealg.MakeNoZero"], unfollowed := true, recurses := true, named := ["internal/strconv.uint64pow10", "math/bits.deBruijn32tab", "math/bits.deBruijn64tab"], apart := false, laid := [("math/bits.deBruijn32tab", laid_math_bits_deBruijn32tab), ("math/bits.deBruijn64tab", laid_math_bits_deBruijn64tab), ("internal/strconv.uint64pow10", laid_internal_strconv_uint64pow10)] }
def LimitsReasonsSaid : Prop := limitsReasonsRow.holds Tryz.pinned (OpenSpec.ofChange limitsReasonsSpec)

/-- ITS FALSE NEIGHBOUR: 'it returns false'. Refute it at one input. -/
def limitsReasonsWrong : ChangeSpec := { name := "limitsReasons", fn := fun _ => fun
  | [d1, d2, d3, d4, d5, d6] => { results := [.lit (.bool false)], args := [d1, d2, d3, d4, d5, d6] }
  | _ => none }
def LimitsReasonsWrongFalsely : Prop := limitsReasonsRow.holds Tryz.pinned (OpenSpec.ofChange limitsReasonsWrong)

/-- 'merestonelaw04.LimitsLand': WHATEVER THE INPUT: true; the input reads as it did. -/
def limitsLandSpec : ChangeSpec := { name := "limitsLand", fn := fun _ => fun
  | [d1, d2, d3, d4, d5] => { results := [.lit (.bool true)], args := [d1, d2, d3, d4, d5] }
  | _ => none }
def limitsLandRow : OpenClaim := { program := "ytkhemfnlflbniaagreatdoor", sum := "f6eba4802917f526a5409dd60ec4f3053a2905b717f1e66248a245916be101e1", func := "merestone/merestonelaw04.LimitsLand", spec := "limitsLand", inPlace := ["internal/abi.NoEscape", "internal/bytealg.MakeNoZero"], unfollowed := true, recurses := true, named := ["internal/strconv.uint64pow10", "math/bits.deBruijn32tab", "math/bits.deBruijn64tab"], apart := false, laid := [("math/bits.deBruijn32tab", laid_math_bits_deBruijn32tab), ("math/bits.deBruijn64tab", laid_math_bits_deBruijn64tab), ("internal/strconv.uint64pow10", laid_internal_strconv_uint64pow10)] }
def LimitsLandSaid : Prop := limitsLandRow.holds Tryz.pinned (OpenSpec.ofChange limitsLandSpec)

/-- ITS FALSE NEIGHBOUR: 'it returns false'. Refute it at one input. -/
def limitsLandWrong : ChangeSpec := { name := "limitsLand", fn := fun _ => fun
  | [d1, d2, d3, d4, d5] => { results := [.lit (.bool false)], args := [d1, d2, d3, d4, d5] }
  | _ => none }
def LimitsLandWrongFalsely : Prop := limitsLandRow.holds Tryz.pinned (OpenSpec.ofChange limitsLandWrong)

/-- 'merestonelaw04.LimitsAwards': WHATEVER THE INPUT: true; the input reads as it did. -/
def limitsAwardsSpec : ChangeSpec := { name := "limitsAwards", fn := fun _ => fun
  | [d1, d2, d3, d4] => { results := [.lit (.bool true)], args := [d1, d2, d3, d4] }
  | _ => none }
def limitsAwardsRow : OpenClaim := { program := "ytkhemfnlflbniaagreatdoor", sum := "f6eba4802917f526a5409dd60ec4f3053a2905b717f1e66248a245916be101e1", func := "merestone/merestonelaw04.LimitsAwards", spec := "limitsAwards", inPlace := ["internal/abi.NoEscape", "internal/bytealg.MakeNoZero"], unfollowed := true, recurses := true, named := ["internal/strconv.uint64pow10", "math/bits.deBruijn32tab", "math/bits.deBruijn64tab"], apart := false, laid := [("math/bits.deBruijn32tab", laid_math_bits_deBruijn32tab), ("math/bits.deBruijn64tab", laid_math_bits_deBruijn64tab), ("internal/strconv.uint64pow10", laid_internal_strconv_uint64pow10)] }
def LimitsAwardsSaid : Prop := limitsAwardsRow.holds Tryz.pinned (OpenSpec.ofChange limitsAwardsSpec)

/-- ITS FALSE NEIGHBOUR: 'it returns false'. Refute it at one input. -/
def limitsAwardsWrong : ChangeSpec := { name := "limitsAwards", fn := fun _ => fun
  | [d1, d2, d3, d4] => { results := [.lit (.bool false)], args := [d1, d2, d3, d4] }
  | _ => none }
def LimitsAwardsWrongFalsely : Prop := limitsAwardsRow.holds Tryz.pinned (OpenSpec.ofChange limitsAwardsWrong)

/-- 'merestonelaw04.LimitsProved': WHATEVER THE INPUT: true; the input reads as it did. -/
def limitsProvedSpec : ChangeSpec := { name := "limitsProved", fn := fun _ => fun
  | [d1, d2, d3, d4, d5, d6, d7] => { results := [.lit (.bool true)], args := [d1, d2, d3, d4, d5, d6, d7] }
  | _ => none }
def limitsProvedRow : OpenClaim := { program := "ytkhemfnlflbniaagreatdoor", sum := "f6eba4802917f526a5409dd60ec4f3053a2905b717f1e66248a245916be101e1", func := "merestone/merestonelaw04.LimitsProved", spec := "limitsProved", inPlace := ["internal/abi.NoEscape", "internal/bytealg.MakeNoZero"], unfollowed := true, recurses := true, named := ["internal/strconv.uint64pow10", "math/bits.deBruijn32tab", "math/bits.deBruijn64tab"], apart := false, laid := [("math/bits.deBruijn32tab", laid_math_bits_deBruijn32tab), ("math/bits.deBruijn64tab", laid_math_bits_deBruijn64tab), ("internal/strconv.uint64pow10", laid_internal_strconv_uint64pow10)] }
def LimitsProvedSaid : Prop := limitsProvedRow.holds Tryz.pinned (OpenSpec.ofChange limitsProvedSpec)

/-- ITS FALSE NEIGHBOUR: 'it returns false'. Refute it at one input. -/
def limitsProvedWrong : ChangeSpec := { name := "limitsProved", fn := fun _ => fun
  | [d1, d2, d3, d4, d5, d6, d7] => { results := [.lit (.bool false)], args := [d1, d2, d3, d4, d5, d6, d7] }
  | _ => none }
def LimitsProvedWrongFalsely : Prop := limitsProvedRow.holds Tryz.pinned (OpenSpec.ofChange limitsProvedWrong)

/-- 'merestonelaw04.LimitsEither': WHATEVER THE INPUT: true; the input reads as it did. -/
def limitsEitherSpec : ChangeSpec := { name := "limitsEither", fn := fun _ => fun
  | [d1, d2, d3] => { results := [.lit (.bool true)], args := [d1, d2, d3] }
  | _ => none }
def limitsEitherRow : OpenClaim := { program := "ytkhemfnlflbniaagreatdoor", sum := "f6eba4802917f526a5409dd60ec4f3053a2905b717f1e66248a245916be101e1", func := "merestone/merestonelaw04.LimitsEither", spec := "limitsEither", inPlace := ["internal/abi.NoEscape", "internal/bytealg.MakeNoZero"], unfollowed := true, recurses := true, named := ["internal/strconv.uint64pow10", "math/bits.deBruijn32tab", "math/bits.deBruijn64tab"], apart := false, laid := [("math/bits.deBruijn32tab", laid_math_bits_deBruijn32tab), ("math/bits.deBruijn64tab", laid_math_bits_deBruijn64tab), ("internal/strconv.uint64pow10", laid_internal_strconv_uint64pow10)] }
def LimitsEitherSaid : Prop := limitsEitherRow.holds Tryz.pinned (OpenSpec.ofChange limitsEitherSpec)

/-- ITS FALSE NEIGHBOUR: 'it returns false'. Refute it at one input. -/
def limitsEitherWrong : ChangeSpec := { name := "limitsEither", fn := fun _ => fun
  | [d1, d2, d3] => { results := [.lit (.bool false)], args := [d1, d2, d3] }
  | _ => none }
def LimitsEitherWrongFalsely : Prop := limitsEitherRow.holds Tryz.pinned (OpenSpec.ofChange limitsEitherWrong)

/-- 'merestonelaw04.LimitsSharp': WHATEVER THE INPUT: true; the input reads as it did. -/
def limitsSharpSpec : ChangeSpec := { name := "limitsSharp", fn := fun _ => fun
  | [d1, d2, d3, d4] => { results := [.lit (.bool true)], args := [d1, d2, d3, d4] }
  | _ => none }
def limitsSharpRow : OpenClaim := { program := "ytkhemfnlflbniaagreatdoor", sum := "f6eba4802917f526a5409dd60ec4f3053a2905b717f1e66248a245916be101e1", func := "merestone/merestonelaw04.LimitsSharp", spec := "limitsSharp", inPlace := ["internal/abi.NoEscape", "internal/bytealg.MakeNoZero"], unfollowed := true, recurses := true, named := ["internal/strconv.uint64pow10", "math/bits.deBruijn32tab", "math/bits.deBruijn64tab"], apart := false, laid := [("math/bits.deBruijn32tab", laid_math_bits_deBruijn32tab), ("math/bits.deBruijn64tab", laid_math_bits_deBruijn64tab), ("internal/strconv.uint64pow10", laid_internal_strconv_uint64pow10)] }
def LimitsSharpSaid : Prop := limitsSharpRow.holds Tryz.pinned (OpenSpec.ofChange limitsSharpSpec)

/-- ITS FALSE NEIGHBOUR: 'it returns false'. Refute it at one input. -/
def limitsSharpWrong : ChangeSpec := { name := "limitsSharp", fn := fun _ => fun
  | [d1, d2, d3, d4] => { results := [.lit (.bool false)], args := [d1, d2, d3, d4] }
  | _ => none }
def LimitsSharpWrongFalsely : Prop := limitsSharpRow.holds Tryz.pinned (OpenSpec.ofChange limitsSharpWrong)

/-- 'merestonelaw04.LimitsStrips': WHATEVER THE INPUT: true; the input reads as it did. -/
def limitsStripsSpec : ChangeSpec := { name := "limitsStrips", fn := fun _ => fun
  | [d1, d2, d3, d4] => { results := [.lit (.bool true)], args := [d1, d2, d3, d4] }
  | _ => none }
def limitsStripsRow : OpenClaim := { program := "ytkhemfnlflbniaagreatdoor", sum := "f6eba4802917f526a5409dd60ec4f3053a2905b717f1e66248a245916be101e1", func := "merestone/merestonelaw04.LimitsStrips", spec := "limitsStrips", inPlace := ["internal/abi.NoEscape", "internal/bytealg.MakeNoZero"], unfollowed := true, recurses := true, named := ["internal/strconv.uint64pow10", "math/bits.deBruijn32tab", "math/bits.deBruijn64tab"], apart := false, laid := [("math/bits.deBruijn32tab", laid_math_bits_deBruijn32tab), ("math/bits.deBruijn64tab", laid_math_bits_deBruijn64tab), ("internal/strconv.uint64pow10", laid_internal_strconv_uint64pow10)] }
def LimitsStripsSaid : Prop := limitsStripsRow.holds Tryz.pinned (OpenSpec.ofChange limitsStripsSpec)

/-- ITS FALSE NEIGHBOUR: 'it returns false'. Refute it at one input. -/
def limitsStripsWrong : ChangeSpec := { name := "limitsStrips", fn := fun _ => fun
  | [d1, d2, d3, d4] => { results := [.lit (.bool false)], args := [d1, d2, d3, d4] }
  | _ => none }
def LimitsStripsWrongFalsely : Prop := limitsStripsRow.holds Tryz.pinned (OpenSpec.ofChange limitsStripsWrong)

/-- 'merestonelaw04.LimitsShows': WHATEVER THE INPUT: true; the input reads as it did. -/
def limitsShowsSpec : ChangeSpec := { name := "limitsShows", fn := fun _ => fun
  | [d1, d2, d3] => { results := [.lit (.bool true)], args := [d1, d2, d3] }
  | _ => none }
def limitsShowsRow : OpenClaim := { program := "ytkhemfnlflbniaagreatdoor", sum := "f6eba4802917f526a5409dd60ec4f3053a2905b717f1e66248a245916be101e1", func := "merestone/merestonelaw04.LimitsShows", spec := "limitsShows", inPlace := ["internal/abi.NoEscape", "internal/bytealg.MakeNoZero"], unfollowed := true, recurses := true, named := ["internal/strconv.uint64pow10", "math/bits.deBruijn32tab", "math/bits.deBruijn64tab"], apart := false, laid := [("math/bits.deBruijn32tab", laid_math_bits_deBruijn32tab), ("math/bits.deBruijn64tab", laid_math_bits_deBruijn64tab), ("internal/strconv.uint64pow10", laid_internal_strconv_uint64pow10)] }
def LimitsShowsSaid : Prop := limitsShowsRow.holds Tryz.pinned (OpenSpec.ofChange limitsShowsSpec)

/-- ITS FALSE NEIGHBOUR: 'it returns false'. Refute it at one input. -/
def limitsShowsWrong : ChangeSpec := { name := "limitsShows", fn := fun _ => fun
  | [d1, d2, d3] => { results := [.lit (.bool false)], args := [d1, d2, d3] }
  | _ => none }
def LimitsShowsWrongFalsely : Prop := limitsShowsRow.holds Tryz.pinned (OpenSpec.ofChange limitsShowsWrong)

/-- 'merestonelaw04.LimitsDrawings': WHATEVER THE INPUT: true; the input reads as it did. -/
def limitsDrawingsSpec : ChangeSpec := { name := "limitsDrawings", fn := fun _ => fun
  | [d1, d2, d3, d4, d5] => { results := [.lit (.bool true)], args := [d1, d2, d3, d4, d5] }
  | _ => none }
def limitsDrawingsRow : OpenClaim := { program := "ytkhemfnlflbniaagreatdoor", sum := "f6eba4802917f526a5409dd60ec4f3053a2905b717f1e66248a245916be101e1", func := "merestone/merestonelaw04.LimitsDrawings", spec := "limitsDrawings", inPlace := ["internal/abi.NoEscape", "internal/bytealg.MakeNoZero"], unfollowed := true, recurses := true, named := ["internal/strconv.uint64pow10", "math/bits.deBruijn32tab", "math/bits.deBruijn64tab"], apart := false, laid := [("math/bits.deBruijn32tab", laid_math_bits_deBruijn32tab), ("math/bits.deBruijn64tab", laid_math_bits_deBruijn64tab), ("internal/strconv.uint64pow10", laid_internal_strconv_uint64pow10)] }
def LimitsDrawingsSaid : Prop := limitsDrawingsRow.holds Tryz.pinned (OpenSpec.ofChange limitsDrawingsSpec)

/-- ITS FALSE NEIGHBOUR: 'it returns false'. Refute it at one input. -/
def limitsDrawingsWrong : ChangeSpec := { name := "limitsDrawings", fn := fun _ => fun
  | [d1, d2, d3, d4, d5] => { results := [.lit (.bool false)], args := [d1, d2, d3, d4, d5] }
  | _ => none }
def LimitsDrawingsWrongFalsely : Prop := limitsDrawingsRow.holds Tryz.pinned (OpenSpec.ofChange limitsDrawingsWrong)

/-- 'merestonelaw04.LimitsOwned': WHATEVER THE INPUT: true; the input reads as it did. -/
def limitsOwnedSpec : ChangeSpec := { name := "limitsOwned", fn := fun _ => fun
  | [d1, d2, d3, d4, d5] => { results := [.lit (.bool true)], args := [d1, d2, d3, d4, d5] }
  | _ => none }
def limitsOwnedRow : OpenClaim := { program := "ytkhemfnlflbniaagreatdoor", sum := "f6eba4802917f526a5409dd60ec4f3053a2905b717f1e66248a245916be101e1", func := "merestone/merestonelaw04.LimitsOwned", spec := "limitsOwned", inPlace := ["internal/abi.NoEscape", "internal/bytealg.MakeNoZero"], unfollowed := true, recurses := true, named := ["internal/strconv.uint64pow10", "math/bits.deBruijn32tab", "math/bits.deBruijn64tab"], apart := false, laid := [("math/bits.deBruijn32tab", laid_math_bits_deBruijn32tab), ("math/bits.deBruijn64tab", laid_math_bits_deBruijn64tab), ("internal/strconv.uint64pow10", laid_internal_strconv_uint64pow10)] }
def LimitsOwnedSaid : Prop := limitsOwnedRow.holds Tryz.pinned (OpenSpec.ofChange limitsOwnedSpec)

/-- ITS FALSE NEIGHBOUR: 'it returns false'. Refute it at one input. -/
def limitsOwnedWrong : ChangeSpec := { name := "limitsOwned", fn := fun _ => fun
  | [d1, d2, d3, d4, d5] => { results := [.lit (.bool false)], args := [d1, d2, d3, d4, d5] }
  | _ => none }
def LimitsOwnedWrongFalsely : Prop := limitsOwnedRow.holds Tryz.pinned (OpenSpec.ofChange limitsOwnedWrong)

/- THE SECOND FORM. 'bulk': how many values and letters a reading holds, each counted each time it is reached (what is shared counts as often as it is met; a slice's spare places count too). A statement '..UptoSaid' is the law's where the arguments, and the package variables that the reading takes, are together of bulk at most 1048576: NARROWER than '..Said'. Prove '..Said' where nothing that the law and all that it calls make is longer than what came in: it says more and counts as full. Else prove '..UptoSaid'. A law counts once. -/
mutual
def uptoBulk {H : Type} : DataW H → Nat
  | .lit (.string bytes) => bytes.length + 1
  | .lit _ => 1
  | .nil => 1
  | .ptr d => uptoBulk d + 1
  | .slice elems spare => uptoBulkAll elems + uptoBulkAll spare + 1
  | .agg parts => uptoBulkAll parts + 1
  | .iface _ d => uptoBulk d + 1
  | .map entries => uptoBulkEntries entries + 1
  | .held _ => 1
def uptoBulkAll {H : Type} : List (DataW H) → Nat
  | [] => 0
  | d :: r => uptoBulk d + uptoBulkAll r
def uptoBulkEntries {H : Type} : List (Lit × DataW H) → Nat
  | [] => 0
  | x :: r => uptoBulkEntry x + uptoBulkEntries r
def uptoBulkEntry {H : Type} : Lit × DataW H → Nat
  | (.string bytes, d) => bytes.length + uptoBulk d + 1
  | (_, d) => uptoBulk d + 1
 end
def uptoSmall : (H : Type) → List (DataW H) → Bool := fun _ ds => decide (uptoBulkAll ds ≤ 1048576)
def OpenSpec.upto (s : _root_.Go.ChangeSpec) : _root_.Go.OpenSpec := { _root_.Go.OpenSpec.ofChange s with cond := some uptoSmall }

/-- 'merestonelaw04.LimitsRegions', WHERE WHAT IT READS IS OF BULK AT MOST 1048576: true; the input reads as it did. -/
def limitsRegionsUptoRow : OpenClaim := { program := "ytkhemfnlflbniaagreatdoor", sum := "f6eba4802917f526a5409dd60ec4f3053a2905b717f1e66248a245916be101e1", func := "merestone/merestonelaw04.LimitsRegions", spec := "limitsRegions", inPlace := ["internal/abi.NoEscape", "internal/bytealg.MakeNoZero"], unfollowed := true, recurses := true, named := ["internal/strconv.uint64pow10", "math/bits.deBruijn32tab", "math/bits.deBruijn64tab"], apart := false, laid := [("math/bits.deBruijn32tab", laid_math_bits_deBruijn32tab), ("math/bits.deBruijn64tab", laid_math_bits_deBruijn64tab), ("internal/strconv.uint64pow10", laid_internal_strconv_uint64pow10)], narrowed := true }
def LimitsRegionsUptoSaid : Prop := limitsRegionsUptoRow.holds Tryz.pinned (OpenSpec.upto limitsRegionsSpec)

/-- 'merestonelaw04.LimitsRising', WHERE WHAT IT READS IS OF BULK AT MOST 1048576: true; the input reads as it did. -/
def limitsRisingUptoRow : OpenClaim := { program := "ytkhemfnlflbniaagreatdoor", sum := "f6eba4802917f526a5409dd60ec4f3053a2905b717f1e66248a245916be101e1", func := "merestone/merestonelaw04.LimitsRising", spec := "limitsRising", inPlace := ["internal/abi.NoEscape", "internal/bytealg.MakeNoZero"], unfollowed := true, recurses := true, named := ["internal/strconv.uint64pow10", "math/bits.deBruijn32tab", "math/bits.deBruijn64tab"], apart := false, laid := [("math/bits.deBruijn32tab", laid_math_bits_deBruijn32tab), ("math/bits.deBruijn64tab", laid_math_bits_deBruijn64tab), ("internal/strconv.uint64pow10", laid_internal_strconv_uint64pow10)], narrowed := true }
def LimitsRisingUptoSaid : Prop := limitsRisingUptoRow.holds Tryz.pinned (OpenSpec.upto limitsRisingSpec)

/-- 'merestonelaw04.LimitsOrder', WHERE WHAT IT READS IS OF BULK AT MOST 1048576: true; the input reads as it did. -/
def limitsOrderUptoRow : OpenClaim := { program := "ytkhemfnlflbniaagreatdoor", sum := "f6eba4802917f526a5409dd60ec4f3053a2905b717f1e66248a245916be101e1", func := "merestone/merestonelaw04.LimitsOrder", spec := "limitsOrder", inPlace := ["internal/abi.NoEscape", "internal/bytealg.MakeNoZero"], unfollowed := true, recurses := true, named := ["internal/strconv.uint64pow10", "math/bits.deBruijn32tab", "math/bits.deBruijn64tab"], apart := false, laid := [("math/bits.deBruijn32tab", laid_math_bits_deBruijn32tab), ("math/bits.deBruijn64tab", laid_math_bits_deBruijn64tab), ("internal/strconv.uint64pow10", laid_internal_strconv_uint64pow10)], narrowed := true }
def LimitsOrderUptoSaid : Prop := limitsOrderUptoRow.holds Tryz.pinned (OpenSpec.upto limitsOrderSpec)

/-- 'merestonelaw04.LimitsChecks', WHERE WHAT IT READS IS OF BULK AT MOST 1048576: true; the input reads as it did. -/
def limitsChecksUptoRow : OpenClaim := { program := "ytkhemfnlflbniaagreatdoor", sum := "f6eba4802917f526a5409dd60ec4f3053a2905b717f1e66248a245916be101e1", func := "merestone/merestonelaw04.LimitsChecks", spec := "limitsChecks", inPlace := ["internal/abi.NoEscape", "internal/bytealg.MakeNoZero"], unfollowed := true, recurses := true, named := ["internal/strconv.uint64pow10", "math/bits.deBruijn32tab", "math/bits.deBruijn64tab"], apart := false, laid := [("math/bits.deBruijn32tab", laid_math_bits_deBruijn32tab), ("math/bits.deBruijn64tab", laid_math_bits_deBruijn64tab), ("internal/strconv.uint64pow10", laid_internal_strconv_uint64pow10)], narrowed := true }
def LimitsChecksUptoSaid : Prop := limitsChecksUptoRow.holds Tryz.pinned (OpenSpec.upto limitsChecksSpec)

/-- 'merestonelaw04.LimitsChanges', WHERE WHAT IT READS IS OF BULK AT MOST 1048576: true; the input reads as it did. -/
def limitsChangesUptoRow : OpenClaim := { program := "ytkhemfnlflbniaagreatdoor", sum := "f6eba4802917f526a5409dd60ec4f3053a2905b717f1e66248a245916be101e1", func := "merestone/merestonelaw04.LimitsChanges", spec := "limitsChanges", inPlace := ["internal/abi.NoEscape", "internal/bytealg.MakeNoZero"], unfollowed := true, recurses := true, named := ["internal/strconv.uint64pow10", "math/bits.deBruijn32tab", "math/bits.deBruijn64tab"], apart := false, laid := [("math/bits.deBruijn32tab", laid_math_bits_deBruijn32tab), ("math/bits.deBruijn64tab", laid_math_bits_deBruijn64tab), ("internal/strconv.uint64pow10", laid_internal_strconv_uint64pow10)], narrowed := true }
def LimitsChangesUptoSaid : Prop := limitsChangesUptoRow.holds Tryz.pinned (OpenSpec.upto limitsChangesSpec)

/-- 'merestonelaw04.LimitsMore', WHERE WHAT IT READS IS OF BULK AT MOST 1048576: true; the input reads as it did. -/
def limitsMoreUptoRow : OpenClaim := { program := "ytkhemfnlflbniaagreatdoor", sum := "f6eba4802917f526a5409dd60ec4f3053a2905b717f1e66248a245916be101e1", func := "merestone/merestonelaw04.LimitsMore", spec := "limitsMore", inPlace := ["internal/abi.NoEscape", "internal/bytealg.MakeNoZero"], unfollowed := true, recurses := true, named := ["internal/strconv.uint64pow10", "math/bits.deBruijn32tab", "math/bits.deBruijn64tab"], apart := false, laid := [("math/bits.deBruijn32tab", laid_math_bits_deBruijn32tab), ("math/bits.deBruijn64tab", laid_math_bits_deBruijn64tab), ("internal/strconv.uint64pow10", laid_internal_strconv_uint64pow10)], narrowed := true }
def LimitsMoreUptoSaid : Prop := limitsMoreUptoRow.holds Tryz.pinned (OpenSpec.upto limitsMoreSpec)

/-- 'merestonelaw04.LimitsConflicts', WHERE WHAT IT READS IS OF BULK AT MOST 1048576: true; the input reads as it did. -/
def limitsConflictsUptoRow : OpenClaim := { program := "ytkhemfnlflbniaagreatdoor", sum := "f6eba4802917f526a5409dd60ec4f3053a2905b717f1e66248a245916be101e1", func := "merestone/merestonelaw04.LimitsConflicts", spec := "limitsConflicts", inPlace := ["internal/abi.NoEscape", "internal/bytealg.MakeNoZero"], unfollowed := true, recurses := true, named := ["internal/strconv.uint64pow10", "math/bits.deBruijn32tab", "math/bits.deBruijn64tab"], apart := false, laid := [("math/bits.deBruijn32tab", laid_math_bits_deBruijn32tab), ("math/bits.deBruijn64tab", laid_math_bits_deBruijn64tab), ("internal/strconv.uint64pow10", laid_internal_strconv_uint64pow10)], narrowed := true }
def LimitsConflictsUptoSaid : Prop := limitsConflictsUptoRow.holds Tryz.pinned (OpenSpec.upto limitsConflictsSpec)

/-- 'merestonelaw04.LimitsMemory', WHERE WHAT IT READS IS OF BULK AT MOST 1048576: true; the input reads as it did. -/
def limitsMemoryUptoRow : OpenClaim := { program := "ytkhemfnlflbniaagreatdoor", sum := "f6eba4802917f526a5409dd60ec4f3053a2905b717f1e66248a245916be101e1", func := "merestone/merestonelaw04.LimitsMemory", spec := "limitsMemory", inPlace := ["internal/abi.NoEscape", "internal/bytealg.MakeNoZero"], unfollowed := true, recurses := true, named := ["internal/strconv.uint64pow10", "math/bits.deBruijn32tab", "math/bits.deBruijn64tab"], apart := false, laid := [("math/bits.deBruijn32tab", laid_math_bits_deBruijn32tab), ("math/bits.deBruijn64tab", laid_math_bits_deBruijn64tab), ("internal/strconv.uint64pow10", laid_internal_strconv_uint64pow10)], narrowed := true }
def LimitsMemoryUptoSaid : Prop := limitsMemoryUptoRow.holds Tryz.pinned (OpenSpec.upto limitsMemorySpec)

/-- 'merestonelaw04.LimitsIdle', WHERE WHAT IT READS IS OF BULK AT MOST 1048576: true; the input reads as it did. -/
def limitsIdleUptoRow : OpenClaim := { program := "ytkhemfnlflbniaagreatdoor", sum := "f6eba4802917f526a5409dd60ec4f3053a2905b717f1e66248a245916be101e1", func := "merestone/merestonelaw04.LimitsIdle", spec := "limitsIdle", inPlace := ["internal/abi.NoEscape", "internal/bytealg.MakeNoZero"], unfollowed := true, recurses := true, named := ["internal/strconv.uint64pow10", "math/bits.deBruijn32tab", "math/bits.deBruijn64tab"], apart := false, laid := [("math/bits.deBruijn32tab", laid_math_bits_deBruijn32tab), ("math/bits.deBruijn64tab", laid_math_bits_deBruijn64tab), ("internal/strconv.uint64pow10", laid_internal_strconv_uint64pow10)], narrowed := true }
def LimitsIdleUptoSaid : Prop := limitsIdleUptoRow.holds Tryz.pinned (OpenSpec.upto limitsIdleSpec)

/-- 'merestonelaw04.LimitsReasons', WHERE WHAT IT READS IS OF BULK AT MOST 1048576: true; the input reads as it did. -/
def limitsReasonsUptoRow : OpenClaim := { program := "ytkhemfnlflbniaagreatdoor", sum := "f6eba4802917f526a5409dd60ec4f3053a2905b717f1e66248a245916be101e1", func := "merestone/merestonelaw04.LimitsReasons", spec := "limitsReasons", inPlace := ["internal/abi.NoEscape", "internal/bytealg.MakeNoZero"], unfollowed := true, recurses := true, named := ["internal/strconv.uint64pow10", "math/bits.deBruijn32tab", "math/bits.deBruijn64tab"], apart := false, laid := [("math/bits.deBruijn32tab", laid_math_bits_deBruijn32tab), ("math/bits.deBruijn64tab", laid_math_bits_deBruijn64tab), ("internal/strconv.uint64pow10", laid_internal_strconv_uint64pow10)], narrowed := true }
def LimitsReasonsUptoSaid : Prop := limitsReasonsUptoRow.holds Tryz.pinned (OpenSpec.upto limitsReasonsSpec)

/-- 'merestonelaw04.LimitsLand', WHERE WHAT IT READS IS OF BULK AT MOST 1048576: true; the input reads as it did. -/
def limitsLandUptoRow : OpenClaim := { program := "ytkhemfnlflbniaagreatdoor", sum := "f6eba4802917f526a5409dd60ec4f3053a2905b717f1e66248a245916be101e1", func := "merestone/merestonelaw04.LimitsLand", spec := "limitsLand", inPlace := ["internal/abi.NoEscape", "internal/bytealg.MakeNoZero"], unfollowed := true, recurses := true, named := ["internal/strconv.uint64pow10", "math/bits.deBruijn32tab", "math/bits.deBruijn64tab"], apart := false, laid := [("math/bits.deBruijn32tab", laid_math_bits_deBruijn32tab), ("math/bits.deBruijn64tab", laid_math_bits_deBruijn64tab), ("internal/strconv.uint64pow10", laid_internal_strconv_uint64pow10)], narrowed := true }
def LimitsLandUptoSaid : Prop := limitsLandUptoRow.holds Tryz.pinned (OpenSpec.upto limitsLandSpec)

/-- 'merestonelaw04.LimitsAwards', WHERE WHAT IT READS IS OF BULK AT MOST 1048576: true; the input reads as it did. -/
def limitsAwardsUptoRow : OpenClaim := { program := "ytkhemfnlflbniaagreatdoor", sum := "f6eba4802917f526a5409dd60ec4f3053a2905b717f1e66248a245916be101e1", func := "merestone/merestonelaw04.LimitsAwards", spec := "limitsAwards", inPlace := ["internal/abi.NoEscape", "internal/bytealg.MakeNoZero"], unfollowed := true, recurses := true, named := ["internal/strconv.uint64pow10", "math/bits.deBruijn32tab", "math/bits.deBruijn64tab"], apart := false, laid := [("math/bits.deBruijn32tab", laid_math_bits_deBruijn32tab), ("math/bits.deBruijn64tab", laid_math_bits_deBruijn64tab), ("internal/strconv.uint64pow10", laid_internal_strconv_uint64pow10)], narrowed := true }
def LimitsAwardsUptoSaid : Prop := limitsAwardsUptoRow.holds Tryz.pinned (OpenSpec.upto limitsAwardsSpec)

/-- 'merestonelaw04.LimitsProved', WHERE WHAT IT READS IS OF BULK AT MOST 1048576: true; the input reads as it did. -/
def limitsProvedUptoRow : OpenClaim := { program := "ytkhemfnlflbniaagreatdoor", sum := "f6eba4802917f526a5409dd60ec4f3053a2905b717f1e66248a245916be101e1", func := "merestone/merestonelaw04.LimitsProved", spec := "limitsProved", inPlace := ["internal/abi.NoEscape", "internal/bytealg.MakeNoZero"], unfollowed := true, recurses := true, named := ["internal/strconv.uint64pow10", "math/bits.deBruijn32tab", "math/bits.deBruijn64tab"], apart := false, laid := [("math/bits.deBruijn32tab", laid_math_bits_deBruijn32tab), ("math/bits.deBruijn64tab", laid_math_bits_deBruijn64tab), ("internal/strconv.uint64pow10", laid_internal_strconv_uint64pow10)], narrowed := true }
def LimitsProvedUptoSaid : Prop := limitsProvedUptoRow.holds Tryz.pinned (OpenSpec.upto limitsProvedSpec)

/-- 'merestonelaw04.LimitsEither', WHERE WHAT IT READS IS OF BULK AT MOST 1048576: true; the input reads as it did. -/
def limitsEitherUptoRow : OpenClaim := { program := "ytkhemfnlflbniaagreatdoor", sum := "f6eba4802917f526a5409dd60ec4f3053a2905b717f1e66248a245916be101e1", func := "merestone/merestonelaw04.LimitsEither", spec := "limitsEither", inPlace := ["internal/abi.NoEscape", "internal/bytealg.MakeNoZero"], unfollowed := true, recurses := true, named := ["internal/strconv.uint64pow10", "math/bits.deBruijn32tab", "math/bits.deBruijn64tab"], apart := false, laid := [("math/bits.deBruijn32tab", laid_math_bits_deBruijn32tab), ("math/bits.deBruijn64tab", laid_math_bits_deBruijn64tab), ("internal/strconv.uint64pow10", laid_internal_strconv_uint64pow10)], narrowed := true }
def LimitsEitherUptoSaid : Prop := limitsEitherUptoRow.holds Tryz.pinned (OpenSpec.upto limitsEitherSpec)

/-- 'merestonelaw04.LimitsSharp', WHERE WHAT IT READS IS OF BULK AT MOST 1048576: true; the input reads as it did. -/
def limitsSharpUptoRow : OpenClaim := { program := "ytkhemfnlflbniaagreatdoor", sum := "f6eba4802917f526a5409dd60ec4f3053a2905b717f1e66248a245916be101e1", func := "merestone/merestonelaw04.LimitsSharp", spec := "limitsSharp", inPlace := ["internal/abi.NoEscape", "internal/bytealg.MakeNoZero"], unfollowed := true, recurses := true, named := ["internal/strconv.uint64pow10", "math/bits.deBruijn32tab", "math/bits.deBruijn64tab"], apart := false, laid := [("math/bits.deBruijn32tab", laid_math_bits_deBruijn32tab), ("math/bits.deBruijn64tab", laid_math_bits_deBruijn64tab), ("internal/strconv.uint64pow10", laid_internal_strconv_uint64pow10)], narrowed := true }
def LimitsSharpUptoSaid : Prop := limitsSharpUptoRow.holds Tryz.pinned (OpenSpec.upto limitsSharpSpec)

/-- 'merestonelaw04.LimitsStrips', WHERE WHAT IT READS IS OF BULK AT MOST 1048576: true; the input reads as it did. -/
def limitsStripsUptoRow : OpenClaim := { program := "ytkhemfnlflbniaagreatdoor", sum := "f6eba4802917f526a5409dd60ec4f3053a2905b717f1e66248a245916be101e1", func := "merestone/merestonelaw04.LimitsStrips", spec := "limitsStrips", inPlace := ["internal/abi.NoEscape", "internal/bytealg.MakeNoZero"], unfollowed := true, recurses := true, named := ["internal/strconv.uint64pow10", "math/bits.deBruijn32tab", "math/bits.deBruijn64tab"], apart := false, laid := [("math/bits.deBruijn32tab", laid_math_bits_deBruijn32tab), ("math/bits.deBruijn64tab", laid_math_bits_deBruijn64tab), ("internal/strconv.uint64pow10", laid_internal_strconv_uint64pow10)], narrowed := true }
def LimitsStripsUptoSaid : Prop := limitsStripsUptoRow.holds Tryz.pinned (OpenSpec.upto limitsStripsSpec)

/-- 'merestonelaw04.LimitsShows', WHERE WHAT IT READS IS OF BULK AT MOST 1048576: true; the input reads as it did. -/
def limitsShowsUptoRow : OpenClaim := { program := "ytkhemfnlflbniaagreatdoor", sum := "f6eba4802917f526a5409dd60ec4f3053a2905b717f1e66248a245916be101e1", func := "merestone/merestonelaw04.LimitsShows", spec := "limitsShows", inPlace := ["internal/abi.NoEscape", "internal/bytealg.MakeNoZero"], unfollowed := true, recurses := true, named := ["internal/strconv.uint64pow10", "math/bits.deBruijn32tab", "math/bits.deBruijn64tab"], apart := false, laid := [("math/bits.deBruijn32tab", laid_math_bits_deBruijn32tab), ("math/bits.deBruijn64tab", laid_math_bits_deBruijn64tab), ("internal/strconv.uint64pow10", laid_internal_strconv_uint64pow10)], narrowed := true }
def LimitsShowsUptoSaid : Prop := limitsShowsUptoRow.holds Tryz.pinned (OpenSpec.upto limitsShowsSpec)

/-- 'merestonelaw04.LimitsDrawings', WHERE WHAT IT READS IS OF BULK AT MOST 1048576: true; the input reads as it did. -/
def limitsDrawingsUptoRow : OpenClaim := { program := "ytkhemfnlflbniaagreatdoor", sum := "f6eba4802917f526a5409dd60ec4f3053a2905b717f1e66248a245916be101e1", func := "merestone/merestonelaw04.LimitsDrawings", spec := "limitsDrawings", inPlace := ["internal/abi.NoEscape", "internal/bytealg.MakeNoZero"], unfollowed := true, recurses := true, named := ["internal/strconv.uint64pow10", "math/bits.deBruijn32tab", "math/bits.deBruijn64tab"], apart := false, laid := [("math/bits.deBruijn32tab", laid_math_bits_deBruijn32tab), ("math/bits.deBruijn64tab", laid_math_bits_deBruijn64tab), ("internal/strconv.uint64pow10", laid_internal_strconv_uint64pow10)], narrowed := true }
def LimitsDrawingsUptoSaid : Prop := limitsDrawingsUptoRow.holds Tryz.pinned (OpenSpec.upto limitsDrawingsSpec)

/-- 'merestonelaw04.LimitsOwned', WHERE WHAT IT READS IS OF BULK AT MOST 1048576: true; the input reads as it did. -/
def limitsOwnedUptoRow : OpenClaim := { program := "ytkhemfnlflbniaagreatdoor", sum := "f6eba4802917f526a5409dd60ec4f3053a2905b717f1e66248a245916be101e1", func := "merestone/merestonelaw04.LimitsOwned", spec := "limitsOwned", inPlace := ["internal/abi.NoEscape", "internal/bytealg.MakeNoZero"], unfollowed := true, recurses := true, named := ["internal/strconv.uint64pow10", "math/bits.deBruijn32tab", "math/bits.deBruijn64tab"], apart := false, laid := [("math/bits.deBruijn32tab", laid_math_bits_deBruijn32tab), ("math/bits.deBruijn64tab", laid_math_bits_deBruijn64tab), ("internal/strconv.uint64pow10", laid_internal_strconv_uint64pow10)], narrowed := true }
def LimitsOwnedUptoSaid : Prop := limitsOwnedUptoRow.holds Tryz.pinned (OpenSpec.upto limitsOwnedSpec)

end Rows
end Go.Proofs.YtkhemfnlflbniaaGreatDoor
