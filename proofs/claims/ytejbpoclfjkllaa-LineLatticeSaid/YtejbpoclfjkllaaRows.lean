/-
  No cell of these rows narrows 'for every input' (looked for: loops, veiled, ifaces, maps, wideKeys, modest, calm, conditions, laid).
  DERIVED. THE GIVEN ROWS OF THIS SEAT. 22 by the template 'for every input the law returns true; each argument reads behind the call as it read before'; 0 by the template 'total and deterministic' (their statements: YtejbpoclfjkllaaTotals.lean).
  GIVEN WITH THE SEED: the statements are not yours to turn. If you find one false, say at which input.
  Laid BY PROGRAM, IN A SANDBOX (cutbox-rows.mjs): the forced cells as the released guide's own fill.sh prints them over the translation 54bfa2288ee22cdf… (all of the seat's roots in one cut). By AI agents, Wed Nov 11 2026. No macro, syntax, notation, axiom, sorry.
-/
import Derived.Test.YtejbpoclfjkllaaChecked
import GoSem.Claim
import GoSem.ClaimJoined
import GoSem.ClaimMapViews
import Derived.JoinedTies
import Derived.KernelRfl
namespace Go.Proofs.Ytejbpoclfjkllaa
/- THE CELL 'sum', in the pinned program and in every row, IS THE sha256 OF THE DUMP (.gsa) THAT YtejbpoclfjkllaaProg.lean LOADS. Nothing in Lean hashes anything: it is a label: what it is worth is what the hold of that sum in a sandbox is worth. -/
noncomputable def Try.pinned : Pinned := { name := "ytejbpoclfjkllaa", sum := "54bfa2288ee22cdffeeea91f06da3d6f4dc202b3d87e6b22b17f068a8ac7e0ee", checked := Try.checked }
namespace Rows
def none {H : Type} : Left H := { results := [], args := [] }

/-- 'merestonelaw01.LineBlames': WHATEVER THE INPUT: true; the input reads as it did. -/
def lineBlamesSpec : ChangeSpec := { name := "lineBlames", fn := fun _ => fun
  | [d] => { results := [.lit (.bool true)], args := [d] }
  | _ => none }
def lineBlamesRow : OpenClaim := { program := "ytejbpoclfjkllaa", sum := "54bfa2288ee22cdffeeea91f06da3d6f4dc202b3d87e6b22b17f068a8ac7e0ee", func := "merestone/merestonelaw01.LineBlames", spec := "lineBlames", unfollowed := true, recurses := true, apart := false }
def LineBlamesSaid : Prop := lineBlamesRow.holds Try.pinned (OpenSpec.ofChange lineBlamesSpec)

/-- ITS FALSE NEIGHBOUR: 'it returns false'. Refute it at one input. -/
def lineBlamesWrong : ChangeSpec := { name := "lineBlames", fn := fun _ => fun
  | [d] => { results := [.lit (.bool false)], args := [d] }
  | _ => none }
def LineBlamesWrongFalsely : Prop := lineBlamesRow.holds Try.pinned (OpenSpec.ofChange lineBlamesWrong)

/-- 'merestonelaw01.LineRanges': WHATEVER THE INPUT: true; the input reads as it did. -/
def lineRangesSpec : ChangeSpec := { name := "lineRanges", fn := fun _ => fun
  | [d1, d2, d3] => { results := [.lit (.bool true)], args := [d1, d2, d3] }
  | _ => none }
def lineRangesRow : OpenClaim := { program := "ytejbpoclfjkllaa", sum := "54bfa2288ee22cdffeeea91f06da3d6f4dc202b3d87e6b22b17f068a8ac7e0ee", func := "merestone/merestonelaw01.LineRanges", spec := "lineRanges", unfollowed := true, recurses := true, apart := false }
def LineRangesSaid : Prop := lineRangesRow.holds Try.pinned (OpenSpec.ofChange lineRangesSpec)

/-- ITS FALSE NEIGHBOUR: 'it returns false'. Refute it at one input. -/
def lineRangesWrong : ChangeSpec := { name := "lineRanges", fn := fun _ => fun
  | [d1, d2, d3] => { results := [.lit (.bool false)], args := [d1, d2, d3] }
  | _ => none }
def LineRangesWrongFalsely : Prop := lineRangesRow.holds Try.pinned (OpenSpec.ofChange lineRangesWrong)

/-- 'merestonelaw01.LineNeedless': WHATEVER THE INPUT: true; the input reads as it did. -/
def lineNeedlessSpec : ChangeSpec := { name := "lineNeedless", fn := fun _ => fun
  | [d] => { results := [.lit (.bool true)], args := [d] }
  | _ => none }
def lineNeedlessRow : OpenClaim := { program := "ytejbpoclfjkllaa", sum := "54bfa2288ee22cdffeeea91f06da3d6f4dc202b3d87e6b22b17f068a8ac7e0ee", func := "merestone/merestonelaw01.LineNeedless", spec := "lineNeedless", unfollowed := true, recurses := true, apart := false }
def LineNeedlessSaid : Prop := lineNeedlessRow.holds Try.pinned (OpenSpec.ofChange lineNeedlessSpec)

/-- ITS FALSE NEIGHBOUR: 'it returns false'. Refute it at one input. -/
def lineNeedlessWrong : ChangeSpec := { name := "lineNeedless", fn := fun _ => fun
  | [d] => { results := [.lit (.bool false)], args := [d] }
  | _ => none }
def LineNeedlessWrongFalsely : Prop := lineNeedlessRow.holds Try.pinned (OpenSpec.ofChange lineNeedlessWrong)

/-- 'merestonelaw01.LineEnds': WHATEVER THE INPUT: true; the input reads as it did. -/
def lineEndsSpec : ChangeSpec := { name := "lineEnds", fn := fun _ => fun
  | [d1, d2, d3] => { results := [.lit (.bool true)], args := [d1, d2, d3] }
  | _ => none }
def lineEndsRow : OpenClaim := { program := "ytejbpoclfjkllaa", sum := "54bfa2288ee22cdffeeea91f06da3d6f4dc202b3d87e6b22b17f068a8ac7e0ee", func := "merestone/merestonelaw01.LineEnds", spec := "lineEnds", unfollowed := true, recurses := true, apart := false }
def LineEndsSaid : Prop := lineEndsRow.holds Try.pinned (OpenSpec.ofChange lineEndsSpec)

/-- ITS FALSE NEIGHBOUR: 'it returns false'. Refute it at one input. -/
def lineEndsWrong : ChangeSpec := { name := "lineEnds", fn := fun _ => fun
  | [d1, d2, d3] => { results := [.lit (.bool false)], args := [d1, d2, d3] }
  | _ => none }
def LineEndsWrongFalsely : Prop := lineEndsRow.holds Try.pinned (OpenSpec.ofChange lineEndsWrong)

/-- 'merestonelaw01.LineDistances': WHATEVER THE INPUT: true; the input reads as it did. -/
def lineDistancesSpec : ChangeSpec := { name := "lineDistances", fn := fun _ => fun
  | [d1, d2, d3] => { results := [.lit (.bool true)], args := [d1, d2, d3] }
  | _ => none }
def lineDistancesRow : OpenClaim := { program := "ytejbpoclfjkllaa", sum := "54bfa2288ee22cdffeeea91f06da3d6f4dc202b3d87e6b22b17f068a8ac7e0ee", func := "merestone/merestonelaw01.LineDistances", spec := "lineDistances", unfollowed := true, recurses := true, apart := false }
def LineDistancesSaid : Prop := lineDistancesRow.holds Try.pinned (OpenSpec.ofChange lineDistancesSpec)

/-- ITS FALSE NEIGHBOUR: 'it returns false'. Refute it at one input. -/
def lineDistancesWrong : ChangeSpec := { name := "lineDistances", fn := fun _ => fun
  | [d1, d2, d3] => { results := [.lit (.bool false)], args := [d1, d2, d3] }
  | _ => none }
def LineDistancesWrongFalsely : Prop := lineDistancesRow.holds Try.pinned (OpenSpec.ofChange lineDistancesWrong)

/-- 'merestonelaw01.LineNeeded': WHATEVER THE INPUT: true; the input reads as it did. -/
def lineNeededSpec : ChangeSpec := { name := "lineNeeded", fn := fun _ => fun
  | [d1, d2] => { results := [.lit (.bool true)], args := [d1, d2] }
  | _ => none }
def lineNeededRow : OpenClaim := { program := "ytejbpoclfjkllaa", sum := "54bfa2288ee22cdffeeea91f06da3d6f4dc202b3d87e6b22b17f068a8ac7e0ee", func := "merestone/merestonelaw01.LineNeeded", spec := "lineNeeded", unfollowed := true, recurses := true, apart := false }
def LineNeededSaid : Prop := lineNeededRow.holds Try.pinned (OpenSpec.ofChange lineNeededSpec)

/-- ITS FALSE NEIGHBOUR: 'it returns false'. Refute it at one input. -/
def lineNeededWrong : ChangeSpec := { name := "lineNeeded", fn := fun _ => fun
  | [d1, d2] => { results := [.lit (.bool false)], args := [d1, d2] }
  | _ => none }
def LineNeededWrongFalsely : Prop := lineNeededRow.holds Try.pinned (OpenSpec.ofChange lineNeededWrong)

/-- 'merestonelaw01.LineChecks': WHATEVER THE INPUT: true; the input reads as it did. -/
def lineChecksSpec : ChangeSpec := { name := "lineChecks", fn := fun _ => fun
  | [d1, d2] => { results := [.lit (.bool true)], args := [d1, d2] }
  | _ => none }
def lineChecksRow : OpenClaim := { program := "ytejbpoclfjkllaa", sum := "54bfa2288ee22cdffeeea91f06da3d6f4dc202b3d87e6b22b17f068a8ac7e0ee", func := "merestone/merestonelaw01.LineChecks", spec := "lineChecks", unfollowed := true, recurses := true, apart := false }
def LineChecksSaid : Prop := lineChecksRow.holds Try.pinned (OpenSpec.ofChange lineChecksSpec)

/-- ITS FALSE NEIGHBOUR: 'it returns false'. Refute it at one input. -/
def lineChecksWrong : ChangeSpec := { name := "lineChecks", fn := fun _ => fun
  | [d1, d2] => { results := [.lit (.bool false)], args := [d1, d2] }
  | _ => none }
def LineChecksWrongFalsely : Prop := lineChecksRow.holds Try.pinned (OpenSpec.ofChange lineChecksWrong)

/-- 'merestonelaw01.LineAttained': WHATEVER THE INPUT: true; the input reads as it did. -/
def lineAttainedSpec : ChangeSpec := { name := "lineAttained", fn := fun _ => fun
  | [d1, d2, d3] => { results := [.lit (.bool true)], args := [d1, d2, d3] }
  | _ => none }
def lineAttainedRow : OpenClaim := { program := "ytejbpoclfjkllaa", sum := "54bfa2288ee22cdffeeea91f06da3d6f4dc202b3d87e6b22b17f068a8ac7e0ee", func := "merestone/merestonelaw01.LineAttained", spec := "lineAttained", unfollowed := true, recurses := true, apart := false }
def LineAttainedSaid : Prop := lineAttainedRow.holds Try.pinned (OpenSpec.ofChange lineAttainedSpec)

/-- ITS FALSE NEIGHBOUR: 'it returns false'. Refute it at one input. -/
def lineAttainedWrong : ChangeSpec := { name := "lineAttained", fn := fun _ => fun
  | [d1, d2, d3] => { results := [.lit (.bool false)], args := [d1, d2, d3] }
  | _ => none }
def LineAttainedWrongFalsely : Prop := lineAttainedRow.holds Try.pinned (OpenSpec.ofChange lineAttainedWrong)

/-- 'merestonelaw01.LineJoins': WHATEVER THE INPUT: true; the input reads as it did. -/
def lineJoinsSpec : ChangeSpec := { name := "lineJoins", fn := fun _ => fun
  | [d1, d2] => { results := [.lit (.bool true)], args := [d1, d2] }
  | _ => none }
def lineJoinsRow : OpenClaim := { program := "ytejbpoclfjkllaa", sum := "54bfa2288ee22cdffeeea91f06da3d6f4dc202b3d87e6b22b17f068a8ac7e0ee", func := "merestone/merestonelaw01.LineJoins", spec := "lineJoins", unfollowed := true, recurses := true, apart := false }
def LineJoinsSaid : Prop := lineJoinsRow.holds Try.pinned (OpenSpec.ofChange lineJoinsSpec)

/-- ITS FALSE NEIGHBOUR: 'it returns false'. Refute it at one input. -/
def lineJoinsWrong : ChangeSpec := { name := "lineJoins", fn := fun _ => fun
  | [d1, d2] => { results := [.lit (.bool false)], args := [d1, d2] }
  | _ => none }
def LineJoinsWrongFalsely : Prop := lineJoinsRow.holds Try.pinned (OpenSpec.ofChange lineJoinsWrong)

/-- 'merestonelaw01.LineMore': WHATEVER THE INPUT: true; the input reads as it did. -/
def lineMoreSpec : ChangeSpec := { name := "lineMore", fn := fun _ => fun
  | [d1, d2, d3, d4] => { results := [.lit (.bool true)], args := [d1, d2, d3, d4] }
  | _ => none }
def lineMoreRow : OpenClaim := { program := "ytejbpoclfjkllaa", sum := "54bfa2288ee22cdffeeea91f06da3d6f4dc202b3d87e6b22b17f068a8ac7e0ee", func := "merestone/merestonelaw01.LineMore", spec := "lineMore", unfollowed := true, recurses := true, apart := false }
def LineMoreSaid : Prop := lineMoreRow.holds Try.pinned (OpenSpec.ofChange lineMoreSpec)

/-- ITS FALSE NEIGHBOUR: 'it returns false'. Refute it at one input. -/
def lineMoreWrong : ChangeSpec := { name := "lineMore", fn := fun _ => fun
  | [d1, d2, d3, d4] => { results := [.lit (.bool false)], args := [d1, d2, d3, d4] }
  | _ => none }
def LineMoreWrongFalsely : Prop := lineMoreRow.holds Try.pinned (OpenSpec.ofChange lineMoreWrong)

/-- 'merestonelaw01.LineValues': WHATEVER THE INPUT: true; the input reads as it did. -/
def lineValuesSpec : ChangeSpec := { name := "lineValues", fn := fun _ => fun
  | [d1, d2, d3] => { results := [.lit (.bool true)], args := [d1, d2, d3] }
  | _ => none }
def lineValuesRow : OpenClaim := { program := "ytejbpoclfjkllaa", sum := "54bfa2288ee22cdffeeea91f06da3d6f4dc202b3d87e6b22b17f068a8ac7e0ee", func := "merestone/merestonelaw01.LineValues", spec := "lineValues", unfollowed := true, recurses := true, apart := false }
def LineValuesSaid : Prop := lineValuesRow.holds Try.pinned (OpenSpec.ofChange lineValuesSpec)

/-- ITS FALSE NEIGHBOUR: 'it returns false'. Refute it at one input. -/
def lineValuesWrong : ChangeSpec := { name := "lineValues", fn := fun _ => fun
  | [d1, d2, d3] => { results := [.lit (.bool false)], args := [d1, d2, d3] }
  | _ => none }
def LineValuesWrongFalsely : Prop := lineValuesRow.holds Try.pinned (OpenSpec.ofChange lineValuesWrong)

/-- 'merestonelaw01.LineRecords': WHATEVER THE INPUT: true; the input reads as it did. -/
def lineRecordsSpec : ChangeSpec := { name := "lineRecords", fn := fun _ => fun
  | [d1, d2] => { results := [.lit (.bool true)], args := [d1, d2] }
  | _ => none }
def lineRecordsRow : OpenClaim := { program := "ytejbpoclfjkllaa", sum := "54bfa2288ee22cdffeeea91f06da3d6f4dc202b3d87e6b22b17f068a8ac7e0ee", func := "merestone/merestonelaw01.LineRecords", spec := "lineRecords", unfollowed := true, recurses := true, apart := false }
def LineRecordsSaid : Prop := lineRecordsRow.holds Try.pinned (OpenSpec.ofChange lineRecordsSpec)

/-- ITS FALSE NEIGHBOUR: 'it returns false'. Refute it at one input. -/
def lineRecordsWrong : ChangeSpec := { name := "lineRecords", fn := fun _ => fun
  | [d1, d2] => { results := [.lit (.bool false)], args := [d1, d2] }
  | _ => none }
def LineRecordsWrongFalsely : Prop := lineRecordsRow.holds Try.pinned (OpenSpec.ofChange lineRecordsWrong)

/-- 'merestonelaw01.LineRigid': WHATEVER THE INPUT: true; the input reads as it did. -/
def lineRigidSpec : ChangeSpec := { name := "lineRigid", fn := fun _ => fun
  | [d] => { results := [.lit (.bool true)], args := [d] }
  | _ => none }
def lineRigidRow : OpenClaim := { program := "ytejbpoclfjkllaa", sum := "54bfa2288ee22cdffeeea91f06da3d6f4dc202b3d87e6b22b17f068a8ac7e0ee", func := "merestone/merestonelaw01.LineRigid", spec := "lineRigid", unfollowed := true, recurses := true, apart := false }
def LineRigidSaid : Prop := lineRigidRow.holds Try.pinned (OpenSpec.ofChange lineRigidSpec)

/-- ITS FALSE NEIGHBOUR: 'it returns false'. Refute it at one input. -/
def lineRigidWrong : ChangeSpec := { name := "lineRigid", fn := fun _ => fun
  | [d] => { results := [.lit (.bool false)], args := [d] }
  | _ => none }
def LineRigidWrongFalsely : Prop := lineRigidRow.holds Try.pinned (OpenSpec.ofChange lineRigidWrong)

/-- 'merestonelaw01.LinePaths': WHATEVER THE INPUT: true; the input reads as it did. -/
def linePathsSpec : ChangeSpec := { name := "linePaths", fn := fun _ => fun
  | [d1, d2, d3, d4, d5] => { results := [.lit (.bool true)], args := [d1, d2, d3, d4, d5] }
  | _ => none }
def linePathsRow : OpenClaim := { program := "ytejbpoclfjkllaa", sum := "54bfa2288ee22cdffeeea91f06da3d6f4dc202b3d87e6b22b17f068a8ac7e0ee", func := "merestone/merestonelaw01.LinePaths", spec := "linePaths", unfollowed := true, recurses := true, apart := false }
def LinePathsSaid : Prop := linePathsRow.holds Try.pinned (OpenSpec.ofChange linePathsSpec)

/-- ITS FALSE NEIGHBOUR: 'it returns false'. Refute it at one input. -/
def linePathsWrong : ChangeSpec := { name := "linePaths", fn := fun _ => fun
  | [d1, d2, d3, d4, d5] => { results := [.lit (.bool false)], args := [d1, d2, d3, d4, d5] }
  | _ => none }
def LinePathsWrongFalsely : Prop := linePathsRow.holds Try.pinned (OpenSpec.ofChange linePathsWrong)

/-- 'merestonelaw01.LineLattice': WHATEVER THE INPUT: true; the input reads as it did. -/
def lineLatticeSpec : ChangeSpec := { name := "lineLattice", fn := fun _ => fun
  | [d1, d2, d3] => { results := [.lit (.bool true)], args := [d1, d2, d3] }
  | _ => none }
def lineLatticeRow : OpenClaim := { program := "ytejbpoclfjkllaa", sum := "54bfa2288ee22cdffeeea91f06da3d6f4dc202b3d87e6b22b17f068a8ac7e0ee", func := "merestone/merestonelaw01.LineLattice", spec := "lineLattice", unfollowed := true, recurses := true, apart := false }
def LineLatticeSaid : Prop := lineLatticeRow.holds Try.pinned (OpenSpec.ofChange lineLatticeSpec)

/-- ITS FALSE NEIGHBOUR: 'it returns false'. Refute it at one input. -/
def lineLatticeWrong : ChangeSpec := { name := "lineLattice", fn := fun _ => fun
  | [d1, d2, d3] => { results := [.lit (.bool false)], args := [d1, d2, d3] }
  | _ => none }
def LineLatticeWrongFalsely : Prop := lineLatticeRow.holds Try.pinned (OpenSpec.ofChange lineLatticeWrong)

/-- 'merestonelaw01.LineMemory': WHATEVER THE INPUT: true; the input reads as it did. -/
def lineMemorySpec : ChangeSpec := { name := "lineMemory", fn := fun _ => fun
  | [d1, d2, d3, d4] => { results := [.lit (.bool true)], args := [d1, d2, d3, d4] }
  | _ => none }
def lineMemoryRow : OpenClaim := { program := "ytejbpoclfjkllaa", sum := "54bfa2288ee22cdffeeea91f06da3d6f4dc202b3d87e6b22b17f068a8ac7e0ee", func := "merestone/merestonelaw01.LineMemory", spec := "lineMemory", unfollowed := true, recurses := true, apart := false }
def LineMemorySaid : Prop := lineMemoryRow.holds Try.pinned (OpenSpec.ofChange lineMemorySpec)

/-- ITS FALSE NEIGHBOUR: 'it returns false'. Refute it at one input. -/
def lineMemoryWrong : ChangeSpec := { name := "lineMemory", fn := fun _ => fun
  | [d1, d2, d3, d4] => { results := [.lit (.bool false)], args := [d1, d2, d3, d4] }
  | _ => none }
def LineMemoryWrongFalsely : Prop := lineMemoryRow.holds Try.pinned (OpenSpec.ofChange lineMemoryWrong)

/-- 'merestonelaw01.LineCircles': WHATEVER THE INPUT: true; the input reads as it did. -/
def lineCirclesSpec : ChangeSpec := { name := "lineCircles", fn := fun _ => fun
  | [d1, d2] => { results := [.lit (.bool true)], args := [d1, d2] }
  | _ => none }
def lineCirclesRow : OpenClaim := { program := "ytejbpoclfjkllaa", sum := "54bfa2288ee22cdffeeea91f06da3d6f4dc202b3d87e6b22b17f068a8ac7e0ee", func := "merestone/merestonelaw01.LineCircles", spec := "lineCircles", unfollowed := true, recurses := true, apart := false }
def LineCirclesSaid : Prop := lineCirclesRow.holds Try.pinned (OpenSpec.ofChange lineCirclesSpec)

/-- ITS FALSE NEIGHBOUR: 'it returns false'. Refute it at one input. -/
def lineCirclesWrong : ChangeSpec := { name := "lineCircles", fn := fun _ => fun
  | [d1, d2] => { results := [.lit (.bool false)], args := [d1, d2] }
  | _ => none }
def LineCirclesWrongFalsely : Prop := lineCirclesRow.holds Try.pinned (OpenSpec.ofChange lineCirclesWrong)

/-- 'merestonelaw01.LineFixed': WHATEVER THE INPUT: true; the input reads as it did. -/
def lineFixedSpec : ChangeSpec := { name := "lineFixed", fn := fun _ => fun
  | [d1, d2] => { results := [.lit (.bool true)], args := [d1, d2] }
  | _ => none }
def lineFixedRow : OpenClaim := { program := "ytejbpoclfjkllaa", sum := "54bfa2288ee22cdffeeea91f06da3d6f4dc202b3d87e6b22b17f068a8ac7e0ee", func := "merestone/merestonelaw01.LineFixed", spec := "lineFixed", unfollowed := true, recurses := true, apart := false }
def LineFixedSaid : Prop := lineFixedRow.holds Try.pinned (OpenSpec.ofChange lineFixedSpec)

/-- ITS FALSE NEIGHBOUR: 'it returns false'. Refute it at one input. -/
def lineFixedWrong : ChangeSpec := { name := "lineFixed", fn := fun _ => fun
  | [d1, d2] => { results := [.lit (.bool false)], args := [d1, d2] }
  | _ => none }
def LineFixedWrongFalsely : Prop := lineFixedRow.holds Try.pinned (OpenSpec.ofChange lineFixedWrong)

/-- 'merestonelaw01.LineSharp': WHATEVER THE INPUT: true; the input reads as it did. -/
def lineSharpSpec : ChangeSpec := { name := "lineSharp", fn := fun _ => fun
  | [d1, d2, d3, d4, d5, d6] => { results := [.lit (.bool true)], args := [d1, d2, d3, d4, d5, d6] }
  | _ => none }
def lineSharpRow : OpenClaim := { program := "ytejbpoclfjkllaa", sum := "54bfa2288ee22cdffeeea91f06da3d6f4dc202b3d87e6b22b17f068a8ac7e0ee", func := "merestone/merestonelaw01.LineSharp", spec := "lineSharp", unfollowed := true, recurses := true, apart := false }
def LineSharpSaid : Prop := lineSharpRow.holds Try.pinned (OpenSpec.ofChange lineSharpSpec)

/-- ITS FALSE NEIGHBOUR: 'it returns false'. Refute it at one input. -/
def lineSharpWrong : ChangeSpec := { name := "lineSharp", fn := fun _ => fun
  | [d1, d2, d3, d4, d5, d6] => { results := [.lit (.bool false)], args := [d1, d2, d3, d4, d5, d6] }
  | _ => none }
def LineSharpWrongFalsely : Prop := lineSharpRow.holds Try.pinned (OpenSpec.ofChange lineSharpWrong)

/-- 'merestonelaw01.LineBlamed': WHATEVER THE INPUT: true; the input reads as it did. -/
def lineBlamedSpec : ChangeSpec := { name := "lineBlamed", fn := fun _ => fun
  | [d1, d2] => { results := [.lit (.bool true)], args := [d1, d2] }
  | _ => none }
def lineBlamedRow : OpenClaim := { program := "ytejbpoclfjkllaa", sum := "54bfa2288ee22cdffeeea91f06da3d6f4dc202b3d87e6b22b17f068a8ac7e0ee", func := "merestone/merestonelaw01.LineBlamed", spec := "lineBlamed", unfollowed := true, recurses := true, apart := false }
def LineBlamedSaid : Prop := lineBlamedRow.holds Try.pinned (OpenSpec.ofChange lineBlamedSpec)

/-- ITS FALSE NEIGHBOUR: 'it returns false'. Refute it at one input. -/
def lineBlamedWrong : ChangeSpec := { name := "lineBlamed", fn := fun _ => fun
  | [d1, d2] => { results := [.lit (.bool false)], args := [d1, d2] }
  | _ => none }
def LineBlamedWrongFalsely : Prop := lineBlamedRow.holds Try.pinned (OpenSpec.ofChange lineBlamedWrong)

/-- 'merestonelaw01.LineEither': WHATEVER THE INPUT: true; the input reads as it did. -/
def lineEitherSpec : ChangeSpec := { name := "lineEither", fn := fun _ => fun
  | [d1, d2] => { results := [.lit (.bool true)], args := [d1, d2] }
  | _ => none }
def lineEitherRow : OpenClaim := { program := "ytejbpoclfjkllaa", sum := "54bfa2288ee22cdffeeea91f06da3d6f4dc202b3d87e6b22b17f068a8ac7e0ee", func := "merestone/merestonelaw01.LineEither", spec := "lineEither", unfollowed := true, recurses := true, apart := false }
def LineEitherSaid : Prop := lineEitherRow.holds Try.pinned (OpenSpec.ofChange lineEitherSpec)

/-- ITS FALSE NEIGHBOUR: 'it returns false'. Refute it at one input. -/
def lineEitherWrong : ChangeSpec := { name := "lineEither", fn := fun _ => fun
  | [d1, d2] => { results := [.lit (.bool false)], args := [d1, d2] }
  | _ => none }
def LineEitherWrongFalsely : Prop := lineEitherRow.holds Try.pinned (OpenSpec.ofChange lineEitherWrong)

/-- 'merestonelaw01.LineClosed': WHATEVER THE INPUT: true; the input reads as it did. -/
def lineClosedSpec : ChangeSpec := { name := "lineClosed", fn := fun _ => fun
  | [d] => { results := [.lit (.bool true)], args := [d] }
  | _ => none }
def lineClosedRow : OpenClaim := { program := "ytejbpoclfjkllaa", sum := "54bfa2288ee22cdffeeea91f06da3d6f4dc202b3d87e6b22b17f068a8ac7e0ee", func := "merestone/merestonelaw01.LineClosed", spec := "lineClosed", unfollowed := true, recurses := true, apart := false }
def LineClosedSaid : Prop := lineClosedRow.holds Try.pinned (OpenSpec.ofChange lineClosedSpec)

/-- ITS FALSE NEIGHBOUR: 'it returns false'. Refute it at one input. -/
def lineClosedWrong : ChangeSpec := { name := "lineClosed", fn := fun _ => fun
  | [d] => { results := [.lit (.bool false)], args := [d] }
  | _ => none }
def LineClosedWrongFalsely : Prop := lineClosedRow.holds Try.pinned (OpenSpec.ofChange lineClosedWrong)

/- THE SECOND FORM. 'bulk': how many values and letters a reading holds, each counted each time it is reached (what is shared counts as often as it is met; a slice's spare places count too). A statement '..UptoSaid' is the law's where the arguments, and the package variables that the reading takes, are together of bulk at most 1048576: NARROWER than '..Said'. Prove '..Said' where nothing that the law and all that it calls make is longer than what came in: it says more and counts as full. Else prove '..UptoSaid'. A law counts once. -/
mutual
def uptoBulk {H : Type} : DataW H → Nat
  | .lit (.string bytes) => bytes.length + 1
  | .lit _ => 1
  | .nil => 1
  | .ptr d => uptoBulk d + 1
  | .slice elems spare => uptoBulkAll elems + uptoBulkAll spare + 1
  | .agg parts => uptoBulkAll parts + 1
  | .iface _ d => uptoBulk d + 1
  | .map entries => uptoBulkEntries entries + 1
  | .held _ => 1
def uptoBulkAll {H : Type} : List (DataW H) → Nat
  | [] => 0
  | d :: r => uptoBulk d + uptoBulkAll r
def uptoBulkEntries {H : Type} : List (Lit × DataW H) → Nat
  | [] => 0
  | x :: r => uptoBulkEntry x + uptoBulkEntries r
def uptoBulkEntry {H : Type} : Lit × DataW H → Nat
  | (.string bytes, d) => bytes.length + uptoBulk d + 1
  | (_, d) => uptoBulk d + 1
 end
def uptoSmall : (H : Type) → List (DataW H) → Bool := fun _ ds => decide (uptoBulkAll ds ≤ 1048576)
def OpenSpec.upto (s : _root_.Go.ChangeSpec) : _root_.Go.OpenSpec := { _root_.Go.OpenSpec.ofChange s with cond := some uptoSmall }

/-- 'merestonelaw01.LineBlames', WHERE WHAT IT READS IS OF BULK AT MOST 1048576: true; the input reads as it did. -/
def lineBlamesUptoRow : OpenClaim := { program := "ytejbpoclfjkllaa", sum := "54bfa2288ee22cdffeeea91f06da3d6f4dc202b3d87e6b22b17f068a8ac7e0ee", func := "merestone/merestonelaw01.LineBlames", spec := "lineBlames", unfollowed := true, recurses := true, apart := false, narrowed := true }
def LineBlamesUptoSaid : Prop := lineBlamesUptoRow.holds Try.pinned (OpenSpec.upto lineBlamesSpec)

/-- 'merestonelaw01.LineRanges', WHERE WHAT IT READS IS OF BULK AT MOST 1048576: true; the input reads as it did. -/
def lineRangesUptoRow : OpenClaim := { program := "ytejbpoclfjkllaa", sum := "54bfa2288ee22cdffeeea91f06da3d6f4dc202b3d87e6b22b17f068a8ac7e0ee", func := "merestone/merestonelaw01.LineRanges", spec := "lineRanges", unfollowed := true, recurses := true, apart := false, narrowed := true }
def LineRangesUptoSaid : Prop := lineRangesUptoRow.holds Try.pinned (OpenSpec.upto lineRangesSpec)

/-- 'merestonelaw01.LineNeedless', WHERE WHAT IT READS IS OF BULK AT MOST 1048576: true; the input reads as it did. -/
def lineNeedlessUptoRow : OpenClaim := { program := "ytejbpoclfjkllaa", sum := "54bfa2288ee22cdffeeea91f06da3d6f4dc202b3d87e6b22b17f068a8ac7e0ee", func := "merestone/merestonelaw01.LineNeedless", spec := "lineNeedless", unfollowed := true, recurses := true, apart := false, narrowed := true }
def LineNeedlessUptoSaid : Prop := lineNeedlessUptoRow.holds Try.pinned (OpenSpec.upto lineNeedlessSpec)

/-- 'merestonelaw01.LineEnds', WHERE WHAT IT READS IS OF BULK AT MOST 1048576: true; the input reads as it did. -/
def lineEndsUptoRow : OpenClaim := { program := "ytejbpoclfjkllaa", sum := "54bfa2288ee22cdffeeea91f06da3d6f4dc202b3d87e6b22b17f068a8ac7e0ee", func := "merestone/merestonelaw01.LineEnds", spec := "lineEnds", unfollowed := true, recurses := true, apart := false, narrowed := true }
def LineEndsUptoSaid : Prop := lineEndsUptoRow.holds Try.pinned (OpenSpec.upto lineEndsSpec)

/-- 'merestonelaw01.LineDistances', WHERE WHAT IT READS IS OF BULK AT MOST 1048576: true; the input reads as it did. -/
def lineDistancesUptoRow : OpenClaim := { program := "ytejbpoclfjkllaa", sum := "54bfa2288ee22cdffeeea91f06da3d6f4dc202b3d87e6b22b17f068a8ac7e0ee", func := "merestone/merestonelaw01.LineDistances", spec := "lineDistances", unfollowed := true, recurses := true, apart := false, narrowed := true }
def LineDistancesUptoSaid : Prop := lineDistancesUptoRow.holds Try.pinned (OpenSpec.upto lineDistancesSpec)

/-- 'merestonelaw01.LineNeeded', WHERE WHAT IT READS IS OF BULK AT MOST 1048576: true; the input reads as it did. -/
def lineNeededUptoRow : OpenClaim := { program := "ytejbpoclfjkllaa", sum := "54bfa2288ee22cdffeeea91f06da3d6f4dc202b3d87e6b22b17f068a8ac7e0ee", func := "merestone/merestonelaw01.LineNeeded", spec := "lineNeeded", unfollowed := true, recurses := true, apart := false, narrowed := true }
def LineNeededUptoSaid : Prop := lineNeededUptoRow.holds Try.pinned (OpenSpec.upto lineNeededSpec)

/-- 'merestonelaw01.LineChecks', WHERE WHAT IT READS IS OF BULK AT MOST 1048576: true; the input reads as it did. -/
def lineChecksUptoRow : OpenClaim := { program := "ytejbpoclfjkllaa", sum := "54bfa2288ee22cdffeeea91f06da3d6f4dc202b3d87e6b22b17f068a8ac7e0ee", func := "merestone/merestonelaw01.LineChecks", spec := "lineChecks", unfollowed := true, recurses := true, apart := false, narrowed := true }
def LineChecksUptoSaid : Prop := lineChecksUptoRow.holds Try.pinned (OpenSpec.upto lineChecksSpec)

/-- 'merestonelaw01.LineAttained', WHERE WHAT IT READS IS OF BULK AT MOST 1048576: true; the input reads as it did. -/
def lineAttainedUptoRow : OpenClaim := { program := "ytejbpoclfjkllaa", sum := "54bfa2288ee22cdffeeea91f06da3d6f4dc202b3d87e6b22b17f068a8ac7e0ee", func := "merestone/merestonelaw01.LineAttained", spec := "lineAttained", unfollowed := true, recurses := true, apart := false, narrowed := true }
def LineAttainedUptoSaid : Prop := lineAttainedUptoRow.holds Try.pinned (OpenSpec.upto lineAttainedSpec)

/-- 'merestonelaw01.LineJoins', WHERE WHAT IT READS IS OF BULK AT MOST 1048576: true; the input reads as it did. -/
def lineJoinsUptoRow : OpenClaim := { program := "ytejbpoclfjkllaa", sum := "54bfa2288ee22cdffeeea91f06da3d6f4dc202b3d87e6b22b17f068a8ac7e0ee", func := "merestone/merestonelaw01.LineJoins", spec := "lineJoins", unfollowed := true, recurses := true, apart := false, narrowed := true }
def LineJoinsUptoSaid : Prop := lineJoinsUptoRow.holds Try.pinned (OpenSpec.upto lineJoinsSpec)

/-- 'merestonelaw01.LineMore', WHERE WHAT IT READS IS OF BULK AT MOST 1048576: true; the input reads as it did. -/
def lineMoreUptoRow : OpenClaim := { program := "ytejbpoclfjkllaa", sum := "54bfa2288ee22cdffeeea91f06da3d6f4dc202b3d87e6b22b17f068a8ac7e0ee", func := "merestone/merestonelaw01.LineMore", spec := "lineMore", unfollowed := true, recurses := true, apart := false, narrowed := true }
def LineMoreUptoSaid : Prop := lineMoreUptoRow.holds Try.pinned (OpenSpec.upto lineMoreSpec)

/-- 'merestonelaw01.LineValues', WHERE WHAT IT READS IS OF BULK AT MOST 1048576: true; the input reads as it did. -/
def lineValuesUptoRow : OpenClaim := { program := "ytejbpoclfjkllaa", sum := "54bfa2288ee22cdffeeea91f06da3d6f4dc202b3d87e6b22b17f068a8ac7e0ee", func := "merestone/merestonelaw01.LineValues", spec := "lineValues", unfollowed := true, recurses := true, apart := false, narrowed := true }
def LineValuesUptoSaid : Prop := lineValuesUptoRow.holds Try.pinned (OpenSpec.upto lineValuesSpec)

/-- 'merestonelaw01.LineRecords', WHERE WHAT IT READS IS OF BULK AT MOST 1048576: true; the input reads as it did. -/
def lineRecordsUptoRow : OpenClaim := { program := "ytejbpoclfjkllaa", sum := "54bfa2288ee22cdffeeea91f06da3d6f4dc202b3d87e6b22b17f068a8ac7e0ee", func := "merestone/merestonelaw01.LineRecords", spec := "lineRecords", unfollowed := true, recurses := true, apart := false, narrowed := true }
def LineRecordsUptoSaid : Prop := lineRecordsUptoRow.holds Try.pinned (OpenSpec.upto lineRecordsSpec)

/-- 'merestonelaw01.LineRigid', WHERE WHAT IT READS IS OF BULK AT MOST 1048576: true; the input reads as it did. -/
def lineRigidUptoRow : OpenClaim := { program := "ytejbpoclfjkllaa", sum := "54bfa2288ee22cdffeeea91f06da3d6f4dc202b3d87e6b22b17f068a8ac7e0ee", func := "merestone/merestonelaw01.LineRigid", spec := "lineRigid", unfollowed := true, recurses := true, apart := false, narrowed := true }
def LineRigidUptoSaid : Prop := lineRigidUptoRow.holds Try.pinned (OpenSpec.upto lineRigidSpec)

/-- 'merestonelaw01.LinePaths', WHERE WHAT IT READS IS OF BULK AT MOST 1048576: true; the input reads as it did. -/
def linePathsUptoRow : OpenClaim := { program := "ytejbpoclfjkllaa", sum := "54bfa2288ee22cdffeeea91f06da3d6f4dc202b3d87e6b22b17f068a8ac7e0ee", func := "merestone/merestonelaw01.LinePaths", spec := "linePaths", unfollowed := true, recurses := true, apart := false, narrowed := true }
def LinePathsUptoSaid : Prop := linePathsUptoRow.holds Try.pinned (OpenSpec.upto linePathsSpec)

/-- 'merestonelaw01.LineLattice', WHERE WHAT IT READS IS OF BULK AT MOST 1048576: true; the input reads as it did. -/
def lineLatticeUptoRow : OpenClaim := { program := "ytejbpoclfjkllaa", sum := "54bfa2288ee22cdffeeea91f06da3d6f4dc202b3d87e6b22b17f068a8ac7e0ee", func := "merestone/merestonelaw01.LineLattice", spec := "lineLattice", unfollowed := true, recurses := true, apart := false, narrowed := true }
def LineLatticeUptoSaid : Prop := lineLatticeUptoRow.holds Try.pinned (OpenSpec.upto lineLatticeSpec)

/-- 'merestonelaw01.LineMemory', WHERE WHAT IT READS IS OF BULK AT MOST 1048576: true; the input reads as it did. -/
def lineMemoryUptoRow : OpenClaim := { program := "ytejbpoclfjkllaa", sum := "54bfa2288ee22cdffeeea91f06da3d6f4dc202b3d87e6b22b17f068a8ac7e0ee", func := "merestone/merestonelaw01.LineMemory", spec := "lineMemory", unfollowed := true, recurses := true, apart := false, narrowed := true }
def LineMemoryUptoSaid : Prop := lineMemoryUptoRow.holds Try.pinned (OpenSpec.upto lineMemorySpec)

/-- 'merestonelaw01.LineCircles', WHERE WHAT IT READS IS OF BULK AT MOST 1048576: true; the input reads as it did. -/
def lineCirclesUptoRow : OpenClaim := { program := "ytejbpoclfjkllaa", sum := "54bfa2288ee22cdffeeea91f06da3d6f4dc202b3d87e6b22b17f068a8ac7e0ee", func := "merestone/merestonelaw01.LineCircles", spec := "lineCircles", unfollowed := true, recurses := true, apart := false, narrowed := true }
def LineCirclesUptoSaid : Prop := lineCirclesUptoRow.holds Try.pinned (OpenSpec.upto lineCirclesSpec)

/-- 'merestonelaw01.LineFixed', WHERE WHAT IT READS IS OF BULK AT MOST 1048576: true; the input reads as it did. -/
def lineFixedUptoRow : OpenClaim := { program := "ytejbpoclfjkllaa", sum := "54bfa2288ee22cdffeeea91f06da3d6f4dc202b3d87e6b22b17f068a8ac7e0ee", func := "merestone/merestonelaw01.LineFixed", spec := "lineFixed", unfollowed := true, recurses := true, apart := false, narrowed := true }
def LineFixedUptoSaid : Prop := lineFixedUptoRow.holds Try.pinned (OpenSpec.upto lineFixedSpec)

/-- 'merestonelaw01.LineSharp', WHERE WHAT IT READS IS OF BULK AT MOST 1048576: true; the input reads as it did. -/
def lineSharpUptoRow : OpenClaim := { program := "ytejbpoclfjkllaa", sum := "54bfa2288ee22cdffeeea91f06da3d6f4dc202b3d87e6b22b17f068a8ac7e0ee", func := "merestone/merestonelaw01.LineSharp", spec := "lineSharp", unfollowed := true, recurses := true, apart := false, narrowed := true }
def LineSharpUptoSaid : Prop := lineSharpUptoRow.holds Try.pinned (OpenSpec.upto lineSharpSpec)

/-- 'merestonelaw01.LineBlamed', WHERE WHAT IT READS IS OF BULK AT MOST 1048576: true; the input reads as it did. -/
def lineBlamedUptoRow : OpenClaim := { program := "ytejbpoclfjkllaa", sum := "54bfa2288ee22cdffeeea91f06da3d6f4dc202b3d87e6b22b17f068a8ac7e0ee", func := "merestone/merestonelaw01.LineBlamed", spec := "lineBlamed", unfollowed := true, recurses := true, apart := false, narrowed := true }
def LineBlamedUptoSaid : Prop := lineBlamedUptoRow.holds Try.pinned (OpenSpec.upto lineBlamedSpec)

/-- 'merestonelaw01.LineEither', WHERE WHAT IT READS IS OF BULK AT MOST 1048576: true; the input reads as it did. -/
def lineEitherUptoRow : OpenClaim := { program := "ytejbpoclfjkllaa", sum := "54bfa2288ee22cdffeeea91f06da3d6f4dc202b3d87e6b22b17f068a8ac7e0ee", func := "merestone/merestonelaw01.LineEither", spec := "lineEither", unfollowed := true, recurses := true, apart := false, narrowed := true }
def LineEitherUptoSaid : Prop := lineEitherUptoRow.holds Try.pinned (OpenSpec.upto lineEitherSpec)

/-- 'merestonelaw01.LineClosed', WHERE WHAT IT READS IS OF BULK AT MOST 1048576: true; the input reads as it did. -/
def lineClosedUptoRow : OpenClaim := { program := "ytejbpoclfjkllaa", sum := "54bfa2288ee22cdffeeea91f06da3d6f4dc202b3d87e6b22b17f068a8ac7e0ee", func := "merestone/merestonelaw01.LineClosed", spec := "lineClosed", unfollowed := true, recurses := true, apart := false, narrowed := true }
def LineClosedUptoSaid : Prop := lineClosedUptoRow.holds Try.pinned (OpenSpec.upto lineClosedSpec)

end Rows
end Go.Proofs.Ytejbpoclfjkllaa
