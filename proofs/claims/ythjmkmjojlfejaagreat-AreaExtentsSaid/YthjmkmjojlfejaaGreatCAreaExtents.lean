/- The law AreaExtents: for every input the call returns true, and its arguments read as before. No conditions. -/
import Derived.Test.YthjmkmjojlfejaaGreatB15
import Derived.Test.YthjmkmjojlfejaaGreatB04
import Derived.Test.YthjmkmjojlfejaaGreatB03
import Derived.Test.YthjmkmjojlfejaaGreatB02
import Derived.Test.YthjmkmjojlfejaaGreatB01
import Derived.Shelf.Small.Bits
import Derived.Shelf.Small.Wraps
import Derived.Shelf.Strconv.Itoa0
import Derived.Shelf.Sort.Plain
import Derived.Shelf.Slices.Turned
import Derived.Ground.Names2Prog
import Derived.Shelf.Slices.CompactI
import Derived.Shelf.Slices.SearchI
import Derived.Shelf.Slices.Cells
import Derived.Shelf.Slices.In.SortNone
import Derived.Test.YthjmkmjojlfejaaGreatProg
import Derived.WalkKit
import Derived.Handy
import Derived.RangeFuncRecord
import Derived.Shelf.Abstract
import Derived.Deep.QuietTactic
import Derived.BigQuiet
import Derived.Laws.CopyOwn
import Derived.WalkSmall
import Derived.RangeFuncNested
import Derived.RangeFuncBound
import Derived.RangeFuncCalls
import Derived.RangeFuncLeaves
import Derived.Shelf.RegionOpen
import Derived.OwnWalkIn
import Derived.TacticsInMore
import Derived.LoopNIn
import Derived.LoopIn
import Derived.Maps.AppendAt
import Derived.Deep.Onto
import Derived.OrdersHeld
import Derived.Deep.LoopGhost
import Derived.Deep.WholeRow
import Derived.Deep.OwnRows
import Derived.StillTailTactics
import Derived.Great.Walk
import Derived.Great.BuildSlice
import Derived.WalkMore
import Derived.Deep.MidRow
import Derived.Deep.RegionHeld3
import Derived.Deep.DeepCutAuto
import Derived.Lib.OwnBridge
import Derived.Lib.SliceRun
import Derived.WalkSpells
import Derived.Deep.RegionWith
import Derived.Lib.AppendZerosOnto
import Derived.Deep.CutBlock
import Derived.IntWalk
import Derived.Test.YthjmkmjojlfejaaGreatB05
import Derived.Test.YthjmkmjojlfejaaGreatB16
import Derived.Test.YthjmkmjojlfejaaGreatB07
import Derived.Test.YthjmkmjojlfejaaGreatB06
import Derived.Test.YthjmkmjojlfejaaGreatB12
import Derived.Test.YthjmkmjojlfejaaGreatB11
import Derived.Test.YthjmkmjojlfejaaGreatB10
import Derived.Test.YthjmkmjojlfejaaGreatB13
import Derived.Test.YthjmkmjojlfejaaGreatB09
import Derived.Test.YthjmkmjojlfejaaGreatB08
import Derived.Scope
import Derived.Test.YthjmkmjojlfejaaGreatB14
import Derived.Test.YthjmkmjojlfejaaGreatRows
import Derived.ProofKit
import Derived.OpenShut
import Derived.Carry
import Derived.Lib.SmallJoins
import Derived.Deep.Slices
import Derived.RangeFuncBox
import Derived.ChangeMaps5
import Derived.Test.YthjmkmjojlfejaaGreatXAreaExtentsb
namespace Go.Proofs.YthjmkmjojlfejaaGreat
open Go Go.ChangeShapes Go.WideShapes Go.ChangeAt Go.RowKit

set_option maxRecDepth 100000 in
theorem areaExtents_lifted (os : Os) (started : os.Started) (H : Type) (enc : TypeId × Value → H) :
    ReturnsInHanded {} Tryz.checked os 17 .any (Rows.areaExtentsSpec.pre6 enc Tryz.prog Tryz.f17 Rows.areaExtentsRow.domain false) (Rows.areaExtentsSpec.post enc Tryz.prog Tryz.f17 false true false false) := by
  refine returnsInHanded_of_change (C := Tryz.checked) Tryz.own started (by kernel_rfl) Tryz.func17
    (ChangeSpec.witness6 (enc := enc) (C := Tryz.checked) false ⟨#[], #[.agg #[.slice none 0 0, .slice none 0 0, .slice none 0 0, .slice none 0 0], .agg #[.int .i64 0, .slice none 0 0], .int .i64 0, .agg #[.int .i64 0, .int .i64 0, .slice none 0 0, .slice none 0 0, .slice none 0 0, .slice none 0 0]], []⟩ 8 (by kernel_rfl) (by kernel_rfl) (by kernel_rfl) (by kernel_rfl)) ?_
  intro W base args ds gs before hval0 hW hcnd _
  have hval : ∀ (j : Nat) t v, Tryz.f17.params[j]? = some t → args[j]? = some v → Value.okWide Tryz.prog W .any base t v := hval0
  have hW' := hW
  obtain ⟨p, q, hA0, hV, rfl, hfz, hnd⟩ := hW
  have hA : DataW.TrodAll enc Tryz.prog W 0 (fun _ => true) true Tryz.f17.params.toList args.toList ds p := hA0
  rw [Tryz.params17] at hA hval
  obtain ⟨v0, vs0, d0, ds0, p0, q0, hargs, rfl, rfl, h0, r0⟩ := trodAll_cons hA
  obtain ⟨v1, vs1, d1, ds1, p1, q1, rfl, rfl, rfl, h1, r1⟩ := trodAll_cons r0
  obtain ⟨v2, vs2, d2, ds2, p2, q2, rfl, rfl, rfl, h2, r2⟩ := trodAll_cons r1
  obtain ⟨v3, vs3, d3, ds3, p3, q3, rfl, rfl, rfl, h3, r3⟩ := trodAll_cons r2
  obtain ⟨rfl, rfl, rfl⟩ := trodAll_nil r3
  obtain rfl : args = #[v0, v1, v2, v3] := by cases args; simp_all
  obtain ⟨rfl, rfl⟩ := trodVars_none hV
  obtain ⟨x0, F0, rfl, hF0⟩ := open_fld (hval 0 46 v0 rfl rfl) h0
  obtain ⟨N1, a1, cap1, bs1, rfl, hN1, hB1, hS1, hl1, hok1⟩ := open_sys (hval 1 24 v1 rfl rfl) h1
  obtain ⟨n2, rfl, hn2⟩ := open_num (hval 2 3 v2 rfl rfl) h2
  obtain ⟨z3, E3, rfl, hE3⟩ := open_ext (hval 3 76 v3 rfl rfl) h3
  refine (areaExtents_of alive_any W x0 F0 N1 a1 cap1 bs1 n2 z3 E3 hF0 hN1 hl1 hB1 hE3).mono fun e W' ⟨he, hg⟩ => ?_
  subst he
  refine ⟨_, rfl, law_post hW' hg (by kernel_rfl) ?_ rfl rfl⟩
  intro t ht
  rw [Tryz.params17] at ht
  simp only [List.mem_cons, List.not_mem_nil, or_false] at ht
  rcases ht with rfl | rfl | rfl | rfl
  · exact argOk46
  · exact argOk24
  · exact argOk3
  · exact argOk76

/-! The row's closed facts, each by itself. -/
theorem areaExtents_j0 : (Rows.areaExtentsRow.wf (OpenSpec.ofChange Rows.areaExtentsSpec)) = true := by kernel_rfl
theorem areaExtents_j3 : (Tryz.f17.params.all (Tryz.prog.readableRec ·)) = true := by kernel_rfl
theorem areaExtents_j4 : (namedTie Tryz.prog Rows.areaExtentsRow.named Rows.areaExtentsSpec.vars) = true := by kernel_rfl
theorem areaExtents_j5 : ((Rows.areaExtentsRow.stops == [])) = true := by kernel_rfl
theorem areaExtents_j7 : ((Rows.areaExtentsRow.knobs == [])) = true := by kernel_rfl
theorem areaExtents_j9 : ((Rows.areaExtentsRow.inPlace == Tryz.prog.inPlace 17)) = true := by kernel_rfl
theorem areaExtents_j10 : ((Rows.areaExtentsRow.unfollowed == Tryz.prog.unfollowed 17)) = true := by kernel_rfl
theorem areaExtents_j11 : ((Rows.areaExtentsRow.recurses == Tryz.prog.recurses 17)) = true := by kernel_rfl
theorem areaExtents_j12 : ((Rows.areaExtentsRow.named == Tryz.prog.varsNamed 17)) = true := by kernel_rfl
theorem areaExtents_j13 : ((Rows.areaExtentsRow.maps == (Tryz.f17.params.toList ++ Rows.areaExtentsSpec.plain.varTypes Tryz.prog).any (Tryz.prog.mapsRec ·))) = true := by kernel_rfl
theorem areaExtents_j14 : ((Rows.areaExtentsRow.ifaces == (Tryz.f17.params.toList ++ Rows.areaExtentsSpec.plain.varTypes Tryz.prog).any (Tryz.prog.ifacesRec ·))) = true := by kernel_rfl
theorem areaExtents_j15 : ((Rows.areaExtentsRow.mapsOut == Tryz.prog.mapsAmong Tryz.f17.resultTypes.toList)) = true := by kernel_rfl
theorem areaExtents_j16 : ((Rows.areaExtentsRow.loops == (Tryz.f17.params.toList ++ Rows.areaExtentsSpec.plain.varTypes Tryz.prog).any (Tryz.prog.loopsFrom ·))) = true := by kernel_rfl
theorem areaExtents_j17 : ((Rows.areaExtentsRow.wideKeys == (Tryz.f17.params.toList ++ Rows.areaExtentsSpec.plain.varTypes Tryz.prog ++ Tryz.f17.resultTypes.toList).any (Tryz.prog.wideKeysFrom ·))) = true := by kernel_rfl
theorem areaExtents_j18 : (Rows.areaExtentsSpec.vars.all (Tryz.prog.varReadable ·)) = true := by kernel_rfl
theorem areaExtents_j19 : (Tryz.f17.resultTypes.all (fun t => Tryz.prog.readableRec t && decide (t < Tryz.prog.types.size))) = true := by kernel_rfl
theorem areaExtents_j20 : ((Rows.areaExtentsRow.ifacesOut == Tryz.f17.resultTypes.toList.any (Tryz.prog.ifacesRec ·))) = true := by kernel_rfl
theorem areaExtents_j21 : ((Rows.areaExtentsRow.loopsOut == Tryz.f17.resultTypes.toList.any (Tryz.prog.loopsFrom ·))) = true := by kernel_rfl
theorem areaExtents_j22 : ((Rows.areaExtentsRow.plainKeys == Tryz.prog.plainKeys)) = true := by rw [Tryz.fact22]; rfl
theorem areaExtents_j23 : (Rows.areaExtentsRow.shortTexts.isNone) = true := by kernel_rfl
theorem areaExtents_j26 : ((Rows.areaExtentsRow.lifted == Tryz.prog.liftsFinal)) = true := by rw [Tryz.fact26]; rfl
theorem areaExtents_j27 : ((Tryz.prog.make == some Rows.areaExtentsRow.make)) = true := by rw [Tryz.fact27]; rfl
theorem areaExtents_j28 : ((Rows.areaExtentsRow.kinds == (if Rows.areaExtentsRow.domain.isEmpty then [] else Tryz.f17.params.toList.map fun t => match Tryz.prog.underlying t with | some (.int k) => some k | _ => none))) = true := by kernel_rfl
theorem areaExtents_j29 : ((Rows.areaExtentsRow.pinned == Rows.areaExtentsRow.pinnedBy)) = true := by kernel_rfl
theorem areaExtents_j30 : ((Rows.areaExtentsRow.veiled == (Tryz.f17.params.toList ++ Rows.areaExtentsSpec.plain.varTypes Tryz.prog ++ Tryz.f17.resultTypes.toList).any (Tryz.prog.veiledRec ·))) = true := by kernel_rfl
theorem areaExtents_j31 : (Rows.areaExtentsRow.veiledFits Tryz.prog Tryz.f17.params.toList (Tryz.f17.params.toList ++ Rows.areaExtentsSpec.plain.varTypes Tryz.prog ++ Tryz.f17.resultTypes.toList)) = true := by kernel_rfl
set_option maxRecDepth 100000 in
theorem areaExtents_closed : joinedFacts Tryz.prog 17 Tryz.f17 Rows.areaExtentsSpec Rows.areaExtentsRow = true := by
  unfold joinedFacts
  exact (and2 (and2 (and2 (and2 (and2 (and2 (and2 (and2 (and2 (and2 (and2 (and2 (and2 (and2 (and2 (and2 (and2 (and2 (and2 (and2 (and2 (and2 (and2 (and2 (and2 (and2 (and2 (and2 (and2 (and2 (and2 areaExtents_j0 Tryz.fact1) Tryz.fact2) areaExtents_j3) areaExtents_j4) areaExtents_j5) Tryz.fact6) areaExtents_j7) Tryz.fact8) areaExtents_j9) areaExtents_j10) areaExtents_j11) areaExtents_j12) areaExtents_j13) areaExtents_j14) areaExtents_j15) areaExtents_j16) areaExtents_j17) areaExtents_j18) areaExtents_j19) areaExtents_j20) areaExtents_j21) areaExtents_j22) areaExtents_j23) Tryz.fact24) Tryz.fact25) areaExtents_j26) areaExtents_j27) areaExtents_j28) areaExtents_j29) areaExtents_j30) areaExtents_j31)
theorem areaExtents_named : Tryz.prog.funcNamed Rows.areaExtentsRow.func = some 17 := by kernel_rfl
theorem areaExtents_instance : Tryz.f17.isInstance Tryz.prog Rows.areaExtentsRow.origin Rows.areaExtentsRow.targs := of_decide_eq_true (by kernel_rfl)
theorem areaExtents_wrapper : Tryz.f17.isWrapper Tryz.prog Rows.areaExtentsRow.wrapper Rows.areaExtentsRow.mainSum := by unfold Func.isWrapper; first | (rw [if_pos (by decide +kernel)]; kernel_rfl) | (rw [if_neg (by decide +kernel)]; exact ⟨rfl, rfl⟩)

set_option maxRecDepth 100000 in
theorem areaExtents_over : Rows.areaExtentsRow.holds Tryz.pinned (OpenSpec.ofChange Rows.areaExtentsSpec) :=
  OpenClaim.holds_of_wide 17 Tryz.f17 rfl rfl rfl rfl rfl rfl rfl ⟨rfl, rfl, rfl, rfl, rfl⟩ rfl rfl rfl rfl rfl areaExtents_named Tryz.func17 areaExtents_closed areaExtents_instance areaExtents_wrapper
    (fun os started H enc _ => areaExtents_lifted os started H enc)

/-- THE STATEMENT. -/
theorem areaExtents_holds : Rows.AreaExtentsSaid := areaExtents_over

end Go.Proofs.YthjmkmjojlfejaaGreat
