/- The law AreaWest: for every input the call returns true, and its arguments read as before. No conditions. -/
import Derived.Test.YthjmkmjojlfejaaGreatB07
import Derived.Test.YthjmkmjojlfejaaGreatB05
import Derived.Test.YthjmkmjojlfejaaGreatB01
import Derived.Test.YthjmkmjojlfejaaGreatB04
import Derived.Test.YthjmkmjojlfejaaGreatB03
import Derived.Test.YthjmkmjojlfejaaGreatB02
import Derived.Shelf.Small.Bits
import Derived.Shelf.Small.Wraps
import Derived.Shelf.Strconv.Itoa0
import Derived.Shelf.Sort.Plain
import Derived.Shelf.Slices.Turned
import Derived.Ground.Names2Prog
import Derived.Shelf.Slices.CompactI
import Derived.Shelf.Slices.SearchI
import Derived.Shelf.Slices.Cells
import Derived.Shelf.Slices.In.SortNone
import Derived.Test.YthjmkmjojlfejaaGreatProg
import Derived.WalkKit
import Derived.Handy
import Derived.RangeFuncRecord
import Derived.Shelf.Abstract
import Derived.Deep.QuietTactic
import Derived.BigQuiet
import Derived.Laws.CopyOwn
import Derived.WalkSmall
import Derived.RangeFuncNested
import Derived.RangeFuncBound
import Derived.RangeFuncCalls
import Derived.RangeFuncLeaves
import Derived.Shelf.RegionOpen
import Derived.OwnWalkIn
import Derived.TacticsInMore
import Derived.LoopNIn
import Derived.LoopIn
import Derived.Maps.AppendAt
import Derived.Deep.Onto
import Derived.OrdersHeld
import Derived.Deep.LoopGhost
import Derived.Deep.WholeRow
import Derived.Deep.OwnRows
import Derived.StillTailTactics
import Derived.Great.Walk
import Derived.Great.BuildSlice
import Derived.WalkMore
import Derived.Deep.MidRow
import Derived.Deep.RegionHeld3
import Derived.Deep.DeepCutAuto
import Derived.Lib.OwnBridge
import Derived.Lib.SliceRun
import Derived.WalkSpells
import Derived.Deep.RegionWith
import Derived.Lib.AppendZerosOnto
import Derived.Deep.CutBlock
import Derived.IntWalk
import Derived.Test.YthjmkmjojlfejaaGreatB06
import Derived.Test.YthjmkmjojlfejaaGreatB08
import Derived.Test.YthjmkmjojlfejaaGreatB13
import Derived.Test.YthjmkmjojlfejaaGreatB09
import Derived.Test.YthjmkmjojlfejaaGreatB14
import Derived.Test.YthjmkmjojlfejaaGreatRows
import Derived.ProofKit
import Derived.OpenShut
import Derived.Carry
import Derived.Lib.SmallJoins
import Derived.Deep.Slices
import Derived.RangeFuncBox
import Derived.Test.YthjmkmjojlfejaaGreatB10
import Derived.Scope
import Derived.Test.YthjmkmjojlfejaaGreatB12
import Derived.Test.YthjmkmjojlfejaaGreatB11
import Derived.ChangeMaps5
import Derived.Test.YthjmkmjojlfejaaGreatXAreaWest
namespace Go.Proofs.YthjmkmjojlfejaaGreat
open Go Go.ChangeShapes Go.WideShapes Go.ChangeAt Go.RowKit

set_option maxRecDepth 100000 in
theorem areaWest_lifted (os : Os) (started : os.Started) (H : Type) (enc : TypeId × Value → H) :
    ReturnsInHanded {} Tryz.checked os 5 .any (Rows.areaWestSpec.pre6 enc Tryz.prog Tryz.f5 Rows.areaWestRow.domain false) (Rows.areaWestSpec.post enc Tryz.prog Tryz.f5 false true false false) := by
  refine returnsInHanded_of_change (C := Tryz.checked) Tryz.own started (by kernel_rfl) Tryz.func5
    (ChangeSpec.witness6 (enc := enc) (C := Tryz.checked) false ⟨#[], #[.agg #[.slice none 0 0, .slice none 0 0, .slice none 0 0, .slice none 0 0], .slice none 0 0, .int .i64 0, .int .i64 0, .int .i64 0], []⟩ 8 (by kernel_rfl) (by kernel_rfl) (by kernel_rfl) (by kernel_rfl)) ?_
  intro W base args ds gs before hval0 hW hcnd _
  have hval : ∀ (j : Nat) t v, Tryz.f5.params[j]? = some t → args[j]? = some v → Value.okWide Tryz.prog W .any base t v := hval0
  have hW' := hW
  obtain ⟨p, q, hA0, hV, rfl, hfz, hnd⟩ := hW
  have hA : DataW.TrodAll enc Tryz.prog W 0 (fun _ => true) true Tryz.f5.params.toList args.toList ds p := hA0
  rw [Tryz.params5] at hA hval
  obtain ⟨v0, vs0, d0, ds0, p0, q0, hargs, rfl, rfl, h0, r0⟩ := trodAll_cons hA
  obtain ⟨v1, vs1, d1, ds1, p1, q1, rfl, rfl, rfl, h1, r1⟩ := trodAll_cons r0
  obtain ⟨v2, vs2, d2, ds2, p2, q2, rfl, rfl, rfl, h2, r2⟩ := trodAll_cons r1
  obtain ⟨v3, vs3, d3, ds3, p3, q3, rfl, rfl, rfl, h3, r3⟩ := trodAll_cons r2
  obtain ⟨v4, vs4, d4, ds4, p4, q4, rfl, rfl, rfl, h4, r4⟩ := trodAll_cons r3
  obtain ⟨rfl, rfl, rfl⟩ := trodAll_nil r4
  obtain rfl : args = #[v0, v1, v2, v3, v4] := by cases args; simp_all
  obtain ⟨rfl, rfl⟩ := trodVars_none hV
  obtain ⟨x0, F0, rfl, hF0⟩ := open_fld (hval 0 46 v0 rfl rfl) h0
  obtain ⟨a1, cap1, y1, rfl, hY1, hZ1, hm1, hyo1⟩ := open_list (hval 1 25 v1 rfl rfl) h1
  obtain ⟨n2, rfl, hn2⟩ := open_num (hval 2 3 v2 rfl rfl) h2
  obtain ⟨n3, rfl, hn3⟩ := open_num (hval 3 3 v3 rfl rfl) h3
  obtain ⟨n4, rfl, hn4⟩ := open_num (hval 4 3 v4 rfl rfl) h4
  refine (areaWest_of alive_any W x0 F0 a1 cap1 y1 n2 n3 n4 hF0 hm1 hY1).mono fun e W' ⟨he, hg⟩ => ?_
  subst he
  refine ⟨_, rfl, law_post hW' hg (by kernel_rfl) ?_ rfl rfl⟩
  intro t ht
  rw [Tryz.params5] at ht
  simp only [List.mem_cons, List.not_mem_nil, or_false] at ht
  rcases ht with rfl | rfl | rfl | rfl | rfl
  · exact argOk46
  · exact argOk27
  · exact argOk3
  · exact argOk3
  · exact argOk3

/-! The row's closed facts, each by itself. -/
theorem areaWest_j0 : (Rows.areaWestRow.wf (OpenSpec.ofChange Rows.areaWestSpec)) = true := by kernel_rfl
theorem areaWest_j3 : (Tryz.f5.params.all (Tryz.prog.readableRec ·)) = true := by kernel_rfl
theorem areaWest_j4 : (namedTie Tryz.prog Rows.areaWestRow.named Rows.areaWestSpec.vars) = true := by kernel_rfl
theorem areaWest_j5 : ((Rows.areaWestRow.stops == [])) = true := by kernel_rfl
theorem areaWest_j7 : ((Rows.areaWestRow.knobs == [])) = true := by kernel_rfl
theorem areaWest_j9 : ((Rows.areaWestRow.inPlace == Tryz.prog.inPlace 5)) = true := by kernel_rfl
theorem areaWest_j10 : ((Rows.areaWestRow.unfollowed == Tryz.prog.unfollowed 5)) = true := by kernel_rfl
theorem areaWest_j11 : ((Rows.areaWestRow.recurses == Tryz.prog.recurses 5)) = true := by kernel_rfl
theorem areaWest_j12 : ((Rows.areaWestRow.named == Tryz.prog.varsNamed 5)) = true := by kernel_rfl
theorem areaWest_j13 : ((Rows.areaWestRow.maps == (Tryz.f5.params.toList ++ Rows.areaWestSpec.plain.varTypes Tryz.prog).any (Tryz.prog.mapsRec ·))) = true := by kernel_rfl
theorem areaWest_j14 : ((Rows.areaWestRow.ifaces == (Tryz.f5.params.toList ++ Rows.areaWestSpec.plain.varTypes Tryz.prog).any (Tryz.prog.ifacesRec ·))) = true := by kernel_rfl
theorem areaWest_j15 : ((Rows.areaWestRow.mapsOut == Tryz.prog.mapsAmong Tryz.f5.resultTypes.toList)) = true := by kernel_rfl
theorem areaWest_j16 : ((Rows.areaWestRow.loops == (Tryz.f5.params.toList ++ Rows.areaWestSpec.plain.varTypes Tryz.prog).any (Tryz.prog.loopsFrom ·))) = true := by kernel_rfl
theorem areaWest_j17 : ((Rows.areaWestRow.wideKeys == (Tryz.f5.params.toList ++ Rows.areaWestSpec.plain.varTypes Tryz.prog ++ Tryz.f5.resultTypes.toList).any (Tryz.prog.wideKeysFrom ·))) = true := by kernel_rfl
theorem areaWest_j18 : (Rows.areaWestSpec.vars.all (Tryz.prog.varReadable ·)) = true := by kernel_rfl
theorem areaWest_j19 : (Tryz.f5.resultTypes.all (fun t => Tryz.prog.readableRec t && decide (t < Tryz.prog.types.size))) = true := by kernel_rfl
theorem areaWest_j20 : ((Rows.areaWestRow.ifacesOut == Tryz.f5.resultTypes.toList.any (Tryz.prog.ifacesRec ·))) = true := by kernel_rfl
theorem areaWest_j21 : ((Rows.areaWestRow.loopsOut == Tryz.f5.resultTypes.toList.any (Tryz.prog.loopsFrom ·))) = true := by kernel_rfl
theorem areaWest_j22 : ((Rows.areaWestRow.plainKeys == Tryz.prog.plainKeys)) = true := by rw [Tryz.fact22]; rfl
theorem areaWest_j23 : (Rows.areaWestRow.shortTexts.isNone) = true := by kernel_rfl
theorem areaWest_j26 : ((Rows.areaWestRow.lifted == Tryz.prog.liftsFinal)) = true := by rw [Tryz.fact26]; rfl
theorem areaWest_j27 : ((Tryz.prog.make == some Rows.areaWestRow.make)) = true := by rw [Tryz.fact27]; rfl
theorem areaWest_j28 : ((Rows.areaWestRow.kinds == (if Rows.areaWestRow.domain.isEmpty then [] else Tryz.f5.params.toList.map fun t => match Tryz.prog.underlying t with | some (.int k) => some k | _ => none))) = true := by kernel_rfl
theorem areaWest_j29 : ((Rows.areaWestRow.pinned == Rows.areaWestRow.pinnedBy)) = true := by kernel_rfl
theorem areaWest_j30 : ((Rows.areaWestRow.veiled == (Tryz.f5.params.toList ++ Rows.areaWestSpec.plain.varTypes Tryz.prog ++ Tryz.f5.resultTypes.toList).any (Tryz.prog.veiledRec ·))) = true := by kernel_rfl
theorem areaWest_j31 : (Rows.areaWestRow.veiledFits Tryz.prog Tryz.f5.params.toList (Tryz.f5.params.toList ++ Rows.areaWestSpec.plain.varTypes Tryz.prog ++ Tryz.f5.resultTypes.toList)) = true := by kernel_rfl
set_option maxRecDepth 100000 in
theorem areaWest_closed : joinedFacts Tryz.prog 5 Tryz.f5 Rows.areaWestSpec Rows.areaWestRow = true := by
  unfold joinedFacts
  exact (and2 (and2 (and2 (and2 (and2 (and2 (and2 (and2 (and2 (and2 (and2 (and2 (and2 (and2 (and2 (and2 (and2 (and2 (and2 (and2 (and2 (and2 (and2 (and2 (and2 (and2 (and2 (and2 (and2 (and2 (and2 areaWest_j0 Tryz.fact1) Tryz.fact2) areaWest_j3) areaWest_j4) areaWest_j5) Tryz.fact6) areaWest_j7) Tryz.fact8) areaWest_j9) areaWest_j10) areaWest_j11) areaWest_j12) areaWest_j13) areaWest_j14) areaWest_j15) areaWest_j16) areaWest_j17) areaWest_j18) areaWest_j19) areaWest_j20) areaWest_j21) areaWest_j22) areaWest_j23) Tryz.fact24) Tryz.fact25) areaWest_j26) areaWest_j27) areaWest_j28) areaWest_j29) areaWest_j30) areaWest_j31)
theorem areaWest_named : Tryz.prog.funcNamed Rows.areaWestRow.func = some 5 := by kernel_rfl
theorem areaWest_instance : Tryz.f5.isInstance Tryz.prog Rows.areaWestRow.origin Rows.areaWestRow.targs := of_decide_eq_true (by kernel_rfl)
theorem areaWest_wrapper : Tryz.f5.isWrapper Tryz.prog Rows.areaWestRow.wrapper Rows.areaWestRow.mainSum := by unfold Func.isWrapper; first | (rw [if_pos (by decide +kernel)]; kernel_rfl) | (rw [if_neg (by decide +kernel)]; exact ⟨rfl, rfl⟩)

set_option maxRecDepth 100000 in
theorem areaWest_over : Rows.areaWestRow.holds Tryz.pinned (OpenSpec.ofChange Rows.areaWestSpec) :=
  OpenClaim.holds_of_wide 5 Tryz.f5 rfl rfl rfl rfl rfl rfl rfl ⟨rfl, rfl, rfl, rfl, rfl⟩ rfl rfl rfl rfl rfl areaWest_named Tryz.func5 areaWest_closed areaWest_instance areaWest_wrapper
    (fun os started H enc _ => areaWest_lifted os started H enc)

/-- THE STATEMENT. -/
theorem areaWest_holds : Rows.AreaWestSaid := areaWest_over

end Go.Proofs.YthjmkmjojlfejaaGreat
