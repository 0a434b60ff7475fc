/- The law AreaDual: for every input the call returns true, and its arguments read as before. No conditions. -/
import Derived.Test.YthjmkmjojlfejaaGreatB12
import Derived.Test.YthjmkmjojlfejaaGreatB11
import Derived.Test.YthjmkmjojlfejaaGreatB10
import Derived.Test.YthjmkmjojlfejaaGreatB03
import Derived.Test.YthjmkmjojlfejaaGreatB01
import Derived.Test.YthjmkmjojlfejaaGreatB02
import Derived.Test.YthjmkmjojlfejaaGreatB13
import Derived.Test.YthjmkmjojlfejaaGreatProg
import Derived.WalkKit
import Derived.Handy
import Derived.RangeFuncRecord
import Derived.Shelf.Abstract
import Derived.Deep.QuietTactic
import Derived.BigQuiet
import Derived.Laws.CopyOwn
import Derived.WalkSmall
import Derived.RangeFuncNested
import Derived.RangeFuncBound
import Derived.RangeFuncCalls
import Derived.RangeFuncLeaves
import Derived.Shelf.RegionOpen
import Derived.OwnWalkIn
import Derived.TacticsInMore
import Derived.LoopNIn
import Derived.LoopIn
import Derived.Test.YthjmkmjojlfejaaGreatB09
import Derived.Shelf.Small.Bits
import Derived.Shelf.Small.Wraps
import Derived.Shelf.Strconv.Itoa0
import Derived.Shelf.Sort.Plain
import Derived.Shelf.Slices.Turned
import Derived.Ground.Names2Prog
import Derived.Shelf.Slices.CompactI
import Derived.Shelf.Slices.SearchI
import Derived.Shelf.Slices.Cells
import Derived.Shelf.Slices.In.SortNone
import Derived.Maps.AppendAt
import Derived.Deep.Onto
import Derived.OrdersHeld
import Derived.Deep.LoopGhost
import Derived.Deep.WholeRow
import Derived.Deep.OwnRows
import Derived.StillTailTactics
import Derived.Great.Walk
import Derived.Great.BuildSlice
import Derived.WalkMore
import Derived.Deep.MidRow
import Derived.Deep.RegionHeld3
import Derived.Deep.DeepCutAuto
import Derived.Lib.OwnBridge
import Derived.Lib.SliceRun
import Derived.WalkSpells
import Derived.Deep.RegionWith
import Derived.Lib.AppendZerosOnto
import Derived.Deep.CutBlock
import Derived.Test.YthjmkmjojlfejaaGreatB08
import Derived.Test.YthjmkmjojlfejaaGreatB05
import Derived.Test.YthjmkmjojlfejaaGreatB04
import Derived.IntWalk
import Derived.Scope
import Derived.Test.YthjmkmjojlfejaaGreatB07
import Derived.Test.YthjmkmjojlfejaaGreatB06
import Derived.Test.YthjmkmjojlfejaaGreatB14
import Derived.Test.YthjmkmjojlfejaaGreatRows
import Derived.ProofKit
import Derived.OpenShut
import Derived.Carry
import Derived.Lib.SmallJoins
import Derived.Deep.Slices
import Derived.RangeFuncBox
import Derived.Test.YthjmkmjojlfejaaGreatXAreaDual
namespace Go.Proofs.YthjmkmjojlfejaaGreat
open Go Go.ChangeShapes Go.WideShapes Go.ChangeAt Go.RowKit

set_option maxRecDepth 100000 in
theorem areaDual_lifted (os : Os) (started : os.Started) (H : Type) (enc : TypeId × Value → H) :
    ReturnsInHanded {} Tryz.checked os 18 .any (Rows.areaDualSpec.pre6 enc Tryz.prog Tryz.f18 Rows.areaDualRow.domain false) (Rows.areaDualSpec.post enc Tryz.prog Tryz.f18 false true false false) := by
  refine returnsInHanded_of_change (C := Tryz.checked) Tryz.own started (by kernel_rfl) Tryz.func18
    (ChangeSpec.witness6 (enc := enc) (C := Tryz.checked) false ⟨#[], #[.agg #[.int .i64 0, .slice none 0 0], .slice none 0 0, .slice none 0 0, .slice none 0 0, .int .i64 0], []⟩ 8 (by kernel_rfl) (by kernel_rfl) (by kernel_rfl) (by kernel_rfl)) ?_
  intro W base args ds gs before hval0 hW hcnd _
  have hval : ∀ (j : Nat) t v, Tryz.f18.params[j]? = some t → args[j]? = some v → Value.okWide Tryz.prog W .any base t v := hval0
  have hW' := hW
  obtain ⟨p, q, hA0, hV, rfl, hfz, hnd⟩ := hW
  have hA : DataW.TrodAll enc Tryz.prog W 0 (fun _ => true) true Tryz.f18.params.toList args.toList ds p := hA0
  rw [Tryz.params18] at hA hval
  obtain ⟨v0, vs0, d0, ds0, p0, q0, hargs, rfl, rfl, h0, r0⟩ := trodAll_cons hA
  obtain ⟨v1, vs1, d1, ds1, p1, q1, rfl, rfl, rfl, h1, r1⟩ := trodAll_cons r0
  obtain ⟨v2, vs2, d2, ds2, p2, q2, rfl, rfl, rfl, h2, r2⟩ := trodAll_cons r1
  obtain ⟨v3, vs3, d3, ds3, p3, q3, rfl, rfl, rfl, h3, r3⟩ := trodAll_cons r2
  obtain ⟨v4, vs4, d4, ds4, p4, q4, rfl, rfl, rfl, h4, r4⟩ := trodAll_cons r3
  obtain ⟨rfl, rfl, rfl⟩ := trodAll_nil r4
  obtain rfl : args = #[v0, v1, v2, v3, v4] := by cases args; simp_all
  obtain ⟨rfl, rfl⟩ := trodVars_none hV
  obtain ⟨N0, a0, cap0, bs0, rfl, hN0, hB0, hS0, hl0, hok0⟩ := open_sys (hval 0 24 v0 rfl rfl) h0
  obtain ⟨a1, cap1, y1, rfl, hY1, hZ1, hm1, hyo1⟩ := open_list (hval 1 25 v1 rfl rfl) h1
  obtain ⟨a2, cap2, y2, rfl, hY2, hZ2, hm2, hyo2⟩ := open_list (hval 2 25 v2 rfl rfl) h2
  obtain ⟨a3, cap3, y3, rfl, hY3, hZ3, hm3, hyo3⟩ := open_list (hval 3 25 v3 rfl rfl) h3
  obtain ⟨n4, rfl, hn4⟩ := open_num (hval 4 3 v4 rfl rfl) h4
  refine (areaDual_of alive_any W N0 a0 cap0 bs0 a1 cap1 y1 a2 cap2 y2 a3 cap3 y3 n4 hN0 hl0 hB0 hm1 hY1 hm2 hY2 hm3 hY3).mono fun e W' ⟨he, hg⟩ => ?_
  subst he
  refine ⟨_, rfl, law_post hW' hg (by kernel_rfl) ?_ rfl rfl⟩
  intro t ht
  rw [Tryz.params18] at ht
  simp only [List.mem_cons, List.not_mem_nil, or_false] at ht
  rcases ht with rfl | rfl | rfl | rfl | rfl
  · exact argOk24
  · exact argOk27
  · exact argOk27
  · exact argOk27
  · exact argOk3

/-! The row's closed facts, each by itself. -/
theorem areaDual_j0 : (Rows.areaDualRow.wf (OpenSpec.ofChange Rows.areaDualSpec)) = true := by kernel_rfl
theorem areaDual_j3 : (Tryz.f18.params.all (Tryz.prog.readableRec ·)) = true := by kernel_rfl
theorem areaDual_j4 : (namedTie Tryz.prog Rows.areaDualRow.named Rows.areaDualSpec.vars) = true := by kernel_rfl
theorem areaDual_j5 : ((Rows.areaDualRow.stops == [])) = true := by kernel_rfl
theorem areaDual_j7 : ((Rows.areaDualRow.knobs == [])) = true := by kernel_rfl
theorem areaDual_j9 : ((Rows.areaDualRow.inPlace == Tryz.prog.inPlace 18)) = true := by kernel_rfl
theorem areaDual_j10 : ((Rows.areaDualRow.unfollowed == Tryz.prog.unfollowed 18)) = true := by kernel_rfl
theorem areaDual_j11 : ((Rows.areaDualRow.recurses == Tryz.prog.recurses 18)) = true := by kernel_rfl
theorem areaDual_j12 : ((Rows.areaDualRow.named == Tryz.prog.varsNamed 18)) = true := by kernel_rfl
theorem areaDual_j13 : ((Rows.areaDualRow.maps == (Tryz.f18.params.toList ++ Rows.areaDualSpec.plain.varTypes Tryz.prog).any (Tryz.prog.mapsRec ·))) = true := by kernel_rfl
theorem areaDual_j14 : ((Rows.areaDualRow.ifaces == (Tryz.f18.params.toList ++ Rows.areaDualSpec.plain.varTypes Tryz.prog).any (Tryz.prog.ifacesRec ·))) = true := by kernel_rfl
theorem areaDual_j15 : ((Rows.areaDualRow.mapsOut == Tryz.prog.mapsAmong Tryz.f18.resultTypes.toList)) = true := by kernel_rfl
theorem areaDual_j16 : ((Rows.areaDualRow.loops == (Tryz.f18.params.toList ++ Rows.areaDualSpec.plain.varTypes Tryz.prog).any (Tryz.prog.loopsFrom ·))) = true := by kernel_rfl
theorem areaDual_j17 : ((Rows.areaDualRow.wideKeys == (Tryz.f18.params.toList ++ Rows.areaDualSpec.plain.varTypes Tryz.prog ++ Tryz.f18.resultTypes.toList).any (Tryz.prog.wideKeysFrom ·))) = true := by kernel_rfl
theorem areaDual_j18 : (Rows.areaDualSpec.vars.all (Tryz.prog.varReadable ·)) = true := by kernel_rfl
theorem areaDual_j19 : (Tryz.f18.resultTypes.all (fun t => Tryz.prog.readableRec t && decide (t < Tryz.prog.types.size))) = true := by kernel_rfl
theorem areaDual_j20 : ((Rows.areaDualRow.ifacesOut == Tryz.f18.resultTypes.toList.any (Tryz.prog.ifacesRec ·))) = true := by kernel_rfl
theorem areaDual_j21 : ((Rows.areaDualRow.loopsOut == Tryz.f18.resultTypes.toList.any (Tryz.prog.loopsFrom ·))) = true := by kernel_rfl
theorem areaDual_j22 : ((Rows.areaDualRow.plainKeys == Tryz.prog.plainKeys)) = true := by rw [Tryz.fact22]; rfl
theorem areaDual_j23 : (Rows.areaDualRow.shortTexts.isNone) = true := by kernel_rfl
theorem areaDual_j26 : ((Rows.areaDualRow.lifted == Tryz.prog.liftsFinal)) = true := by rw [Tryz.fact26]; rfl
theorem areaDual_j27 : ((Tryz.prog.make == some Rows.areaDualRow.make)) = true := by rw [Tryz.fact27]; rfl
theorem areaDual_j28 : ((Rows.areaDualRow.kinds == (if Rows.areaDualRow.domain.isEmpty then [] else Tryz.f18.params.toList.map fun t => match Tryz.prog.underlying t with | some (.int k) => some k | _ => none))) = true := by kernel_rfl
theorem areaDual_j29 : ((Rows.areaDualRow.pinned == Rows.areaDualRow.pinnedBy)) = true := by kernel_rfl
theorem areaDual_j30 : ((Rows.areaDualRow.veiled == (Tryz.f18.params.toList ++ Rows.areaDualSpec.plain.varTypes Tryz.prog ++ Tryz.f18.resultTypes.toList).any (Tryz.prog.veiledRec ·))) = true := by kernel_rfl
theorem areaDual_j31 : (Rows.areaDualRow.veiledFits Tryz.prog Tryz.f18.params.toList (Tryz.f18.params.toList ++ Rows.areaDualSpec.plain.varTypes Tryz.prog ++ Tryz.f18.resultTypes.toList)) = true := by kernel_rfl
set_option maxRecDepth 100000 in
theorem areaDual_closed : joinedFacts Tryz.prog 18 Tryz.f18 Rows.areaDualSpec Rows.areaDualRow = true := by
  unfold joinedFacts
  exact (and2 (and2 (and2 (and2 (and2 (and2 (and2 (and2 (and2 (and2 (and2 (and2 (and2 (and2 (and2 (and2 (and2 (and2 (and2 (and2 (and2 (and2 (and2 (and2 (and2 (and2 (and2 (and2 (and2 (and2 (and2 areaDual_j0 Tryz.fact1) Tryz.fact2) areaDual_j3) areaDual_j4) areaDual_j5) Tryz.fact6) areaDual_j7) Tryz.fact8) areaDual_j9) areaDual_j10) areaDual_j11) areaDual_j12) areaDual_j13) areaDual_j14) areaDual_j15) areaDual_j16) areaDual_j17) areaDual_j18) areaDual_j19) areaDual_j20) areaDual_j21) areaDual_j22) areaDual_j23) Tryz.fact24) Tryz.fact25) areaDual_j26) areaDual_j27) areaDual_j28) areaDual_j29) areaDual_j30) areaDual_j31)
theorem areaDual_named : Tryz.prog.funcNamed Rows.areaDualRow.func = some 18 := by kernel_rfl
theorem areaDual_instance : Tryz.f18.isInstance Tryz.prog Rows.areaDualRow.origin Rows.areaDualRow.targs := of_decide_eq_true (by kernel_rfl)
theorem areaDual_wrapper : Tryz.f18.isWrapper Tryz.prog Rows.areaDualRow.wrapper Rows.areaDualRow.mainSum := by unfold Func.isWrapper; first | (rw [if_pos (by decide +kernel)]; kernel_rfl) | (rw [if_neg (by decide +kernel)]; exact ⟨rfl, rfl⟩)

set_option maxRecDepth 100000 in
theorem areaDual_over : Rows.areaDualRow.holds Tryz.pinned (OpenSpec.ofChange Rows.areaDualSpec) :=
  OpenClaim.holds_of_wide 18 Tryz.f18 rfl rfl rfl rfl rfl rfl rfl ⟨rfl, rfl, rfl, rfl, rfl⟩ rfl rfl rfl rfl rfl areaDual_named Tryz.func18 areaDual_closed areaDual_instance areaDual_wrapper
    (fun os started H enc _ => areaDual_lifted os started H enc)

/-- THE STATEMENT. -/
theorem areaDual_holds : Rows.AreaDualSaid := areaDual_over

end Go.Proofs.YthjmkmjojlfejaaGreat
