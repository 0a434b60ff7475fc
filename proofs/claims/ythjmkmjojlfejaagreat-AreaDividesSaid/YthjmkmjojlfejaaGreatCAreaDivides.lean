/- The law AreaDivides: for every input the call returns true, and its arguments read as before. No conditions. -/
import Derived.Test.YthjmkmjojlfejaaGreatB07
import Derived.Test.YthjmkmjojlfejaaGreatB05
import Derived.Test.YthjmkmjojlfejaaGreatB01
import Derived.Test.YthjmkmjojlfejaaGreatB04
import Derived.Test.YthjmkmjojlfejaaGreatB03
import Derived.Test.YthjmkmjojlfejaaGreatB02
import Derived.Shelf.Small.Bits
import Derived.Shelf.Small.Wraps
import Derived.Shelf.Strconv.Itoa0
import Derived.Shelf.Sort.Plain
import Derived.Shelf.Slices.Turned
import Derived.Ground.Names2Prog
import Derived.Shelf.Slices.CompactI
import Derived.Shelf.Slices.SearchI
import Derived.Shelf.Slices.Cells
import Derived.Shelf.Slices.In.SortNone
import Derived.Test.YthjmkmjojlfejaaGreatProg
import Derived.WalkKit
import Derived.Handy
import Derived.RangeFuncRecord
import Derived.Shelf.Abstract
import Derived.Deep.QuietTactic
import Derived.BigQuiet
import Derived.Laws.CopyOwn
import Derived.WalkSmall
import Derived.RangeFuncNested
import Derived.RangeFuncBound
import Derived.RangeFuncCalls
import Derived.RangeFuncLeaves
import Derived.Shelf.RegionOpen
import Derived.OwnWalkIn
import Derived.TacticsInMore
import Derived.LoopNIn
import Derived.LoopIn
import Derived.Maps.AppendAt
import Derived.Deep.Onto
import Derived.OrdersHeld
import Derived.Deep.LoopGhost
import Derived.Deep.WholeRow
import Derived.Deep.OwnRows
import Derived.StillTailTactics
import Derived.Great.Walk
import Derived.Great.BuildSlice
import Derived.WalkMore
import Derived.Deep.MidRow
import Derived.Deep.RegionHeld3
import Derived.Deep.DeepCutAuto
import Derived.Lib.OwnBridge
import Derived.Lib.SliceRun
import Derived.WalkSpells
import Derived.Deep.RegionWith
import Derived.Lib.AppendZerosOnto
import Derived.Deep.CutBlock
import Derived.IntWalk
import Derived.Test.YthjmkmjojlfejaaGreatB06
import Derived.Test.YthjmkmjojlfejaaGreatB08
import Derived.Test.YthjmkmjojlfejaaGreatB10
import Derived.Test.YthjmkmjojlfejaaGreatB09
import Derived.Test.YthjmkmjojlfejaaGreatB13
import Derived.Test.YthjmkmjojlfejaaGreatB14
import Derived.Test.YthjmkmjojlfejaaGreatRows
import Derived.ProofKit
import Derived.OpenShut
import Derived.Carry
import Derived.Lib.SmallJoins
import Derived.Deep.Slices
import Derived.RangeFuncBox
import Derived.Scope
import Derived.Test.YthjmkmjojlfejaaGreatB12
import Derived.Test.YthjmkmjojlfejaaGreatB11
import Derived.ChangeMaps5
import Derived.Test.YthjmkmjojlfejaaGreatXAreaDivides
namespace Go.Proofs.YthjmkmjojlfejaaGreat
open Go Go.ChangeShapes Go.WideShapes Go.ChangeAt Go.RowKit

set_option maxRecDepth 100000 in
theorem areaDivides_lifted (os : Os) (started : os.Started) (H : Type) (enc : TypeId × Value → H) :
    ReturnsInHanded {} Tryz.checked os 11 .any (Rows.areaDividesSpec.pre6 enc Tryz.prog Tryz.f11 Rows.areaDividesRow.domain false) (Rows.areaDividesSpec.post enc Tryz.prog Tryz.f11 false true false false) := by
  refine returnsInHanded_of_change (C := Tryz.checked) Tryz.own started (by kernel_rfl) Tryz.func11
    (ChangeSpec.witness6 (enc := enc) (C := Tryz.checked) false ⟨#[], #[.agg #[.slice none 0 0, .slice none 0 0, .slice none 0 0, .slice none 0 0], .slice none 0 0, .int .i64 0, .slice none 0 0], []⟩ 8 (by kernel_rfl) (by kernel_rfl) (by kernel_rfl) (by kernel_rfl)) ?_
  intro W base args ds gs before hval0 hW hcnd _
  have hval : ∀ (j : Nat) t v, Tryz.f11.params[j]? = some t → args[j]? = some v → Value.okWide Tryz.prog W .any base t v := hval0
  have hW' := hW
  obtain ⟨p, q, hA0, hV, rfl, hfz, hnd⟩ := hW
  have hA : DataW.TrodAll enc Tryz.prog W 0 (fun _ => true) true Tryz.f11.params.toList args.toList ds p := hA0
  rw [Tryz.params11] at hA hval
  obtain ⟨v0, vs0, d0, ds0, p0, q0, hargs, rfl, rfl, h0, r0⟩ := trodAll_cons hA
  obtain ⟨v1, vs1, d1, ds1, p1, q1, rfl, rfl, rfl, h1, r1⟩ := trodAll_cons r0
  obtain ⟨v2, vs2, d2, ds2, p2, q2, rfl, rfl, rfl, h2, r2⟩ := trodAll_cons r1
  obtain ⟨v3, vs3, d3, ds3, p3, q3, rfl, rfl, rfl, h3, r3⟩ := trodAll_cons r2
  obtain ⟨rfl, rfl, rfl⟩ := trodAll_nil r3
  obtain rfl : args = #[v0, v1, v2, v3] := by cases args; simp_all
  obtain ⟨rfl, rfl⟩ := trodVars_none hV
  obtain ⟨x0, F0, rfl, hF0⟩ := open_fld (hval 0 46 v0 rfl rfl) h0
  obtain ⟨a1, cap1, y1, rfl, hY1, hZ1, hm1, hyo1⟩ := open_list (hval 1 25 v1 rfl rfl) h1
  obtain ⟨n2, rfl, hn2⟩ := open_num (hval 2 3 v2 rfl rfl) h2
  obtain ⟨a3, cap3, y3, rfl, hY3, hZ3, hm3, hyo3⟩ := open_list (hval 3 25 v3 rfl rfl) h3
  refine (areaDivides_of alive_any W x0 F0 a1 cap1 y1 n2 a3 cap3 y3 hF0 hm1 hY1 hm3 hY3).mono fun e W' ⟨he, hg⟩ => ?_
  subst he
  refine ⟨_, rfl, law_post hW' hg (by kernel_rfl) ?_ rfl rfl⟩
  intro t ht
  rw [Tryz.params11] at ht
  simp only [List.mem_cons, List.not_mem_nil, or_false] at ht
  rcases ht with rfl | rfl | rfl | rfl
  · exact argOk46
  · exact argOk27
  · exact argOk3
  · exact argOk27

/-! The row's closed facts, each by itself. -/
theorem areaDivides_j0 : (Rows.areaDividesRow.wf (OpenSpec.ofChange Rows.areaDividesSpec)) = true := by kernel_rfl
theorem areaDivides_j3 : (Tryz.f11.params.all (Tryz.prog.readableRec ·)) = true := by kernel_rfl
theorem areaDivides_j4 : (namedTie Tryz.prog Rows.areaDividesRow.named Rows.areaDividesSpec.vars) = true := by kernel_rfl
theorem areaDivides_j5 : ((Rows.areaDividesRow.stops == [])) = true := by kernel_rfl
theorem areaDivides_j7 : ((Rows.areaDividesRow.knobs == [])) = true := by kernel_rfl
theorem areaDivides_j9 : ((Rows.areaDividesRow.inPlace == Tryz.prog.inPlace 11)) = true := by kernel_rfl
theorem areaDivides_j10 : ((Rows.areaDividesRow.unfollowed == Tryz.prog.unfollowed 11)) = true := by kernel_rfl
theorem areaDivides_j11 : ((Rows.areaDividesRow.recurses == Tryz.prog.recurses 11)) = true := by kernel_rfl
theorem areaDivides_j12 : ((Rows.areaDividesRow.named == Tryz.prog.varsNamed 11)) = true := by kernel_rfl
theorem areaDivides_j13 : ((Rows.areaDividesRow.maps == (Tryz.f11.params.toList ++ Rows.areaDividesSpec.plain.varTypes Tryz.prog).any (Tryz.prog.mapsRec ·))) = true := by kernel_rfl
theorem areaDivides_j14 : ((Rows.areaDividesRow.ifaces == (Tryz.f11.params.toList ++ Rows.areaDividesSpec.plain.varTypes Tryz.prog).any (Tryz.prog.ifacesRec ·))) = true := by kernel_rfl
theorem areaDivides_j15 : ((Rows.areaDividesRow.mapsOut == Tryz.prog.mapsAmong Tryz.f11.resultTypes.toList)) = true := by kernel_rfl
theorem areaDivides_j16 : ((Rows.areaDividesRow.loops == (Tryz.f11.params.toList ++ Rows.areaDividesSpec.plain.varTypes Tryz.prog).any (Tryz.prog.loopsFrom ·))) = true := by kernel_rfl
theorem areaDivides_j17 : ((Rows.areaDividesRow.wideKeys == (Tryz.f11.params.toList ++ Rows.areaDividesSpec.plain.varTypes Tryz.prog ++ Tryz.f11.resultTypes.toList).any (Tryz.prog.wideKeysFrom ·))) = true := by kernel_rfl
theorem areaDivides_j18 : (Rows.areaDividesSpec.vars.all (Tryz.prog.varReadable ·)) = true := by kernel_rfl
theorem areaDivides_j19 : (Tryz.f11.resultTypes.all (fun t => Tryz.prog.readableRec t && decide (t < Tryz.prog.types.size))) = true := by kernel_rfl
theorem areaDivides_j20 : ((Rows.areaDividesRow.ifacesOut == Tryz.f11.resultTypes.toList.any (Tryz.prog.ifacesRec ·))) = true := by kernel_rfl
theorem areaDivides_j21 : ((Rows.areaDividesRow.loopsOut == Tryz.f11.resultTypes.toList.any (Tryz.prog.loopsFrom ·))) = true := by kernel_rfl
theorem areaDivides_j22 : ((Rows.areaDividesRow.plainKeys == Tryz.prog.plainKeys)) = true := by rw [Tryz.fact22]; rfl
theorem areaDivides_j23 : (Rows.areaDividesRow.shortTexts.isNone) = true := by kernel_rfl
theorem areaDivides_j26 : ((Rows.areaDividesRow.lifted == Tryz.prog.liftsFinal)) = true := by rw [Tryz.fact26]; rfl
theorem areaDivides_j27 : ((Tryz.prog.make == some Rows.areaDividesRow.make)) = true := by rw [Tryz.fact27]; rfl
theorem areaDivides_j28 : ((Rows.areaDividesRow.kinds == (if Rows.areaDividesRow.domain.isEmpty then [] else Tryz.f11.params.toList.map fun t => match Tryz.prog.underlying t with | some (.int k) => some k | _ => none))) = true := by kernel_rfl
theorem areaDivides_j29 : ((Rows.areaDividesRow.pinned == Rows.areaDividesRow.pinnedBy)) = true := by kernel_rfl
theorem areaDivides_j30 : ((Rows.areaDividesRow.veiled == (Tryz.f11.params.toList ++ Rows.areaDividesSpec.plain.varTypes Tryz.prog ++ Tryz.f11.resultTypes.toList).any (Tryz.prog.veiledRec ·))) = true := by kernel_rfl
theorem areaDivides_j31 : (Rows.areaDividesRow.veiledFits Tryz.prog Tryz.f11.params.toList (Tryz.f11.params.toList ++ Rows.areaDividesSpec.plain.varTypes Tryz.prog ++ Tryz.f11.resultTypes.toList)) = true := by kernel_rfl
set_option maxRecDepth 100000 in
theorem areaDivides_closed : joinedFacts Tryz.prog 11 Tryz.f11 Rows.areaDividesSpec Rows.areaDividesRow = true := by
  unfold joinedFacts
  exact (and2 (and2 (and2 (and2 (and2 (and2 (and2 (and2 (and2 (and2 (and2 (and2 (and2 (and2 (and2 (and2 (and2 (and2 (and2 (and2 (and2 (and2 (and2 (and2 (and2 (and2 (and2 (and2 (and2 (and2 (and2 areaDivides_j0 Tryz.fact1) Tryz.fact2) areaDivides_j3) areaDivides_j4) areaDivides_j5) Tryz.fact6) areaDivides_j7) Tryz.fact8) areaDivides_j9) areaDivides_j10) areaDivides_j11) areaDivides_j12) areaDivides_j13) areaDivides_j14) areaDivides_j15) areaDivides_j16) areaDivides_j17) areaDivides_j18) areaDivides_j19) areaDivides_j20) areaDivides_j21) areaDivides_j22) areaDivides_j23) Tryz.fact24) Tryz.fact25) areaDivides_j26) areaDivides_j27) areaDivides_j28) areaDivides_j29) areaDivides_j30) areaDivides_j31)
theorem areaDivides_named : Tryz.prog.funcNamed Rows.areaDividesRow.func = some 11 := by kernel_rfl
theorem areaDivides_instance : Tryz.f11.isInstance Tryz.prog Rows.areaDividesRow.origin Rows.areaDividesRow.targs := of_decide_eq_true (by kernel_rfl)
theorem areaDivides_wrapper : Tryz.f11.isWrapper Tryz.prog Rows.areaDividesRow.wrapper Rows.areaDividesRow.mainSum := by unfold Func.isWrapper; first | (rw [if_pos (by decide +kernel)]; kernel_rfl) | (rw [if_neg (by decide +kernel)]; exact ⟨rfl, rfl⟩)

set_option maxRecDepth 100000 in
theorem areaDivides_over : Rows.areaDividesRow.holds Tryz.pinned (OpenSpec.ofChange Rows.areaDividesSpec) :=
  OpenClaim.holds_of_wide 11 Tryz.f11 rfl rfl rfl rfl rfl rfl rfl ⟨rfl, rfl, rfl, rfl, rfl⟩ rfl rfl rfl rfl rfl areaDivides_named Tryz.func11 areaDivides_closed areaDivides_instance areaDivides_wrapper
    (fun os started H enc _ => areaDivides_lifted os started H enc)

/-- THE STATEMENT. -/
theorem areaDivides_holds : Rows.AreaDividesSaid := areaDivides_over

end Go.Proofs.YthjmkmjojlfejaaGreat
