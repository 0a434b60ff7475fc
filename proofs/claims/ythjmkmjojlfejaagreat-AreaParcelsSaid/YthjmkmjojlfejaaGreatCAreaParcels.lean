/- The law AreaParcels: for every input the call returns true, and its arguments read as before. No conditions. -/
import Derived.Test.YthjmkmjojlfejaaGreatB04
import Derived.Test.YthjmkmjojlfejaaGreatB03
import Derived.Test.YthjmkmjojlfejaaGreatB02
import Derived.Test.YthjmkmjojlfejaaGreatB01
import Derived.Shelf.Small.Bits
import Derived.Shelf.Small.Wraps
import Derived.Shelf.Strconv.Itoa0
import Derived.Shelf.Sort.Plain
import Derived.Shelf.Slices.Turned
import Derived.Ground.Names2Prog
import Derived.Shelf.Slices.CompactI
import Derived.Shelf.Slices.SearchI
import Derived.Shelf.Slices.Cells
import Derived.Shelf.Slices.In.SortNone
import Derived.Test.YthjmkmjojlfejaaGreatProg
import Derived.WalkKit
import Derived.Handy
import Derived.RangeFuncRecord
import Derived.Shelf.Abstract
import Derived.Deep.QuietTactic
import Derived.BigQuiet
import Derived.Laws.CopyOwn
import Derived.WalkSmall
import Derived.RangeFuncNested
import Derived.RangeFuncBound
import Derived.RangeFuncCalls
import Derived.RangeFuncLeaves
import Derived.Shelf.RegionOpen
import Derived.OwnWalkIn
import Derived.TacticsInMore
import Derived.LoopNIn
import Derived.LoopIn
import Derived.Maps.AppendAt
import Derived.Deep.Onto
import Derived.OrdersHeld
import Derived.Deep.LoopGhost
import Derived.Deep.WholeRow
import Derived.Deep.OwnRows
import Derived.StillTailTactics
import Derived.Great.Walk
import Derived.Great.BuildSlice
import Derived.WalkMore
import Derived.Deep.MidRow
import Derived.Deep.RegionHeld3
import Derived.Deep.DeepCutAuto
import Derived.Lib.OwnBridge
import Derived.Lib.SliceRun
import Derived.WalkSpells
import Derived.Deep.RegionWith
import Derived.Lib.AppendZerosOnto
import Derived.Deep.CutBlock
import Derived.IntWalk
import Derived.Test.YthjmkmjojlfejaaGreatB05
import Derived.Test.YthjmkmjojlfejaaGreatB07
import Derived.Test.YthjmkmjojlfejaaGreatB06
import Derived.Test.YthjmkmjojlfejaaGreatB13
import Derived.Test.YthjmkmjojlfejaaGreatB09
import Derived.Test.YthjmkmjojlfejaaGreatB08
import Derived.Test.YthjmkmjojlfejaaGreatB10
import Derived.Test.YthjmkmjojlfejaaGreatB14
import Derived.Test.YthjmkmjojlfejaaGreatRows
import Derived.ProofKit
import Derived.OpenShut
import Derived.Carry
import Derived.Lib.SmallJoins
import Derived.Deep.Slices
import Derived.RangeFuncBox
import Derived.Scope
import Derived.Test.YthjmkmjojlfejaaGreatB12
import Derived.Test.YthjmkmjojlfejaaGreatB11
import Derived.ChangeMaps5
import Derived.Test.YthjmkmjojlfejaaGreatXAreaParcels
namespace Go.Proofs.YthjmkmjojlfejaaGreat
open Go Go.ChangeShapes Go.WideShapes Go.ChangeAt Go.RowKit

set_option maxRecDepth 100000 in
theorem areaParcels_lifted (os : Os) (started : os.Started) (H : Type) (enc : TypeId × Value → H) :
    ReturnsInHanded {} Tryz.checked os 12 .any (Rows.areaParcelsSpec.pre6 enc Tryz.prog Tryz.f12 Rows.areaParcelsRow.domain false) (Rows.areaParcelsSpec.post enc Tryz.prog Tryz.f12 false true false false) := by
  refine returnsInHanded_of_change (C := Tryz.checked) Tryz.own started (by kernel_rfl) Tryz.func12
    (ChangeSpec.witness6 (enc := enc) (C := Tryz.checked) false ⟨#[], #[.agg #[.slice none 0 0, .slice none 0 0, .slice none 0 0, .slice none 0 0], .int .i64 0, .slice none 0 0], []⟩ 8 (by kernel_rfl) (by kernel_rfl) (by kernel_rfl) (by kernel_rfl)) ?_
  intro W base args ds gs before hval0 hW hcnd _
  have hval : ∀ (j : Nat) t v, Tryz.f12.params[j]? = some t → args[j]? = some v → Value.okWide Tryz.prog W .any base t v := hval0
  have hW' := hW
  obtain ⟨p, q, hA0, hV, rfl, hfz, hnd⟩ := hW
  have hA : DataW.TrodAll enc Tryz.prog W 0 (fun _ => true) true Tryz.f12.params.toList args.toList ds p := hA0
  rw [Tryz.params12] at hA hval
  obtain ⟨v0, vs0, d0, ds0, p0, q0, hargs, rfl, rfl, h0, r0⟩ := trodAll_cons hA
  obtain ⟨v1, vs1, d1, ds1, p1, q1, rfl, rfl, rfl, h1, r1⟩ := trodAll_cons r0
  obtain ⟨v2, vs2, d2, ds2, p2, q2, rfl, rfl, rfl, h2, r2⟩ := trodAll_cons r1
  obtain ⟨rfl, rfl, rfl⟩ := trodAll_nil r2
  obtain rfl : args = #[v0, v1, v2] := by cases args; simp_all
  obtain ⟨rfl, rfl⟩ := trodVars_none hV
  obtain ⟨x0, F0, rfl, hF0⟩ := open_fld (hval 0 46 v0 rfl rfl) h0
  obtain ⟨n1, rfl, hn1⟩ := open_num (hval 1 3 v1 rfl rfl) h1
  obtain ⟨a2, cap2, y2, rfl, hY2, hZ2, hm2, hyo2⟩ := open_list (hval 2 25 v2 rfl rfl) h2
  refine (areaParcels_of alive_any W x0 F0 n1 a2 cap2 y2 hF0 hm2 hY2).mono fun e W' ⟨he, hg⟩ => ?_
  subst he
  refine ⟨_, rfl, law_post hW' hg (by kernel_rfl) ?_ rfl rfl⟩
  intro t ht
  rw [Tryz.params12] at ht
  simp only [List.mem_cons, List.not_mem_nil, or_false] at ht
  rcases ht with rfl | rfl | rfl
  · exact argOk46
  · exact argOk3
  · exact argOk27

/-! The row's closed facts, each by itself. -/
theorem areaParcels_j0 : (Rows.areaParcelsRow.wf (OpenSpec.ofChange Rows.areaParcelsSpec)) = true := by kernel_rfl
theorem areaParcels_j3 : (Tryz.f12.params.all (Tryz.prog.readableRec ·)) = true := by kernel_rfl
theorem areaParcels_j4 : (namedTie Tryz.prog Rows.areaParcelsRow.named Rows.areaParcelsSpec.vars) = true := by kernel_rfl
theorem areaParcels_j5 : ((Rows.areaParcelsRow.stops == [])) = true := by kernel_rfl
theorem areaParcels_j7 : ((Rows.areaParcelsRow.knobs == [])) = true := by kernel_rfl
theorem areaParcels_j9 : ((Rows.areaParcelsRow.inPlace == Tryz.prog.inPlace 12)) = true := by kernel_rfl
theorem areaParcels_j10 : ((Rows.areaParcelsRow.unfollowed == Tryz.prog.unfollowed 12)) = true := by kernel_rfl
theorem areaParcels_j11 : ((Rows.areaParcelsRow.recurses == Tryz.prog.recurses 12)) = true := by kernel_rfl
theorem areaParcels_j12 : ((Rows.areaParcelsRow.named == Tryz.prog.varsNamed 12)) = true := by kernel_rfl
theorem areaParcels_j13 : ((Rows.areaParcelsRow.maps == (Tryz.f12.params.toList ++ Rows.areaParcelsSpec.plain.varTypes Tryz.prog).any (Tryz.prog.mapsRec ·))) = true := by kernel_rfl
theorem areaParcels_j14 : ((Rows.areaParcelsRow.ifaces == (Tryz.f12.params.toList ++ Rows.areaParcelsSpec.plain.varTypes Tryz.prog).any (Tryz.prog.ifacesRec ·))) = true := by kernel_rfl
theorem areaParcels_j15 : ((Rows.areaParcelsRow.mapsOut == Tryz.prog.mapsAmong Tryz.f12.resultTypes.toList)) = true := by kernel_rfl
theorem areaParcels_j16 : ((Rows.areaParcelsRow.loops == (Tryz.f12.params.toList ++ Rows.areaParcelsSpec.plain.varTypes Tryz.prog).any (Tryz.prog.loopsFrom ·))) = true := by kernel_rfl
theorem areaParcels_j17 : ((Rows.areaParcelsRow.wideKeys == (Tryz.f12.params.toList ++ Rows.areaParcelsSpec.plain.varTypes Tryz.prog ++ Tryz.f12.resultTypes.toList).any (Tryz.prog.wideKeysFrom ·))) = true := by kernel_rfl
theorem areaParcels_j18 : (Rows.areaParcelsSpec.vars.all (Tryz.prog.varReadable ·)) = true := by kernel_rfl
theorem areaParcels_j19 : (Tryz.f12.resultTypes.all (fun t => Tryz.prog.readableRec t && decide (t < Tryz.prog.types.size))) = true := by kernel_rfl
theorem areaParcels_j20 : ((Rows.areaParcelsRow.ifacesOut == Tryz.f12.resultTypes.toList.any (Tryz.prog.ifacesRec ·))) = true := by kernel_rfl
theorem areaParcels_j21 : ((Rows.areaParcelsRow.loopsOut == Tryz.f12.resultTypes.toList.any (Tryz.prog.loopsFrom ·))) = true := by kernel_rfl
theorem areaParcels_j22 : ((Rows.areaParcelsRow.plainKeys == Tryz.prog.plainKeys)) = true := by rw [Tryz.fact22]; rfl
theorem areaParcels_j23 : (Rows.areaParcelsRow.shortTexts.isNone) = true := by kernel_rfl
theorem areaParcels_j26 : ((Rows.areaParcelsRow.lifted == Tryz.prog.liftsFinal)) = true := by rw [Tryz.fact26]; rfl
theorem areaParcels_j27 : ((Tryz.prog.make == some Rows.areaParcelsRow.make)) = true := by rw [Tryz.fact27]; rfl
theorem areaParcels_j28 : ((Rows.areaParcelsRow.kinds == (if Rows.areaParcelsRow.domain.isEmpty then [] else Tryz.f12.params.toList.map fun t => match Tryz.prog.underlying t with | some (.int k) => some k | _ => none))) = true := by kernel_rfl
theorem areaParcels_j29 : ((Rows.areaParcelsRow.pinned == Rows.areaParcelsRow.pinnedBy)) = true := by kernel_rfl
theorem areaParcels_j30 : ((Rows.areaParcelsRow.veiled == (Tryz.f12.params.toList ++ Rows.areaParcelsSpec.plain.varTypes Tryz.prog ++ Tryz.f12.resultTypes.toList).any (Tryz.prog.veiledRec ·))) = true := by kernel_rfl
theorem areaParcels_j31 : (Rows.areaParcelsRow.veiledFits Tryz.prog Tryz.f12.params.toList (Tryz.f12.params.toList ++ Rows.areaParcelsSpec.plain.varTypes Tryz.prog ++ Tryz.f12.resultTypes.toList)) = true := by kernel_rfl
set_option maxRecDepth 100000 in
theorem areaParcels_closed : joinedFacts Tryz.prog 12 Tryz.f12 Rows.areaParcelsSpec Rows.areaParcelsRow = true := by
  unfold joinedFacts
  exact (and2 (and2 (and2 (and2 (and2 (and2 (and2 (and2 (and2 (and2 (and2 (and2 (and2 (and2 (and2 (and2 (and2 (and2 (and2 (and2 (and2 (and2 (and2 (and2 (and2 (and2 (and2 (and2 (and2 (and2 (and2 areaParcels_j0 Tryz.fact1) Tryz.fact2) areaParcels_j3) areaParcels_j4) areaParcels_j5) Tryz.fact6) areaParcels_j7) Tryz.fact8) areaParcels_j9) areaParcels_j10) areaParcels_j11) areaParcels_j12) areaParcels_j13) areaParcels_j14) areaParcels_j15) areaParcels_j16) areaParcels_j17) areaParcels_j18) areaParcels_j19) areaParcels_j20) areaParcels_j21) areaParcels_j22) areaParcels_j23) Tryz.fact24) Tryz.fact25) areaParcels_j26) areaParcels_j27) areaParcels_j28) areaParcels_j29) areaParcels_j30) areaParcels_j31)
theorem areaParcels_named : Tryz.prog.funcNamed Rows.areaParcelsRow.func = some 12 := by kernel_rfl
theorem areaParcels_instance : Tryz.f12.isInstance Tryz.prog Rows.areaParcelsRow.origin Rows.areaParcelsRow.targs := of_decide_eq_true (by kernel_rfl)
theorem areaParcels_wrapper : Tryz.f12.isWrapper Tryz.prog Rows.areaParcelsRow.wrapper Rows.areaParcelsRow.mainSum := by unfold Func.isWrapper; first | (rw [if_pos (by decide +kernel)]; kernel_rfl) | (rw [if_neg (by decide +kernel)]; exact ⟨rfl, rfl⟩)

set_option maxRecDepth 100000 in
theorem areaParcels_over : Rows.areaParcelsRow.holds Tryz.pinned (OpenSpec.ofChange Rows.areaParcelsSpec) :=
  OpenClaim.holds_of_wide 12 Tryz.f12 rfl rfl rfl rfl rfl rfl rfl ⟨rfl, rfl, rfl, rfl, rfl⟩ rfl rfl rfl rfl rfl areaParcels_named Tryz.func12 areaParcels_closed areaParcels_instance areaParcels_wrapper
    (fun os started H enc _ => areaParcels_lifted os started H enc)

/-- THE STATEMENT. -/
theorem areaParcels_holds : Rows.AreaParcelsSaid := areaParcels_over

end Go.Proofs.YthjmkmjojlfejaaGreat
