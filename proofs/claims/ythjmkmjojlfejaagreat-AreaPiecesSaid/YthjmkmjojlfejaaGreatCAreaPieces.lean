/- The law AreaPieces: for every input the call returns true, and its arguments read as before. No conditions. -/
import Derived.Test.YthjmkmjojlfejaaGreatB12
import Derived.Test.YthjmkmjojlfejaaGreatB11
import Derived.Test.YthjmkmjojlfejaaGreatB10
import Derived.Test.YthjmkmjojlfejaaGreatB03
import Derived.Test.YthjmkmjojlfejaaGreatB01
import Derived.Test.YthjmkmjojlfejaaGreatB02
import Derived.Test.YthjmkmjojlfejaaGreatB13
import Derived.Test.YthjmkmjojlfejaaGreatProg
import Derived.WalkKit
import Derived.Handy
import Derived.RangeFuncRecord
import Derived.Shelf.Abstract
import Derived.Deep.QuietTactic
import Derived.BigQuiet
import Derived.Laws.CopyOwn
import Derived.WalkSmall
import Derived.RangeFuncNested
import Derived.RangeFuncBound
import Derived.RangeFuncCalls
import Derived.RangeFuncLeaves
import Derived.Shelf.RegionOpen
import Derived.OwnWalkIn
import Derived.TacticsInMore
import Derived.LoopNIn
import Derived.LoopIn
import Derived.Test.YthjmkmjojlfejaaGreatB09
import Derived.Shelf.Small.Bits
import Derived.Shelf.Small.Wraps
import Derived.Shelf.Strconv.Itoa0
import Derived.Shelf.Sort.Plain
import Derived.Shelf.Slices.Turned
import Derived.Ground.Names2Prog
import Derived.Shelf.Slices.CompactI
import Derived.Shelf.Slices.SearchI
import Derived.Shelf.Slices.Cells
import Derived.Shelf.Slices.In.SortNone
import Derived.Maps.AppendAt
import Derived.Deep.Onto
import Derived.OrdersHeld
import Derived.Deep.LoopGhost
import Derived.Deep.WholeRow
import Derived.Deep.OwnRows
import Derived.StillTailTactics
import Derived.Great.Walk
import Derived.Great.BuildSlice
import Derived.WalkMore
import Derived.Deep.MidRow
import Derived.Deep.RegionHeld3
import Derived.Deep.DeepCutAuto
import Derived.Lib.OwnBridge
import Derived.Lib.SliceRun
import Derived.WalkSpells
import Derived.Deep.RegionWith
import Derived.Lib.AppendZerosOnto
import Derived.Deep.CutBlock
import Derived.Test.YthjmkmjojlfejaaGreatB08
import Derived.Test.YthjmkmjojlfejaaGreatB05
import Derived.Test.YthjmkmjojlfejaaGreatB04
import Derived.IntWalk
import Derived.Scope
import Derived.Test.YthjmkmjojlfejaaGreatB07
import Derived.Test.YthjmkmjojlfejaaGreatB06
import Derived.Test.YthjmkmjojlfejaaGreatB15
import Derived.Test.YthjmkmjojlfejaaGreatB16
import Derived.Test.YthjmkmjojlfejaaGreatB14
import Derived.Test.YthjmkmjojlfejaaGreatRows
import Derived.ProofKit
import Derived.OpenShut
import Derived.Carry
import Derived.Lib.SmallJoins
import Derived.Deep.Slices
import Derived.RangeFuncBox
import Derived.ChangeMaps5
import Derived.Test.YthjmkmjojlfejaaGreatXAreaPieces
namespace Go.Proofs.YthjmkmjojlfejaaGreat
open Go Go.ChangeShapes Go.WideShapes Go.ChangeAt Go.RowKit

set_option maxRecDepth 100000 in
theorem areaPieces_lifted (os : Os) (started : os.Started) (H : Type) (enc : TypeId × Value → H) :
    ReturnsInHanded {} Tryz.checked os 16 .any (Rows.areaPiecesSpec.pre6 enc Tryz.prog Tryz.f16 Rows.areaPiecesRow.domain false) (Rows.areaPiecesSpec.post enc Tryz.prog Tryz.f16 false true false false) := by
  refine returnsInHanded_of_change (C := Tryz.checked) Tryz.own started (by kernel_rfl) Tryz.func16
    (ChangeSpec.witness6 (enc := enc) (C := Tryz.checked) false ⟨#[], #[.agg #[.slice none 0 0, .slice none 0 0, .slice none 0 0, .slice none 0 0], .agg #[.int .i64 0, .slice none 0 0], .int .i64 0, .slice none 0 0], []⟩ 8 (by kernel_rfl) (by kernel_rfl) (by kernel_rfl) (by kernel_rfl)) ?_
  intro W base args ds gs before hval0 hW hcnd _
  have hval : ∀ (j : Nat) t v, Tryz.f16.params[j]? = some t → args[j]? = some v → Value.okWide Tryz.prog W .any base t v := hval0
  have hW' := hW
  obtain ⟨p, q, hA0, hV, rfl, hfz, hnd⟩ := hW
  have hA : DataW.TrodAll enc Tryz.prog W 0 (fun _ => true) true Tryz.f16.params.toList args.toList ds p := hA0
  rw [Tryz.params16] at hA hval
  obtain ⟨v0, vs0, d0, ds0, p0, q0, hargs, rfl, rfl, h0, r0⟩ := trodAll_cons hA
  obtain ⟨v1, vs1, d1, ds1, p1, q1, rfl, rfl, rfl, h1, r1⟩ := trodAll_cons r0
  obtain ⟨v2, vs2, d2, ds2, p2, q2, rfl, rfl, rfl, h2, r2⟩ := trodAll_cons r1
  obtain ⟨v3, vs3, d3, ds3, p3, q3, rfl, rfl, rfl, h3, r3⟩ := trodAll_cons r2
  obtain ⟨rfl, rfl, rfl⟩ := trodAll_nil r3
  obtain rfl : args = #[v0, v1, v2, v3] := by cases args; simp_all
  obtain ⟨rfl, rfl⟩ := trodVars_none hV
  obtain ⟨x0, F0, rfl, hF0⟩ := open_fld (hval 0 46 v0 rfl rfl) h0
  obtain ⟨N1, a1, cap1, bs1, rfl, hN1, hB1, hS1, hl1, hok1⟩ := open_sys (hval 1 24 v1 rfl rfl) h1
  obtain ⟨n2, rfl, hn2⟩ := open_num (hval 2 3 v2 rfl rfl) h2
  obtain ⟨a3, cap3, y3, rfl, hY3, hZ3, hm3, hyo3⟩ := open_list (hval 3 25 v3 rfl rfl) h3
  refine (areaPieces_of alive_any W x0 F0 N1 a1 cap1 bs1 n2 a3 cap3 y3 hF0 hN1 hl1 hB1 hm3 hY3).mono fun e W' ⟨he, hg⟩ => ?_
  subst he
  refine ⟨_, rfl, law_post hW' hg (by kernel_rfl) ?_ rfl rfl⟩
  intro t ht
  rw [Tryz.params16] at ht
  simp only [List.mem_cons, List.not_mem_nil, or_false] at ht
  rcases ht with rfl | rfl | rfl | rfl
  · exact argOk46
  · exact argOk24
  · exact argOk3
  · exact argOk27

/-! The row's closed facts, each by itself. -/
theorem areaPieces_j0 : (Rows.areaPiecesRow.wf (OpenSpec.ofChange Rows.areaPiecesSpec)) = true := by kernel_rfl
theorem areaPieces_j3 : (Tryz.f16.params.all (Tryz.prog.readableRec ·)) = true := by kernel_rfl
theorem areaPieces_j4 : (namedTie Tryz.prog Rows.areaPiecesRow.named Rows.areaPiecesSpec.vars) = true := by kernel_rfl
theorem areaPieces_j5 : ((Rows.areaPiecesRow.stops == [])) = true := by kernel_rfl
theorem areaPieces_j7 : ((Rows.areaPiecesRow.knobs == [])) = true := by kernel_rfl
theorem areaPieces_j9 : ((Rows.areaPiecesRow.inPlace == Tryz.prog.inPlace 16)) = true := by kernel_rfl
theorem areaPieces_j10 : ((Rows.areaPiecesRow.unfollowed == Tryz.prog.unfollowed 16)) = true := by kernel_rfl
theorem areaPieces_j11 : ((Rows.areaPiecesRow.recurses == Tryz.prog.recurses 16)) = true := by kernel_rfl
theorem areaPieces_j12 : ((Rows.areaPiecesRow.named == Tryz.prog.varsNamed 16)) = true := by kernel_rfl
theorem areaPieces_j13 : ((Rows.areaPiecesRow.maps == (Tryz.f16.params.toList ++ Rows.areaPiecesSpec.plain.varTypes Tryz.prog).any (Tryz.prog.mapsRec ·))) = true := by kernel_rfl
theorem areaPieces_j14 : ((Rows.areaPiecesRow.ifaces == (Tryz.f16.params.toList ++ Rows.areaPiecesSpec.plain.varTypes Tryz.prog).any (Tryz.prog.ifacesRec ·))) = true := by kernel_rfl
theorem areaPieces_j15 : ((Rows.areaPiecesRow.mapsOut == Tryz.prog.mapsAmong Tryz.f16.resultTypes.toList)) = true := by kernel_rfl
theorem areaPieces_j16 : ((Rows.areaPiecesRow.loops == (Tryz.f16.params.toList ++ Rows.areaPiecesSpec.plain.varTypes Tryz.prog).any (Tryz.prog.loopsFrom ·))) = true := by kernel_rfl
theorem areaPieces_j17 : ((Rows.areaPiecesRow.wideKeys == (Tryz.f16.params.toList ++ Rows.areaPiecesSpec.plain.varTypes Tryz.prog ++ Tryz.f16.resultTypes.toList).any (Tryz.prog.wideKeysFrom ·))) = true := by kernel_rfl
theorem areaPieces_j18 : (Rows.areaPiecesSpec.vars.all (Tryz.prog.varReadable ·)) = true := by kernel_rfl
theorem areaPieces_j19 : (Tryz.f16.resultTypes.all (fun t => Tryz.prog.readableRec t && decide (t < Tryz.prog.types.size))) = true := by kernel_rfl
theorem areaPieces_j20 : ((Rows.areaPiecesRow.ifacesOut == Tryz.f16.resultTypes.toList.any (Tryz.prog.ifacesRec ·))) = true := by kernel_rfl
theorem areaPieces_j21 : ((Rows.areaPiecesRow.loopsOut == Tryz.f16.resultTypes.toList.any (Tryz.prog.loopsFrom ·))) = true := by kernel_rfl
theorem areaPieces_j22 : ((Rows.areaPiecesRow.plainKeys == Tryz.prog.plainKeys)) = true := by rw [Tryz.fact22]; rfl
theorem areaPieces_j23 : (Rows.areaPiecesRow.shortTexts.isNone) = true := by kernel_rfl
theorem areaPieces_j26 : ((Rows.areaPiecesRow.lifted == Tryz.prog.liftsFinal)) = true := by rw [Tryz.fact26]; rfl
theorem areaPieces_j27 : ((Tryz.prog.make == some Rows.areaPiecesRow.make)) = true := by rw [Tryz.fact27]; rfl
theorem areaPieces_j28 : ((Rows.areaPiecesRow.kinds == (if Rows.areaPiecesRow.domain.isEmpty then [] else Tryz.f16.params.toList.map fun t => match Tryz.prog.underlying t with | some (.int k) => some k | _ => none))) = true := by kernel_rfl
theorem areaPieces_j29 : ((Rows.areaPiecesRow.pinned == Rows.areaPiecesRow.pinnedBy)) = true := by kernel_rfl
theorem areaPieces_j30 : ((Rows.areaPiecesRow.veiled == (Tryz.f16.params.toList ++ Rows.areaPiecesSpec.plain.varTypes Tryz.prog ++ Tryz.f16.resultTypes.toList).any (Tryz.prog.veiledRec ·))) = true := by kernel_rfl
theorem areaPieces_j31 : (Rows.areaPiecesRow.veiledFits Tryz.prog Tryz.f16.params.toList (Tryz.f16.params.toList ++ Rows.areaPiecesSpec.plain.varTypes Tryz.prog ++ Tryz.f16.resultTypes.toList)) = true := by kernel_rfl
set_option maxRecDepth 100000 in
theorem areaPieces_closed : joinedFacts Tryz.prog 16 Tryz.f16 Rows.areaPiecesSpec Rows.areaPiecesRow = true := by
  unfold joinedFacts
  exact (and2 (and2 (and2 (and2 (and2 (and2 (and2 (and2 (and2 (and2 (and2 (and2 (and2 (and2 (and2 (and2 (and2 (and2 (and2 (and2 (and2 (and2 (and2 (and2 (and2 (and2 (and2 (and2 (and2 (and2 (and2 areaPieces_j0 Tryz.fact1) Tryz.fact2) areaPieces_j3) areaPieces_j4) areaPieces_j5) Tryz.fact6) areaPieces_j7) Tryz.fact8) areaPieces_j9) areaPieces_j10) areaPieces_j11) areaPieces_j12) areaPieces_j13) areaPieces_j14) areaPieces_j15) areaPieces_j16) areaPieces_j17) areaPieces_j18) areaPieces_j19) areaPieces_j20) areaPieces_j21) areaPieces_j22) areaPieces_j23) Tryz.fact24) Tryz.fact25) areaPieces_j26) areaPieces_j27) areaPieces_j28) areaPieces_j29) areaPieces_j30) areaPieces_j31)
theorem areaPieces_named : Tryz.prog.funcNamed Rows.areaPiecesRow.func = some 16 := by kernel_rfl
theorem areaPieces_instance : Tryz.f16.isInstance Tryz.prog Rows.areaPiecesRow.origin Rows.areaPiecesRow.targs := of_decide_eq_true (by kernel_rfl)
theorem areaPieces_wrapper : Tryz.f16.isWrapper Tryz.prog Rows.areaPiecesRow.wrapper Rows.areaPiecesRow.mainSum := by unfold Func.isWrapper; first | (rw [if_pos (by decide +kernel)]; kernel_rfl) | (rw [if_neg (by decide +kernel)]; exact ⟨rfl, rfl⟩)

set_option maxRecDepth 100000 in
theorem areaPieces_over : Rows.areaPiecesRow.holds Tryz.pinned (OpenSpec.ofChange Rows.areaPiecesSpec) :=
  OpenClaim.holds_of_wide 16 Tryz.f16 rfl rfl rfl rfl rfl rfl rfl ⟨rfl, rfl, rfl, rfl, rfl⟩ rfl rfl rfl rfl rfl areaPieces_named Tryz.func16 areaPieces_closed areaPieces_instance areaPieces_wrapper
    (fun os started H enc _ => areaPieces_lifted os started H enc)

/-- THE STATEMENT. -/
theorem areaPieces_holds : Rows.AreaPiecesSaid := areaPieces_over

end Go.Proofs.YthjmkmjojlfejaaGreat
