/- The law AreaCuts: for every input the call returns true, and its arguments read as before. No conditions. -/
import Derived.Test.YthjmkmjojlfejaaGreatB15
import Derived.Test.YthjmkmjojlfejaaGreatB04
import Derived.Test.YthjmkmjojlfejaaGreatB03
import Derived.Test.YthjmkmjojlfejaaGreatB02
import Derived.Test.YthjmkmjojlfejaaGreatB01
import Derived.Shelf.Small.Bits
import Derived.Shelf.Small.Wraps
import Derived.Shelf.Strconv.Itoa0
import Derived.Shelf.Sort.Plain
import Derived.Shelf.Slices.Turned
import Derived.Ground.Names2Prog
import Derived.Shelf.Slices.CompactI
import Derived.Shelf.Slices.SearchI
import Derived.Shelf.Slices.Cells
import Derived.Shelf.Slices.In.SortNone
import Derived.Test.YthjmkmjojlfejaaGreatProg
import Derived.WalkKit
import Derived.Handy
import Derived.RangeFuncRecord
import Derived.Shelf.Abstract
import Derived.Deep.QuietTactic
import Derived.BigQuiet
import Derived.Laws.CopyOwn
import Derived.WalkSmall
import Derived.RangeFuncNested
import Derived.RangeFuncBound
import Derived.RangeFuncCalls
import Derived.RangeFuncLeaves
import Derived.Shelf.RegionOpen
import Derived.OwnWalkIn
import Derived.TacticsInMore
import Derived.LoopNIn
import Derived.LoopIn
import Derived.Maps.AppendAt
import Derived.Deep.Onto
import Derived.OrdersHeld
import Derived.Deep.LoopGhost
import Derived.Deep.WholeRow
import Derived.Deep.OwnRows
import Derived.StillTailTactics
import Derived.Great.Walk
import Derived.Great.BuildSlice
import Derived.WalkMore
import Derived.Deep.MidRow
import Derived.Deep.RegionHeld3
import Derived.Deep.DeepCutAuto
import Derived.Lib.OwnBridge
import Derived.Lib.SliceRun
import Derived.WalkSpells
import Derived.Deep.RegionWith
import Derived.Lib.AppendZerosOnto
import Derived.Deep.CutBlock
import Derived.IntWalk
import Derived.Test.YthjmkmjojlfejaaGreatB05
import Derived.Test.YthjmkmjojlfejaaGreatB16
import Derived.Test.YthjmkmjojlfejaaGreatB07
import Derived.Test.YthjmkmjojlfejaaGreatB06
import Derived.Test.YthjmkmjojlfejaaGreatB08
import Derived.Test.YthjmkmjojlfejaaGreatB10
import Derived.Test.YthjmkmjojlfejaaGreatB09
import Derived.Test.YthjmkmjojlfejaaGreatB13
import Derived.Test.YthjmkmjojlfejaaGreatB14
import Derived.Test.YthjmkmjojlfejaaGreatRows
import Derived.ProofKit
import Derived.OpenShut
import Derived.Carry
import Derived.Lib.SmallJoins
import Derived.Deep.Slices
import Derived.RangeFuncBox
import Derived.Scope
import Derived.Test.YthjmkmjojlfejaaGreatB12
import Derived.Test.YthjmkmjojlfejaaGreatB11
import Derived.ChangeMaps5
import Derived.Test.YthjmkmjojlfejaaGreatXAreaCuts
namespace Go.Proofs.YthjmkmjojlfejaaGreat
open Go Go.ChangeShapes Go.WideShapes Go.ChangeAt Go.RowKit

set_option maxRecDepth 100000 in
theorem areaCuts_lifted (os : Os) (started : os.Started) (H : Type) (enc : TypeId × Value → H) :
    ReturnsInHanded {} Tryz.checked os 10 .any (Rows.areaCutsSpec.pre6 enc Tryz.prog Tryz.f10 Rows.areaCutsRow.domain false) (Rows.areaCutsSpec.post enc Tryz.prog Tryz.f10 false true false false) := by
  refine returnsInHanded_of_change (C := Tryz.checked) Tryz.own started (by kernel_rfl) Tryz.func10
    (ChangeSpec.witness6 (enc := enc) (C := Tryz.checked) false ⟨#[], #[.agg #[.slice none 0 0, .slice none 0 0, .slice none 0 0, .slice none 0 0], .slice none 0 0, .int .i64 0, .int .i64 0, .int .i64 0, .slice none 0 0], []⟩ 8 (by kernel_rfl) (by kernel_rfl) (by kernel_rfl) (by kernel_rfl)) ?_
  intro W base args ds gs before hval0 hW hcnd _
  have hval : ∀ (j : Nat) t v, Tryz.f10.params[j]? = some t → args[j]? = some v → Value.okWide Tryz.prog W .any base t v := hval0
  have hW' := hW
  obtain ⟨p, q, hA0, hV, rfl, hfz, hnd⟩ := hW
  have hA : DataW.TrodAll enc Tryz.prog W 0 (fun _ => true) true Tryz.f10.params.toList args.toList ds p := hA0
  rw [Tryz.params10] at hA hval
  obtain ⟨v0, vs0, d0, ds0, p0, q0, hargs, rfl, rfl, h0, r0⟩ := trodAll_cons hA
  obtain ⟨v1, vs1, d1, ds1, p1, q1, rfl, rfl, rfl, h1, r1⟩ := trodAll_cons r0
  obtain ⟨v2, vs2, d2, ds2, p2, q2, rfl, rfl, rfl, h2, r2⟩ := trodAll_cons r1
  obtain ⟨v3, vs3, d3, ds3, p3, q3, rfl, rfl, rfl, h3, r3⟩ := trodAll_cons r2
  obtain ⟨v4, vs4, d4, ds4, p4, q4, rfl, rfl, rfl, h4, r4⟩ := trodAll_cons r3
  obtain ⟨v5, vs5, d5, ds5, p5, q5, rfl, rfl, rfl, h5, r5⟩ := trodAll_cons r4
  obtain ⟨rfl, rfl, rfl⟩ := trodAll_nil r5
  obtain rfl : args = #[v0, v1, v2, v3, v4, v5] := by cases args; simp_all
  obtain ⟨rfl, rfl⟩ := trodVars_none hV
  obtain ⟨x0, F0, rfl, hF0⟩ := open_fld (hval 0 46 v0 rfl rfl) h0
  obtain ⟨a1, cap1, y1, rfl, hY1, hZ1, hm1, hyo1⟩ := open_list (hval 1 25 v1 rfl rfl) h1
  obtain ⟨n2, rfl, hn2⟩ := open_num (hval 2 3 v2 rfl rfl) h2
  obtain ⟨n3, rfl, hn3⟩ := open_num (hval 3 3 v3 rfl rfl) h3
  obtain ⟨n4, rfl, hn4⟩ := open_num (hval 4 3 v4 rfl rfl) h4
  obtain ⟨a5, cap5, y5, rfl, hY5, hZ5, hm5, hyo5⟩ := open_list (hval 5 25 v5 rfl rfl) h5
  refine (areaCuts_of alive_any W x0 F0 a1 cap1 y1 n2 n3 n4 a5 cap5 y5 hF0 hm1 hY1 hm5 hY5).mono fun e W' ⟨he, hg⟩ => ?_
  subst he
  refine ⟨_, rfl, law_post hW' hg (by kernel_rfl) ?_ rfl rfl⟩
  intro t ht
  rw [Tryz.params10] at ht
  simp only [List.mem_cons, List.not_mem_nil, or_false] at ht
  rcases ht with rfl | rfl | rfl | rfl | rfl | rfl
  · exact argOk46
  · exact argOk27
  · exact argOk3
  · exact argOk3
  · exact argOk3
  · exact argOk27

/-! The row's closed facts, each by itself. -/
theorem areaCuts_j0 : (Rows.areaCutsRow.wf (OpenSpec.ofChange Rows.areaCutsSpec)) = true := by kernel_rfl
theorem areaCuts_j3 : (Tryz.f10.params.all (Tryz.prog.readableRec ·)) = true := by kernel_rfl
theorem areaCuts_j4 : (namedTie Tryz.prog Rows.areaCutsRow.named Rows.areaCutsSpec.vars) = true := by kernel_rfl
theorem areaCuts_j5 : ((Rows.areaCutsRow.stops == [])) = true := by kernel_rfl
theorem areaCuts_j7 : ((Rows.areaCutsRow.knobs == [])) = true := by kernel_rfl
theorem areaCuts_j9 : ((Rows.areaCutsRow.inPlace == Tryz.prog.inPlace 10)) = true := by kernel_rfl
theorem areaCuts_j10 : ((Rows.areaCutsRow.unfollowed == Tryz.prog.unfollowed 10)) = true := by kernel_rfl
theorem areaCuts_j11 : ((Rows.areaCutsRow.recurses == Tryz.prog.recurses 10)) = true := by kernel_rfl
theorem areaCuts_j12 : ((Rows.areaCutsRow.named == Tryz.prog.varsNamed 10)) = true := by kernel_rfl
theorem areaCuts_j13 : ((Rows.areaCutsRow.maps == (Tryz.f10.params.toList ++ Rows.areaCutsSpec.plain.varTypes Tryz.prog).any (Tryz.prog.mapsRec ·))) = true := by kernel_rfl
theorem areaCuts_j14 : ((Rows.areaCutsRow.ifaces == (Tryz.f10.params.toList ++ Rows.areaCutsSpec.plain.varTypes Tryz.prog).any (Tryz.prog.ifacesRec ·))) = true := by kernel_rfl
theorem areaCuts_j15 : ((Rows.areaCutsRow.mapsOut == Tryz.prog.mapsAmong Tryz.f10.resultTypes.toList)) = true := by kernel_rfl
theorem areaCuts_j16 : ((Rows.areaCutsRow.loops == (Tryz.f10.params.toList ++ Rows.areaCutsSpec.plain.varTypes Tryz.prog).any (Tryz.prog.loopsFrom ·))) = true := by kernel_rfl
theorem areaCuts_j17 : ((Rows.areaCutsRow.wideKeys == (Tryz.f10.params.toList ++ Rows.areaCutsSpec.plain.varTypes Tryz.prog ++ Tryz.f10.resultTypes.toList).any (Tryz.prog.wideKeysFrom ·))) = true := by kernel_rfl
theorem areaCuts_j18 : (Rows.areaCutsSpec.vars.all (Tryz.prog.varReadable ·)) = true := by kernel_rfl
theorem areaCuts_j19 : (Tryz.f10.resultTypes.all (fun t => Tryz.prog.readableRec t && decide (t < Tryz.prog.types.size))) = true := by kernel_rfl
theorem areaCuts_j20 : ((Rows.areaCutsRow.ifacesOut == Tryz.f10.resultTypes.toList.any (Tryz.prog.ifacesRec ·))) = true := by kernel_rfl
theorem areaCuts_j21 : ((Rows.areaCutsRow.loopsOut == Tryz.f10.resultTypes.toList.any (Tryz.prog.loopsFrom ·))) = true := by kernel_rfl
theorem areaCuts_j22 : ((Rows.areaCutsRow.plainKeys == Tryz.prog.plainKeys)) = true := by rw [Tryz.fact22]; rfl
theorem areaCuts_j23 : (Rows.areaCutsRow.shortTexts.isNone) = true := by kernel_rfl
theorem areaCuts_j26 : ((Rows.areaCutsRow.lifted == Tryz.prog.liftsFinal)) = true := by rw [Tryz.fact26]; rfl
theorem areaCuts_j27 : ((Tryz.prog.make == some Rows.areaCutsRow.make)) = true := by rw [Tryz.fact27]; rfl
theorem areaCuts_j28 : ((Rows.areaCutsRow.kinds == (if Rows.areaCutsRow.domain.isEmpty then [] else Tryz.f10.params.toList.map fun t => match Tryz.prog.underlying t with | some (.int k) => some k | _ => none))) = true := by kernel_rfl
theorem areaCuts_j29 : ((Rows.areaCutsRow.pinned == Rows.areaCutsRow.pinnedBy)) = true := by kernel_rfl
theorem areaCuts_j30 : ((Rows.areaCutsRow.veiled == (Tryz.f10.params.toList ++ Rows.areaCutsSpec.plain.varTypes Tryz.prog ++ Tryz.f10.resultTypes.toList).any (Tryz.prog.veiledRec ·))) = true := by kernel_rfl
theorem areaCuts_j31 : (Rows.areaCutsRow.veiledFits Tryz.prog Tryz.f10.params.toList (Tryz.f10.params.toList ++ Rows.areaCutsSpec.plain.varTypes Tryz.prog ++ Tryz.f10.resultTypes.toList)) = true := by kernel_rfl
set_option maxRecDepth 100000 in
theorem areaCuts_closed : joinedFacts Tryz.prog 10 Tryz.f10 Rows.areaCutsSpec Rows.areaCutsRow = true := by
  unfold joinedFacts
  exact (and2 (and2 (and2 (and2 (and2 (and2 (and2 (and2 (and2 (and2 (and2 (and2 (and2 (and2 (and2 (and2 (and2 (and2 (and2 (and2 (and2 (and2 (and2 (and2 (and2 (and2 (and2 (and2 (and2 (and2 (and2 areaCuts_j0 Tryz.fact1) Tryz.fact2) areaCuts_j3) areaCuts_j4) areaCuts_j5) Tryz.fact6) areaCuts_j7) Tryz.fact8) areaCuts_j9) areaCuts_j10) areaCuts_j11) areaCuts_j12) areaCuts_j13) areaCuts_j14) areaCuts_j15) areaCuts_j16) areaCuts_j17) areaCuts_j18) areaCuts_j19) areaCuts_j20) areaCuts_j21) areaCuts_j22) areaCuts_j23) Tryz.fact24) Tryz.fact25) areaCuts_j26) areaCuts_j27) areaCuts_j28) areaCuts_j29) areaCuts_j30) areaCuts_j31)
theorem areaCuts_named : Tryz.prog.funcNamed Rows.areaCutsRow.func = some 10 := by kernel_rfl
theorem areaCuts_instance : Tryz.f10.isInstance Tryz.prog Rows.areaCutsRow.origin Rows.areaCutsRow.targs := of_decide_eq_true (by kernel_rfl)
theorem areaCuts_wrapper : Tryz.f10.isWrapper Tryz.prog Rows.areaCutsRow.wrapper Rows.areaCutsRow.mainSum := by unfold Func.isWrapper; first | (rw [if_pos (by decide +kernel)]; kernel_rfl) | (rw [if_neg (by decide +kernel)]; exact ⟨rfl, rfl⟩)

set_option maxRecDepth 100000 in
theorem areaCuts_over : Rows.areaCutsRow.holds Tryz.pinned (OpenSpec.ofChange Rows.areaCutsSpec) :=
  OpenClaim.holds_of_wide 10 Tryz.f10 rfl rfl rfl rfl rfl rfl rfl ⟨rfl, rfl, rfl, rfl, rfl⟩ rfl rfl rfl rfl rfl areaCuts_named Tryz.func10 areaCuts_closed areaCuts_instance areaCuts_wrapper
    (fun os started H enc _ => areaCuts_lifted os started H enc)

/-- THE STATEMENT. -/
theorem areaCuts_holds : Rows.AreaCutsSaid := areaCuts_over

end Go.Proofs.YthjmkmjojlfejaaGreat
