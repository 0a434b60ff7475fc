/- The law AreaChecks: for every input the call returns true, and its arguments read as before. No conditions. -/
import Derived.Test.YthjmkmjojlfejaaGreatB05
import Derived.Test.YthjmkmjojlfejaaGreatB03
import Derived.Test.YthjmkmjojlfejaaGreatB02
import Derived.Test.YthjmkmjojlfejaaGreatB01
import Derived.Test.YthjmkmjojlfejaaGreatProg
import Derived.WalkKit
import Derived.Handy
import Derived.RangeFuncRecord
import Derived.Shelf.Abstract
import Derived.Deep.QuietTactic
import Derived.BigQuiet
import Derived.Laws.CopyOwn
import Derived.WalkSmall
import Derived.RangeFuncNested
import Derived.RangeFuncBound
import Derived.RangeFuncCalls
import Derived.RangeFuncLeaves
import Derived.Shelf.RegionOpen
import Derived.OwnWalkIn
import Derived.TacticsInMore
import Derived.LoopNIn
import Derived.LoopIn
import Derived.Maps.AppendAt
import Derived.Deep.Onto
import Derived.OrdersHeld
import Derived.Deep.LoopGhost
import Derived.Deep.WholeRow
import Derived.Deep.OwnRows
import Derived.StillTailTactics
import Derived.Great.Walk
import Derived.Great.BuildSlice
import Derived.WalkMore
import Derived.Deep.MidRow
import Derived.Deep.RegionHeld3
import Derived.Deep.DeepCutAuto
import Derived.Shelf.Small.Bits
import Derived.Shelf.Small.Wraps
import Derived.Shelf.Strconv.Itoa0
import Derived.Shelf.Sort.Plain
import Derived.Shelf.Slices.Turned
import Derived.Ground.Names2Prog
import Derived.Shelf.Slices.CompactI
import Derived.Shelf.Slices.SearchI
import Derived.Shelf.Slices.Cells
import Derived.Shelf.Slices.In.SortNone
import Derived.Lib.OwnBridge
import Derived.Lib.SliceRun
import Derived.WalkSpells
import Derived.Deep.RegionWith
import Derived.Lib.AppendZerosOnto
import Derived.Deep.CutBlock
import Derived.IntWalk
import Derived.Test.YthjmkmjojlfejaaGreatB07
import Derived.Test.YthjmkmjojlfejaaGreatB06
import Derived.Test.YthjmkmjojlfejaaGreatB04
import Derived.Test.YthjmkmjojlfejaaGreatB12
import Derived.Test.YthjmkmjojlfejaaGreatB11
import Derived.Test.YthjmkmjojlfejaaGreatB10
import Derived.Test.YthjmkmjojlfejaaGreatB13
import Derived.Test.YthjmkmjojlfejaaGreatB09
import Derived.Test.YthjmkmjojlfejaaGreatB08
import Derived.Scope
import Derived.RangeFuncBox
import Derived.Test.YthjmkmjojlfejaaGreatB14
import Derived.Test.YthjmkmjojlfejaaGreatRows
import Derived.ProofKit
import Derived.OpenShut
import Derived.Carry
import Derived.Lib.SmallJoins
import Derived.Deep.Slices
import Derived.Test.YthjmkmjojlfejaaGreatXAreaChecks
namespace Go.Proofs.YthjmkmjojlfejaaGreat
open Go Go.ChangeShapes Go.WideShapes Go.ChangeAt Go.RowKit

set_option maxRecDepth 100000 in
theorem areaChecks_lifted (os : Os) (started : os.Started) (H : Type) (enc : TypeId × Value → H) :
    ReturnsInHanded {} Tryz.checked os 14 .any (Rows.areaChecksSpec.pre6 enc Tryz.prog Tryz.f14 Rows.areaChecksRow.domain false) (Rows.areaChecksSpec.post enc Tryz.prog Tryz.f14 false true false false) := by
  refine returnsInHanded_of_change (C := Tryz.checked) Tryz.own started (by kernel_rfl) Tryz.func14
    (ChangeSpec.witness6 (enc := enc) (C := Tryz.checked) false ⟨#[], #[.agg #[.int .i64 0, .slice none 0 0], .slice none 0 0, .slice none 0 0, .slice none 0 0, .int .i64 0], []⟩ 8 (by kernel_rfl) (by kernel_rfl) (by kernel_rfl) (by kernel_rfl)) ?_
  intro W base args ds gs before hval0 hW hcnd _
  have hval : ∀ (j : Nat) t v, Tryz.f14.params[j]? = some t → args[j]? = some v → Value.okWide Tryz.prog W .any base t v := hval0
  have hW' := hW
  obtain ⟨p, q, hA0, hV, rfl, hfz, hnd⟩ := hW
  have hA : DataW.TrodAll enc Tryz.prog W 0 (fun _ => true) true Tryz.f14.params.toList args.toList ds p := hA0
  rw [Tryz.params14] at hA hval
  obtain ⟨v0, vs0, d0, ds0, p0, q0, hargs, rfl, rfl, h0, r0⟩ := trodAll_cons hA
  obtain ⟨v1, vs1, d1, ds1, p1, q1, rfl, rfl, rfl, h1, r1⟩ := trodAll_cons r0
  obtain ⟨v2, vs2, d2, ds2, p2, q2, rfl, rfl, rfl, h2, r2⟩ := trodAll_cons r1
  obtain ⟨v3, vs3, d3, ds3, p3, q3, rfl, rfl, rfl, h3, r3⟩ := trodAll_cons r2
  obtain ⟨v4, vs4, d4, ds4, p4, q4, rfl, rfl, rfl, h4, r4⟩ := trodAll_cons r3
  obtain ⟨rfl, rfl, rfl⟩ := trodAll_nil r4
  obtain rfl : args = #[v0, v1, v2, v3, v4] := by cases args; simp_all
  obtain ⟨rfl, rfl⟩ := trodVars_none hV
  obtain ⟨N0, a0, cap0, bs0, rfl, hN0, hB0, hS0, hl0, hok0⟩ := open_sys (hval 0 24 v0 rfl rfl) h0
  obtain ⟨a1, cap1, y1, rfl, hY1, hZ1, hm1, hyo1⟩ := open_list (hval 1 25 v1 rfl rfl) h1
  obtain ⟨a2, cap2, y2, rfl, hY2, hZ2, hm2, hyo2⟩ := open_list (hval 2 25 v2 rfl rfl) h2
  obtain ⟨a3, cap3, y3, rfl, hY3, hZ3, hm3, hyo3⟩ := open_list (hval 3 25 v3 rfl rfl) h3
  obtain ⟨n4, rfl, hn4⟩ := open_num (hval 4 3 v4 rfl rfl) h4
  refine (areaChecks_of alive_any W N0 a0 cap0 bs0 a1 cap1 y1 a2 cap2 y2 a3 cap3 y3 n4 hN0 hl0 hB0 hm1 hY1 hm2 hY2 hm3 hY3).mono fun e W' ⟨he, hg⟩ => ?_
  subst he
  refine ⟨_, rfl, law_post hW' hg (by kernel_rfl) ?_ rfl rfl⟩
  intro t ht
  rw [Tryz.params14] at ht
  simp only [List.mem_cons, List.not_mem_nil, or_false] at ht
  rcases ht with rfl | rfl | rfl | rfl | rfl
  · exact argOk24
  · exact argOk27
  · exact argOk27
  · exact argOk27
  · exact argOk3

/-! The row's closed facts, each by itself. -/
theorem areaChecks_j0 : (Rows.areaChecksRow.wf (OpenSpec.ofChange Rows.areaChecksSpec)) = true := by kernel_rfl
theorem areaChecks_j3 : (Tryz.f14.params.all (Tryz.prog.readableRec ·)) = true := by kernel_rfl
theorem areaChecks_j4 : (namedTie Tryz.prog Rows.areaChecksRow.named Rows.areaChecksSpec.vars) = true := by kernel_rfl
theorem areaChecks_j5 : ((Rows.areaChecksRow.stops == [])) = true := by kernel_rfl
theorem areaChecks_j7 : ((Rows.areaChecksRow.knobs == [])) = true := by kernel_rfl
theorem areaChecks_j9 : ((Rows.areaChecksRow.inPlace == Tryz.prog.inPlace 14)) = true := by kernel_rfl
theorem areaChecks_j10 : ((Rows.areaChecksRow.unfollowed == Tryz.prog.unfollowed 14)) = true := by kernel_rfl
theorem areaChecks_j11 : ((Rows.areaChecksRow.recurses == Tryz.prog.recurses 14)) = true := by kernel_rfl
theorem areaChecks_j12 : ((Rows.areaChecksRow.named == Tryz.prog.varsNamed 14)) = true := by kernel_rfl
theorem areaChecks_j13 : ((Rows.areaChecksRow.maps == (Tryz.f14.params.toList ++ Rows.areaChecksSpec.plain.varTypes Tryz.prog).any (Tryz.prog.mapsRec ·))) = true := by kernel_rfl
theorem areaChecks_j14 : ((Rows.areaChecksRow.ifaces == (Tryz.f14.params.toList ++ Rows.areaChecksSpec.plain.varTypes Tryz.prog).any (Tryz.prog.ifacesRec ·))) = true := by kernel_rfl
theorem areaChecks_j15 : ((Rows.areaChecksRow.mapsOut == Tryz.prog.mapsAmong Tryz.f14.resultTypes.toList)) = true := by kernel_rfl
theorem areaChecks_j16 : ((Rows.areaChecksRow.loops == (Tryz.f14.params.toList ++ Rows.areaChecksSpec.plain.varTypes Tryz.prog).any (Tryz.prog.loopsFrom ·))) = true := by kernel_rfl
theorem areaChecks_j17 : ((Rows.areaChecksRow.wideKeys == (Tryz.f14.params.toList ++ Rows.areaChecksSpec.plain.varTypes Tryz.prog ++ Tryz.f14.resultTypes.toList).any (Tryz.prog.wideKeysFrom ·))) = true := by kernel_rfl
theorem areaChecks_j18 : (Rows.areaChecksSpec.vars.all (Tryz.prog.varReadable ·)) = true := by kernel_rfl
theorem areaChecks_j19 : (Tryz.f14.resultTypes.all (fun t => Tryz.prog.readableRec t && decide (t < Tryz.prog.types.size))) = true := by kernel_rfl
theorem areaChecks_j20 : ((Rows.areaChecksRow.ifacesOut == Tryz.f14.resultTypes.toList.any (Tryz.prog.ifacesRec ·))) = true := by kernel_rfl
theorem areaChecks_j21 : ((Rows.areaChecksRow.loopsOut == Tryz.f14.resultTypes.toList.any (Tryz.prog.loopsFrom ·))) = true := by kernel_rfl
theorem areaChecks_j22 : ((Rows.areaChecksRow.plainKeys == Tryz.prog.plainKeys)) = true := by rw [Tryz.fact22]; rfl
theorem areaChecks_j23 : (Rows.areaChecksRow.shortTexts.isNone) = true := by kernel_rfl
theorem areaChecks_j26 : ((Rows.areaChecksRow.lifted == Tryz.prog.liftsFinal)) = true := by rw [Tryz.fact26]; rfl
theorem areaChecks_j27 : ((Tryz.prog.make == some Rows.areaChecksRow.make)) = true := by rw [Tryz.fact27]; rfl
theorem areaChecks_j28 : ((Rows.areaChecksRow.kinds == (if Rows.areaChecksRow.domain.isEmpty then [] else Tryz.f14.params.toList.map fun t => match Tryz.prog.underlying t with | some (.int k) => some k | _ => none))) = true := by kernel_rfl
theorem areaChecks_j29 : ((Rows.areaChecksRow.pinned == Rows.areaChecksRow.pinnedBy)) = true := by kernel_rfl
theorem areaChecks_j30 : ((Rows.areaChecksRow.veiled == (Tryz.f14.params.toList ++ Rows.areaChecksSpec.plain.varTypes Tryz.prog ++ Tryz.f14.resultTypes.toList).any (Tryz.prog.veiledRec ·))) = true := by kernel_rfl
theorem areaChecks_j31 : (Rows.areaChecksRow.veiledFits Tryz.prog Tryz.f14.params.toList (Tryz.f14.params.toList ++ Rows.areaChecksSpec.plain.varTypes Tryz.prog ++ Tryz.f14.resultTypes.toList)) = true := by kernel_rfl
set_option maxRecDepth 100000 in
theorem areaChecks_closed : joinedFacts Tryz.prog 14 Tryz.f14 Rows.areaChecksSpec Rows.areaChecksRow = true := by
  unfold joinedFacts
  exact (and2 (and2 (and2 (and2 (and2 (and2 (and2 (and2 (and2 (and2 (and2 (and2 (and2 (and2 (and2 (and2 (and2 (and2 (and2 (and2 (and2 (and2 (and2 (and2 (and2 (and2 (and2 (and2 (and2 (and2 (and2 areaChecks_j0 Tryz.fact1) Tryz.fact2) areaChecks_j3) areaChecks_j4) areaChecks_j5) Tryz.fact6) areaChecks_j7) Tryz.fact8) areaChecks_j9) areaChecks_j10) areaChecks_j11) areaChecks_j12) areaChecks_j13) areaChecks_j14) areaChecks_j15) areaChecks_j16) areaChecks_j17) areaChecks_j18) areaChecks_j19) areaChecks_j20) areaChecks_j21) areaChecks_j22) areaChecks_j23) Tryz.fact24) Tryz.fact25) areaChecks_j26) areaChecks_j27) areaChecks_j28) areaChecks_j29) areaChecks_j30) areaChecks_j31)
theorem areaChecks_named : Tryz.prog.funcNamed Rows.areaChecksRow.func = some 14 := by kernel_rfl
theorem areaChecks_instance : Tryz.f14.isInstance Tryz.prog Rows.areaChecksRow.origin Rows.areaChecksRow.targs := of_decide_eq_true (by kernel_rfl)
theorem areaChecks_wrapper : Tryz.f14.isWrapper Tryz.prog Rows.areaChecksRow.wrapper Rows.areaChecksRow.mainSum := by unfold Func.isWrapper; first | (rw [if_pos (by decide +kernel)]; kernel_rfl) | (rw [if_neg (by decide +kernel)]; exact ⟨rfl, rfl⟩)

set_option maxRecDepth 100000 in
theorem areaChecks_over : Rows.areaChecksRow.holds Tryz.pinned (OpenSpec.ofChange Rows.areaChecksSpec) :=
  OpenClaim.holds_of_wide 14 Tryz.f14 rfl rfl rfl rfl rfl rfl rfl ⟨rfl, rfl, rfl, rfl, rfl⟩ rfl rfl rfl rfl rfl areaChecks_named Tryz.func14 areaChecks_closed areaChecks_instance areaChecks_wrapper
    (fun os started H enc _ => areaChecks_lifted os started H enc)

/-- THE STATEMENT. -/
theorem areaChecks_holds : Rows.AreaChecksSaid := areaChecks_over

end Go.Proofs.YthjmkmjojlfejaaGreat
