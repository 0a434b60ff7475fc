/- The law AreaRanks: for every input the call returns true, and its arguments read as before. No conditions. -/
import Derived.Test.YthjmkmjojlfejaaGreatB07
import Derived.Test.YthjmkmjojlfejaaGreatB06
import Derived.Test.YthjmkmjojlfejaaGreatB05
import Derived.Test.YthjmkmjojlfejaaGreatB04
import Derived.Test.YthjmkmjojlfejaaGreatB03
import Derived.Test.YthjmkmjojlfejaaGreatB02
import Derived.Test.YthjmkmjojlfejaaGreatB01
import Derived.Shelf.Small.Bits
import Derived.Shelf.Small.Wraps
import Derived.Shelf.Strconv.Itoa0
import Derived.Shelf.Sort.Plain
import Derived.Shelf.Slices.Turned
import Derived.Ground.Names2Prog
import Derived.Shelf.Slices.CompactI
import Derived.Shelf.Slices.SearchI
import Derived.Shelf.Slices.Cells
import Derived.Shelf.Slices.In.SortNone
import Derived.Test.YthjmkmjojlfejaaGreatProg
import Derived.WalkKit
import Derived.Handy
import Derived.RangeFuncRecord
import Derived.Shelf.Abstract
import Derived.Deep.QuietTactic
import Derived.BigQuiet
import Derived.Laws.CopyOwn
import Derived.WalkSmall
import Derived.RangeFuncNested
import Derived.RangeFuncBound
import Derived.RangeFuncCalls
import Derived.RangeFuncLeaves
import Derived.Shelf.RegionOpen
import Derived.OwnWalkIn
import Derived.TacticsInMore
import Derived.LoopNIn
import Derived.LoopIn
import Derived.Maps.AppendAt
import Derived.Deep.Onto
import Derived.OrdersHeld
import Derived.Deep.LoopGhost
import Derived.Deep.WholeRow
import Derived.Deep.OwnRows
import Derived.StillTailTactics
import Derived.Great.Walk
import Derived.Great.BuildSlice
import Derived.WalkMore
import Derived.Deep.MidRow
import Derived.Deep.RegionHeld3
import Derived.Deep.DeepCutAuto
import Derived.Lib.OwnBridge
import Derived.Lib.SliceRun
import Derived.WalkSpells
import Derived.Deep.RegionWith
import Derived.Lib.AppendZerosOnto
import Derived.Deep.CutBlock
import Derived.IntWalk
import Derived.Test.YthjmkmjojlfejaaGreatB10
import Derived.Test.YthjmkmjojlfejaaGreatB09
import Derived.RangeFuncBox
import Derived.Scope
import Derived.Test.YthjmkmjojlfejaaGreatB13
import Derived.Test.YthjmkmjojlfejaaGreatB14
import Derived.Test.YthjmkmjojlfejaaGreatRows
import Derived.ProofKit
import Derived.OpenShut
import Derived.Carry
import Derived.Lib.SmallJoins
import Derived.Deep.Slices
import Derived.Test.YthjmkmjojlfejaaGreatB08
import Derived.Test.YthjmkmjojlfejaaGreatB12
import Derived.Test.YthjmkmjojlfejaaGreatB11
import Derived.Test.YthjmkmjojlfejaaGreatXAreaRanks
namespace Go.Proofs.YthjmkmjojlfejaaGreat
open Go Go.ChangeShapes Go.WideShapes Go.ChangeAt Go.RowKit

set_option maxRecDepth 100000 in
theorem areaRanks_lifted (os : Os) (started : os.Started) (H : Type) (enc : TypeId × Value → H) :
    ReturnsInHanded {} Tryz.checked os 4 .any (Rows.areaRanksSpec.pre6 enc Tryz.prog Tryz.f4 Rows.areaRanksRow.domain false) (Rows.areaRanksSpec.post enc Tryz.prog Tryz.f4 false true false false) := by
  refine returnsInHanded_of_change (C := Tryz.checked) Tryz.own started (by kernel_rfl) Tryz.func4
    (ChangeSpec.witness6 (enc := enc) (C := Tryz.checked) false ⟨#[], #[.int .i64 0, .slice none 0 0, .slice none 0 0, .int .i64 0, .int .i64 0], []⟩ 8 (by kernel_rfl) (by kernel_rfl) (by kernel_rfl) (by kernel_rfl)) ?_
  intro W base args ds gs before hval0 hW hcnd _
  have hval : ∀ (j : Nat) t v, Tryz.f4.params[j]? = some t → args[j]? = some v → Value.okWide Tryz.prog W .any base t v := hval0
  have hW' := hW
  obtain ⟨p, q, hA0, hV, rfl, hfz, hnd⟩ := hW
  have hA : DataW.TrodAll enc Tryz.prog W 0 (fun _ => true) true Tryz.f4.params.toList args.toList ds p := hA0
  rw [Tryz.params4] at hA hval
  obtain ⟨v0, vs0, d0, ds0, p0, q0, hargs, rfl, rfl, h0, r0⟩ := trodAll_cons hA
  obtain ⟨v1, vs1, d1, ds1, p1, q1, rfl, rfl, rfl, h1, r1⟩ := trodAll_cons r0
  obtain ⟨v2, vs2, d2, ds2, p2, q2, rfl, rfl, rfl, h2, r2⟩ := trodAll_cons r1
  obtain ⟨v3, vs3, d3, ds3, p3, q3, rfl, rfl, rfl, h3, r3⟩ := trodAll_cons r2
  obtain ⟨v4, vs4, d4, ds4, p4, q4, rfl, rfl, rfl, h4, r4⟩ := trodAll_cons r3
  obtain ⟨rfl, rfl, rfl⟩ := trodAll_nil r4
  obtain rfl : args = #[v0, v1, v2, v3, v4] := by cases args; simp_all
  obtain ⟨rfl, rfl⟩ := trodVars_none hV
  obtain ⟨n0, rfl, hn0⟩ := open_num (hval 0 3 v0 rfl rfl) h0
  obtain ⟨a1, cap1, y1, rfl, hY1, hZ1, hm1, hyo1⟩ := open_list (hval 1 25 v1 rfl rfl) h1
  obtain ⟨a2, cap2, y2, rfl, hY2, hZ2, hm2, hyo2⟩ := open_list (hval 2 25 v2 rfl rfl) h2
  obtain ⟨n3, rfl, hn3⟩ := open_num (hval 3 3 v3 rfl rfl) h3
  obtain ⟨n4, rfl, hn4⟩ := open_num (hval 4 3 v4 rfl rfl) h4
  refine (areaRanks_of alive_any W n0 a1 cap1 y1 a2 cap2 y2 n3 n4 hm1 hY1 hm2 hY2).mono fun e W' ⟨he, hg⟩ => ?_
  subst he
  refine ⟨_, rfl, law_post hW' hg (by kernel_rfl) ?_ rfl rfl⟩
  intro t ht
  rw [Tryz.params4] at ht
  simp only [List.mem_cons, List.not_mem_nil, or_false] at ht
  rcases ht with rfl | rfl | rfl | rfl | rfl
  · exact argOk3
  · exact argOk27
  · exact argOk27
  · exact argOk3
  · exact argOk3

/-! The row's closed facts, each by itself. -/
theorem areaRanks_j0 : (Rows.areaRanksRow.wf (OpenSpec.ofChange Rows.areaRanksSpec)) = true := by kernel_rfl
theorem areaRanks_j3 : (Tryz.f4.params.all (Tryz.prog.readableRec ·)) = true := by kernel_rfl
theorem areaRanks_j4 : (namedTie Tryz.prog Rows.areaRanksRow.named Rows.areaRanksSpec.vars) = true := by kernel_rfl
theorem areaRanks_j5 : ((Rows.areaRanksRow.stops == [])) = true := by kernel_rfl
theorem areaRanks_j7 : ((Rows.areaRanksRow.knobs == [])) = true := by kernel_rfl
theorem areaRanks_j9 : ((Rows.areaRanksRow.inPlace == Tryz.prog.inPlace 4)) = true := by kernel_rfl
theorem areaRanks_j10 : ((Rows.areaRanksRow.unfollowed == Tryz.prog.unfollowed 4)) = true := by kernel_rfl
theorem areaRanks_j11 : ((Rows.areaRanksRow.recurses == Tryz.prog.recurses 4)) = true := by kernel_rfl
theorem areaRanks_j12 : ((Rows.areaRanksRow.named == Tryz.prog.varsNamed 4)) = true := by kernel_rfl
theorem areaRanks_j13 : ((Rows.areaRanksRow.maps == (Tryz.f4.params.toList ++ Rows.areaRanksSpec.plain.varTypes Tryz.prog).any (Tryz.prog.mapsRec ·))) = true := by kernel_rfl
theorem areaRanks_j14 : ((Rows.areaRanksRow.ifaces == (Tryz.f4.params.toList ++ Rows.areaRanksSpec.plain.varTypes Tryz.prog).any (Tryz.prog.ifacesRec ·))) = true := by kernel_rfl
theorem areaRanks_j15 : ((Rows.areaRanksRow.mapsOut == Tryz.prog.mapsAmong Tryz.f4.resultTypes.toList)) = true := by kernel_rfl
theorem areaRanks_j16 : ((Rows.areaRanksRow.loops == (Tryz.f4.params.toList ++ Rows.areaRanksSpec.plain.varTypes Tryz.prog).any (Tryz.prog.loopsFrom ·))) = true := by kernel_rfl
theorem areaRanks_j17 : ((Rows.areaRanksRow.wideKeys == (Tryz.f4.params.toList ++ Rows.areaRanksSpec.plain.varTypes Tryz.prog ++ Tryz.f4.resultTypes.toList).any (Tryz.prog.wideKeysFrom ·))) = true := by kernel_rfl
theorem areaRanks_j18 : (Rows.areaRanksSpec.vars.all (Tryz.prog.varReadable ·)) = true := by kernel_rfl
theorem areaRanks_j19 : (Tryz.f4.resultTypes.all (fun t => Tryz.prog.readableRec t && decide (t < Tryz.prog.types.size))) = true := by kernel_rfl
theorem areaRanks_j20 : ((Rows.areaRanksRow.ifacesOut == Tryz.f4.resultTypes.toList.any (Tryz.prog.ifacesRec ·))) = true := by kernel_rfl
theorem areaRanks_j21 : ((Rows.areaRanksRow.loopsOut == Tryz.f4.resultTypes.toList.any (Tryz.prog.loopsFrom ·))) = true := by kernel_rfl
theorem areaRanks_j22 : ((Rows.areaRanksRow.plainKeys == Tryz.prog.plainKeys)) = true := by rw [Tryz.fact22]; rfl
theorem areaRanks_j23 : (Rows.areaRanksRow.shortTexts.isNone) = true := by kernel_rfl
theorem areaRanks_j26 : ((Rows.areaRanksRow.lifted == Tryz.prog.liftsFinal)) = true := by rw [Tryz.fact26]; rfl
theorem areaRanks_j27 : ((Tryz.prog.make == some Rows.areaRanksRow.make)) = true := by rw [Tryz.fact27]; rfl
theorem areaRanks_j28 : ((Rows.areaRanksRow.kinds == (if Rows.areaRanksRow.domain.isEmpty then [] else Tryz.f4.params.toList.map fun t => match Tryz.prog.underlying t with | some (.int k) => some k | _ => none))) = true := by kernel_rfl
theorem areaRanks_j29 : ((Rows.areaRanksRow.pinned == Rows.areaRanksRow.pinnedBy)) = true := by kernel_rfl
theorem areaRanks_j30 : ((Rows.areaRanksRow.veiled == (Tryz.f4.params.toList ++ Rows.areaRanksSpec.plain.varTypes Tryz.prog ++ Tryz.f4.resultTypes.toList).any (Tryz.prog.veiledRec ·))) = true := by kernel_rfl
theorem areaRanks_j31 : (Rows.areaRanksRow.veiledFits Tryz.prog Tryz.f4.params.toList (Tryz.f4.params.toList ++ Rows.areaRanksSpec.plain.varTypes Tryz.prog ++ Tryz.f4.resultTypes.toList)) = true := by kernel_rfl
set_option maxRecDepth 100000 in
theorem areaRanks_closed : joinedFacts Tryz.prog 4 Tryz.f4 Rows.areaRanksSpec Rows.areaRanksRow = true := by
  unfold joinedFacts
  exact (and2 (and2 (and2 (and2 (and2 (and2 (and2 (and2 (and2 (and2 (and2 (and2 (and2 (and2 (and2 (and2 (and2 (and2 (and2 (and2 (and2 (and2 (and2 (and2 (and2 (and2 (and2 (and2 (and2 (and2 (and2 areaRanks_j0 Tryz.fact1) Tryz.fact2) areaRanks_j3) areaRanks_j4) areaRanks_j5) Tryz.fact6) areaRanks_j7) Tryz.fact8) areaRanks_j9) areaRanks_j10) areaRanks_j11) areaRanks_j12) areaRanks_j13) areaRanks_j14) areaRanks_j15) areaRanks_j16) areaRanks_j17) areaRanks_j18) areaRanks_j19) areaRanks_j20) areaRanks_j21) areaRanks_j22) areaRanks_j23) Tryz.fact24) Tryz.fact25) areaRanks_j26) areaRanks_j27) areaRanks_j28) areaRanks_j29) areaRanks_j30) areaRanks_j31)
theorem areaRanks_named : Tryz.prog.funcNamed Rows.areaRanksRow.func = some 4 := by kernel_rfl
theorem areaRanks_instance : Tryz.f4.isInstance Tryz.prog Rows.areaRanksRow.origin Rows.areaRanksRow.targs := of_decide_eq_true (by kernel_rfl)
theorem areaRanks_wrapper : Tryz.f4.isWrapper Tryz.prog Rows.areaRanksRow.wrapper Rows.areaRanksRow.mainSum := by unfold Func.isWrapper; first | (rw [if_pos (by decide +kernel)]; kernel_rfl) | (rw [if_neg (by decide +kernel)]; exact ⟨rfl, rfl⟩)

set_option maxRecDepth 100000 in
theorem areaRanks_over : Rows.areaRanksRow.holds Tryz.pinned (OpenSpec.ofChange Rows.areaRanksSpec) :=
  OpenClaim.holds_of_wide 4 Tryz.f4 rfl rfl rfl rfl rfl rfl rfl ⟨rfl, rfl, rfl, rfl, rfl⟩ rfl rfl rfl rfl rfl areaRanks_named Tryz.func4 areaRanks_closed areaRanks_instance areaRanks_wrapper
    (fun os started H enc _ => areaRanks_lifted os started H enc)

/-- THE STATEMENT. -/
theorem areaRanks_holds : Rows.AreaRanksSaid := areaRanks_over

end Go.Proofs.YthjmkmjojlfejaaGreat
