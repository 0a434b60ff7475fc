/- The law AreaFair: for every input the call returns true, and its arguments read as before. No conditions. -/
import Derived.Test.YthjmkmjojlfejaaGreatB13
import Derived.Test.YthjmkmjojlfejaaGreatB07
import Derived.Test.YthjmkmjojlfejaaGreatB06
import Derived.Test.YthjmkmjojlfejaaGreatB05
import Derived.Test.YthjmkmjojlfejaaGreatB04
import Derived.Test.YthjmkmjojlfejaaGreatB03
import Derived.Test.YthjmkmjojlfejaaGreatB02
import Derived.Test.YthjmkmjojlfejaaGreatB01
import Derived.Shelf.Small.Bits
import Derived.Shelf.Small.Wraps
import Derived.Shelf.Strconv.Itoa0
import Derived.Shelf.Sort.Plain
import Derived.Shelf.Slices.Turned
import Derived.Ground.Names2Prog
import Derived.Shelf.Slices.CompactI
import Derived.Shelf.Slices.SearchI
import Derived.Shelf.Slices.Cells
import Derived.Shelf.Slices.In.SortNone
import Derived.Test.YthjmkmjojlfejaaGreatProg
import Derived.WalkKit
import Derived.Handy
import Derived.RangeFuncRecord
import Derived.Shelf.Abstract
import Derived.Deep.QuietTactic
import Derived.BigQuiet
import Derived.Laws.CopyOwn
import Derived.WalkSmall
import Derived.RangeFuncNested
import Derived.RangeFuncBound
import Derived.RangeFuncCalls
import Derived.RangeFuncLeaves
import Derived.Shelf.RegionOpen
import Derived.OwnWalkIn
import Derived.TacticsInMore
import Derived.LoopNIn
import Derived.LoopIn
import Derived.Maps.AppendAt
import Derived.Deep.Onto
import Derived.OrdersHeld
import Derived.Deep.LoopGhost
import Derived.Deep.WholeRow
import Derived.Deep.OwnRows
import Derived.StillTailTactics
import Derived.Great.Walk
import Derived.Great.BuildSlice
import Derived.WalkMore
import Derived.Deep.MidRow
import Derived.Deep.RegionHeld3
import Derived.Deep.DeepCutAuto
import Derived.Lib.OwnBridge
import Derived.Lib.SliceRun
import Derived.WalkSpells
import Derived.Deep.RegionWith
import Derived.Lib.AppendZerosOnto
import Derived.Deep.CutBlock
import Derived.IntWalk
import Derived.Test.YthjmkmjojlfejaaGreatB09
import Derived.Test.YthjmkmjojlfejaaGreatB14
import Derived.Test.YthjmkmjojlfejaaGreatRows
import Derived.ProofKit
import Derived.OpenShut
import Derived.Carry
import Derived.Lib.SmallJoins
import Derived.Deep.Slices
import Derived.Test.YthjmkmjojlfejaaGreatB08
import Derived.RangeFuncBox
import Derived.Test.YthjmkmjojlfejaaGreatB10
import Derived.Scope
import Derived.Test.YthjmkmjojlfejaaGreatB12
import Derived.Test.YthjmkmjojlfejaaGreatB11
import Derived.Test.YthjmkmjojlfejaaGreatXAreaFair
namespace Go.Proofs.YthjmkmjojlfejaaGreat
open Go Go.ChangeShapes Go.WideShapes Go.ChangeAt Go.RowKit

set_option maxRecDepth 100000 in
theorem areaFair_lifted (os : Os) (started : os.Started) (H : Type) (enc : TypeId × Value → H) :
    ReturnsInHanded {} Tryz.checked os 9 .any (Rows.areaFairSpec.pre6 enc Tryz.prog Tryz.f9 Rows.areaFairRow.domain false) (Rows.areaFairSpec.post enc Tryz.prog Tryz.f9 false true false false) := by
  refine returnsInHanded_of_change (C := Tryz.checked) Tryz.own started (by kernel_rfl) Tryz.func9
    (ChangeSpec.witness6 (enc := enc) (C := Tryz.checked) false ⟨#[], #[.int .i64 0, .slice none 0 0], []⟩ 8 (by kernel_rfl) (by kernel_rfl) (by kernel_rfl) (by kernel_rfl)) ?_
  intro W base args ds gs before hval0 hW hcnd _
  have hval : ∀ (j : Nat) t v, Tryz.f9.params[j]? = some t → args[j]? = some v → Value.okWide Tryz.prog W .any base t v := hval0
  have hW' := hW
  obtain ⟨p, q, hA0, hV, rfl, hfz, hnd⟩ := hW
  have hA : DataW.TrodAll enc Tryz.prog W 0 (fun _ => true) true Tryz.f9.params.toList args.toList ds p := hA0
  rw [Tryz.params9] at hA hval
  obtain ⟨v0, vs0, d0, ds0, p0, q0, hargs, rfl, rfl, h0, r0⟩ := trodAll_cons hA
  obtain ⟨v1, vs1, d1, ds1, p1, q1, rfl, rfl, rfl, h1, r1⟩ := trodAll_cons r0
  obtain ⟨rfl, rfl, rfl⟩ := trodAll_nil r1
  obtain rfl : args = #[v0, v1] := by cases args; simp_all
  obtain ⟨rfl, rfl⟩ := trodVars_none hV
  obtain ⟨n0, rfl, hn0⟩ := open_num (hval 0 3 v0 rfl rfl) h0
  obtain ⟨a1, cap1, y1, rfl, hY1, hZ1, hm1, hyo1⟩ := open_list (hval 1 25 v1 rfl rfl) h1
  refine (areaFair_of alive_any W n0 a1 cap1 y1 hm1 hY1).mono fun e W' ⟨he, hg⟩ => ?_
  subst he
  refine ⟨_, rfl, law_post hW' hg (by kernel_rfl) ?_ rfl rfl⟩
  intro t ht
  rw [Tryz.params9] at ht
  simp only [List.mem_cons, List.not_mem_nil, or_false] at ht
  rcases ht with rfl | rfl
  · exact argOk3
  · exact argOk27

/-! The row's closed facts, each by itself. -/
theorem areaFair_j0 : (Rows.areaFairRow.wf (OpenSpec.ofChange Rows.areaFairSpec)) = true := by kernel_rfl
theorem areaFair_j3 : (Tryz.f9.params.all (Tryz.prog.readableRec ·)) = true := by kernel_rfl
theorem areaFair_j4 : (namedTie Tryz.prog Rows.areaFairRow.named Rows.areaFairSpec.vars) = true := by kernel_rfl
theorem areaFair_j5 : ((Rows.areaFairRow.stops == [])) = true := by kernel_rfl
theorem areaFair_j7 : ((Rows.areaFairRow.knobs == [])) = true := by kernel_rfl
theorem areaFair_j9 : ((Rows.areaFairRow.inPlace == Tryz.prog.inPlace 9)) = true := by kernel_rfl
theorem areaFair_j10 : ((Rows.areaFairRow.unfollowed == Tryz.prog.unfollowed 9)) = true := by kernel_rfl
theorem areaFair_j11 : ((Rows.areaFairRow.recurses == Tryz.prog.recurses 9)) = true := by kernel_rfl
theorem areaFair_j12 : ((Rows.areaFairRow.named == Tryz.prog.varsNamed 9)) = true := by kernel_rfl
theorem areaFair_j13 : ((Rows.areaFairRow.maps == (Tryz.f9.params.toList ++ Rows.areaFairSpec.plain.varTypes Tryz.prog).any (Tryz.prog.mapsRec ·))) = true := by kernel_rfl
theorem areaFair_j14 : ((Rows.areaFairRow.ifaces == (Tryz.f9.params.toList ++ Rows.areaFairSpec.plain.varTypes Tryz.prog).any (Tryz.prog.ifacesRec ·))) = true := by kernel_rfl
theorem areaFair_j15 : ((Rows.areaFairRow.mapsOut == Tryz.prog.mapsAmong Tryz.f9.resultTypes.toList)) = true := by kernel_rfl
theorem areaFair_j16 : ((Rows.areaFairRow.loops == (Tryz.f9.params.toList ++ Rows.areaFairSpec.plain.varTypes Tryz.prog).any (Tryz.prog.loopsFrom ·))) = true := by kernel_rfl
theorem areaFair_j17 : ((Rows.areaFairRow.wideKeys == (Tryz.f9.params.toList ++ Rows.areaFairSpec.plain.varTypes Tryz.prog ++ Tryz.f9.resultTypes.toList).any (Tryz.prog.wideKeysFrom ·))) = true := by kernel_rfl
theorem areaFair_j18 : (Rows.areaFairSpec.vars.all (Tryz.prog.varReadable ·)) = true := by kernel_rfl
theorem areaFair_j19 : (Tryz.f9.resultTypes.all (fun t => Tryz.prog.readableRec t && decide (t < Tryz.prog.types.size))) = true := by kernel_rfl
theorem areaFair_j20 : ((Rows.areaFairRow.ifacesOut == Tryz.f9.resultTypes.toList.any (Tryz.prog.ifacesRec ·))) = true := by kernel_rfl
theorem areaFair_j21 : ((Rows.areaFairRow.loopsOut == Tryz.f9.resultTypes.toList.any (Tryz.prog.loopsFrom ·))) = true := by kernel_rfl
theorem areaFair_j22 : ((Rows.areaFairRow.plainKeys == Tryz.prog.plainKeys)) = true := by rw [Tryz.fact22]; rfl
theorem areaFair_j23 : (Rows.areaFairRow.shortTexts.isNone) = true := by kernel_rfl
theorem areaFair_j26 : ((Rows.areaFairRow.lifted == Tryz.prog.liftsFinal)) = true := by rw [Tryz.fact26]; rfl
theorem areaFair_j27 : ((Tryz.prog.make == some Rows.areaFairRow.make)) = true := by rw [Tryz.fact27]; rfl
theorem areaFair_j28 : ((Rows.areaFairRow.kinds == (if Rows.areaFairRow.domain.isEmpty then [] else Tryz.f9.params.toList.map fun t => match Tryz.prog.underlying t with | some (.int k) => some k | _ => none))) = true := by kernel_rfl
theorem areaFair_j29 : ((Rows.areaFairRow.pinned == Rows.areaFairRow.pinnedBy)) = true := by kernel_rfl
theorem areaFair_j30 : ((Rows.areaFairRow.veiled == (Tryz.f9.params.toList ++ Rows.areaFairSpec.plain.varTypes Tryz.prog ++ Tryz.f9.resultTypes.toList).any (Tryz.prog.veiledRec ·))) = true := by kernel_rfl
theorem areaFair_j31 : (Rows.areaFairRow.veiledFits Tryz.prog Tryz.f9.params.toList (Tryz.f9.params.toList ++ Rows.areaFairSpec.plain.varTypes Tryz.prog ++ Tryz.f9.resultTypes.toList)) = true := by kernel_rfl
set_option maxRecDepth 100000 in
theorem areaFair_closed : joinedFacts Tryz.prog 9 Tryz.f9 Rows.areaFairSpec Rows.areaFairRow = true := by
  unfold joinedFacts
  exact (and2 (and2 (and2 (and2 (and2 (and2 (and2 (and2 (and2 (and2 (and2 (and2 (and2 (and2 (and2 (and2 (and2 (and2 (and2 (and2 (and2 (and2 (and2 (and2 (and2 (and2 (and2 (and2 (and2 (and2 (and2 areaFair_j0 Tryz.fact1) Tryz.fact2) areaFair_j3) areaFair_j4) areaFair_j5) Tryz.fact6) areaFair_j7) Tryz.fact8) areaFair_j9) areaFair_j10) areaFair_j11) areaFair_j12) areaFair_j13) areaFair_j14) areaFair_j15) areaFair_j16) areaFair_j17) areaFair_j18) areaFair_j19) areaFair_j20) areaFair_j21) areaFair_j22) areaFair_j23) Tryz.fact24) Tryz.fact25) areaFair_j26) areaFair_j27) areaFair_j28) areaFair_j29) areaFair_j30) areaFair_j31)
theorem areaFair_named : Tryz.prog.funcNamed Rows.areaFairRow.func = some 9 := by kernel_rfl
theorem areaFair_instance : Tryz.f9.isInstance Tryz.prog Rows.areaFairRow.origin Rows.areaFairRow.targs := of_decide_eq_true (by kernel_rfl)
theorem areaFair_wrapper : Tryz.f9.isWrapper Tryz.prog Rows.areaFairRow.wrapper Rows.areaFairRow.mainSum := by unfold Func.isWrapper; first | (rw [if_pos (by decide +kernel)]; kernel_rfl) | (rw [if_neg (by decide +kernel)]; exact ⟨rfl, rfl⟩)

set_option maxRecDepth 100000 in
theorem areaFair_over : Rows.areaFairRow.holds Tryz.pinned (OpenSpec.ofChange Rows.areaFairSpec) :=
  OpenClaim.holds_of_wide 9 Tryz.f9 rfl rfl rfl rfl rfl rfl rfl ⟨rfl, rfl, rfl, rfl, rfl⟩ rfl rfl rfl rfl rfl areaFair_named Tryz.func9 areaFair_closed areaFair_instance areaFair_wrapper
    (fun os started H enc _ => areaFair_lifted os started H enc)

/-- THE STATEMENT. -/
theorem areaFair_holds : Rows.AreaFairSaid := areaFair_over

end Go.Proofs.YthjmkmjojlfejaaGreat
