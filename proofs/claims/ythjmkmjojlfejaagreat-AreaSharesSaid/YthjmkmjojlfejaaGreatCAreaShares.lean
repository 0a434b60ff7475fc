/- The law AreaShares: for every input the call returns true, and its arguments read as before. No conditions. -/
import Derived.Test.YthjmkmjojlfejaaGreatB13
import Derived.Test.YthjmkmjojlfejaaGreatB07
import Derived.Test.YthjmkmjojlfejaaGreatB06
import Derived.Test.YthjmkmjojlfejaaGreatB05
import Derived.Test.YthjmkmjojlfejaaGreatB04
import Derived.Test.YthjmkmjojlfejaaGreatB03
import Derived.Test.YthjmkmjojlfejaaGreatB02
import Derived.Test.YthjmkmjojlfejaaGreatB01
import Derived.Shelf.Small.Bits
import Derived.Shelf.Small.Wraps
import Derived.Shelf.Strconv.Itoa0
import Derived.Shelf.Sort.Plain
import Derived.Shelf.Slices.Turned
import Derived.Ground.Names2Prog
import Derived.Shelf.Slices.CompactI
import Derived.Shelf.Slices.SearchI
import Derived.Shelf.Slices.Cells
import Derived.Shelf.Slices.In.SortNone
import Derived.Test.YthjmkmjojlfejaaGreatProg
import Derived.WalkKit
import Derived.Handy
import Derived.RangeFuncRecord
import Derived.Shelf.Abstract
import Derived.Deep.QuietTactic
import Derived.BigQuiet
import Derived.Laws.CopyOwn
import Derived.WalkSmall
import Derived.RangeFuncNested
import Derived.RangeFuncBound
import Derived.RangeFuncCalls
import Derived.RangeFuncLeaves
import Derived.Shelf.RegionOpen
import Derived.OwnWalkIn
import Derived.TacticsInMore
import Derived.LoopNIn
import Derived.LoopIn
import Derived.Maps.AppendAt
import Derived.Deep.Onto
import Derived.OrdersHeld
import Derived.Deep.LoopGhost
import Derived.Deep.WholeRow
import Derived.Deep.OwnRows
import Derived.StillTailTactics
import Derived.Great.Walk
import Derived.Great.BuildSlice
import Derived.WalkMore
import Derived.Deep.MidRow
import Derived.Deep.RegionHeld3
import Derived.Deep.DeepCutAuto
import Derived.Lib.OwnBridge
import Derived.Lib.SliceRun
import Derived.WalkSpells
import Derived.Deep.RegionWith
import Derived.Lib.AppendZerosOnto
import Derived.Deep.CutBlock
import Derived.IntWalk
import Derived.Test.YthjmkmjojlfejaaGreatB14
import Derived.Test.YthjmkmjojlfejaaGreatRows
import Derived.ProofKit
import Derived.OpenShut
import Derived.Carry
import Derived.Lib.SmallJoins
import Derived.Deep.Slices
import Derived.Test.YthjmkmjojlfejaaGreatB09
import Derived.Test.YthjmkmjojlfejaaGreatB08
import Derived.RangeFuncBox
import Derived.Test.YthjmkmjojlfejaaGreatB10
import Derived.Scope
import Derived.Test.YthjmkmjojlfejaaGreatB12
import Derived.Test.YthjmkmjojlfejaaGreatB11
import Derived.Test.YthjmkmjojlfejaaGreatXAreaShares
namespace Go.Proofs.YthjmkmjojlfejaaGreat
open Go Go.ChangeShapes Go.WideShapes Go.ChangeAt Go.RowKit

set_option maxRecDepth 100000 in
theorem areaShares_lifted (os : Os) (started : os.Started) (H : Type) (enc : TypeId × Value → H) :
    ReturnsInHanded {} Tryz.checked os 8 .any (Rows.areaSharesSpec.pre6 enc Tryz.prog Tryz.f8 Rows.areaSharesRow.domain false) (Rows.areaSharesSpec.post enc Tryz.prog Tryz.f8 false true false false) := by
  refine returnsInHanded_of_change (C := Tryz.checked) Tryz.own started (by kernel_rfl) Tryz.func8
    (ChangeSpec.witness6 (enc := enc) (C := Tryz.checked) false ⟨#[], #[.int .i64 0, .slice none 0 0, .slice none 0 0], []⟩ 8 (by kernel_rfl) (by kernel_rfl) (by kernel_rfl) (by kernel_rfl)) ?_
  intro W base args ds gs before hval0 hW hcnd _
  have hval : ∀ (j : Nat) t v, Tryz.f8.params[j]? = some t → args[j]? = some v → Value.okWide Tryz.prog W .any base t v := hval0
  have hW' := hW
  obtain ⟨p, q, hA0, hV, rfl, hfz, hnd⟩ := hW
  have hA : DataW.TrodAll enc Tryz.prog W 0 (fun _ => true) true Tryz.f8.params.toList args.toList ds p := hA0
  rw [Tryz.params8] at hA hval
  obtain ⟨v0, vs0, d0, ds0, p0, q0, hargs, rfl, rfl, h0, r0⟩ := trodAll_cons hA
  obtain ⟨v1, vs1, d1, ds1, p1, q1, rfl, rfl, rfl, h1, r1⟩ := trodAll_cons r0
  obtain ⟨v2, vs2, d2, ds2, p2, q2, rfl, rfl, rfl, h2, r2⟩ := trodAll_cons r1
  obtain ⟨rfl, rfl, rfl⟩ := trodAll_nil r2
  obtain rfl : args = #[v0, v1, v2] := by cases args; simp_all
  obtain ⟨rfl, rfl⟩ := trodVars_none hV
  obtain ⟨n0, rfl, hn0⟩ := open_num (hval 0 3 v0 rfl rfl) h0
  obtain ⟨a1, cap1, y1, rfl, hY1, hZ1, hm1, hyo1⟩ := open_list (hval 1 25 v1 rfl rfl) h1
  obtain ⟨a2, cap2, y2, rfl, hY2, hZ2, hm2, hyo2⟩ := open_list (hval 2 25 v2 rfl rfl) h2
  refine (areaShares_of alive_any W n0 a1 cap1 y1 a2 cap2 y2 hm1 hm2 hY1 hY2).mono fun e W' ⟨he, hg⟩ => ?_
  subst he
  refine ⟨_, rfl, law_post hW' hg (by kernel_rfl) ?_ rfl rfl⟩
  intro t ht
  rw [Tryz.params8] at ht
  simp only [List.mem_cons, List.not_mem_nil, or_false] at ht
  rcases ht with rfl | rfl | rfl
  · exact argOk3
  · exact argOk27
  · exact argOk27

/-! The row's closed facts, each by itself. -/
theorem areaShares_j0 : (Rows.areaSharesRow.wf (OpenSpec.ofChange Rows.areaSharesSpec)) = true := by kernel_rfl
theorem areaShares_j3 : (Tryz.f8.params.all (Tryz.prog.readableRec ·)) = true := by kernel_rfl
theorem areaShares_j4 : (namedTie Tryz.prog Rows.areaSharesRow.named Rows.areaSharesSpec.vars) = true := by kernel_rfl
theorem areaShares_j5 : ((Rows.areaSharesRow.stops == [])) = true := by kernel_rfl
theorem areaShares_j7 : ((Rows.areaSharesRow.knobs == [])) = true := by kernel_rfl
theorem areaShares_j9 : ((Rows.areaSharesRow.inPlace == Tryz.prog.inPlace 8)) = true := by kernel_rfl
theorem areaShares_j10 : ((Rows.areaSharesRow.unfollowed == Tryz.prog.unfollowed 8)) = true := by kernel_rfl
theorem areaShares_j11 : ((Rows.areaSharesRow.recurses == Tryz.prog.recurses 8)) = true := by kernel_rfl
theorem areaShares_j12 : ((Rows.areaSharesRow.named == Tryz.prog.varsNamed 8)) = true := by kernel_rfl
theorem areaShares_j13 : ((Rows.areaSharesRow.maps == (Tryz.f8.params.toList ++ Rows.areaSharesSpec.plain.varTypes Tryz.prog).any (Tryz.prog.mapsRec ·))) = true := by kernel_rfl
theorem areaShares_j14 : ((Rows.areaSharesRow.ifaces == (Tryz.f8.params.toList ++ Rows.areaSharesSpec.plain.varTypes Tryz.prog).any (Tryz.prog.ifacesRec ·))) = true := by kernel_rfl
theorem areaShares_j15 : ((Rows.areaSharesRow.mapsOut == Tryz.prog.mapsAmong Tryz.f8.resultTypes.toList)) = true := by kernel_rfl
theorem areaShares_j16 : ((Rows.areaSharesRow.loops == (Tryz.f8.params.toList ++ Rows.areaSharesSpec.plain.varTypes Tryz.prog).any (Tryz.prog.loopsFrom ·))) = true := by kernel_rfl
theorem areaShares_j17 : ((Rows.areaSharesRow.wideKeys == (Tryz.f8.params.toList ++ Rows.areaSharesSpec.plain.varTypes Tryz.prog ++ Tryz.f8.resultTypes.toList).any (Tryz.prog.wideKeysFrom ·))) = true := by kernel_rfl
theorem areaShares_j18 : (Rows.areaSharesSpec.vars.all (Tryz.prog.varReadable ·)) = true := by kernel_rfl
theorem areaShares_j19 : (Tryz.f8.resultTypes.all (fun t => Tryz.prog.readableRec t && decide (t < Tryz.prog.types.size))) = true := by kernel_rfl
theorem areaShares_j20 : ((Rows.areaSharesRow.ifacesOut == Tryz.f8.resultTypes.toList.any (Tryz.prog.ifacesRec ·))) = true := by kernel_rfl
theorem areaShares_j21 : ((Rows.areaSharesRow.loopsOut == Tryz.f8.resultTypes.toList.any (Tryz.prog.loopsFrom ·))) = true := by kernel_rfl
theorem areaShares_j22 : ((Rows.areaSharesRow.plainKeys == Tryz.prog.plainKeys)) = true := by rw [Tryz.fact22]; rfl
theorem areaShares_j23 : (Rows.areaSharesRow.shortTexts.isNone) = true := by kernel_rfl
theorem areaShares_j26 : ((Rows.areaSharesRow.lifted == Tryz.prog.liftsFinal)) = true := by rw [Tryz.fact26]; rfl
theorem areaShares_j27 : ((Tryz.prog.make == some Rows.areaSharesRow.make)) = true := by rw [Tryz.fact27]; rfl
theorem areaShares_j28 : ((Rows.areaSharesRow.kinds == (if Rows.areaSharesRow.domain.isEmpty then [] else Tryz.f8.params.toList.map fun t => match Tryz.prog.underlying t with | some (.int k) => some k | _ => none))) = true := by kernel_rfl
theorem areaShares_j29 : ((Rows.areaSharesRow.pinned == Rows.areaSharesRow.pinnedBy)) = true := by kernel_rfl
theorem areaShares_j30 : ((Rows.areaSharesRow.veiled == (Tryz.f8.params.toList ++ Rows.areaSharesSpec.plain.varTypes Tryz.prog ++ Tryz.f8.resultTypes.toList).any (Tryz.prog.veiledRec ·))) = true := by kernel_rfl
theorem areaShares_j31 : (Rows.areaSharesRow.veiledFits Tryz.prog Tryz.f8.params.toList (Tryz.f8.params.toList ++ Rows.areaSharesSpec.plain.varTypes Tryz.prog ++ Tryz.f8.resultTypes.toList)) = true := by kernel_rfl
set_option maxRecDepth 100000 in
theorem areaShares_closed : joinedFacts Tryz.prog 8 Tryz.f8 Rows.areaSharesSpec Rows.areaSharesRow = true := by
  unfold joinedFacts
  exact (and2 (and2 (and2 (and2 (and2 (and2 (and2 (and2 (and2 (and2 (and2 (and2 (and2 (and2 (and2 (and2 (and2 (and2 (and2 (and2 (and2 (and2 (and2 (and2 (and2 (and2 (and2 (and2 (and2 (and2 (and2 areaShares_j0 Tryz.fact1) Tryz.fact2) areaShares_j3) areaShares_j4) areaShares_j5) Tryz.fact6) areaShares_j7) Tryz.fact8) areaShares_j9) areaShares_j10) areaShares_j11) areaShares_j12) areaShares_j13) areaShares_j14) areaShares_j15) areaShares_j16) areaShares_j17) areaShares_j18) areaShares_j19) areaShares_j20) areaShares_j21) areaShares_j22) areaShares_j23) Tryz.fact24) Tryz.fact25) areaShares_j26) areaShares_j27) areaShares_j28) areaShares_j29) areaShares_j30) areaShares_j31)
theorem areaShares_named : Tryz.prog.funcNamed Rows.areaSharesRow.func = some 8 := by kernel_rfl
theorem areaShares_instance : Tryz.f8.isInstance Tryz.prog Rows.areaSharesRow.origin Rows.areaSharesRow.targs := of_decide_eq_true (by kernel_rfl)
theorem areaShares_wrapper : Tryz.f8.isWrapper Tryz.prog Rows.areaSharesRow.wrapper Rows.areaSharesRow.mainSum := by unfold Func.isWrapper; first | (rw [if_pos (by decide +kernel)]; kernel_rfl) | (rw [if_neg (by decide +kernel)]; exact ⟨rfl, rfl⟩)

set_option maxRecDepth 100000 in
theorem areaShares_over : Rows.areaSharesRow.holds Tryz.pinned (OpenSpec.ofChange Rows.areaSharesSpec) :=
  OpenClaim.holds_of_wide 8 Tryz.f8 rfl rfl rfl rfl rfl rfl rfl ⟨rfl, rfl, rfl, rfl, rfl⟩ rfl rfl rfl rfl rfl areaShares_named Tryz.func8 areaShares_closed areaShares_instance areaShares_wrapper
    (fun os started H enc _ => areaShares_lifted os started H enc)

/-- THE STATEMENT. -/
theorem areaShares_holds : Rows.AreaSharesSaid := areaShares_over

end Go.Proofs.YthjmkmjojlfejaaGreat
