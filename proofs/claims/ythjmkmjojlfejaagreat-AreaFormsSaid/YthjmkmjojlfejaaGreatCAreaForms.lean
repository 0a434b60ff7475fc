/- The law AreaForms: for every input the call returns true, and its arguments read as before. No conditions. -/
import Derived.Test.YthjmkmjojlfejaaGreatB05
import Derived.Test.YthjmkmjojlfejaaGreatB03
import Derived.Test.YthjmkmjojlfejaaGreatB02
import Derived.Test.YthjmkmjojlfejaaGreatB01
import Derived.Test.YthjmkmjojlfejaaGreatProg
import Derived.WalkKit
import Derived.Handy
import Derived.RangeFuncRecord
import Derived.Shelf.Abstract
import Derived.Deep.QuietTactic
import Derived.BigQuiet
import Derived.Laws.CopyOwn
import Derived.WalkSmall
import Derived.RangeFuncNested
import Derived.RangeFuncBound
import Derived.RangeFuncCalls
import Derived.RangeFuncLeaves
import Derived.Shelf.RegionOpen
import Derived.OwnWalkIn
import Derived.TacticsInMore
import Derived.LoopNIn
import Derived.LoopIn
import Derived.Maps.AppendAt
import Derived.Deep.Onto
import Derived.OrdersHeld
import Derived.Deep.LoopGhost
import Derived.Deep.WholeRow
import Derived.Deep.OwnRows
import Derived.StillTailTactics
import Derived.Great.Walk
import Derived.Great.BuildSlice
import Derived.WalkMore
import Derived.Deep.MidRow
import Derived.Deep.RegionHeld3
import Derived.Deep.DeepCutAuto
import Derived.Shelf.Small.Bits
import Derived.Shelf.Small.Wraps
import Derived.Shelf.Strconv.Itoa0
import Derived.Shelf.Sort.Plain
import Derived.Shelf.Slices.Turned
import Derived.Ground.Names2Prog
import Derived.Shelf.Slices.CompactI
import Derived.Shelf.Slices.SearchI
import Derived.Shelf.Slices.Cells
import Derived.Shelf.Slices.In.SortNone
import Derived.Lib.OwnBridge
import Derived.Lib.SliceRun
import Derived.WalkSpells
import Derived.Deep.RegionWith
import Derived.Lib.AppendZerosOnto
import Derived.Deep.CutBlock
import Derived.IntWalk
import Derived.Test.YthjmkmjojlfejaaGreatB07
import Derived.Test.YthjmkmjojlfejaaGreatB06
import Derived.Test.YthjmkmjojlfejaaGreatB04
import Derived.Test.YthjmkmjojlfejaaGreatB12
import Derived.Test.YthjmkmjojlfejaaGreatB11
import Derived.Test.YthjmkmjojlfejaaGreatB10
import Derived.Test.YthjmkmjojlfejaaGreatB13
import Derived.Test.YthjmkmjojlfejaaGreatB09
import Derived.Test.YthjmkmjojlfejaaGreatB08
import Derived.Scope
import Derived.Test.YthjmkmjojlfejaaGreatB14
import Derived.Test.YthjmkmjojlfejaaGreatRows
import Derived.ProofKit
import Derived.OpenShut
import Derived.Carry
import Derived.Lib.SmallJoins
import Derived.Deep.Slices
import Derived.RangeFuncBox
import Derived.Test.YthjmkmjojlfejaaGreatXAreaForms
namespace Go.Proofs.YthjmkmjojlfejaaGreat
open Go Go.ChangeShapes Go.WideShapes Go.ChangeAt Go.RowKit

set_option maxRecDepth 100000 in
theorem areaForms_lifted (os : Os) (started : os.Started) (H : Type) (enc : TypeId × Value → H) :
    ReturnsInHanded {} Tryz.checked os 7 .any (Rows.areaFormsSpec.pre6 enc Tryz.prog Tryz.f7 Rows.areaFormsRow.domain false) (Rows.areaFormsSpec.post enc Tryz.prog Tryz.f7 false true false false) := by
  refine returnsInHanded_of_change (C := Tryz.checked) Tryz.own started (by kernel_rfl) Tryz.func7
    (ChangeSpec.witness6 (enc := enc) (C := Tryz.checked) false ⟨#[], #[.agg #[.int .i64 0, .slice none 0 0], .slice none 0 0, .slice none 0 0], []⟩ 8 (by kernel_rfl) (by kernel_rfl) (by kernel_rfl) (by kernel_rfl)) ?_
  intro W base args ds gs before hval0 hW hcnd _
  have hval : ∀ (j : Nat) t v, Tryz.f7.params[j]? = some t → args[j]? = some v → Value.okWide Tryz.prog W .any base t v := hval0
  have hW' := hW
  obtain ⟨p, q, hA0, hV, rfl, hfz, hnd⟩ := hW
  have hA : DataW.TrodAll enc Tryz.prog W 0 (fun _ => true) true Tryz.f7.params.toList args.toList ds p := hA0
  rw [Tryz.params7] at hA hval
  obtain ⟨v0, vs0, d0, ds0, p0, q0, hargs, rfl, rfl, h0, r0⟩ := trodAll_cons hA
  obtain ⟨v1, vs1, d1, ds1, p1, q1, rfl, rfl, rfl, h1, r1⟩ := trodAll_cons r0
  obtain ⟨v2, vs2, d2, ds2, p2, q2, rfl, rfl, rfl, h2, r2⟩ := trodAll_cons r1
  obtain ⟨rfl, rfl, rfl⟩ := trodAll_nil r2
  obtain rfl : args = #[v0, v1, v2] := by cases args; simp_all
  obtain ⟨rfl, rfl⟩ := trodVars_none hV
  obtain ⟨N0, a0, cap0, bs0, rfl, hN0, hB0, hS0, hl0, hok0⟩ := open_sys (hval 0 24 v0 rfl rfl) h0
  obtain ⟨a1, cap1, y1, rfl, hY1, hZ1, hm1, hyo1⟩ := open_list (hval 1 25 v1 rfl rfl) h1
  obtain ⟨a2, cap2, y2, rfl, hY2, hZ2, hm2, hyo2⟩ := open_list (hval 2 25 v2 rfl rfl) h2
  refine (areaForms_of alive_any W N0 a0 cap0 bs0 a1 cap1 y1 a2 cap2 y2 hN0 hl0 hB0 hm1 hY1 hm2 hY2).mono fun e W' ⟨he, hg⟩ => ?_
  subst he
  refine ⟨_, rfl, law_post hW' hg (by kernel_rfl) ?_ rfl rfl⟩
  intro t ht
  rw [Tryz.params7] at ht
  simp only [List.mem_cons, List.not_mem_nil, or_false] at ht
  rcases ht with rfl | rfl | rfl
  · exact argOk24
  · exact argOk27
  · exact argOk27

/-! The row's closed facts, each by itself. -/
theorem areaForms_j0 : (Rows.areaFormsRow.wf (OpenSpec.ofChange Rows.areaFormsSpec)) = true := by kernel_rfl
theorem areaForms_j3 : (Tryz.f7.params.all (Tryz.prog.readableRec ·)) = true := by kernel_rfl
theorem areaForms_j4 : (namedTie Tryz.prog Rows.areaFormsRow.named Rows.areaFormsSpec.vars) = true := by kernel_rfl
theorem areaForms_j5 : ((Rows.areaFormsRow.stops == [])) = true := by kernel_rfl
theorem areaForms_j7 : ((Rows.areaFormsRow.knobs == [])) = true := by kernel_rfl
theorem areaForms_j9 : ((Rows.areaFormsRow.inPlace == Tryz.prog.inPlace 7)) = true := by kernel_rfl
theorem areaForms_j10 : ((Rows.areaFormsRow.unfollowed == Tryz.prog.unfollowed 7)) = true := by kernel_rfl
theorem areaForms_j11 : ((Rows.areaFormsRow.recurses == Tryz.prog.recurses 7)) = true := by kernel_rfl
theorem areaForms_j12 : ((Rows.areaFormsRow.named == Tryz.prog.varsNamed 7)) = true := by kernel_rfl
theorem areaForms_j13 : ((Rows.areaFormsRow.maps == (Tryz.f7.params.toList ++ Rows.areaFormsSpec.plain.varTypes Tryz.prog).any (Tryz.prog.mapsRec ·))) = true := by kernel_rfl
theorem areaForms_j14 : ((Rows.areaFormsRow.ifaces == (Tryz.f7.params.toList ++ Rows.areaFormsSpec.plain.varTypes Tryz.prog).any (Tryz.prog.ifacesRec ·))) = true := by kernel_rfl
theorem areaForms_j15 : ((Rows.areaFormsRow.mapsOut == Tryz.prog.mapsAmong Tryz.f7.resultTypes.toList)) = true := by kernel_rfl
theorem areaForms_j16 : ((Rows.areaFormsRow.loops == (Tryz.f7.params.toList ++ Rows.areaFormsSpec.plain.varTypes Tryz.prog).any (Tryz.prog.loopsFrom ·))) = true := by kernel_rfl
theorem areaForms_j17 : ((Rows.areaFormsRow.wideKeys == (Tryz.f7.params.toList ++ Rows.areaFormsSpec.plain.varTypes Tryz.prog ++ Tryz.f7.resultTypes.toList).any (Tryz.prog.wideKeysFrom ·))) = true := by kernel_rfl
theorem areaForms_j18 : (Rows.areaFormsSpec.vars.all (Tryz.prog.varReadable ·)) = true := by kernel_rfl
theorem areaForms_j19 : (Tryz.f7.resultTypes.all (fun t => Tryz.prog.readableRec t && decide (t < Tryz.prog.types.size))) = true := by kernel_rfl
theorem areaForms_j20 : ((Rows.areaFormsRow.ifacesOut == Tryz.f7.resultTypes.toList.any (Tryz.prog.ifacesRec ·))) = true := by kernel_rfl
theorem areaForms_j21 : ((Rows.areaFormsRow.loopsOut == Tryz.f7.resultTypes.toList.any (Tryz.prog.loopsFrom ·))) = true := by kernel_rfl
theorem areaForms_j22 : ((Rows.areaFormsRow.plainKeys == Tryz.prog.plainKeys)) = true := by rw [Tryz.fact22]; rfl
theorem areaForms_j23 : (Rows.areaFormsRow.shortTexts.isNone) = true := by kernel_rfl
theorem areaForms_j26 : ((Rows.areaFormsRow.lifted == Tryz.prog.liftsFinal)) = true := by rw [Tryz.fact26]; rfl
theorem areaForms_j27 : ((Tryz.prog.make == some Rows.areaFormsRow.make)) = true := by rw [Tryz.fact27]; rfl
theorem areaForms_j28 : ((Rows.areaFormsRow.kinds == (if Rows.areaFormsRow.domain.isEmpty then [] else Tryz.f7.params.toList.map fun t => match Tryz.prog.underlying t with | some (.int k) => some k | _ => none))) = true := by kernel_rfl
theorem areaForms_j29 : ((Rows.areaFormsRow.pinned == Rows.areaFormsRow.pinnedBy)) = true := by kernel_rfl
theorem areaForms_j30 : ((Rows.areaFormsRow.veiled == (Tryz.f7.params.toList ++ Rows.areaFormsSpec.plain.varTypes Tryz.prog ++ Tryz.f7.resultTypes.toList).any (Tryz.prog.veiledRec ·))) = true := by kernel_rfl
theorem areaForms_j31 : (Rows.areaFormsRow.veiledFits Tryz.prog Tryz.f7.params.toList (Tryz.f7.params.toList ++ Rows.areaFormsSpec.plain.varTypes Tryz.prog ++ Tryz.f7.resultTypes.toList)) = true := by kernel_rfl
set_option maxRecDepth 100000 in
theorem areaForms_closed : joinedFacts Tryz.prog 7 Tryz.f7 Rows.areaFormsSpec Rows.areaFormsRow = true := by
  unfold joinedFacts
  exact (and2 (and2 (and2 (and2 (and2 (and2 (and2 (and2 (and2 (and2 (and2 (and2 (and2 (and2 (and2 (and2 (and2 (and2 (and2 (and2 (and2 (and2 (and2 (and2 (and2 (and2 (and2 (and2 (and2 (and2 (and2 areaForms_j0 Tryz.fact1) Tryz.fact2) areaForms_j3) areaForms_j4) areaForms_j5) Tryz.fact6) areaForms_j7) Tryz.fact8) areaForms_j9) areaForms_j10) areaForms_j11) areaForms_j12) areaForms_j13) areaForms_j14) areaForms_j15) areaForms_j16) areaForms_j17) areaForms_j18) areaForms_j19) areaForms_j20) areaForms_j21) areaForms_j22) areaForms_j23) Tryz.fact24) Tryz.fact25) areaForms_j26) areaForms_j27) areaForms_j28) areaForms_j29) areaForms_j30) areaForms_j31)
theorem areaForms_named : Tryz.prog.funcNamed Rows.areaFormsRow.func = some 7 := by kernel_rfl
theorem areaForms_instance : Tryz.f7.isInstance Tryz.prog Rows.areaFormsRow.origin Rows.areaFormsRow.targs := of_decide_eq_true (by kernel_rfl)
theorem areaForms_wrapper : Tryz.f7.isWrapper Tryz.prog Rows.areaFormsRow.wrapper Rows.areaFormsRow.mainSum := by unfold Func.isWrapper; first | (rw [if_pos (by decide +kernel)]; kernel_rfl) | (rw [if_neg (by decide +kernel)]; exact ⟨rfl, rfl⟩)

set_option maxRecDepth 100000 in
theorem areaForms_over : Rows.areaFormsRow.holds Tryz.pinned (OpenSpec.ofChange Rows.areaFormsSpec) :=
  OpenClaim.holds_of_wide 7 Tryz.f7 rfl rfl rfl rfl rfl rfl rfl ⟨rfl, rfl, rfl, rfl, rfl⟩ rfl rfl rfl rfl rfl areaForms_named Tryz.func7 areaForms_closed areaForms_instance areaForms_wrapper
    (fun os started H enc _ => areaForms_lifted os started H enc)

/-- THE STATEMENT. -/
theorem areaForms_holds : Rows.AreaFormsSaid := areaForms_over

end Go.Proofs.YthjmkmjojlfejaaGreat
