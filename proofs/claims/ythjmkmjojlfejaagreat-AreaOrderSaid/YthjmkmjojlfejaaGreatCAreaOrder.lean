/- The law AreaOrder: for every input the call returns true, and its arguments read as before. No conditions. -/
import Derived.Test.YthjmkmjojlfejaaGreatB09
import Derived.Test.YthjmkmjojlfejaaGreatB07
import Derived.Test.YthjmkmjojlfejaaGreatB06
import Derived.Test.YthjmkmjojlfejaaGreatB05
import Derived.Test.YthjmkmjojlfejaaGreatB04
import Derived.Test.YthjmkmjojlfejaaGreatB03
import Derived.Test.YthjmkmjojlfejaaGreatB02
import Derived.Test.YthjmkmjojlfejaaGreatB01
import Derived.Shelf.Small.Bits
import Derived.Shelf.Small.Wraps
import Derived.Shelf.Strconv.Itoa0
import Derived.Shelf.Sort.Plain
import Derived.Shelf.Slices.Turned
import Derived.Ground.Names2Prog
import Derived.Shelf.Slices.CompactI
import Derived.Shelf.Slices.SearchI
import Derived.Shelf.Slices.Cells
import Derived.Shelf.Slices.In.SortNone
import Derived.Test.YthjmkmjojlfejaaGreatProg
import Derived.WalkKit
import Derived.Handy
import Derived.RangeFuncRecord
import Derived.Shelf.Abstract
import Derived.Deep.QuietTactic
import Derived.BigQuiet
import Derived.Laws.CopyOwn
import Derived.WalkSmall
import Derived.RangeFuncNested
import Derived.RangeFuncBound
import Derived.RangeFuncCalls
import Derived.RangeFuncLeaves
import Derived.Shelf.RegionOpen
import Derived.OwnWalkIn
import Derived.TacticsInMore
import Derived.LoopNIn
import Derived.LoopIn
import Derived.Maps.AppendAt
import Derived.Deep.Onto
import Derived.OrdersHeld
import Derived.Deep.LoopGhost
import Derived.Deep.WholeRow
import Derived.Deep.OwnRows
import Derived.StillTailTactics
import Derived.Great.Walk
import Derived.Great.BuildSlice
import Derived.WalkMore
import Derived.Deep.MidRow
import Derived.Deep.RegionHeld3
import Derived.Deep.DeepCutAuto
import Derived.Lib.OwnBridge
import Derived.Lib.SliceRun
import Derived.WalkSpells
import Derived.Deep.RegionWith
import Derived.Lib.AppendZerosOnto
import Derived.Deep.CutBlock
import Derived.IntWalk
import Derived.Test.YthjmkmjojlfejaaGreatB10
import Derived.RangeFuncBox
import Derived.Scope
import Derived.Test.YthjmkmjojlfejaaGreatB13
import Derived.Test.YthjmkmjojlfejaaGreatB14
import Derived.Test.YthjmkmjojlfejaaGreatRows
import Derived.ProofKit
import Derived.OpenShut
import Derived.Carry
import Derived.Lib.SmallJoins
import Derived.Deep.Slices
import Derived.Test.YthjmkmjojlfejaaGreatB08
import Derived.Test.YthjmkmjojlfejaaGreatB12
import Derived.Test.YthjmkmjojlfejaaGreatB11
import Derived.Test.YthjmkmjojlfejaaGreatXAreaOrder
namespace Go.Proofs.YthjmkmjojlfejaaGreat
open Go Go.ChangeShapes Go.WideShapes Go.ChangeAt Go.RowKit

set_option maxRecDepth 100000 in
theorem areaOrder_lifted (os : Os) (started : os.Started) (H : Type) (enc : TypeId × Value → H) :
    ReturnsInHanded {} Tryz.checked os 6 .any (Rows.areaOrderSpec.pre6 enc Tryz.prog Tryz.f6 Rows.areaOrderRow.domain false) (Rows.areaOrderSpec.post enc Tryz.prog Tryz.f6 false true false false) := by
  refine returnsInHanded_of_change (C := Tryz.checked) Tryz.own started (by kernel_rfl) Tryz.func6
    (ChangeSpec.witness6 (enc := enc) (C := Tryz.checked) false ⟨#[], #[.int .i64 0, .slice none 0 0, .slice none 0 0, .int .i64 0, .int .i64 0], []⟩ 8 (by kernel_rfl) (by kernel_rfl) (by kernel_rfl) (by kernel_rfl)) ?_
  intro W base args ds gs before hval0 hW hcnd _
  have hval : ∀ (j : Nat) t v, Tryz.f6.params[j]? = some t → args[j]? = some v → Value.okWide Tryz.prog W .any base t v := hval0
  have hW' := hW
  obtain ⟨p, q, hA0, hV, rfl, hfz, hnd⟩ := hW
  have hA : DataW.TrodAll enc Tryz.prog W 0 (fun _ => true) true Tryz.f6.params.toList args.toList ds p := hA0
  rw [Tryz.params6] at hA hval
  obtain ⟨v0, vs0, d0, ds0, p0, q0, hargs, rfl, rfl, h0, r0⟩ := trodAll_cons hA
  obtain ⟨v1, vs1, d1, ds1, p1, q1, rfl, rfl, rfl, h1, r1⟩ := trodAll_cons r0
  obtain ⟨v2, vs2, d2, ds2, p2, q2, rfl, rfl, rfl, h2, r2⟩ := trodAll_cons r1
  obtain ⟨v3, vs3, d3, ds3, p3, q3, rfl, rfl, rfl, h3, r3⟩ := trodAll_cons r2
  obtain ⟨v4, vs4, d4, ds4, p4, q4, rfl, rfl, rfl, h4, r4⟩ := trodAll_cons r3
  obtain ⟨rfl, rfl, rfl⟩ := trodAll_nil r4
  obtain rfl : args = #[v0, v1, v2, v3, v4] := by cases args; simp_all
  obtain ⟨rfl, rfl⟩ := trodVars_none hV
  obtain ⟨n0, rfl, hn0⟩ := open_num (hval 0 3 v0 rfl rfl) h0
  obtain ⟨a1, cap1, y1, rfl, hY1, hZ1, hm1, hyo1⟩ := open_list (hval 1 25 v1 rfl rfl) h1
  obtain ⟨a2, cap2, y2, rfl, hY2, hZ2, hm2, hyo2⟩ := open_list (hval 2 25 v2 rfl rfl) h2
  obtain ⟨n3, rfl, hn3⟩ := open_num (hval 3 3 v3 rfl rfl) h3
  obtain ⟨n4, rfl, hn4⟩ := open_num (hval 4 3 v4 rfl rfl) h4
  refine (areaOrder_of alive_any W n0 a1 cap1 y1 a2 cap2 y2 n3 n4 hm1 hY1 hm2 hY2).mono fun e W' ⟨he, hg⟩ => ?_
  subst he
  refine ⟨_, rfl, law_post hW' hg (by kernel_rfl) ?_ rfl rfl⟩
  intro t ht
  rw [Tryz.params6] at ht
  simp only [List.mem_cons, List.not_mem_nil, or_false] at ht
  rcases ht with rfl | rfl | rfl | rfl | rfl
  · exact argOk3
  · exact argOk27
  · exact argOk27
  · exact argOk3
  · exact argOk3

/-! The row's closed facts, each by itself. -/
theorem areaOrder_j0 : (Rows.areaOrderRow.wf (OpenSpec.ofChange Rows.areaOrderSpec)) = true := by kernel_rfl
theorem areaOrder_j3 : (Tryz.f6.params.all (Tryz.prog.readableRec ·)) = true := by kernel_rfl
theorem areaOrder_j4 : (namedTie Tryz.prog Rows.areaOrderRow.named Rows.areaOrderSpec.vars) = true := by kernel_rfl
theorem areaOrder_j5 : ((Rows.areaOrderRow.stops == [])) = true := by kernel_rfl
theorem areaOrder_j7 : ((Rows.areaOrderRow.knobs == [])) = true := by kernel_rfl
theorem areaOrder_j9 : ((Rows.areaOrderRow.inPlace == Tryz.prog.inPlace 6)) = true := by kernel_rfl
theorem areaOrder_j10 : ((Rows.areaOrderRow.unfollowed == Tryz.prog.unfollowed 6)) = true := by kernel_rfl
theorem areaOrder_j11 : ((Rows.areaOrderRow.recurses == Tryz.prog.recurses 6)) = true := by kernel_rfl
theorem areaOrder_j12 : ((Rows.areaOrderRow.named == Tryz.prog.varsNamed 6)) = true := by kernel_rfl
theorem areaOrder_j13 : ((Rows.areaOrderRow.maps == (Tryz.f6.params.toList ++ Rows.areaOrderSpec.plain.varTypes Tryz.prog).any (Tryz.prog.mapsRec ·))) = true := by kernel_rfl
theorem areaOrder_j14 : ((Rows.areaOrderRow.ifaces == (Tryz.f6.params.toList ++ Rows.areaOrderSpec.plain.varTypes Tryz.prog).any (Tryz.prog.ifacesRec ·))) = true := by kernel_rfl
theorem areaOrder_j15 : ((Rows.areaOrderRow.mapsOut == Tryz.prog.mapsAmong Tryz.f6.resultTypes.toList)) = true := by kernel_rfl
theorem areaOrder_j16 : ((Rows.areaOrderRow.loops == (Tryz.f6.params.toList ++ Rows.areaOrderSpec.plain.varTypes Tryz.prog).any (Tryz.prog.loopsFrom ·))) = true := by kernel_rfl
theorem areaOrder_j17 : ((Rows.areaOrderRow.wideKeys == (Tryz.f6.params.toList ++ Rows.areaOrderSpec.plain.varTypes Tryz.prog ++ Tryz.f6.resultTypes.toList).any (Tryz.prog.wideKeysFrom ·))) = true := by kernel_rfl
theorem areaOrder_j18 : (Rows.areaOrderSpec.vars.all (Tryz.prog.varReadable ·)) = true := by kernel_rfl
theorem areaOrder_j19 : (Tryz.f6.resultTypes.all (fun t => Tryz.prog.readableRec t && decide (t < Tryz.prog.types.size))) = true := by kernel_rfl
theorem areaOrder_j20 : ((Rows.areaOrderRow.ifacesOut == Tryz.f6.resultTypes.toList.any (Tryz.prog.ifacesRec ·))) = true := by kernel_rfl
theorem areaOrder_j21 : ((Rows.areaOrderRow.loopsOut == Tryz.f6.resultTypes.toList.any (Tryz.prog.loopsFrom ·))) = true := by kernel_rfl
theorem areaOrder_j22 : ((Rows.areaOrderRow.plainKeys == Tryz.prog.plainKeys)) = true := by rw [Tryz.fact22]; rfl
theorem areaOrder_j23 : (Rows.areaOrderRow.shortTexts.isNone) = true := by kernel_rfl
theorem areaOrder_j26 : ((Rows.areaOrderRow.lifted == Tryz.prog.liftsFinal)) = true := by rw [Tryz.fact26]; rfl
theorem areaOrder_j27 : ((Tryz.prog.make == some Rows.areaOrderRow.make)) = true := by rw [Tryz.fact27]; rfl
theorem areaOrder_j28 : ((Rows.areaOrderRow.kinds == (if Rows.areaOrderRow.domain.isEmpty then [] else Tryz.f6.params.toList.map fun t => match Tryz.prog.underlying t with | some (.int k) => some k | _ => none))) = true := by kernel_rfl
theorem areaOrder_j29 : ((Rows.areaOrderRow.pinned == Rows.areaOrderRow.pinnedBy)) = true := by kernel_rfl
theorem areaOrder_j30 : ((Rows.areaOrderRow.veiled == (Tryz.f6.params.toList ++ Rows.areaOrderSpec.plain.varTypes Tryz.prog ++ Tryz.f6.resultTypes.toList).any (Tryz.prog.veiledRec ·))) = true := by kernel_rfl
theorem areaOrder_j31 : (Rows.areaOrderRow.veiledFits Tryz.prog Tryz.f6.params.toList (Tryz.f6.params.toList ++ Rows.areaOrderSpec.plain.varTypes Tryz.prog ++ Tryz.f6.resultTypes.toList)) = true := by kernel_rfl
set_option maxRecDepth 100000 in
theorem areaOrder_closed : joinedFacts Tryz.prog 6 Tryz.f6 Rows.areaOrderSpec Rows.areaOrderRow = true := by
  unfold joinedFacts
  exact (and2 (and2 (and2 (and2 (and2 (and2 (and2 (and2 (and2 (and2 (and2 (and2 (and2 (and2 (and2 (and2 (and2 (and2 (and2 (and2 (and2 (and2 (and2 (and2 (and2 (and2 (and2 (and2 (and2 (and2 (and2 areaOrder_j0 Tryz.fact1) Tryz.fact2) areaOrder_j3) areaOrder_j4) areaOrder_j5) Tryz.fact6) areaOrder_j7) Tryz.fact8) areaOrder_j9) areaOrder_j10) areaOrder_j11) areaOrder_j12) areaOrder_j13) areaOrder_j14) areaOrder_j15) areaOrder_j16) areaOrder_j17) areaOrder_j18) areaOrder_j19) areaOrder_j20) areaOrder_j21) areaOrder_j22) areaOrder_j23) Tryz.fact24) Tryz.fact25) areaOrder_j26) areaOrder_j27) areaOrder_j28) areaOrder_j29) areaOrder_j30) areaOrder_j31)
theorem areaOrder_named : Tryz.prog.funcNamed Rows.areaOrderRow.func = some 6 := by kernel_rfl
theorem areaOrder_instance : Tryz.f6.isInstance Tryz.prog Rows.areaOrderRow.origin Rows.areaOrderRow.targs := of_decide_eq_true (by kernel_rfl)
theorem areaOrder_wrapper : Tryz.f6.isWrapper Tryz.prog Rows.areaOrderRow.wrapper Rows.areaOrderRow.mainSum := by unfold Func.isWrapper; first | (rw [if_pos (by decide +kernel)]; kernel_rfl) | (rw [if_neg (by decide +kernel)]; exact ⟨rfl, rfl⟩)

set_option maxRecDepth 100000 in
theorem areaOrder_over : Rows.areaOrderRow.holds Tryz.pinned (OpenSpec.ofChange Rows.areaOrderSpec) :=
  OpenClaim.holds_of_wide 6 Tryz.f6 rfl rfl rfl rfl rfl rfl rfl ⟨rfl, rfl, rfl, rfl, rfl⟩ rfl rfl rfl rfl rfl areaOrder_named Tryz.func6 areaOrder_closed areaOrder_instance areaOrder_wrapper
    (fun os started H enc _ => areaOrder_lifted os started H enc)

/-- THE STATEMENT. -/
theorem areaOrder_holds : Rows.AreaOrderSaid := areaOrder_over

end Go.Proofs.YthjmkmjojlfejaaGreat
