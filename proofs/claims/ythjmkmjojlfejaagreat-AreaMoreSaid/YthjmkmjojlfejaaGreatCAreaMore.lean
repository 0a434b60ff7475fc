/- The law AreaMore: for every input the call returns true, and its arguments read as before. No conditions. -/
import Derived.Test.YthjmkmjojlfejaaGreatB12
import Derived.Test.YthjmkmjojlfejaaGreatB11
import Derived.Test.YthjmkmjojlfejaaGreatB10
import Derived.Test.YthjmkmjojlfejaaGreatB03
import Derived.Test.YthjmkmjojlfejaaGreatB01
import Derived.Test.YthjmkmjojlfejaaGreatB02
import Derived.Test.YthjmkmjojlfejaaGreatB13
import Derived.Test.YthjmkmjojlfejaaGreatProg
import Derived.WalkKit
import Derived.Handy
import Derived.RangeFuncRecord
import Derived.Shelf.Abstract
import Derived.Deep.QuietTactic
import Derived.BigQuiet
import Derived.Laws.CopyOwn
import Derived.WalkSmall
import Derived.RangeFuncNested
import Derived.RangeFuncBound
import Derived.RangeFuncCalls
import Derived.RangeFuncLeaves
import Derived.Shelf.RegionOpen
import Derived.OwnWalkIn
import Derived.TacticsInMore
import Derived.LoopNIn
import Derived.LoopIn
import Derived.Test.YthjmkmjojlfejaaGreatB09
import Derived.Shelf.Small.Bits
import Derived.Shelf.Small.Wraps
import Derived.Shelf.Strconv.Itoa0
import Derived.Shelf.Sort.Plain
import Derived.Shelf.Slices.Turned
import Derived.Ground.Names2Prog
import Derived.Shelf.Slices.CompactI
import Derived.Shelf.Slices.SearchI
import Derived.Shelf.Slices.Cells
import Derived.Shelf.Slices.In.SortNone
import Derived.Maps.AppendAt
import Derived.Deep.Onto
import Derived.OrdersHeld
import Derived.Deep.LoopGhost
import Derived.Deep.WholeRow
import Derived.Deep.OwnRows
import Derived.StillTailTactics
import Derived.Great.Walk
import Derived.Great.BuildSlice
import Derived.WalkMore
import Derived.Deep.MidRow
import Derived.Deep.RegionHeld3
import Derived.Deep.DeepCutAuto
import Derived.Lib.OwnBridge
import Derived.Lib.SliceRun
import Derived.WalkSpells
import Derived.Deep.RegionWith
import Derived.Lib.AppendZerosOnto
import Derived.Deep.CutBlock
import Derived.Test.YthjmkmjojlfejaaGreatB08
import Derived.Test.YthjmkmjojlfejaaGreatB05
import Derived.Test.YthjmkmjojlfejaaGreatB04
import Derived.IntWalk
import Derived.Scope
import Derived.Test.YthjmkmjojlfejaaGreatB07
import Derived.Test.YthjmkmjojlfejaaGreatB06
import Derived.Test.YthjmkmjojlfejaaGreatB15
import Derived.Test.YthjmkmjojlfejaaGreatB16
import Derived.Test.YthjmkmjojlfejaaGreatB14
import Derived.Test.YthjmkmjojlfejaaGreatRows
import Derived.ProofKit
import Derived.OpenShut
import Derived.Carry
import Derived.Lib.SmallJoins
import Derived.Deep.Slices
import Derived.RangeFuncBox
import Derived.ChangeMaps5
import Derived.Test.YthjmkmjojlfejaaGreatXAreaMore
namespace Go.Proofs.YthjmkmjojlfejaaGreat
open Go Go.ChangeShapes Go.WideShapes Go.ChangeAt Go.RowKit

set_option maxRecDepth 100000 in
theorem areaMore_lifted (os : Os) (started : os.Started) (H : Type) (enc : TypeId × Value → H) :
    ReturnsInHanded {} Tryz.checked os 20 .any (Rows.areaMoreSpec.pre6 enc Tryz.prog Tryz.f20 Rows.areaMoreRow.domain false) (Rows.areaMoreSpec.post enc Tryz.prog Tryz.f20 false true false false) := by
  refine returnsInHanded_of_change (C := Tryz.checked) Tryz.own started (by kernel_rfl) Tryz.func20
    (ChangeSpec.witness6 (enc := enc) (C := Tryz.checked) false ⟨#[], #[.agg #[.slice none 0 0, .slice none 0 0, .slice none 0 0, .slice none 0 0], .agg #[.int .i64 0, .slice none 0 0], .agg #[.int .i64 0, .slice none 0 0], .int .i64 0, .int .i64 0, .slice none 0 0], []⟩ 8 (by kernel_rfl) (by kernel_rfl) (by kernel_rfl) (by kernel_rfl)) ?_
  intro W base args ds gs before hval0 hW hcnd _
  have hval : ∀ (j : Nat) t v, Tryz.f20.params[j]? = some t → args[j]? = some v → Value.okWide Tryz.prog W .any base t v := hval0
  have hW' := hW
  obtain ⟨p, q, hA0, hV, rfl, hfz, hnd⟩ := hW
  have hA : DataW.TrodAll enc Tryz.prog W 0 (fun _ => true) true Tryz.f20.params.toList args.toList ds p := hA0
  rw [Tryz.params20] at hA hval
  obtain ⟨v0, vs0, d0, ds0, p0, q0, hargs, rfl, rfl, h0, r0⟩ := trodAll_cons hA
  obtain ⟨v1, vs1, d1, ds1, p1, q1, rfl, rfl, rfl, h1, r1⟩ := trodAll_cons r0
  obtain ⟨v2, vs2, d2, ds2, p2, q2, rfl, rfl, rfl, h2, r2⟩ := trodAll_cons r1
  obtain ⟨v3, vs3, d3, ds3, p3, q3, rfl, rfl, rfl, h3, r3⟩ := trodAll_cons r2
  obtain ⟨v4, vs4, d4, ds4, p4, q4, rfl, rfl, rfl, h4, r4⟩ := trodAll_cons r3
  obtain ⟨v5, vs5, d5, ds5, p5, q5, rfl, rfl, rfl, h5, r5⟩ := trodAll_cons r4
  obtain ⟨rfl, rfl, rfl⟩ := trodAll_nil r5
  obtain rfl : args = #[v0, v1, v2, v3, v4, v5] := by cases args; simp_all
  obtain ⟨rfl, rfl⟩ := trodVars_none hV
  obtain ⟨x0, F0, rfl, hF0⟩ := open_fld (hval 0 46 v0 rfl rfl) h0
  obtain ⟨N1, a1, cap1, bs1, rfl, hN1, hB1, hS1, hl1, hok1⟩ := open_sys (hval 1 24 v1 rfl rfl) h1
  obtain ⟨N2, a2, cap2, bs2, rfl, hN2, hB2, hS2, hl2, hok2⟩ := open_sys (hval 2 24 v2 rfl rfl) h2
  obtain ⟨n3, rfl, hn3⟩ := open_num (hval 3 3 v3 rfl rfl) h3
  obtain ⟨n4, rfl, hn4⟩ := open_num (hval 4 3 v4 rfl rfl) h4
  obtain ⟨a5, cap5, y5, rfl, hY5, hZ5, hm5, hyo5⟩ := open_list (hval 5 25 v5 rfl rfl) h5
  refine (areaMore_of alive_any W x0 F0 N1 a1 cap1 bs1 N2 a2 cap2 bs2 n3 n4 a5 cap5 y5 hF0 hN1 hl1 hB1 hN2 hl2 hB2 hm5 hY5).mono fun e W' ⟨he, hg⟩ => ?_
  subst he
  refine ⟨_, rfl, law_post hW' hg (by kernel_rfl) ?_ rfl rfl⟩
  intro t ht
  rw [Tryz.params20] at ht
  simp only [List.mem_cons, List.not_mem_nil, or_false] at ht
  rcases ht with rfl | rfl | rfl | rfl | rfl | rfl
  · exact argOk46
  · exact argOk24
  · exact argOk24
  · exact argOk3
  · exact argOk3
  · exact argOk27

/-! The row's closed facts, each by itself. -/
theorem areaMore_j0 : (Rows.areaMoreRow.wf (OpenSpec.ofChange Rows.areaMoreSpec)) = true := by kernel_rfl
theorem areaMore_j3 : (Tryz.f20.params.all (Tryz.prog.readableRec ·)) = true := by kernel_rfl
theorem areaMore_j4 : (namedTie Tryz.prog Rows.areaMoreRow.named Rows.areaMoreSpec.vars) = true := by kernel_rfl
theorem areaMore_j5 : ((Rows.areaMoreRow.stops == [])) = true := by kernel_rfl
theorem areaMore_j7 : ((Rows.areaMoreRow.knobs == [])) = true := by kernel_rfl
theorem areaMore_j9 : ((Rows.areaMoreRow.inPlace == Tryz.prog.inPlace 20)) = true := by kernel_rfl
theorem areaMore_j10 : ((Rows.areaMoreRow.unfollowed == Tryz.prog.unfollowed 20)) = true := by kernel_rfl
theorem areaMore_j11 : ((Rows.areaMoreRow.recurses == Tryz.prog.recurses 20)) = true := by kernel_rfl
theorem areaMore_j12 : ((Rows.areaMoreRow.named == Tryz.prog.varsNamed 20)) = true := by kernel_rfl
theorem areaMore_j13 : ((Rows.areaMoreRow.maps == (Tryz.f20.params.toList ++ Rows.areaMoreSpec.plain.varTypes Tryz.prog).any (Tryz.prog.mapsRec ·))) = true := by kernel_rfl
theorem areaMore_j14 : ((Rows.areaMoreRow.ifaces == (Tryz.f20.params.toList ++ Rows.areaMoreSpec.plain.varTypes Tryz.prog).any (Tryz.prog.ifacesRec ·))) = true := by kernel_rfl
theorem areaMore_j15 : ((Rows.areaMoreRow.mapsOut == Tryz.prog.mapsAmong Tryz.f20.resultTypes.toList)) = true := by kernel_rfl
theorem areaMore_j16 : ((Rows.areaMoreRow.loops == (Tryz.f20.params.toList ++ Rows.areaMoreSpec.plain.varTypes Tryz.prog).any (Tryz.prog.loopsFrom ·))) = true := by kernel_rfl
theorem areaMore_j17 : ((Rows.areaMoreRow.wideKeys == (Tryz.f20.params.toList ++ Rows.areaMoreSpec.plain.varTypes Tryz.prog ++ Tryz.f20.resultTypes.toList).any (Tryz.prog.wideKeysFrom ·))) = true := by kernel_rfl
theorem areaMore_j18 : (Rows.areaMoreSpec.vars.all (Tryz.prog.varReadable ·)) = true := by kernel_rfl
theorem areaMore_j19 : (Tryz.f20.resultTypes.all (fun t => Tryz.prog.readableRec t && decide (t < Tryz.prog.types.size))) = true := by kernel_rfl
theorem areaMore_j20 : ((Rows.areaMoreRow.ifacesOut == Tryz.f20.resultTypes.toList.any (Tryz.prog.ifacesRec ·))) = true := by kernel_rfl
theorem areaMore_j21 : ((Rows.areaMoreRow.loopsOut == Tryz.f20.resultTypes.toList.any (Tryz.prog.loopsFrom ·))) = true := by kernel_rfl
theorem areaMore_j22 : ((Rows.areaMoreRow.plainKeys == Tryz.prog.plainKeys)) = true := by rw [Tryz.fact22]; rfl
theorem areaMore_j23 : (Rows.areaMoreRow.shortTexts.isNone) = true := by kernel_rfl
theorem areaMore_j26 : ((Rows.areaMoreRow.lifted == Tryz.prog.liftsFinal)) = true := by rw [Tryz.fact26]; rfl
theorem areaMore_j27 : ((Tryz.prog.make == some Rows.areaMoreRow.make)) = true := by rw [Tryz.fact27]; rfl
theorem areaMore_j28 : ((Rows.areaMoreRow.kinds == (if Rows.areaMoreRow.domain.isEmpty then [] else Tryz.f20.params.toList.map fun t => match Tryz.prog.underlying t with | some (.int k) => some k | _ => none))) = true := by kernel_rfl
theorem areaMore_j29 : ((Rows.areaMoreRow.pinned == Rows.areaMoreRow.pinnedBy)) = true := by kernel_rfl
theorem areaMore_j30 : ((Rows.areaMoreRow.veiled == (Tryz.f20.params.toList ++ Rows.areaMoreSpec.plain.varTypes Tryz.prog ++ Tryz.f20.resultTypes.toList).any (Tryz.prog.veiledRec ·))) = true := by kernel_rfl
theorem areaMore_j31 : (Rows.areaMoreRow.veiledFits Tryz.prog Tryz.f20.params.toList (Tryz.f20.params.toList ++ Rows.areaMoreSpec.plain.varTypes Tryz.prog ++ Tryz.f20.resultTypes.toList)) = true := by kernel_rfl
set_option maxRecDepth 100000 in
theorem areaMore_closed : joinedFacts Tryz.prog 20 Tryz.f20 Rows.areaMoreSpec Rows.areaMoreRow = true := by
  unfold joinedFacts
  exact (and2 (and2 (and2 (and2 (and2 (and2 (and2 (and2 (and2 (and2 (and2 (and2 (and2 (and2 (and2 (and2 (and2 (and2 (and2 (and2 (and2 (and2 (and2 (and2 (and2 (and2 (and2 (and2 (and2 (and2 (and2 areaMore_j0 Tryz.fact1) Tryz.fact2) areaMore_j3) areaMore_j4) areaMore_j5) Tryz.fact6) areaMore_j7) Tryz.fact8) areaMore_j9) areaMore_j10) areaMore_j11) areaMore_j12) areaMore_j13) areaMore_j14) areaMore_j15) areaMore_j16) areaMore_j17) areaMore_j18) areaMore_j19) areaMore_j20) areaMore_j21) areaMore_j22) areaMore_j23) Tryz.fact24) Tryz.fact25) areaMore_j26) areaMore_j27) areaMore_j28) areaMore_j29) areaMore_j30) areaMore_j31)
theorem areaMore_named : Tryz.prog.funcNamed Rows.areaMoreRow.func = some 20 := by kernel_rfl
theorem areaMore_instance : Tryz.f20.isInstance Tryz.prog Rows.areaMoreRow.origin Rows.areaMoreRow.targs := of_decide_eq_true (by kernel_rfl)
theorem areaMore_wrapper : Tryz.f20.isWrapper Tryz.prog Rows.areaMoreRow.wrapper Rows.areaMoreRow.mainSum := by unfold Func.isWrapper; first | (rw [if_pos (by decide +kernel)]; kernel_rfl) | (rw [if_neg (by decide +kernel)]; exact ⟨rfl, rfl⟩)

set_option maxRecDepth 100000 in
theorem areaMore_over : Rows.areaMoreRow.holds Tryz.pinned (OpenSpec.ofChange Rows.areaMoreSpec) :=
  OpenClaim.holds_of_wide 20 Tryz.f20 rfl rfl rfl rfl rfl rfl rfl ⟨rfl, rfl, rfl, rfl, rfl⟩ rfl rfl rfl rfl rfl areaMore_named Tryz.func20 areaMore_closed areaMore_instance areaMore_wrapper
    (fun os started H enc _ => areaMore_lifted os started H enc)

/-- THE STATEMENT. -/
theorem areaMore_holds : Rows.AreaMoreSaid := areaMore_over

end Go.Proofs.YthjmkmjojlfejaaGreat
