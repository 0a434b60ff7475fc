/- The law AreaMemory: for every input the call returns true, and its arguments read as before. No conditions. -/
import Derived.Test.YthjmkmjojlfejaaGreatB12
import Derived.Test.YthjmkmjojlfejaaGreatB11
import Derived.Test.YthjmkmjojlfejaaGreatB10
import Derived.Test.YthjmkmjojlfejaaGreatB03
import Derived.Test.YthjmkmjojlfejaaGreatB01
import Derived.Test.YthjmkmjojlfejaaGreatB02
import Derived.Test.YthjmkmjojlfejaaGreatB13
import Derived.Test.YthjmkmjojlfejaaGreatProg
import Derived.WalkKit
import Derived.Handy
import Derived.RangeFuncRecord
import Derived.Shelf.Abstract
import Derived.Deep.QuietTactic
import Derived.BigQuiet
import Derived.Laws.CopyOwn
import Derived.WalkSmall
import Derived.RangeFuncNested
import Derived.RangeFuncBound
import Derived.RangeFuncCalls
import Derived.RangeFuncLeaves
import Derived.Shelf.RegionOpen
import Derived.OwnWalkIn
import Derived.TacticsInMore
import Derived.LoopNIn
import Derived.LoopIn
import Derived.Test.YthjmkmjojlfejaaGreatB09
import Derived.Shelf.Small.Bits
import Derived.Shelf.Small.Wraps
import Derived.Shelf.Strconv.Itoa0
import Derived.Shelf.Sort.Plain
import Derived.Shelf.Slices.Turned
import Derived.Ground.Names2Prog
import Derived.Shelf.Slices.CompactI
import Derived.Shelf.Slices.SearchI
import Derived.Shelf.Slices.Cells
import Derived.Shelf.Slices.In.SortNone
import Derived.Maps.AppendAt
import Derived.Deep.Onto
import Derived.OrdersHeld
import Derived.Deep.LoopGhost
import Derived.Deep.WholeRow
import Derived.Deep.OwnRows
import Derived.StillTailTactics
import Derived.Great.Walk
import Derived.Great.BuildSlice
import Derived.WalkMore
import Derived.Deep.MidRow
import Derived.Deep.RegionHeld3
import Derived.Deep.DeepCutAuto
import Derived.Lib.OwnBridge
import Derived.Lib.SliceRun
import Derived.WalkSpells
import Derived.Deep.RegionWith
import Derived.Lib.AppendZerosOnto
import Derived.Deep.CutBlock
import Derived.Test.YthjmkmjojlfejaaGreatB08
import Derived.Test.YthjmkmjojlfejaaGreatB05
import Derived.Test.YthjmkmjojlfejaaGreatB04
import Derived.IntWalk
import Derived.Scope
import Derived.Test.YthjmkmjojlfejaaGreatB07
import Derived.Test.YthjmkmjojlfejaaGreatB06
import Derived.Test.YthjmkmjojlfejaaGreatB15
import Derived.Test.YthjmkmjojlfejaaGreatB16
import Derived.Test.YthjmkmjojlfejaaGreatB14
import Derived.Test.YthjmkmjojlfejaaGreatRows
import Derived.ProofKit
import Derived.OpenShut
import Derived.Carry
import Derived.Lib.SmallJoins
import Derived.Deep.Slices
import Derived.RangeFuncBox
import Derived.ChangeMaps5
import Derived.Test.YthjmkmjojlfejaaGreatXAreaMemory
namespace Go.Proofs.YthjmkmjojlfejaaGreat
open Go Go.ChangeShapes Go.WideShapes Go.ChangeAt Go.RowKit

set_option maxRecDepth 100000 in
theorem areaMemory_lifted (os : Os) (started : os.Started) (H : Type) (enc : TypeId × Value → H) :
    ReturnsInHanded {} Tryz.checked os 13 .any (Rows.areaMemorySpec.pre6 enc Tryz.prog Tryz.f13 Rows.areaMemoryRow.domain false) (Rows.areaMemorySpec.post enc Tryz.prog Tryz.f13 false true false false) := by
  refine returnsInHanded_of_change (C := Tryz.checked) Tryz.own started (by kernel_rfl) Tryz.func13
    (ChangeSpec.witness6 (enc := enc) (C := Tryz.checked) false ⟨#[], #[.agg #[.slice none 0 0, .slice none 0 0, .slice none 0 0, .slice none 0 0], .agg #[.int .i64 0, .slice none 0 0], .int .i64 0, .slice none 0 0], []⟩ 8 (by kernel_rfl) (by kernel_rfl) (by kernel_rfl) (by kernel_rfl)) ?_
  intro W base args ds gs before hval0 hW hcnd _
  have hval : ∀ (j : Nat) t v, Tryz.f13.params[j]? = some t → args[j]? = some v → Value.okWide Tryz.prog W .any base t v := hval0
  have hW' := hW
  obtain ⟨p, q, hA0, hV, rfl, hfz, hnd⟩ := hW
  have hA : DataW.TrodAll enc Tryz.prog W 0 (fun _ => true) true Tryz.f13.params.toList args.toList ds p := hA0
  rw [Tryz.params13] at hA hval
  obtain ⟨v0, vs0, d0, ds0, p0, q0, hargs, rfl, rfl, h0, r0⟩ := trodAll_cons hA
  obtain ⟨v1, vs1, d1, ds1, p1, q1, rfl, rfl, rfl, h1, r1⟩ := trodAll_cons r0
  obtain ⟨v2, vs2, d2, ds2, p2, q2, rfl, rfl, rfl, h2, r2⟩ := trodAll_cons r1
  obtain ⟨v3, vs3, d3, ds3, p3, q3, rfl, rfl, rfl, h3, r3⟩ := trodAll_cons r2
  obtain ⟨rfl, rfl, rfl⟩ := trodAll_nil r3
  obtain rfl : args = #[v0, v1, v2, v3] := by cases args; simp_all
  obtain ⟨rfl, rfl⟩ := trodVars_none hV
  obtain ⟨x0, F0, rfl, hF0⟩ := open_fld (hval 0 46 v0 rfl rfl) h0
  obtain ⟨N1, a1, cap1, bs1, rfl, hN1, hB1, hS1, hl1, hok1⟩ := open_sys (hval 1 24 v1 rfl rfl) h1
  obtain ⟨n2, rfl, hn2⟩ := open_num (hval 2 3 v2 rfl rfl) h2
  obtain ⟨a3, cap3, y3, rfl, hY3, hZ3, hm3, hyo3⟩ := open_list (hval 3 25 v3 rfl rfl) h3
  refine (areaMemory_of alive_any W x0 F0 N1 a1 cap1 bs1 n2 a3 cap3 y3 hF0 hN1 hl1 hB1 hm3 hY3).mono fun e W' ⟨he, hg⟩ => ?_
  subst he
  refine ⟨_, rfl, law_post hW' hg (by kernel_rfl) ?_ rfl rfl⟩
  intro t ht
  rw [Tryz.params13] at ht
  simp only [List.mem_cons, List.not_mem_nil, or_false] at ht
  rcases ht with rfl | rfl | rfl | rfl
  · exact argOk46
  · exact argOk24
  · exact argOk3
  · exact argOk27

/-! The row's closed facts, each by itself. -/
theorem areaMemory_j0 : (Rows.areaMemoryRow.wf (OpenSpec.ofChange Rows.areaMemorySpec)) = true := by kernel_rfl
theorem areaMemory_j3 : (Tryz.f13.params.all (Tryz.prog.readableRec ·)) = true := by kernel_rfl
theorem areaMemory_j4 : (namedTie Tryz.prog Rows.areaMemoryRow.named Rows.areaMemorySpec.vars) = true := by kernel_rfl
theorem areaMemory_j5 : ((Rows.areaMemoryRow.stops == [])) = true := by kernel_rfl
theorem areaMemory_j7 : ((Rows.areaMemoryRow.knobs == [])) = true := by kernel_rfl
theorem areaMemory_j9 : ((Rows.areaMemoryRow.inPlace == Tryz.prog.inPlace 13)) = true := by kernel_rfl
theorem areaMemory_j10 : ((Rows.areaMemoryRow.unfollowed == Tryz.prog.unfollowed 13)) = true := by kernel_rfl
theorem areaMemory_j11 : ((Rows.areaMemoryRow.recurses == Tryz.prog.recurses 13)) = true := by kernel_rfl
theorem areaMemory_j12 : ((Rows.areaMemoryRow.named == Tryz.prog.varsNamed 13)) = true := by kernel_rfl
theorem areaMemory_j13 : ((Rows.areaMemoryRow.maps == (Tryz.f13.params.toList ++ Rows.areaMemorySpec.plain.varTypes Tryz.prog).any (Tryz.prog.mapsRec ·))) = true := by kernel_rfl
theorem areaMemory_j14 : ((Rows.areaMemoryRow.ifaces == (Tryz.f13.params.toList ++ Rows.areaMemorySpec.plain.varTypes Tryz.prog).any (Tryz.prog.ifacesRec ·))) = true := by kernel_rfl
theorem areaMemory_j15 : ((Rows.areaMemoryRow.mapsOut == Tryz.prog.mapsAmong Tryz.f13.resultTypes.toList)) = true := by kernel_rfl
theorem areaMemory_j16 : ((Rows.areaMemoryRow.loops == (Tryz.f13.params.toList ++ Rows.areaMemorySpec.plain.varTypes Tryz.prog).any (Tryz.prog.loopsFrom ·))) = true := by kernel_rfl
theorem areaMemory_j17 : ((Rows.areaMemoryRow.wideKeys == (Tryz.f13.params.toList ++ Rows.areaMemorySpec.plain.varTypes Tryz.prog ++ Tryz.f13.resultTypes.toList).any (Tryz.prog.wideKeysFrom ·))) = true := by kernel_rfl
theorem areaMemory_j18 : (Rows.areaMemorySpec.vars.all (Tryz.prog.varReadable ·)) = true := by kernel_rfl
theorem areaMemory_j19 : (Tryz.f13.resultTypes.all (fun t => Tryz.prog.readableRec t && decide (t < Tryz.prog.types.size))) = true := by kernel_rfl
theorem areaMemory_j20 : ((Rows.areaMemoryRow.ifacesOut == Tryz.f13.resultTypes.toList.any (Tryz.prog.ifacesRec ·))) = true := by kernel_rfl
theorem areaMemory_j21 : ((Rows.areaMemoryRow.loopsOut == Tryz.f13.resultTypes.toList.any (Tryz.prog.loopsFrom ·))) = true := by kernel_rfl
theorem areaMemory_j22 : ((Rows.areaMemoryRow.plainKeys == Tryz.prog.plainKeys)) = true := by rw [Tryz.fact22]; rfl
theorem areaMemory_j23 : (Rows.areaMemoryRow.shortTexts.isNone) = true := by kernel_rfl
theorem areaMemory_j26 : ((Rows.areaMemoryRow.lifted == Tryz.prog.liftsFinal)) = true := by rw [Tryz.fact26]; rfl
theorem areaMemory_j27 : ((Tryz.prog.make == some Rows.areaMemoryRow.make)) = true := by rw [Tryz.fact27]; rfl
theorem areaMemory_j28 : ((Rows.areaMemoryRow.kinds == (if Rows.areaMemoryRow.domain.isEmpty then [] else Tryz.f13.params.toList.map fun t => match Tryz.prog.underlying t with | some (.int k) => some k | _ => none))) = true := by kernel_rfl
theorem areaMemory_j29 : ((Rows.areaMemoryRow.pinned == Rows.areaMemoryRow.pinnedBy)) = true := by kernel_rfl
theorem areaMemory_j30 : ((Rows.areaMemoryRow.veiled == (Tryz.f13.params.toList ++ Rows.areaMemorySpec.plain.varTypes Tryz.prog ++ Tryz.f13.resultTypes.toList).any (Tryz.prog.veiledRec ·))) = true := by kernel_rfl
theorem areaMemory_j31 : (Rows.areaMemoryRow.veiledFits Tryz.prog Tryz.f13.params.toList (Tryz.f13.params.toList ++ Rows.areaMemorySpec.plain.varTypes Tryz.prog ++ Tryz.f13.resultTypes.toList)) = true := by kernel_rfl
set_option maxRecDepth 100000 in
theorem areaMemory_closed : joinedFacts Tryz.prog 13 Tryz.f13 Rows.areaMemorySpec Rows.areaMemoryRow = true := by
  unfold joinedFacts
  exact (and2 (and2 (and2 (and2 (and2 (and2 (and2 (and2 (and2 (and2 (and2 (and2 (and2 (and2 (and2 (and2 (and2 (and2 (and2 (and2 (and2 (and2 (and2 (and2 (and2 (and2 (and2 (and2 (and2 (and2 (and2 areaMemory_j0 Tryz.fact1) Tryz.fact2) areaMemory_j3) areaMemory_j4) areaMemory_j5) Tryz.fact6) areaMemory_j7) Tryz.fact8) areaMemory_j9) areaMemory_j10) areaMemory_j11) areaMemory_j12) areaMemory_j13) areaMemory_j14) areaMemory_j15) areaMemory_j16) areaMemory_j17) areaMemory_j18) areaMemory_j19) areaMemory_j20) areaMemory_j21) areaMemory_j22) areaMemory_j23) Tryz.fact24) Tryz.fact25) areaMemory_j26) areaMemory_j27) areaMemory_j28) areaMemory_j29) areaMemory_j30) areaMemory_j31)
theorem areaMemory_named : Tryz.prog.funcNamed Rows.areaMemoryRow.func = some 13 := by kernel_rfl
theorem areaMemory_instance : Tryz.f13.isInstance Tryz.prog Rows.areaMemoryRow.origin Rows.areaMemoryRow.targs := of_decide_eq_true (by kernel_rfl)
theorem areaMemory_wrapper : Tryz.f13.isWrapper Tryz.prog Rows.areaMemoryRow.wrapper Rows.areaMemoryRow.mainSum := by unfold Func.isWrapper; first | (rw [if_pos (by decide +kernel)]; kernel_rfl) | (rw [if_neg (by decide +kernel)]; exact ⟨rfl, rfl⟩)

set_option maxRecDepth 100000 in
theorem areaMemory_over : Rows.areaMemoryRow.holds Tryz.pinned (OpenSpec.ofChange Rows.areaMemorySpec) :=
  OpenClaim.holds_of_wide 13 Tryz.f13 rfl rfl rfl rfl rfl rfl rfl ⟨rfl, rfl, rfl, rfl, rfl⟩ rfl rfl rfl rfl rfl areaMemory_named Tryz.func13 areaMemory_closed areaMemory_instance areaMemory_wrapper
    (fun os started H enc _ => areaMemory_lifted os started H enc)

/-- THE STATEMENT. -/
theorem areaMemory_holds : Rows.AreaMemorySaid := areaMemory_over

end Go.Proofs.YthjmkmjojlfejaaGreat
