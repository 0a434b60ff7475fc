/- The law LimitsIdle: for every input the call returns true, and its arguments read as before; the card: the row's listed variables tied to the program's text. No conditions. -/
import Derived.Test.YtkhemfnlflbniaaGreatDoorB15
import Derived.Test.YtkhemfnlflbniaaGreatDoorB13
import Derived.Test.YtkhemfnlflbniaaGreatDoorB12
import Derived.Test.YtkhemfnlflbniaaGreatDoorB11
import Derived.Test.YtkhemfnlflbniaaGreatDoorB10
import Derived.Test.YtkhemfnlflbniaaGreatDoorB09
import Derived.Test.YtkhemfnlflbniaaGreatDoorB06
import Derived.Test.YtkhemfnlflbniaaGreatDoorB05
import Derived.Test.YtkhemfnlflbniaaGreatDoorB01
import Derived.Test.YtkhemfnlflbniaaGreatDoorB04
import Derived.Shelf.Small.Bits
import Derived.Shelf.Strconv.Itoa0
import Derived.Shelf.Sort.Plain
import Derived.Shelf.Slices.Turned
import Derived.Ground.Names2Prog
import Derived.Shelf.Slices.CompactI
import Derived.Shelf.Slices.SearchI
import Derived.Shelf.Slices.Cells
import Derived.Shelf.Slices.In.SortNone
import Derived.Test.YtkhemfnlflbniaaGreatDoorProg
import Derived.Test.YtkhemfnlflbniaaGreatDoorB03
import Derived.Test.YtkhemfnlflbniaaGreatDoorB02
import Derived.WalkKit
import Derived.Handy
import Derived.RangeFuncRecord
import Derived.Shelf.Abstract
import Derived.Deep.QuietTactic
import Derived.BigQuiet
import Derived.Laws.CopyOwn
import Derived.WalkSmall
import Derived.RangeFuncNested
import Derived.RangeFuncBound
import Derived.RangeFuncCalls
import Derived.RangeFuncLeaves
import Derived.Shelf.RegionOpen
import Derived.OwnWalkIn
import Derived.TacticsInMore
import Derived.LoopNIn
import Derived.LoopIn
import Derived.Maps.AppendAt
import Derived.Deep.Onto
import Derived.OrdersHeld
import Derived.Deep.LoopGhost
import Derived.Deep.WholeRow
import Derived.Deep.OwnRows
import Derived.StillTailTactics
import Derived.Great.Walk
import Derived.Great.BuildSlice
import Derived.WalkMore
import Derived.Deep.MidRow
import Derived.Deep.RegionHeld3
import Derived.Deep.DeepCutAuto
import Derived.Lib.OwnBridge
import Derived.Lib.SliceRun
import Derived.WalkSpells
import Derived.Deep.RegionWith
import Derived.Lib.AppendZerosOnto
import Derived.Deep.CutBlock
import Derived.Test.YtkhemfnlflbniaaGreatDoorB08
import Derived.Test.YtkhemfnlflbniaaGreatDoorB07
import Derived.IntWalk
import Derived.Deep.Cut
import Derived.Laws.Rows
import Derived.Laws.Tables
import Derived.Laws.StructEq
import Derived.OrdersIn
import Derived.RangeFuncBox
import Derived.Test.YtkhemfnlflbniaaGreatDoorB14
import Derived.Test.YtkhemfnlflbniaaGreatDoorRows
import Derived.ProofKit
import Derived.OpenShut
import Derived.Carry
import Derived.Lib.SmallJoins
import Derived.Deep.Slices
import Derived.ChangeMaps5
import Derived.Test.YtkhemfnlflbniaaGreatDoorCards
import Derived.LaidByTextLater
import Derived.SevenTiedAt
import Derived.LaidOnce
import Derived.KernelRfl
import Derived.Lay
import Derived.LaidLaws
import Derived.Test.YtkhemfnlflbniaaGreatDoorXLimitsIdle
namespace Go.Proofs.YtkhemfnlflbniaaGreatDoor
open Go Go.ChangeShapes Go.WideShapes Go.ChangeAt Go.RowKit

set_option maxRecDepth 100000 in
theorem limitsIdle_lifted (os : Os) (started : os.Started) (H : Type) (enc : TypeId × Value → H) :
    ReturnsInHanded {} Tryz.checked os 11 .any (fun w args => (Rows.limitsIdleSpec.pre enc Tryz.prog Tryz.f11 [] false w args ∧ laidMetH Tryz.prog Rows.limitsIdleRow.laid w) ∧ sizedMet enc Tryz.prog Tryz.f11 (OpenSpec.ofChange Rows.limitsIdleSpec) false w args)
      (Rows.limitsIdleSpec.post enc Tryz.prog Tryz.f11 false true false false) := by
  refine returnsInHanded_of_change_and (C := Tryz.checked) (X := fun w _ => laidMetH Tryz.prog Rows.limitsIdleRow.laid w) (fun _ _ _ hh h => h.of_heap hh) Tryz.own started (by kernel_rfl) Tryz.func11
    (ChangeSpec.witness_shaped (enc := enc) (C := Tryz.checked) (os := os) (X := fun w _ => laidMetH Tryz.prog Rows.limitsIdleRow.laid w) false (World.laidAll Tryz.prog os Rows.limitsIdleRow.laid) #[.agg #[.slice none 0 0, .slice none 0 0, .slice none 0 0, .slice none 0 0], .slice none 0 0, .agg #[.int .i64 0, .int .i64 0], .agg #[.int .i64 0, .int .i64 0]] 8 (World.laidAll_os _ _ _)
      (World.shaped_of_ZipB (by kernel_rfl) (by kernel_rfl)) (by kernel_rfl) (by kernel_rfl) (by kernel_rfl)
      (by rw [MakeChecks.laidMetH_plain _ _ _ (by kernel_rfl)]; exact laidMet_laidAll _ (by kernel_rfl) (by kernel_rfl))) ?_
  intro W base args ds gs before hval0 hW _ _ _ _
  have hval : ∀ (j : Nat) t v, Tryz.f11.params[j]? = some t → args[j]? = some v → Value.okWide Tryz.prog W .any base t v := hval0
  have hW' := hW
  obtain ⟨p, q, hA0, hV, rfl, hfz, hnd⟩ := hW
  have hA : DataW.TrodAll enc Tryz.prog W 0 (fun _ => true) true Tryz.f11.params.toList args.toList ds p := hA0
  rw [Tryz.params11] at hA hval
  obtain ⟨v0, vs0, d0, ds0, p0, q0, hargs, rfl, rfl, h0, r0⟩ := trodAll_cons hA
  obtain ⟨v1, vs1, d1, ds1, p1, q1, rfl, rfl, rfl, h1, r1⟩ := trodAll_cons r0
  obtain ⟨v2, vs2, d2, ds2, p2, q2, rfl, rfl, rfl, h2, r2⟩ := trodAll_cons r1
  obtain ⟨v3, vs3, d3, ds3, p3, q3, rfl, rfl, rfl, h3, r3⟩ := trodAll_cons r2
  obtain ⟨rfl, rfl, rfl⟩ := trodAll_nil r3
  obtain rfl : args = #[v0, v1, v2, v3] := by cases args; simp_all
  obtain ⟨rfl, rfl⟩ := trodVars_none hV
  obtain ⟨x0, F0, rfl, hF0⟩ := open_fld (hval 0 27 v0 rfl rfl) h0
  obtain ⟨ar1, cr1, l1, rfl, hr1, hn1, hd1, hk1, hc1⟩ := open_recs (hval 1 28 v1 rfl rfl) h1
  obtain ⟨i2, s2, rfl, _, _⟩ := open_corner (hval 2 30 v2 rfl rfl) h2
  obtain ⟨i3, s3, rfl, _, _⟩ := open_corner (hval 3 30 v3 rfl rfl) h3
  refine (limitsIdle_any W x0 F0 ar1 cr1 l1 i2 s2 i3 s3 hF0 hr1 hn1 hd1 hk1).mono fun e W' ⟨he, hg⟩ => ?_
  subst he
  refine ⟨_, rfl, law_post hW' hg (by kernel_rfl) ?_ rfl rfl⟩
  intro t ht
  rw [Tryz.params11] at ht
  simp only [List.mem_cons, List.not_mem_nil, or_false] at ht
  rcases ht with rfl | rfl | rfl | rfl
  · exact argOk46
  · exact argOk28
  · exact argOk30
  · exact argOk30

/-! The row's closed facts, each by itself. -/
theorem limitsIdle_j0 : (Rows.limitsIdleRow.wf (OpenSpec.ofChange Rows.limitsIdleSpec)) = true := by kernel_rfl
theorem limitsIdle_j3 : (Tryz.f11.params.all (Tryz.prog.readableRec ·)) = true := by kernel_rfl
theorem limitsIdle_j4 : (namedTie Tryz.prog Rows.limitsIdleRow.named Rows.limitsIdleSpec.vars) = true := by kernel_rfl
theorem limitsIdle_j5 : ((Rows.limitsIdleRow.stops == [])) = true := by kernel_rfl
theorem limitsIdle_j7 : ((Rows.limitsIdleRow.knobs == [])) = true := by kernel_rfl
theorem limitsIdle_j9 : ((Rows.limitsIdleRow.inPlace == Tryz.prog.inPlace 11)) = true := by kernel_rfl
theorem limitsIdle_j10 : ((Rows.limitsIdleRow.unfollowed == Tryz.prog.unfollowed 11)) = true := by kernel_rfl
theorem limitsIdle_j11 : ((Rows.limitsIdleRow.recurses == Tryz.prog.recurses 11)) = true := by kernel_rfl
theorem limitsIdle_j12 : ((Rows.limitsIdleRow.named == Tryz.prog.varsNamed 11)) = true := by kernel_rfl
theorem limitsIdle_j13 : ((Rows.limitsIdleRow.maps == (Tryz.f11.params.toList ++ Rows.limitsIdleSpec.plain.varTypes Tryz.prog).any (Tryz.prog.mapsRec ·))) = true := by kernel_rfl
theorem limitsIdle_j14 : ((Rows.limitsIdleRow.ifaces == (Tryz.f11.params.toList ++ Rows.limitsIdleSpec.plain.varTypes Tryz.prog).any (Tryz.prog.ifacesRec ·))) = true := by kernel_rfl
theorem limitsIdle_j15 : ((Rows.limitsIdleRow.mapsOut == Tryz.prog.mapsAmong Tryz.f11.resultTypes.toList)) = true := by kernel_rfl
theorem limitsIdle_j16 : ((Rows.limitsIdleRow.loops == (Tryz.f11.params.toList ++ Rows.limitsIdleSpec.plain.varTypes Tryz.prog).any (Tryz.prog.loopsFrom ·))) = true := by kernel_rfl
theorem limitsIdle_j17 : ((Rows.limitsIdleRow.wideKeys == (Tryz.f11.params.toList ++ Rows.limitsIdleSpec.plain.varTypes Tryz.prog ++ Tryz.f11.resultTypes.toList).any (Tryz.prog.wideKeysFrom ·))) = true := by kernel_rfl
theorem limitsIdle_j18 : (Rows.limitsIdleSpec.vars.all (Tryz.prog.varReadable ·)) = true := by kernel_rfl
theorem limitsIdle_j19 : (Tryz.f11.resultTypes.all (fun t => Tryz.prog.readableRec t && decide (t < Tryz.prog.types.size))) = true := by kernel_rfl
theorem limitsIdle_j20 : ((Rows.limitsIdleRow.ifacesOut == Tryz.f11.resultTypes.toList.any (Tryz.prog.ifacesRec ·))) = true := by kernel_rfl
theorem limitsIdle_j21 : ((Rows.limitsIdleRow.loopsOut == Tryz.f11.resultTypes.toList.any (Tryz.prog.loopsFrom ·))) = true := by kernel_rfl
theorem limitsIdle_j22 : ((Rows.limitsIdleRow.plainKeys == Tryz.prog.plainKeys)) = true := by rw [Tryz.fact22]; rfl
theorem limitsIdle_j23 : (Rows.limitsIdleRow.shortTexts.isNone) = true := by kernel_rfl
theorem limitsIdle_j26 : ((Rows.limitsIdleRow.lifted == Tryz.prog.liftsFinal)) = true := by rw [Tryz.fact26]; rfl
theorem limitsIdle_j27 : ((Tryz.prog.make == some Rows.limitsIdleRow.make)) = true := by rw [Tryz.fact27]; rfl
theorem limitsIdle_j28 : ((Rows.limitsIdleRow.kinds == (if Rows.limitsIdleRow.domain.isEmpty then [] else Tryz.f11.params.toList.map fun t => match Tryz.prog.underlying t with | some (.int k) => some k | _ => none))) = true := by kernel_rfl
theorem limitsIdle_j29 : ((Rows.limitsIdleRow.pinned == Rows.limitsIdleRow.pinnedBy)) = true := by kernel_rfl
theorem limitsIdle_j30 : ((Rows.limitsIdleRow.veiled == (Tryz.f11.params.toList ++ Rows.limitsIdleSpec.plain.varTypes Tryz.prog ++ Tryz.f11.resultTypes.toList).any (Tryz.prog.veiledRec ·))) = true := by kernel_rfl
theorem limitsIdle_j31 : (Rows.limitsIdleRow.veiledFits Tryz.prog Tryz.f11.params.toList (Tryz.f11.params.toList ++ Rows.limitsIdleSpec.plain.varTypes Tryz.prog ++ Tryz.f11.resultTypes.toList)) = true := by kernel_rfl
set_option maxRecDepth 100000 in
theorem limitsIdle_closed : joinedFacts Tryz.prog 11 Tryz.f11 Rows.limitsIdleSpec Rows.limitsIdleRow = true := by
  unfold joinedFacts
  exact (and2 (and2 (and2 (and2 (and2 (and2 (and2 (and2 (and2 (and2 (and2 (and2 (and2 (and2 (and2 (and2 (and2 (and2 (and2 (and2 (and2 (and2 (and2 (and2 (and2 (and2 (and2 (and2 (and2 (and2 (and2 limitsIdle_j0 Tryz.fact1) Tryz.fact2) limitsIdle_j3) limitsIdle_j4) limitsIdle_j5) Tryz.fact6) limitsIdle_j7) Tryz.fact8) limitsIdle_j9) limitsIdle_j10) limitsIdle_j11) limitsIdle_j12) limitsIdle_j13) limitsIdle_j14) limitsIdle_j15) limitsIdle_j16) limitsIdle_j17) limitsIdle_j18) limitsIdle_j19) limitsIdle_j20) limitsIdle_j21) limitsIdle_j22) limitsIdle_j23) Tryz.fact24) Tryz.fact25) limitsIdle_j26) limitsIdle_j27) limitsIdle_j28) limitsIdle_j29) limitsIdle_j30) limitsIdle_j31)
theorem limitsIdle_named : Tryz.prog.funcNamed Rows.limitsIdleRow.func = some 11 := by kernel_rfl
theorem limitsIdle_instance : Tryz.f11.isInstance Tryz.prog Rows.limitsIdleRow.origin Rows.limitsIdleRow.targs := of_decide_eq_true (by kernel_rfl)
theorem limitsIdle_wrapper : Tryz.f11.isWrapper Tryz.prog Rows.limitsIdleRow.wrapper Rows.limitsIdleRow.mainSum := by unfold Func.isWrapper; first | (rw [if_pos (by decide +kernel)]; kernel_rfl) | (rw [if_neg (by decide +kernel)]; exact ⟨rfl, rfl⟩)

set_option maxRecDepth 100000 in
theorem limitsIdle_over : Rows.limitsIdleRow.holds Tryz.pinned (OpenSpec.ofChange Rows.limitsIdleSpec) :=
  OpenClaim.holds_of_wide 11 Tryz.f11 rfl rfl rfl rfl rfl rfl rfl ⟨rfl, rfl, rfl, rfl, rfl⟩ rfl rfl rfl rfl rfl limitsIdle_named Tryz.func11 limitsIdle_closed limitsIdle_instance limitsIdle_wrapper
    (fun os started H enc _ => limitsIdle_lifted os started H enc)

/-- THE STATEMENT: the card. -/
theorem limitsIdle_holds : Rows.LimitsIdleCardSaid :=
  Claim7.holds_tied_plain_at .later [] [.data, .data, .data] true (true, "a314527e42ba43a1a986057f2e4706a40430ee3f422109f3723c19ffe0241afc") false limitsIdle_over (fun _ h => by cases h) (by kernel_rfl) (fun _ h => by cases h) (OpenClaim.laidByTextAt_later rfl rfl cardTie cardPlain) rfl ⟨rfl, rfl⟩ cardMain rfl
    (fun f fn hf hfn => by
      obtain rfl : f = 11 := Option.some.inj ((show Tryz.prog.funcNamed "merestone/merestonelaw04.LimitsIdle" = some 11 by kernel_rfl).symm.trans hf) |>.symm
      obtain rfl : fn = Tryz.f11 := (Option.some.inj (Tryz.func11.symm.trans hfn)).symm
      exact ⟨cardLooks, fun j t ht => by
        rw [Tryz.params11] at ht
        have hm : t ∈ [27, 28, 30, 30] := by simpa using Array.mem_of_getElem? ht
        simp only [List.mem_cons, List.not_mem_nil, or_false] at hm
        rcases hm with rfl | rfl | rfl | rfl
        all_goals exact (show Tryz.prog.wantsStandIn _ = false by kernel_rfl)⟩)
    (cardGoes _ rfl)

end Go.Proofs.YtkhemfnlflbniaaGreatDoor
