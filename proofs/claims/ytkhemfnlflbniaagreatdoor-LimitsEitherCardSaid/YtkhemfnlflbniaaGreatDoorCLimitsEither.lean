/- The law LimitsEither: for every input the call returns true, and its arguments read as before; the card: the row's listed variables tied to the program's text. No conditions. -/
import Derived.Test.YtkhemfnlflbniaaGreatDoorB15
import Derived.Test.YtkhemfnlflbniaaGreatDoorB13
import Derived.Test.YtkhemfnlflbniaaGreatDoorB12
import Derived.Test.YtkhemfnlflbniaaGreatDoorB11
import Derived.Test.YtkhemfnlflbniaaGreatDoorB10
import Derived.Test.YtkhemfnlflbniaaGreatDoorB09
import Derived.Test.YtkhemfnlflbniaaGreatDoorB06
import Derived.Test.YtkhemfnlflbniaaGreatDoorB05
import Derived.Test.YtkhemfnlflbniaaGreatDoorB01
import Derived.Test.YtkhemfnlflbniaaGreatDoorB04
import Derived.Shelf.Small.Bits
import Derived.Shelf.Strconv.Itoa0
import Derived.Shelf.Sort.Plain
import Derived.Shelf.Slices.Turned
import Derived.Ground.Names2Prog
import Derived.Shelf.Slices.CompactI
import Derived.Shelf.Slices.SearchI
import Derived.Shelf.Slices.Cells
import Derived.Shelf.Slices.In.SortNone
import Derived.Test.YtkhemfnlflbniaaGreatDoorProg
import Derived.Test.YtkhemfnlflbniaaGreatDoorB03
import Derived.Test.YtkhemfnlflbniaaGreatDoorB02
import Derived.WalkKit
import Derived.Handy
import Derived.RangeFuncRecord
import Derived.Shelf.Abstract
import Derived.Deep.QuietTactic
import Derived.BigQuiet
import Derived.Laws.CopyOwn
import Derived.WalkSmall
import Derived.RangeFuncNested
import Derived.RangeFuncBound
import Derived.RangeFuncCalls
import Derived.RangeFuncLeaves
import Derived.Shelf.RegionOpen
import Derived.OwnWalkIn
import Derived.TacticsInMore
import Derived.LoopNIn
import Derived.LoopIn
import Derived.Maps.AppendAt
import Derived.Deep.Onto
import Derived.OrdersHeld
import Derived.Deep.LoopGhost
import Derived.Deep.WholeRow
import Derived.Deep.OwnRows
import Derived.StillTailTactics
import Derived.Great.Walk
import Derived.Great.BuildSlice
import Derived.WalkMore
import Derived.Deep.MidRow
import Derived.Deep.RegionHeld3
import Derived.Deep.DeepCutAuto
import Derived.Lib.OwnBridge
import Derived.Lib.SliceRun
import Derived.WalkSpells
import Derived.Deep.RegionWith
import Derived.Lib.AppendZerosOnto
import Derived.Deep.CutBlock
import Derived.Test.YtkhemfnlflbniaaGreatDoorB08
import Derived.Test.YtkhemfnlflbniaaGreatDoorB07
import Derived.IntWalk
import Derived.Deep.Cut
import Derived.Laws.Rows
import Derived.Laws.Tables
import Derived.Laws.StructEq
import Derived.OrdersIn
import Derived.RangeFuncBox
import Derived.Test.YtkhemfnlflbniaaGreatDoorB14
import Derived.Test.YtkhemfnlflbniaaGreatDoorRows
import Derived.ProofKit
import Derived.OpenShut
import Derived.Carry
import Derived.Lib.SmallJoins
import Derived.Deep.Slices
import Derived.ChangeMaps5
import Derived.Test.YtkhemfnlflbniaaGreatDoorCards
import Derived.LaidByTextLater
import Derived.SevenTiedAt
import Derived.LaidOnce
import Derived.KernelRfl
import Derived.Lay
import Derived.LaidLaws
import Derived.Test.YtkhemfnlflbniaaGreatDoorXLimitsEither
namespace Go.Proofs.YtkhemfnlflbniaaGreatDoor
open Go Go.ChangeShapes Go.WideShapes Go.ChangeAt Go.RowKit

set_option maxRecDepth 100000 in
theorem limitsEither_lifted (os : Os) (started : os.Started) (H : Type) (enc : TypeId × Value → H) :
    ReturnsInHanded {} Tryz.checked os 16 .any (fun w args => (Rows.limitsEitherSpec.pre enc Tryz.prog Tryz.f16 [] false w args ∧ laidMetH Tryz.prog Rows.limitsEitherRow.laid w) ∧ sizedMet enc Tryz.prog Tryz.f16 (OpenSpec.ofChange Rows.limitsEitherSpec) false w args)
      (Rows.limitsEitherSpec.post enc Tryz.prog Tryz.f16 false true false false) := by
  refine returnsInHanded_of_change_and (C := Tryz.checked) (X := fun w _ => laidMetH Tryz.prog Rows.limitsEitherRow.laid w) (fun _ _ _ hh h => h.of_heap hh) Tryz.own started (by kernel_rfl) Tryz.func16
    (ChangeSpec.witness_shaped (enc := enc) (C := Tryz.checked) (os := os) (X := fun w _ => laidMetH Tryz.prog Rows.limitsEitherRow.laid w) false (World.laidAll Tryz.prog os Rows.limitsEitherRow.laid) #[.agg #[.slice none 0 0, .slice none 0 0, .slice none 0 0, .slice none 0 0], .slice none 0 0, .slice none 0 0] 8 (World.laidAll_os _ _ _)
      (World.shaped_of_ZipB (by kernel_rfl) (by kernel_rfl)) (by kernel_rfl) (by kernel_rfl) (by kernel_rfl)
      (by rw [MakeChecks.laidMetH_plain _ _ _ (by kernel_rfl)]; exact laidMet_laidAll _ (by kernel_rfl) (by kernel_rfl))) ?_
  intro W base args ds gs before hval0 hW _ _ _ _
  have hval : ∀ (j : Nat) t v, Tryz.f16.params[j]? = some t → args[j]? = some v → Value.okWide Tryz.prog W .any base t v := hval0
  have hW' := hW
  obtain ⟨p, q, hA0, hV, rfl, hfz, hnd⟩ := hW
  have hA : DataW.TrodAll enc Tryz.prog W 0 (fun _ => true) true Tryz.f16.params.toList args.toList ds p := hA0
  rw [Tryz.params16] at hA hval
  obtain ⟨v0, vs0, d0, ds0, p0, q0, hargs, rfl, rfl, h0, r0⟩ := trodAll_cons hA
  obtain ⟨v1, vs1, d1, ds1, p1, q1, rfl, rfl, rfl, h1, r1⟩ := trodAll_cons r0
  obtain ⟨v2, vs2, d2, ds2, p2, q2, rfl, rfl, rfl, h2, r2⟩ := trodAll_cons r1
  obtain ⟨rfl, rfl, rfl⟩ := trodAll_nil r2
  obtain rfl : args = #[v0, v1, v2] := by cases args; simp_all
  obtain ⟨rfl, rfl⟩ := trodVars_none hV
  obtain ⟨x0, F0, rfl, hF0⟩ := open_fld (hval 0 27 v0 rfl rfl) h0
  obtain ⟨ar1, cr1, l1, rfl, hr1, hn1, hd1, hk1, hc1⟩ := open_recs (hval 1 28 v1 rfl rfl) h1
  obtain ⟨a2, cap2, y2, rfl, hi2, hZ2, hm2, hyo2⟩ := open_list (hval 2 52 v2 rfl rfl) h2
  refine (limitsEither_any W x0 F0 ar1 cr1 l1 a2 cap2 y2 hF0 hr1 hn1 hd1 hk1 hm2 hi2).mono fun e W' ⟨he, hg⟩ => ?_
  subst he
  refine ⟨_, rfl, law_post hW' hg (by kernel_rfl) ?_ rfl rfl⟩
  intro t ht
  rw [Tryz.params16] at ht
  simp only [List.mem_cons, List.not_mem_nil, or_false] at ht
  rcases ht with rfl | rfl | rfl
  · exact argOk46
  · exact argOk28
  · exact argOk27

/-! The row's closed facts, each by itself. -/
theorem limitsEither_j0 : (Rows.limitsEitherRow.wf (OpenSpec.ofChange Rows.limitsEitherSpec)) = true := by kernel_rfl
theorem limitsEither_j3 : (Tryz.f16.params.all (Tryz.prog.readableRec ·)) = true := by kernel_rfl
theorem limitsEither_j4 : (namedTie Tryz.prog Rows.limitsEitherRow.named Rows.limitsEitherSpec.vars) = true := by kernel_rfl
theorem limitsEither_j5 : ((Rows.limitsEitherRow.stops == [])) = true := by kernel_rfl
theorem limitsEither_j7 : ((Rows.limitsEitherRow.knobs == [])) = true := by kernel_rfl
theorem limitsEither_j9 : ((Rows.limitsEitherRow.inPlace == Tryz.prog.inPlace 16)) = true := by kernel_rfl
theorem limitsEither_j10 : ((Rows.limitsEitherRow.unfollowed == Tryz.prog.unfollowed 16)) = true := by kernel_rfl
theorem limitsEither_j11 : ((Rows.limitsEitherRow.recurses == Tryz.prog.recurses 16)) = true := by kernel_rfl
theorem limitsEither_j12 : ((Rows.limitsEitherRow.named == Tryz.prog.varsNamed 16)) = true := by kernel_rfl
theorem limitsEither_j13 : ((Rows.limitsEitherRow.maps == (Tryz.f16.params.toList ++ Rows.limitsEitherSpec.plain.varTypes Tryz.prog).any (Tryz.prog.mapsRec ·))) = true := by kernel_rfl
theorem limitsEither_j14 : ((Rows.limitsEitherRow.ifaces == (Tryz.f16.params.toList ++ Rows.limitsEitherSpec.plain.varTypes Tryz.prog).any (Tryz.prog.ifacesRec ·))) = true := by kernel_rfl
theorem limitsEither_j15 : ((Rows.limitsEitherRow.mapsOut == Tryz.prog.mapsAmong Tryz.f16.resultTypes.toList)) = true := by kernel_rfl
theorem limitsEither_j16 : ((Rows.limitsEitherRow.loops == (Tryz.f16.params.toList ++ Rows.limitsEitherSpec.plain.varTypes Tryz.prog).any (Tryz.prog.loopsFrom ·))) = true := by kernel_rfl
theorem limitsEither_j17 : ((Rows.limitsEitherRow.wideKeys == (Tryz.f16.params.toList ++ Rows.limitsEitherSpec.plain.varTypes Tryz.prog ++ Tryz.f16.resultTypes.toList).any (Tryz.prog.wideKeysFrom ·))) = true := by kernel_rfl
theorem limitsEither_j18 : (Rows.limitsEitherSpec.vars.all (Tryz.prog.varReadable ·)) = true := by kernel_rfl
theorem limitsEither_j19 : (Tryz.f16.resultTypes.all (fun t => Tryz.prog.readableRec t && decide (t < Tryz.prog.types.size))) = true := by kernel_rfl
theorem limitsEither_j20 : ((Rows.limitsEitherRow.ifacesOut == Tryz.f16.resultTypes.toList.any (Tryz.prog.ifacesRec ·))) = true := by kernel_rfl
theorem limitsEither_j21 : ((Rows.limitsEitherRow.loopsOut == Tryz.f16.resultTypes.toList.any (Tryz.prog.loopsFrom ·))) = true := by kernel_rfl
theorem limitsEither_j22 : ((Rows.limitsEitherRow.plainKeys == Tryz.prog.plainKeys)) = true := by rw [Tryz.fact22]; rfl
theorem limitsEither_j23 : (Rows.limitsEitherRow.shortTexts.isNone) = true := by kernel_rfl
theorem limitsEither_j26 : ((Rows.limitsEitherRow.lifted == Tryz.prog.liftsFinal)) = true := by rw [Tryz.fact26]; rfl
theorem limitsEither_j27 : ((Tryz.prog.make == some Rows.limitsEitherRow.make)) = true := by rw [Tryz.fact27]; rfl
theorem limitsEither_j28 : ((Rows.limitsEitherRow.kinds == (if Rows.limitsEitherRow.domain.isEmpty then [] else Tryz.f16.params.toList.map fun t => match Tryz.prog.underlying t with | some (.int k) => some k | _ => none))) = true := by kernel_rfl
theorem limitsEither_j29 : ((Rows.limitsEitherRow.pinned == Rows.limitsEitherRow.pinnedBy)) = true := by kernel_rfl
theorem limitsEither_j30 : ((Rows.limitsEitherRow.veiled == (Tryz.f16.params.toList ++ Rows.limitsEitherSpec.plain.varTypes Tryz.prog ++ Tryz.f16.resultTypes.toList).any (Tryz.prog.veiledRec ·))) = true := by kernel_rfl
theorem limitsEither_j31 : (Rows.limitsEitherRow.veiledFits Tryz.prog Tryz.f16.params.toList (Tryz.f16.params.toList ++ Rows.limitsEitherSpec.plain.varTypes Tryz.prog ++ Tryz.f16.resultTypes.toList)) = true := by kernel_rfl
set_option maxRecDepth 100000 in
theorem limitsEither_closed : joinedFacts Tryz.prog 16 Tryz.f16 Rows.limitsEitherSpec Rows.limitsEitherRow = true := by
  unfold joinedFacts
  exact (and2 (and2 (and2 (and2 (and2 (and2 (and2 (and2 (and2 (and2 (and2 (and2 (and2 (and2 (and2 (and2 (and2 (and2 (and2 (and2 (and2 (and2 (and2 (and2 (and2 (and2 (and2 (and2 (and2 (and2 (and2 limitsEither_j0 Tryz.fact1) Tryz.fact2) limitsEither_j3) limitsEither_j4) limitsEither_j5) Tryz.fact6) limitsEither_j7) Tryz.fact8) limitsEither_j9) limitsEither_j10) limitsEither_j11) limitsEither_j12) limitsEither_j13) limitsEither_j14) limitsEither_j15) limitsEither_j16) limitsEither_j17) limitsEither_j18) limitsEither_j19) limitsEither_j20) limitsEither_j21) limitsEither_j22) limitsEither_j23) Tryz.fact24) Tryz.fact25) limitsEither_j26) limitsEither_j27) limitsEither_j28) limitsEither_j29) limitsEither_j30) limitsEither_j31)
theorem limitsEither_named : Tryz.prog.funcNamed Rows.limitsEitherRow.func = some 16 := by kernel_rfl
theorem limitsEither_instance : Tryz.f16.isInstance Tryz.prog Rows.limitsEitherRow.origin Rows.limitsEitherRow.targs := of_decide_eq_true (by kernel_rfl)
theorem limitsEither_wrapper : Tryz.f16.isWrapper Tryz.prog Rows.limitsEitherRow.wrapper Rows.limitsEitherRow.mainSum := by unfold Func.isWrapper; first | (rw [if_pos (by decide +kernel)]; kernel_rfl) | (rw [if_neg (by decide +kernel)]; exact ⟨rfl, rfl⟩)

set_option maxRecDepth 100000 in
theorem limitsEither_over : Rows.limitsEitherRow.holds Tryz.pinned (OpenSpec.ofChange Rows.limitsEitherSpec) :=
  OpenClaim.holds_of_wide 16 Tryz.f16 rfl rfl rfl rfl rfl rfl rfl ⟨rfl, rfl, rfl, rfl, rfl⟩ rfl rfl rfl rfl rfl limitsEither_named Tryz.func16 limitsEither_closed limitsEither_instance limitsEither_wrapper
    (fun os started H enc _ => limitsEither_lifted os started H enc)

/-- THE STATEMENT: the card. -/
theorem limitsEither_holds : Rows.LimitsEitherCardSaid :=
  Claim7.holds_tied_plain_at .later [] [.data, .data, .data] true (true, "a314527e42ba43a1a986057f2e4706a40430ee3f422109f3723c19ffe0241afc") false limitsEither_over (fun _ h => by cases h) (by kernel_rfl) (fun _ h => by cases h) (OpenClaim.laidByTextAt_later rfl rfl cardTie cardPlain) rfl ⟨rfl, rfl⟩ cardMain rfl
    (fun f fn hf hfn => by
      obtain rfl : f = 16 := Option.some.inj ((show Tryz.prog.funcNamed "merestone/merestonelaw04.LimitsEither" = some 16 by kernel_rfl).symm.trans hf) |>.symm
      obtain rfl : fn = Tryz.f16 := (Option.some.inj (Tryz.func16.symm.trans hfn)).symm
      exact ⟨cardLooks, fun j t ht => by
        rw [Tryz.params16] at ht
        have hm : t ∈ [27, 28, 52] := by simpa using Array.mem_of_getElem? ht
        simp only [List.mem_cons, List.not_mem_nil, or_false] at hm
        rcases hm with rfl | rfl | rfl
        all_goals exact (show Tryz.prog.wantsStandIn _ = false by kernel_rfl)⟩)
    (cardGoes _ rfl)

end Go.Proofs.YtkhemfnlflbniaaGreatDoor
