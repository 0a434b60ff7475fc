/- The law LimitsAwards: for every input the call returns true, and its arguments read as before; the card: the row's listed variables tied to the program's text. No conditions. -/
import Derived.Test.YtkhemfnlflbniaaGreatDoorB15
import Derived.Test.YtkhemfnlflbniaaGreatDoorB13
import Derived.Test.YtkhemfnlflbniaaGreatDoorB12
import Derived.Test.YtkhemfnlflbniaaGreatDoorB11
import Derived.Test.YtkhemfnlflbniaaGreatDoorB10
import Derived.Test.YtkhemfnlflbniaaGreatDoorB09
import Derived.Test.YtkhemfnlflbniaaGreatDoorB06
import Derived.Test.YtkhemfnlflbniaaGreatDoorB05
import Derived.Test.YtkhemfnlflbniaaGreatDoorB01
import Derived.Test.YtkhemfnlflbniaaGreatDoorB04
import Derived.Shelf.Small.Bits
import Derived.Shelf.Strconv.Itoa0
import Derived.Shelf.Sort.Plain
import Derived.Shelf.Slices.Turned
import Derived.Ground.Names2Prog
import Derived.Shelf.Slices.CompactI
import Derived.Shelf.Slices.SearchI
import Derived.Shelf.Slices.Cells
import Derived.Shelf.Slices.In.SortNone
import Derived.Test.YtkhemfnlflbniaaGreatDoorProg
import Derived.Test.YtkhemfnlflbniaaGreatDoorB03
import Derived.Test.YtkhemfnlflbniaaGreatDoorB02
import Derived.WalkKit
import Derived.Handy
import Derived.RangeFuncRecord
import Derived.Shelf.Abstract
import Derived.Deep.QuietTactic
import Derived.BigQuiet
import Derived.Laws.CopyOwn
import Derived.WalkSmall
import Derived.RangeFuncNested
import Derived.RangeFuncBound
import Derived.RangeFuncCalls
import Derived.RangeFuncLeaves
import Derived.Shelf.RegionOpen
import Derived.OwnWalkIn
import Derived.TacticsInMore
import Derived.LoopNIn
import Derived.LoopIn
import Derived.Maps.AppendAt
import Derived.Deep.Onto
import Derived.OrdersHeld
import Derived.Deep.LoopGhost
import Derived.Deep.WholeRow
import Derived.Deep.OwnRows
import Derived.StillTailTactics
import Derived.Great.Walk
import Derived.Great.BuildSlice
import Derived.WalkMore
import Derived.Deep.MidRow
import Derived.Deep.RegionHeld3
import Derived.Deep.DeepCutAuto
import Derived.Lib.OwnBridge
import Derived.Lib.SliceRun
import Derived.WalkSpells
import Derived.Deep.RegionWith
import Derived.Lib.AppendZerosOnto
import Derived.Deep.CutBlock
import Derived.Test.YtkhemfnlflbniaaGreatDoorB08
import Derived.Test.YtkhemfnlflbniaaGreatDoorB07
import Derived.IntWalk
import Derived.Deep.Cut
import Derived.Laws.Rows
import Derived.Laws.Tables
import Derived.Laws.StructEq
import Derived.OrdersIn
import Derived.RangeFuncBox
import Derived.Test.YtkhemfnlflbniaaGreatDoorB14
import Derived.Test.YtkhemfnlflbniaaGreatDoorRows
import Derived.ProofKit
import Derived.OpenShut
import Derived.Carry
import Derived.Lib.SmallJoins
import Derived.Deep.Slices
import Derived.ChangeMaps5
import Derived.Test.YtkhemfnlflbniaaGreatDoorCards
import Derived.LaidByTextLater
import Derived.SevenTiedAt
import Derived.LaidOnce
import Derived.KernelRfl
import Derived.Lay
import Derived.LaidLaws
import Derived.Test.YtkhemfnlflbniaaGreatDoorXLimitsAwards
namespace Go.Proofs.YtkhemfnlflbniaaGreatDoor
open Go Go.ChangeShapes Go.WideShapes Go.ChangeAt Go.RowKit

set_option maxRecDepth 100000 in
theorem limitsAwards_lifted (os : Os) (started : os.Started) (H : Type) (enc : TypeId × Value → H) :
    ReturnsInHanded {} Tryz.checked os 14 .any (fun w args => (Rows.limitsAwardsSpec.pre enc Tryz.prog Tryz.f14 [] false w args ∧ laidMetH Tryz.prog Rows.limitsAwardsRow.laid w) ∧ sizedMet enc Tryz.prog Tryz.f14 (OpenSpec.ofChange Rows.limitsAwardsSpec) false w args)
      (Rows.limitsAwardsSpec.post enc Tryz.prog Tryz.f14 false true false false) := by
  refine returnsInHanded_of_change_and (C := Tryz.checked) (X := fun w _ => laidMetH Tryz.prog Rows.limitsAwardsRow.laid w) (fun _ _ _ hh h => h.of_heap hh) Tryz.own started (by kernel_rfl) Tryz.func14
    (ChangeSpec.witness_shaped (enc := enc) (C := Tryz.checked) (os := os) (X := fun w _ => laidMetH Tryz.prog Rows.limitsAwardsRow.laid w) false (World.laidAll Tryz.prog os Rows.limitsAwardsRow.laid) #[.agg #[.slice none 0 0, .slice none 0 0, .slice none 0 0, .slice none 0 0], .slice none 0 0, .agg #[.int .i64 0, .int .i64 0, .int .i64 0, .int .i64 0], .slice none 0 0] 8 (World.laidAll_os _ _ _)
      (World.shaped_of_ZipB (by kernel_rfl) (by kernel_rfl)) (by kernel_rfl) (by kernel_rfl) (by kernel_rfl)
      (by rw [MakeChecks.laidMetH_plain _ _ _ (by kernel_rfl)]; exact laidMet_laidAll _ (by kernel_rfl) (by kernel_rfl))) ?_
  intro W base args ds gs before hval0 hW _ _ _ _
  have hval : ∀ (j : Nat) t v, Tryz.f14.params[j]? = some t → args[j]? = some v → Value.okWide Tryz.prog W .any base t v := hval0
  have hW' := hW
  obtain ⟨p, q, hA0, hV, rfl, hfz, hnd⟩ := hW
  have hA : DataW.TrodAll enc Tryz.prog W 0 (fun _ => true) true Tryz.f14.params.toList args.toList ds p := hA0
  rw [Tryz.params14] at hA hval
  obtain ⟨v0, vs0, d0, ds0, p0, q0, hargs, rfl, rfl, h0, r0⟩ := trodAll_cons hA
  obtain ⟨v1, vs1, d1, ds1, p1, q1, rfl, rfl, rfl, h1, r1⟩ := trodAll_cons r0
  obtain ⟨v2, vs2, d2, ds2, p2, q2, rfl, rfl, rfl, h2, r2⟩ := trodAll_cons r1
  obtain ⟨v3, vs3, d3, ds3, p3, q3, rfl, rfl, rfl, h3, r3⟩ := trodAll_cons r2
  obtain ⟨rfl, rfl, rfl⟩ := trodAll_nil r3
  obtain rfl : args = #[v0, v1, v2, v3] := by cases args; simp_all
  obtain ⟨rfl, rfl⟩ := trodVars_none hV
  obtain ⟨x0, F0, rfl, hF0⟩ := open_fld (hval 0 27 v0 rfl rfl) h0
  obtain ⟨ar1, cr1, l1, rfl, hr1, hn1, hd1, hk1, hc1⟩ := open_recs (hval 1 28 v1 rfl rfl) h1
  obtain ⟨i2, s2, a2, c2, rfl, _, _, _, _⟩ := open_strip (hval 2 40 v2 rfl rfl) h2
  obtain ⟨a3, cap3, y3, rfl, hi3, hZ3, hm3, hyo3⟩ := open_list (hval 3 52 v3 rfl rfl) h3
  refine (limitsAwards_any W x0 F0 ar1 cr1 l1 i2 s2 a2 c2 a3 cap3 y3 hF0 hr1 hn1 hd1 hk1 hm3 hi3).mono fun e W' ⟨he, hg⟩ => ?_
  subst he
  refine ⟨_, rfl, law_post hW' hg (by kernel_rfl) ?_ rfl rfl⟩
  intro t ht
  rw [Tryz.params14] at ht
  simp only [List.mem_cons, List.not_mem_nil, or_false] at ht
  rcases ht with rfl | rfl | rfl | rfl
  · exact argOk46
  · exact argOk28
  · exact argOk40
  · exact argOk27

/-! The row's closed facts, each by itself. -/
theorem limitsAwards_j0 : (Rows.limitsAwardsRow.wf (OpenSpec.ofChange Rows.limitsAwardsSpec)) = true := by kernel_rfl
theorem limitsAwards_j3 : (Tryz.f14.params.all (Tryz.prog.readableRec ·)) = true := by kernel_rfl
theorem limitsAwards_j4 : (namedTie Tryz.prog Rows.limitsAwardsRow.named Rows.limitsAwardsSpec.vars) = true := by kernel_rfl
theorem limitsAwards_j5 : ((Rows.limitsAwardsRow.stops == [])) = true := by kernel_rfl
theorem limitsAwards_j7 : ((Rows.limitsAwardsRow.knobs == [])) = true := by kernel_rfl
theorem limitsAwards_j9 : ((Rows.limitsAwardsRow.inPlace == Tryz.prog.inPlace 14)) = true := by kernel_rfl
theorem limitsAwards_j10 : ((Rows.limitsAwardsRow.unfollowed == Tryz.prog.unfollowed 14)) = true := by kernel_rfl
theorem limitsAwards_j11 : ((Rows.limitsAwardsRow.recurses == Tryz.prog.recurses 14)) = true := by kernel_rfl
theorem limitsAwards_j12 : ((Rows.limitsAwardsRow.named == Tryz.prog.varsNamed 14)) = true := by kernel_rfl
theorem limitsAwards_j13 : ((Rows.limitsAwardsRow.maps == (Tryz.f14.params.toList ++ Rows.limitsAwardsSpec.plain.varTypes Tryz.prog).any (Tryz.prog.mapsRec ·))) = true := by kernel_rfl
theorem limitsAwards_j14 : ((Rows.limitsAwardsRow.ifaces == (Tryz.f14.params.toList ++ Rows.limitsAwardsSpec.plain.varTypes Tryz.prog).any (Tryz.prog.ifacesRec ·))) = true := by kernel_rfl
theorem limitsAwards_j15 : ((Rows.limitsAwardsRow.mapsOut == Tryz.prog.mapsAmong Tryz.f14.resultTypes.toList)) = true := by kernel_rfl
theorem limitsAwards_j16 : ((Rows.limitsAwardsRow.loops == (Tryz.f14.params.toList ++ Rows.limitsAwardsSpec.plain.varTypes Tryz.prog).any (Tryz.prog.loopsFrom ·))) = true := by kernel_rfl
theorem limitsAwards_j17 : ((Rows.limitsAwardsRow.wideKeys == (Tryz.f14.params.toList ++ Rows.limitsAwardsSpec.plain.varTypes Tryz.prog ++ Tryz.f14.resultTypes.toList).any (Tryz.prog.wideKeysFrom ·))) = true := by kernel_rfl
theorem limitsAwards_j18 : (Rows.limitsAwardsSpec.vars.all (Tryz.prog.varReadable ·)) = true := by kernel_rfl
theorem limitsAwards_j19 : (Tryz.f14.resultTypes.all (fun t => Tryz.prog.readableRec t && decide (t < Tryz.prog.types.size))) = true := by kernel_rfl
theorem limitsAwards_j20 : ((Rows.limitsAwardsRow.ifacesOut == Tryz.f14.resultTypes.toList.any (Tryz.prog.ifacesRec ·))) = true := by kernel_rfl
theorem limitsAwards_j21 : ((Rows.limitsAwardsRow.loopsOut == Tryz.f14.resultTypes.toList.any (Tryz.prog.loopsFrom ·))) = true := by kernel_rfl
theorem limitsAwards_j22 : ((Rows.limitsAwardsRow.plainKeys == Tryz.prog.plainKeys)) = true := by rw [Tryz.fact22]; rfl
theorem limitsAwards_j23 : (Rows.limitsAwardsRow.shortTexts.isNone) = true := by kernel_rfl
theorem limitsAwards_j26 : ((Rows.limitsAwardsRow.lifted == Tryz.prog.liftsFinal)) = true := by rw [Tryz.fact26]; rfl
theorem limitsAwards_j27 : ((Tryz.prog.make == some Rows.limitsAwardsRow.make)) = true := by rw [Tryz.fact27]; rfl
theorem limitsAwards_j28 : ((Rows.limitsAwardsRow.kinds == (if Rows.limitsAwardsRow.domain.isEmpty then [] else Tryz.f14.params.toList.map fun t => match Tryz.prog.underlying t with | some (.int k) => some k | _ => none))) = true := by kernel_rfl
theorem limitsAwards_j29 : ((Rows.limitsAwardsRow.pinned == Rows.limitsAwardsRow.pinnedBy)) = true := by kernel_rfl
theorem limitsAwards_j30 : ((Rows.limitsAwardsRow.veiled == (Tryz.f14.params.toList ++ Rows.limitsAwardsSpec.plain.varTypes Tryz.prog ++ Tryz.f14.resultTypes.toList).any (Tryz.prog.veiledRec ·))) = true := by kernel_rfl
theorem limitsAwards_j31 : (Rows.limitsAwardsRow.veiledFits Tryz.prog Tryz.f14.params.toList (Tryz.f14.params.toList ++ Rows.limitsAwardsSpec.plain.varTypes Tryz.prog ++ Tryz.f14.resultTypes.toList)) = true := by kernel_rfl
set_option maxRecDepth 100000 in
theorem limitsAwards_closed : joinedFacts Tryz.prog 14 Tryz.f14 Rows.limitsAwardsSpec Rows.limitsAwardsRow = true := by
  unfold joinedFacts
  exact (and2 (and2 (and2 (and2 (and2 (and2 (and2 (and2 (and2 (and2 (and2 (and2 (and2 (and2 (and2 (and2 (and2 (and2 (and2 (and2 (and2 (and2 (and2 (and2 (and2 (and2 (and2 (and2 (and2 (and2 (and2 limitsAwards_j0 Tryz.fact1) Tryz.fact2) limitsAwards_j3) limitsAwards_j4) limitsAwards_j5) Tryz.fact6) limitsAwards_j7) Tryz.fact8) limitsAwards_j9) limitsAwards_j10) limitsAwards_j11) limitsAwards_j12) limitsAwards_j13) limitsAwards_j14) limitsAwards_j15) limitsAwards_j16) limitsAwards_j17) limitsAwards_j18) limitsAwards_j19) limitsAwards_j20) limitsAwards_j21) limitsAwards_j22) limitsAwards_j23) Tryz.fact24) Tryz.fact25) limitsAwards_j26) limitsAwards_j27) limitsAwards_j28) limitsAwards_j29) limitsAwards_j30) limitsAwards_j31)
theorem limitsAwards_named : Tryz.prog.funcNamed Rows.limitsAwardsRow.func = some 14 := by kernel_rfl
theorem limitsAwards_instance : Tryz.f14.isInstance Tryz.prog Rows.limitsAwardsRow.origin Rows.limitsAwardsRow.targs := of_decide_eq_true (by kernel_rfl)
theorem limitsAwards_wrapper : Tryz.f14.isWrapper Tryz.prog Rows.limitsAwardsRow.wrapper Rows.limitsAwardsRow.mainSum := by unfold Func.isWrapper; first | (rw [if_pos (by decide +kernel)]; kernel_rfl) | (rw [if_neg (by decide +kernel)]; exact ⟨rfl, rfl⟩)

set_option maxRecDepth 100000 in
theorem limitsAwards_over : Rows.limitsAwardsRow.holds Tryz.pinned (OpenSpec.ofChange Rows.limitsAwardsSpec) :=
  OpenClaim.holds_of_wide 14 Tryz.f14 rfl rfl rfl rfl rfl rfl rfl ⟨rfl, rfl, rfl, rfl, rfl⟩ rfl rfl rfl rfl rfl limitsAwards_named Tryz.func14 limitsAwards_closed limitsAwards_instance limitsAwards_wrapper
    (fun os started H enc _ => limitsAwards_lifted os started H enc)

/-- THE STATEMENT: the card. -/
theorem limitsAwards_holds : Rows.LimitsAwardsCardSaid :=
  Claim7.holds_tied_plain_at .later [] [.data, .data, .data] true (true, "a314527e42ba43a1a986057f2e4706a40430ee3f422109f3723c19ffe0241afc") false limitsAwards_over (fun _ h => by cases h) (by kernel_rfl) (fun _ h => by cases h) (OpenClaim.laidByTextAt_later rfl rfl cardTie cardPlain) rfl ⟨rfl, rfl⟩ cardMain rfl
    (fun f fn hf hfn => by
      obtain rfl : f = 14 := Option.some.inj ((show Tryz.prog.funcNamed "merestone/merestonelaw04.LimitsAwards" = some 14 by kernel_rfl).symm.trans hf) |>.symm
      obtain rfl : fn = Tryz.f14 := (Option.some.inj (Tryz.func14.symm.trans hfn)).symm
      exact ⟨cardLooks, fun j t ht => by
        rw [Tryz.params14] at ht
        have hm : t ∈ [27, 28, 40, 52] := by simpa using Array.mem_of_getElem? ht
        simp only [List.mem_cons, List.not_mem_nil, or_false] at hm
        rcases hm with rfl | rfl | rfl | rfl
        all_goals exact (show Tryz.prog.wantsStandIn _ = false by kernel_rfl)⟩)
    (cardGoes _ rfl)

end Go.Proofs.YtkhemfnlflbniaaGreatDoor
