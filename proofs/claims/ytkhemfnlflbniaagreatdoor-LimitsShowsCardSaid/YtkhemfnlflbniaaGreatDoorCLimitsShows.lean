/- The law LimitsShows: for every input the call returns true, and its arguments read as before; the card: the row's listed variables tied to the program's text. No conditions. -/
import Derived.Test.YtkhemfnlflbniaaGreatDoorB15
import Derived.Test.YtkhemfnlflbniaaGreatDoorB13
import Derived.Test.YtkhemfnlflbniaaGreatDoorB12
import Derived.Test.YtkhemfnlflbniaaGreatDoorB11
import Derived.Test.YtkhemfnlflbniaaGreatDoorB10
import Derived.Test.YtkhemfnlflbniaaGreatDoorB09
import Derived.Test.YtkhemfnlflbniaaGreatDoorB06
import Derived.Test.YtkhemfnlflbniaaGreatDoorB05
import Derived.Test.YtkhemfnlflbniaaGreatDoorB01
import Derived.Test.YtkhemfnlflbniaaGreatDoorB04
import Derived.Shelf.Small.Bits
import Derived.Shelf.Strconv.Itoa0
import Derived.Shelf.Sort.Plain
import Derived.Shelf.Slices.Turned
import Derived.Ground.Names2Prog
import Derived.Shelf.Slices.CompactI
import Derived.Shelf.Slices.SearchI
import Derived.Shelf.Slices.Cells
import Derived.Shelf.Slices.In.SortNone
import Derived.Test.YtkhemfnlflbniaaGreatDoorProg
import Derived.Test.YtkhemfnlflbniaaGreatDoorB03
import Derived.Test.YtkhemfnlflbniaaGreatDoorB02
import Derived.WalkKit
import Derived.Handy
import Derived.RangeFuncRecord
import Derived.Shelf.Abstract
import Derived.Deep.QuietTactic
import Derived.BigQuiet
import Derived.Laws.CopyOwn
import Derived.WalkSmall
import Derived.RangeFuncNested
import Derived.RangeFuncBound
import Derived.RangeFuncCalls
import Derived.RangeFuncLeaves
import Derived.Shelf.RegionOpen
import Derived.OwnWalkIn
import Derived.TacticsInMore
import Derived.LoopNIn
import Derived.LoopIn
import Derived.Maps.AppendAt
import Derived.Deep.Onto
import Derived.OrdersHeld
import Derived.Deep.LoopGhost
import Derived.Deep.WholeRow
import Derived.Deep.OwnRows
import Derived.StillTailTactics
import Derived.Great.Walk
import Derived.Great.BuildSlice
import Derived.WalkMore
import Derived.Deep.MidRow
import Derived.Deep.RegionHeld3
import Derived.Deep.DeepCutAuto
import Derived.Lib.OwnBridge
import Derived.Lib.SliceRun
import Derived.WalkSpells
import Derived.Deep.RegionWith
import Derived.Lib.AppendZerosOnto
import Derived.Deep.CutBlock
import Derived.Test.YtkhemfnlflbniaaGreatDoorB08
import Derived.Test.YtkhemfnlflbniaaGreatDoorB07
import Derived.IntWalk
import Derived.Deep.Cut
import Derived.Laws.Rows
import Derived.Laws.Tables
import Derived.Laws.StructEq
import Derived.OrdersIn
import Derived.RangeFuncBox
import Derived.Test.YtkhemfnlflbniaaGreatDoorB14
import Derived.Test.YtkhemfnlflbniaaGreatDoorRows
import Derived.ProofKit
import Derived.OpenShut
import Derived.Carry
import Derived.Lib.SmallJoins
import Derived.Deep.Slices
import Derived.ChangeMaps5
import Derived.Test.YtkhemfnlflbniaaGreatDoorCards
import Derived.LaidByTextLater
import Derived.SevenTiedAt
import Derived.LaidOnce
import Derived.KernelRfl
import Derived.Lay
import Derived.LaidLaws
import Derived.Test.YtkhemfnlflbniaaGreatDoorXLimitsShows
namespace Go.Proofs.YtkhemfnlflbniaaGreatDoor
open Go Go.ChangeShapes Go.WideShapes Go.ChangeAt Go.RowKit

set_option maxRecDepth 100000 in
theorem limitsShows_lifted (os : Os) (started : os.Started) (H : Type) (enc : TypeId × Value → H) :
    ReturnsInHanded {} Tryz.checked os 19 .any (fun w args => (Rows.limitsShowsSpec.pre enc Tryz.prog Tryz.f19 [] false w args ∧ laidMetH Tryz.prog Rows.limitsShowsRow.laid w) ∧ sizedMet enc Tryz.prog Tryz.f19 (OpenSpec.ofChange Rows.limitsShowsSpec) false w args)
      (Rows.limitsShowsSpec.post enc Tryz.prog Tryz.f19 false true false false) := by
  refine returnsInHanded_of_change_and (C := Tryz.checked) (X := fun w _ => laidMetH Tryz.prog Rows.limitsShowsRow.laid w) (fun _ _ _ hh h => h.of_heap hh) Tryz.own started (by kernel_rfl) Tryz.func19
    (ChangeSpec.witness_shaped (enc := enc) (C := Tryz.checked) (os := os) (X := fun w _ => laidMetH Tryz.prog Rows.limitsShowsRow.laid w) false (World.laidAll Tryz.prog os Rows.limitsShowsRow.laid) #[.agg #[.slice none 0 0, .slice none 0 0, .slice none 0 0, .slice none 0 0], .slice none 0 0, .agg #[.int .i64 0, .int .i64 0, .int .i64 0, .int .i64 0]] 8 (World.laidAll_os _ _ _)
      (World.shaped_of_ZipB (by kernel_rfl) (by kernel_rfl)) (by kernel_rfl) (by kernel_rfl) (by kernel_rfl)
      (by rw [MakeChecks.laidMetH_plain _ _ _ (by kernel_rfl)]; exact laidMet_laidAll _ (by kernel_rfl) (by kernel_rfl))) ?_
  intro W base args ds gs before hval0 hW _ _ _ _
  have hval : ∀ (j : Nat) t v, Tryz.f19.params[j]? = some t → args[j]? = some v → Value.okWide Tryz.prog W .any base t v := hval0
  have hW' := hW
  obtain ⟨p, q, hA0, hV, rfl, hfz, hnd⟩ := hW
  have hA : DataW.TrodAll enc Tryz.prog W 0 (fun _ => true) true Tryz.f19.params.toList args.toList ds p := hA0
  rw [Tryz.params19] at hA hval
  obtain ⟨v0, vs0, d0, ds0, p0, q0, hargs, rfl, rfl, h0, r0⟩ := trodAll_cons hA
  obtain ⟨v1, vs1, d1, ds1, p1, q1, rfl, rfl, rfl, h1, r1⟩ := trodAll_cons r0
  obtain ⟨v2, vs2, d2, ds2, p2, q2, rfl, rfl, rfl, h2, r2⟩ := trodAll_cons r1
  obtain ⟨rfl, rfl, rfl⟩ := trodAll_nil r2
  obtain rfl : args = #[v0, v1, v2] := by cases args; simp_all
  obtain ⟨rfl, rfl⟩ := trodVars_none hV
  obtain ⟨x0, F0, rfl, hF0⟩ := open_fld (hval 0 27 v0 rfl rfl) h0
  obtain ⟨ar1, cr1, l1, rfl, hr1, hn1, hd1, hk1, hc1⟩ := open_recs (hval 1 28 v1 rfl rfl) h1
  obtain ⟨i2, s2, a2, c2, rfl, _, _, _, _⟩ := open_strip (hval 2 40 v2 rfl rfl) h2
  refine (limitsShows_any W x0 F0 ar1 cr1 l1 i2 s2 a2 c2 hF0 hr1 hn1 hd1 hk1).mono fun e W' ⟨he, hg⟩ => ?_
  subst he
  refine ⟨_, rfl, law_post hW' hg (by kernel_rfl) ?_ rfl rfl⟩
  intro t ht
  rw [Tryz.params19] at ht
  simp only [List.mem_cons, List.not_mem_nil, or_false] at ht
  rcases ht with rfl | rfl | rfl
  · exact argOk46
  · exact argOk28
  · exact argOk40

/-! The row's closed facts, each by itself. -/
theorem limitsShows_j0 : (Rows.limitsShowsRow.wf (OpenSpec.ofChange Rows.limitsShowsSpec)) = true := by kernel_rfl
theorem limitsShows_j3 : (Tryz.f19.params.all (Tryz.prog.readableRec ·)) = true := by kernel_rfl
theorem limitsShows_j4 : (namedTie Tryz.prog Rows.limitsShowsRow.named Rows.limitsShowsSpec.vars) = true := by kernel_rfl
theorem limitsShows_j5 : ((Rows.limitsShowsRow.stops == [])) = true := by kernel_rfl
theorem limitsShows_j7 : ((Rows.limitsShowsRow.knobs == [])) = true := by kernel_rfl
theorem limitsShows_j9 : ((Rows.limitsShowsRow.inPlace == Tryz.prog.inPlace 19)) = true := by kernel_rfl
theorem limitsShows_j10 : ((Rows.limitsShowsRow.unfollowed == Tryz.prog.unfollowed 19)) = true := by kernel_rfl
theorem limitsShows_j11 : ((Rows.limitsShowsRow.recurses == Tryz.prog.recurses 19)) = true := by kernel_rfl
theorem limitsShows_j12 : ((Rows.limitsShowsRow.named == Tryz.prog.varsNamed 19)) = true := by kernel_rfl
theorem limitsShows_j13 : ((Rows.limitsShowsRow.maps == (Tryz.f19.params.toList ++ Rows.limitsShowsSpec.plain.varTypes Tryz.prog).any (Tryz.prog.mapsRec ·))) = true := by kernel_rfl
theorem limitsShows_j14 : ((Rows.limitsShowsRow.ifaces == (Tryz.f19.params.toList ++ Rows.limitsShowsSpec.plain.varTypes Tryz.prog).any (Tryz.prog.ifacesRec ·))) = true := by kernel_rfl
theorem limitsShows_j15 : ((Rows.limitsShowsRow.mapsOut == Tryz.prog.mapsAmong Tryz.f19.resultTypes.toList)) = true := by kernel_rfl
theorem limitsShows_j16 : ((Rows.limitsShowsRow.loops == (Tryz.f19.params.toList ++ Rows.limitsShowsSpec.plain.varTypes Tryz.prog).any (Tryz.prog.loopsFrom ·))) = true := by kernel_rfl
theorem limitsShows_j17 : ((Rows.limitsShowsRow.wideKeys == (Tryz.f19.params.toList ++ Rows.limitsShowsSpec.plain.varTypes Tryz.prog ++ Tryz.f19.resultTypes.toList).any (Tryz.prog.wideKeysFrom ·))) = true := by kernel_rfl
theorem limitsShows_j18 : (Rows.limitsShowsSpec.vars.all (Tryz.prog.varReadable ·)) = true := by kernel_rfl
theorem limitsShows_j19 : (Tryz.f19.resultTypes.all (fun t => Tryz.prog.readableRec t && decide (t < Tryz.prog.types.size))) = true := by kernel_rfl
theorem limitsShows_j20 : ((Rows.limitsShowsRow.ifacesOut == Tryz.f19.resultTypes.toList.any (Tryz.prog.ifacesRec ·))) = true := by kernel_rfl
theorem limitsShows_j21 : ((Rows.limitsShowsRow.loopsOut == Tryz.f19.resultTypes.toList.any (Tryz.prog.loopsFrom ·))) = true := by kernel_rfl
theorem limitsShows_j22 : ((Rows.limitsShowsRow.plainKeys == Tryz.prog.plainKeys)) = true := by rw [Tryz.fact22]; rfl
theorem limitsShows_j23 : (Rows.limitsShowsRow.shortTexts.isNone) = true := by kernel_rfl
theorem limitsShows_j26 : ((Rows.limitsShowsRow.lifted == Tryz.prog.liftsFinal)) = true := by rw [Tryz.fact26]; rfl
theorem limitsShows_j27 : ((Tryz.prog.make == some Rows.limitsShowsRow.make)) = true := by rw [Tryz.fact27]; rfl
theorem limitsShows_j28 : ((Rows.limitsShowsRow.kinds == (if Rows.limitsShowsRow.domain.isEmpty then [] else Tryz.f19.params.toList.map fun t => match Tryz.prog.underlying t with | some (.int k) => some k | _ => none))) = true := by kernel_rfl
theorem limitsShows_j29 : ((Rows.limitsShowsRow.pinned == Rows.limitsShowsRow.pinnedBy)) = true := by kernel_rfl
theorem limitsShows_j30 : ((Rows.limitsShowsRow.veiled == (Tryz.f19.params.toList ++ Rows.limitsShowsSpec.plain.varTypes Tryz.prog ++ Tryz.f19.resultTypes.toList).any (Tryz.prog.veiledRec ·))) = true := by kernel_rfl
theorem limitsShows_j31 : (Rows.limitsShowsRow.veiledFits Tryz.prog Tryz.f19.params.toList (Tryz.f19.params.toList ++ Rows.limitsShowsSpec.plain.varTypes Tryz.prog ++ Tryz.f19.resultTypes.toList)) = true := by kernel_rfl
set_option maxRecDepth 100000 in
theorem limitsShows_closed : joinedFacts Tryz.prog 19 Tryz.f19 Rows.limitsShowsSpec Rows.limitsShowsRow = true := by
  unfold joinedFacts
  exact (and2 (and2 (and2 (and2 (and2 (and2 (and2 (and2 (and2 (and2 (and2 (and2 (and2 (and2 (and2 (and2 (and2 (and2 (and2 (and2 (and2 (and2 (and2 (and2 (and2 (and2 (and2 (and2 (and2 (and2 (and2 limitsShows_j0 Tryz.fact1) Tryz.fact2) limitsShows_j3) limitsShows_j4) limitsShows_j5) Tryz.fact6) limitsShows_j7) Tryz.fact8) limitsShows_j9) limitsShows_j10) limitsShows_j11) limitsShows_j12) limitsShows_j13) limitsShows_j14) limitsShows_j15) limitsShows_j16) limitsShows_j17) limitsShows_j18) limitsShows_j19) limitsShows_j20) limitsShows_j21) limitsShows_j22) limitsShows_j23) Tryz.fact24) Tryz.fact25) limitsShows_j26) limitsShows_j27) limitsShows_j28) limitsShows_j29) limitsShows_j30) limitsShows_j31)
theorem limitsShows_named : Tryz.prog.funcNamed Rows.limitsShowsRow.func = some 19 := by kernel_rfl
theorem limitsShows_instance : Tryz.f19.isInstance Tryz.prog Rows.limitsShowsRow.origin Rows.limitsShowsRow.targs := of_decide_eq_true (by kernel_rfl)
theorem limitsShows_wrapper : Tryz.f19.isWrapper Tryz.prog Rows.limitsShowsRow.wrapper Rows.limitsShowsRow.mainSum := by unfold Func.isWrapper; first | (rw [if_pos (by decide +kernel)]; kernel_rfl) | (rw [if_neg (by decide +kernel)]; exact ⟨rfl, rfl⟩)

set_option maxRecDepth 100000 in
theorem limitsShows_over : Rows.limitsShowsRow.holds Tryz.pinned (OpenSpec.ofChange Rows.limitsShowsSpec) :=
  OpenClaim.holds_of_wide 19 Tryz.f19 rfl rfl rfl rfl rfl rfl rfl ⟨rfl, rfl, rfl, rfl, rfl⟩ rfl rfl rfl rfl rfl limitsShows_named Tryz.func19 limitsShows_closed limitsShows_instance limitsShows_wrapper
    (fun os started H enc _ => limitsShows_lifted os started H enc)

/-- THE STATEMENT: the card. -/
theorem limitsShows_holds : Rows.LimitsShowsCardSaid :=
  Claim7.holds_tied_plain_at .later [] [.data, .data, .data] true (true, "a314527e42ba43a1a986057f2e4706a40430ee3f422109f3723c19ffe0241afc") false limitsShows_over (fun _ h => by cases h) (by kernel_rfl) (fun _ h => by cases h) (OpenClaim.laidByTextAt_later rfl rfl cardTie cardPlain) rfl ⟨rfl, rfl⟩ cardMain rfl
    (fun f fn hf hfn => by
      obtain rfl : f = 19 := Option.some.inj ((show Tryz.prog.funcNamed "merestone/merestonelaw04.LimitsShows" = some 19 by kernel_rfl).symm.trans hf) |>.symm
      obtain rfl : fn = Tryz.f19 := (Option.some.inj (Tryz.func19.symm.trans hfn)).symm
      exact ⟨cardLooks, fun j t ht => by
        rw [Tryz.params19] at ht
        have hm : t ∈ [27, 28, 40] := by simpa using Array.mem_of_getElem? ht
        simp only [List.mem_cons, List.not_mem_nil, or_false] at hm
        rcases hm with rfl | rfl | rfl
        all_goals exact (show Tryz.prog.wantsStandIn _ = false by kernel_rfl)⟩)
    (cardGoes _ rfl)

end Go.Proofs.YtkhemfnlflbniaaGreatDoor
