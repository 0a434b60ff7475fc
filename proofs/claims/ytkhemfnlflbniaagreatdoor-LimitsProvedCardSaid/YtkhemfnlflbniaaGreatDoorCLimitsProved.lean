/- The law LimitsProved: for every input the call returns true, and its arguments read as before; the card: the row's listed variables tied to the program's text. No conditions. -/
import Derived.Test.YtkhemfnlflbniaaGreatDoorB15
import Derived.Test.YtkhemfnlflbniaaGreatDoorB13
import Derived.Test.YtkhemfnlflbniaaGreatDoorB12
import Derived.Test.YtkhemfnlflbniaaGreatDoorB11
import Derived.Test.YtkhemfnlflbniaaGreatDoorB10
import Derived.Test.YtkhemfnlflbniaaGreatDoorB09
import Derived.Test.YtkhemfnlflbniaaGreatDoorB06
import Derived.Test.YtkhemfnlflbniaaGreatDoorB05
import Derived.Test.YtkhemfnlflbniaaGreatDoorB01
import Derived.Test.YtkhemfnlflbniaaGreatDoorB04
import Derived.Shelf.Small.Bits
import Derived.Shelf.Strconv.Itoa0
import Derived.Shelf.Sort.Plain
import Derived.Shelf.Slices.Turned
import Derived.Ground.Names2Prog
import Derived.Shelf.Slices.CompactI
import Derived.Shelf.Slices.SearchI
import Derived.Shelf.Slices.Cells
import Derived.Shelf.Slices.In.SortNone
import Derived.Test.YtkhemfnlflbniaaGreatDoorProg
import Derived.Test.YtkhemfnlflbniaaGreatDoorB03
import Derived.Test.YtkhemfnlflbniaaGreatDoorB02
import Derived.WalkKit
import Derived.Handy
import Derived.RangeFuncRecord
import Derived.Shelf.Abstract
import Derived.Deep.QuietTactic
import Derived.BigQuiet
import Derived.Laws.CopyOwn
import Derived.WalkSmall
import Derived.RangeFuncNested
import Derived.RangeFuncBound
import Derived.RangeFuncCalls
import Derived.RangeFuncLeaves
import Derived.Shelf.RegionOpen
import Derived.OwnWalkIn
import Derived.TacticsInMore
import Derived.LoopNIn
import Derived.LoopIn
import Derived.Maps.AppendAt
import Derived.Deep.Onto
import Derived.OrdersHeld
import Derived.Deep.LoopGhost
import Derived.Deep.WholeRow
import Derived.Deep.OwnRows
import Derived.StillTailTactics
import Derived.Great.Walk
import Derived.Great.BuildSlice
import Derived.WalkMore
import Derived.Deep.MidRow
import Derived.Deep.RegionHeld3
import Derived.Deep.DeepCutAuto
import Derived.Lib.OwnBridge
import Derived.Lib.SliceRun
import Derived.WalkSpells
import Derived.Deep.RegionWith
import Derived.Lib.AppendZerosOnto
import Derived.Deep.CutBlock
import Derived.Test.YtkhemfnlflbniaaGreatDoorB08
import Derived.Test.YtkhemfnlflbniaaGreatDoorB07
import Derived.IntWalk
import Derived.Deep.Cut
import Derived.Laws.Rows
import Derived.Laws.Tables
import Derived.Laws.StructEq
import Derived.OrdersIn
import Derived.RangeFuncBox
import Derived.Test.YtkhemfnlflbniaaGreatDoorB14
import Derived.Test.YtkhemfnlflbniaaGreatDoorRows
import Derived.ProofKit
import Derived.OpenShut
import Derived.Carry
import Derived.Lib.SmallJoins
import Derived.Deep.Slices
import Derived.ChangeMaps5
import Derived.Test.YtkhemfnlflbniaaGreatDoorCards
import Derived.LaidByTextLater
import Derived.SevenTiedAt
import Derived.LaidOnce
import Derived.KernelRfl
import Derived.Lay
import Derived.LaidLaws
import Derived.Test.YtkhemfnlflbniaaGreatDoorXLimitsProved
namespace Go.Proofs.YtkhemfnlflbniaaGreatDoor
open Go Go.ChangeShapes Go.WideShapes Go.ChangeAt Go.RowKit

set_option maxRecDepth 100000 in
theorem limitsProved_lifted (os : Os) (started : os.Started) (H : Type) (enc : TypeId × Value → H) :
    ReturnsInHanded {} Tryz.checked os 15 .any (fun w args => (Rows.limitsProvedSpec.pre enc Tryz.prog Tryz.f15 [] false w args ∧ laidMetH Tryz.prog Rows.limitsProvedRow.laid w) ∧ sizedMet enc Tryz.prog Tryz.f15 (OpenSpec.ofChange Rows.limitsProvedSpec) false w args)
      (Rows.limitsProvedSpec.post enc Tryz.prog Tryz.f15 false true false false) := by
  refine returnsInHanded_of_change_and (C := Tryz.checked) (X := fun w _ => laidMetH Tryz.prog Rows.limitsProvedRow.laid w) (fun _ _ _ hh h => h.of_heap hh) Tryz.own started (by kernel_rfl) Tryz.func15
    (ChangeSpec.witness_shaped (enc := enc) (C := Tryz.checked) (os := os) (X := fun w _ => laidMetH Tryz.prog Rows.limitsProvedRow.laid w) false (World.laidAll Tryz.prog os Rows.limitsProvedRow.laid) #[.agg #[.slice none 0 0, .slice none 0 0, .slice none 0 0, .slice none 0 0], .slice none 0 0, .agg #[.int .i64 0, .int .i64 0], .bool false, .int .i64 0, .slice none 0 0, .slice none 0 0] 8 (World.laidAll_os _ _ _)
      (World.shaped_of_ZipB (by kernel_rfl) (by kernel_rfl)) (by kernel_rfl) (by kernel_rfl) (by kernel_rfl)
      (by rw [MakeChecks.laidMetH_plain _ _ _ (by kernel_rfl)]; exact laidMet_laidAll _ (by kernel_rfl) (by kernel_rfl))) ?_
  intro W base args ds gs before hval0 hW _ _ _ _
  have hval : ∀ (j : Nat) t v, Tryz.f15.params[j]? = some t → args[j]? = some v → Value.okWide Tryz.prog W .any base t v := hval0
  have hW' := hW
  obtain ⟨p, q, hA0, hV, rfl, hfz, hnd⟩ := hW
  have hA : DataW.TrodAll enc Tryz.prog W 0 (fun _ => true) true Tryz.f15.params.toList args.toList ds p := hA0
  rw [Tryz.params15] at hA hval
  obtain ⟨v0, vs0, d0, ds0, p0, q0, hargs, rfl, rfl, h0, r0⟩ := trodAll_cons hA
  obtain ⟨v1, vs1, d1, ds1, p1, q1, rfl, rfl, rfl, h1, r1⟩ := trodAll_cons r0
  obtain ⟨v2, vs2, d2, ds2, p2, q2, rfl, rfl, rfl, h2, r2⟩ := trodAll_cons r1
  obtain ⟨v3, vs3, d3, ds3, p3, q3, rfl, rfl, rfl, h3, r3⟩ := trodAll_cons r2
  obtain ⟨v4, vs4, d4, ds4, p4, q4, rfl, rfl, rfl, h4, r4⟩ := trodAll_cons r3
  obtain ⟨v5, vs5, d5, ds5, p5, q5, rfl, rfl, rfl, h5, r5⟩ := trodAll_cons r4
  obtain ⟨v6, vs6, d6, ds6, p6, q6, rfl, rfl, rfl, h6, r6⟩ := trodAll_cons r5
  obtain ⟨rfl, rfl, rfl⟩ := trodAll_nil r6
  obtain rfl : args = #[v0, v1, v2, v3, v4, v5, v6] := by cases args; simp_all
  obtain ⟨rfl, rfl⟩ := trodVars_none hV
  obtain ⟨x0, F0, rfl, hF0⟩ := open_fld (hval 0 27 v0 rfl rfl) h0
  obtain ⟨ar1, cr1, l1, rfl, hr1, hn1, hd1, hk1, hc1⟩ := open_recs (hval 1 28 v1 rfl rfl) h1
  obtain ⟨i2, s2, rfl, _, _⟩ := open_corner (hval 2 30 v2 rfl rfl) h2
  obtain ⟨b3, rfl, _, _⟩ := open_bool Tryz.underlying4 (hval 3 4 v3 rfl rfl) h3
  obtain ⟨n4, rfl, hz4⟩ := open_num (hval 4 3 v4 rfl rfl) h4
  obtain ⟨a5, cap5, y5, rfl, hi5, hZ5, hm5, hyo5⟩ := open_list (hval 5 52 v5 rfl rfl) h5
  obtain ⟨a6, cap6, y6, rfl, hi6, hZ6, hm6, hyo6⟩ := open_list (hval 6 52 v6 rfl rfl) h6
  refine (limitsProved_any W x0 F0 ar1 cr1 l1 i2 s2 b3 n4 a5 cap5 y5 a6 cap6 y6 hF0 hr1 hn1 hd1 hk1 hm5 hi5 hm6 hi6).mono fun e W' ⟨he, hg⟩ => ?_
  subst he
  refine ⟨_, rfl, law_post hW' hg (by kernel_rfl) ?_ rfl rfl⟩
  intro t ht
  rw [Tryz.params15] at ht
  simp only [List.mem_cons, List.not_mem_nil, or_false] at ht
  rcases ht with rfl | rfl | rfl | rfl | rfl | rfl | rfl
  · exact argOk46
  · exact argOk28
  · exact argOk30
  · exact argOk4
  · exact argOk3
  · exact argOk27
  · exact argOk27

/-! The row's closed facts, each by itself. -/
theorem limitsProved_j0 : (Rows.limitsProvedRow.wf (OpenSpec.ofChange Rows.limitsProvedSpec)) = true := by kernel_rfl
theorem limitsProved_j3 : (Tryz.f15.params.all (Tryz.prog.readableRec ·)) = true := by kernel_rfl
theorem limitsProved_j4 : (namedTie Tryz.prog Rows.limitsProvedRow.named Rows.limitsProvedSpec.vars) = true := by kernel_rfl
theorem limitsProved_j5 : ((Rows.limitsProvedRow.stops == [])) = true := by kernel_rfl
theorem limitsProved_j7 : ((Rows.limitsProvedRow.knobs == [])) = true := by kernel_rfl
theorem limitsProved_j9 : ((Rows.limitsProvedRow.inPlace == Tryz.prog.inPlace 15)) = true := by kernel_rfl
theorem limitsProved_j10 : ((Rows.limitsProvedRow.unfollowed == Tryz.prog.unfollowed 15)) = true := by kernel_rfl
theorem limitsProved_j11 : ((Rows.limitsProvedRow.recurses == Tryz.prog.recurses 15)) = true := by kernel_rfl
theorem limitsProved_j12 : ((Rows.limitsProvedRow.named == Tryz.prog.varsNamed 15)) = true := by kernel_rfl
theorem limitsProved_j13 : ((Rows.limitsProvedRow.maps == (Tryz.f15.params.toList ++ Rows.limitsProvedSpec.plain.varTypes Tryz.prog).any (Tryz.prog.mapsRec ·))) = true := by kernel_rfl
theorem limitsProved_j14 : ((Rows.limitsProvedRow.ifaces == (Tryz.f15.params.toList ++ Rows.limitsProvedSpec.plain.varTypes Tryz.prog).any (Tryz.prog.ifacesRec ·))) = true := by kernel_rfl
theorem limitsProved_j15 : ((Rows.limitsProvedRow.mapsOut == Tryz.prog.mapsAmong Tryz.f15.resultTypes.toList)) = true := by kernel_rfl
theorem limitsProved_j16 : ((Rows.limitsProvedRow.loops == (Tryz.f15.params.toList ++ Rows.limitsProvedSpec.plain.varTypes Tryz.prog).any (Tryz.prog.loopsFrom ·))) = true := by kernel_rfl
theorem limitsProved_j17 : ((Rows.limitsProvedRow.wideKeys == (Tryz.f15.params.toList ++ Rows.limitsProvedSpec.plain.varTypes Tryz.prog ++ Tryz.f15.resultTypes.toList).any (Tryz.prog.wideKeysFrom ·))) = true := by kernel_rfl
theorem limitsProved_j18 : (Rows.limitsProvedSpec.vars.all (Tryz.prog.varReadable ·)) = true := by kernel_rfl
theorem limitsProved_j19 : (Tryz.f15.resultTypes.all (fun t => Tryz.prog.readableRec t && decide (t < Tryz.prog.types.size))) = true := by kernel_rfl
theorem limitsProved_j20 : ((Rows.limitsProvedRow.ifacesOut == Tryz.f15.resultTypes.toList.any (Tryz.prog.ifacesRec ·))) = true := by kernel_rfl
theorem limitsProved_j21 : ((Rows.limitsProvedRow.loopsOut == Tryz.f15.resultTypes.toList.any (Tryz.prog.loopsFrom ·))) = true := by kernel_rfl
theorem limitsProved_j22 : ((Rows.limitsProvedRow.plainKeys == Tryz.prog.plainKeys)) = true := by rw [Tryz.fact22]; rfl
theorem limitsProved_j23 : (Rows.limitsProvedRow.shortTexts.isNone) = true := by kernel_rfl
theorem limitsProved_j26 : ((Rows.limitsProvedRow.lifted == Tryz.prog.liftsFinal)) = true := by rw [Tryz.fact26]; rfl
theorem limitsProved_j27 : ((Tryz.prog.make == some Rows.limitsProvedRow.make)) = true := by rw [Tryz.fact27]; rfl
theorem limitsProved_j28 : ((Rows.limitsProvedRow.kinds == (if Rows.limitsProvedRow.domain.isEmpty then [] else Tryz.f15.params.toList.map fun t => match Tryz.prog.underlying t with | some (.int k) => some k | _ => none))) = true := by kernel_rfl
theorem limitsProved_j29 : ((Rows.limitsProvedRow.pinned == Rows.limitsProvedRow.pinnedBy)) = true := by kernel_rfl
theorem limitsProved_j30 : ((Rows.limitsProvedRow.veiled == (Tryz.f15.params.toList ++ Rows.limitsProvedSpec.plain.varTypes Tryz.prog ++ Tryz.f15.resultTypes.toList).any (Tryz.prog.veiledRec ·))) = true := by kernel_rfl
theorem limitsProved_j31 : (Rows.limitsProvedRow.veiledFits Tryz.prog Tryz.f15.params.toList (Tryz.f15.params.toList ++ Rows.limitsProvedSpec.plain.varTypes Tryz.prog ++ Tryz.f15.resultTypes.toList)) = true := by kernel_rfl
set_option maxRecDepth 100000 in
theorem limitsProved_closed : joinedFacts Tryz.prog 15 Tryz.f15 Rows.limitsProvedSpec Rows.limitsProvedRow = true := by
  unfold joinedFacts
  exact (and2 (and2 (and2 (and2 (and2 (and2 (and2 (and2 (and2 (and2 (and2 (and2 (and2 (and2 (and2 (and2 (and2 (and2 (and2 (and2 (and2 (and2 (and2 (and2 (and2 (and2 (and2 (and2 (and2 (and2 (and2 limitsProved_j0 Tryz.fact1) Tryz.fact2) limitsProved_j3) limitsProved_j4) limitsProved_j5) Tryz.fact6) limitsProved_j7) Tryz.fact8) limitsProved_j9) limitsProved_j10) limitsProved_j11) limitsProved_j12) limitsProved_j13) limitsProved_j14) limitsProved_j15) limitsProved_j16) limitsProved_j17) limitsProved_j18) limitsProved_j19) limitsProved_j20) limitsProved_j21) limitsProved_j22) limitsProved_j23) Tryz.fact24) Tryz.fact25) limitsProved_j26) limitsProved_j27) limitsProved_j28) limitsProved_j29) limitsProved_j30) limitsProved_j31)
theorem limitsProved_named : Tryz.prog.funcNamed Rows.limitsProvedRow.func = some 15 := by kernel_rfl
theorem limitsProved_instance : Tryz.f15.isInstance Tryz.prog Rows.limitsProvedRow.origin Rows.limitsProvedRow.targs := of_decide_eq_true (by kernel_rfl)
theorem limitsProved_wrapper : Tryz.f15.isWrapper Tryz.prog Rows.limitsProvedRow.wrapper Rows.limitsProvedRow.mainSum := by unfold Func.isWrapper; first | (rw [if_pos (by decide +kernel)]; kernel_rfl) | (rw [if_neg (by decide +kernel)]; exact ⟨rfl, rfl⟩)

set_option maxRecDepth 100000 in
theorem limitsProved_over : Rows.limitsProvedRow.holds Tryz.pinned (OpenSpec.ofChange Rows.limitsProvedSpec) :=
  OpenClaim.holds_of_wide 15 Tryz.f15 rfl rfl rfl rfl rfl rfl rfl ⟨rfl, rfl, rfl, rfl, rfl⟩ rfl rfl rfl rfl rfl limitsProved_named Tryz.func15 limitsProved_closed limitsProved_instance limitsProved_wrapper
    (fun os started H enc _ => limitsProved_lifted os started H enc)

/-- THE STATEMENT: the card. -/
theorem limitsProved_holds : Rows.LimitsProvedCardSaid :=
  Claim7.holds_tied_plain_at .later [] [.data, .data, .data] true (true, "a314527e42ba43a1a986057f2e4706a40430ee3f422109f3723c19ffe0241afc") false limitsProved_over (fun _ h => by cases h) (by kernel_rfl) (fun _ h => by cases h) (OpenClaim.laidByTextAt_later rfl rfl cardTie cardPlain) rfl ⟨rfl, rfl⟩ cardMain rfl
    (fun f fn hf hfn => by
      obtain rfl : f = 15 := Option.some.inj ((show Tryz.prog.funcNamed "merestone/merestonelaw04.LimitsProved" = some 15 by kernel_rfl).symm.trans hf) |>.symm
      obtain rfl : fn = Tryz.f15 := (Option.some.inj (Tryz.func15.symm.trans hfn)).symm
      exact ⟨cardLooks, fun j t ht => by
        rw [Tryz.params15] at ht
        have hm : t ∈ [27, 28, 30, 4, 3, 52, 52] := by simpa using Array.mem_of_getElem? ht
        simp only [List.mem_cons, List.not_mem_nil, or_false] at hm
        rcases hm with rfl | rfl | rfl | rfl | rfl | rfl | rfl
        all_goals exact (show Tryz.prog.wantsStandIn _ = false by kernel_rfl)⟩)
    (cardGoes _ rfl)

end Go.Proofs.YtkhemfnlflbniaaGreatDoor
