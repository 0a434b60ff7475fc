/- The law LimitsOrder: for every input the call returns true, and its arguments read as before; the card: the row's listed variables tied to the program's text. No conditions. -/
import Derived.Test.YtkhemfnlflbniaaGreatDoorB15
import Derived.Test.YtkhemfnlflbniaaGreatDoorB13
import Derived.Test.YtkhemfnlflbniaaGreatDoorB12
import Derived.Test.YtkhemfnlflbniaaGreatDoorB11
import Derived.Test.YtkhemfnlflbniaaGreatDoorB10
import Derived.Test.YtkhemfnlflbniaaGreatDoorB09
import Derived.Test.YtkhemfnlflbniaaGreatDoorB06
import Derived.Test.YtkhemfnlflbniaaGreatDoorB05
import Derived.Test.YtkhemfnlflbniaaGreatDoorB01
import Derived.Test.YtkhemfnlflbniaaGreatDoorB04
import Derived.Shelf.Small.Bits
import Derived.Shelf.Small.Wraps
import Derived.Shelf.Strconv.Itoa0
import Derived.Shelf.Sort.Plain
import Derived.Shelf.Slices.Turned
import Derived.Ground.Names2Prog
import Derived.Shelf.Slices.CompactI
import Derived.Shelf.Slices.Cells
import Derived.Shelf.Slices.In.SortNone
import Derived.Test.YtkhemfnlflbniaaGreatDoorProg
import Derived.Test.YtkhemfnlflbniaaGreatDoorB03
import Derived.Test.YtkhemfnlflbniaaGreatDoorB02
import Derived.WalkKit
import Derived.Handy
import Derived.RangeFuncRecord
import Derived.Shelf.Abstract
import Derived.Deep.QuietTactic
import Derived.BigQuiet
import Derived.Laws.CopyOwn
import Derived.WalkSmall
import Derived.RangeFuncNested
import Derived.RangeFuncBound
import Derived.RangeFuncCalls
import Derived.RangeFuncLeaves
import Derived.Shelf.RegionOpen
import Derived.OwnWalkIn
import Derived.TacticsInMore
import Derived.LoopNIn
import Derived.LoopIn
import Derived.Maps.AppendAt
import Derived.Deep.Onto
import Derived.OrdersHeld
import Derived.Deep.LoopGhost
import Derived.Deep.WholeRow
import Derived.Deep.OwnRows
import Derived.StillTailTactics
import Derived.Great.Walk
import Derived.Great.BuildSlice
import Derived.WalkMore
import Derived.Deep.MidRow
import Derived.Deep.RegionHeld3
import Derived.Deep.DeepCutAuto
import Derived.Lib.OwnBridge
import Derived.Lib.SliceRun
import Derived.WalkSpells
import Derived.Deep.RegionWith
import Derived.Lib.AppendZerosOnto
import Derived.Deep.CutBlock
import Derived.Test.YtkhemfnlflbniaaGreatDoorB08
import Derived.Test.YtkhemfnlflbniaaGreatDoorB07
import Derived.IntWalk
import Derived.Deep.Cut
import Derived.Laws.Rows
import Derived.Laws.Tables
import Derived.Laws.StructEq
import Derived.OrdersIn
import Derived.RangeFuncBox
import Derived.Test.YtkhemfnlflbniaaGreatDoorB14
import Derived.Test.YtkhemfnlflbniaaGreatDoorRows
import Derived.ProofKit
import Derived.OpenShut
import Derived.Carry
import Derived.Lib.SmallJoins
import Derived.Deep.Slices
import Derived.ChangeMaps5
import Derived.Test.YtkhemfnlflbniaaGreatDoorCards
import Derived.LaidByTextLater
import Derived.SevenTiedAt
import Derived.LaidOnce
import Derived.KernelRfl
import Derived.Lay
import Derived.LaidLaws
import Derived.Test.YtkhemfnlflbniaaGreatDoorXLimitsOrder
namespace Go.Proofs.YtkhemfnlflbniaaGreatDoor
open Go Go.ChangeShapes Go.WideShapes Go.ChangeAt Go.RowKit
set_option maxRecDepth 100000 in
theorem limitsOrder_lifted (os : Os) (started : os.Started) (H : Type) (enc : TypeId × Value → H) :
 ReturnsInHanded {} Tryz.checked os 5 .any (fun w args => (Rows.limitsOrderSpec.pre enc Tryz.prog Tryz.f5 [] false w args ∧ laidMetH Tryz.prog Rows.limitsOrderRow.laid w) ∧ sizedMet enc Tryz.prog Tryz.f5 (OpenSpec.ofChange Rows.limitsOrderSpec) false w args)
  (Rows.limitsOrderSpec.post enc Tryz.prog Tryz.f5 false true false false) := by
 refine returnsInHanded_of_change_and (C := Tryz.checked) (X := fun w _ => laidMetH Tryz.prog Rows.limitsOrderRow.laid w) (fun _ _ _ hh h => h.of_heap hh) Tryz.own started (by kernel_rfl) Tryz.func5
  (ChangeSpec.witness_shaped (enc := enc) (C := Tryz.checked) (os := os) (X := fun w _ => laidMetH Tryz.prog Rows.limitsOrderRow.laid w) false (World.laidAll Tryz.prog os Rows.limitsOrderRow.laid) #[.agg #[.slice none 0 0, .slice none 0 0, .slice none 0 0, .slice none 0 0], .slice none 0 0, .int .i64 0, .int .i64 0, .agg #[.int .i64 0, .int .i64 0], .agg #[.int .i64 0, .int .i64 0], .agg #[.int .i64 0, .int .i64 0, .int .i64 0, .int .i64 0]] 8 (World.laidAll_os _ _ _)
   (World.shaped_of_ZipB (by kernel_rfl) (by kernel_rfl)) (by kernel_rfl) (by kernel_rfl) (by kernel_rfl)
   (by rw [MakeChecks.laidMetH_plain _ _ _ (by kernel_rfl)]; exact laidMet_laidAll _ (by kernel_rfl) (by kernel_rfl))) ?_
 intro W base args ds gs before hval0 hW _ _ _ _
 have hval : ∀ (j : Nat) t v, Tryz.f5.params[j]? = some t → args[j]? = some v → Value.okWide Tryz.prog W .any base t v := hval0
 have hW' := hW
 obtain ⟨p, q, hA0, hV, rfl, hfz, hnd⟩ := hW
 have hA : DataW.TrodAll enc Tryz.prog W 0 (fun _ => true) true Tryz.f5.params.toList args.toList ds p := hA0
 rw [Tryz.params5] at hA hval
 obtain ⟨v0, vs0, d0, ds0, p0, q0, hargs, rfl, rfl, h0, r0⟩ := trodAll_cons hA
 obtain ⟨v1, vs1, d1, ds1, p1, q1, rfl, rfl, rfl, h1, r1⟩ := trodAll_cons r0
 obtain ⟨v2, vs2, d2, ds2, p2, q2, rfl, rfl, rfl, h2, r2⟩ := trodAll_cons r1
 obtain ⟨v3, vs3, d3, ds3, p3, q3, rfl, rfl, rfl, h3, r3⟩ := trodAll_cons r2
 obtain ⟨v4, vs4, d4, ds4, p4, q4, rfl, rfl, rfl, h4, r4⟩ := trodAll_cons r3
 obtain ⟨v5, vs5, d5, ds5, p5, q5, rfl, rfl, rfl, h5, r5⟩ := trodAll_cons r4
 obtain ⟨v6, vs6, d6, ds6, p6, q6, rfl, rfl, rfl, h6, r6⟩ := trodAll_cons r5
 obtain ⟨rfl, rfl, rfl⟩ := trodAll_nil r6
 obtain rfl : args = #[v0, v1, v2, v3, v4, v5, v6] := by cases args; simp_all
 obtain ⟨rfl, rfl⟩ := trodVars_none hV
 obtain ⟨x0, F0, rfl, hF0⟩ := open_fld (hval 0 27 v0 rfl rfl) h0
 obtain ⟨ar1, cr1, l1, rfl, hr1, hn1, hd1, hk1, hc1⟩ := open_recs (hval 1 28 v1 rfl rfl) h1
 obtain ⟨n2, rfl, hz2⟩ := open_num (hval 2 3 v2 rfl rfl) h2
 obtain ⟨n3, rfl, hz3⟩ := open_num (hval 3 3 v3 rfl rfl) h3
 obtain ⟨i4, s4, rfl, _, _⟩ := open_corner (hval 4 30 v4 rfl rfl) h4
 obtain ⟨i5, s5, rfl, _, _⟩ := open_corner (hval 5 30 v5 rfl rfl) h5
 obtain ⟨i6, s6, a6, c6, rfl, _, _, _, _⟩ := open_strip (hval 6 40 v6 rfl rfl) h6
 refine (limitsOrder_any W x0 F0 ar1 cr1 l1 n2 n3 i4 s4 i5 s5 i6 s6 a6 c6 hF0 hr1 hn1 hd1 hk1).mono fun e W' ⟨he, hg⟩ => ?_
 subst he
 refine ⟨_, rfl, law_post hW' hg (by kernel_rfl) ?_ rfl rfl⟩
 intro t ht
 rw [Tryz.params5] at ht
 simp only [List.mem_cons, List.not_mem_nil, or_false] at ht
 rcases ht with rfl | rfl | rfl | rfl | rfl | rfl | rfl
 ·exact argOk46
 ·exact argOk28
 ·exact argOk3
 ·exact argOk3
 ·exact argOk30
 ·exact argOk30
 ·exact argOk40
theorem limitsOrder_j0 : (Rows.limitsOrderRow.wf (OpenSpec.ofChange Rows.limitsOrderSpec)) = true := by kernel_rfl
theorem limitsOrder_j3 : (Tryz.f5.params.all (Tryz.prog.readableRec ·)) = true := by kernel_rfl
theorem limitsOrder_j4 : (namedTie Tryz.prog Rows.limitsOrderRow.named Rows.limitsOrderSpec.vars) = true := by kernel_rfl
theorem limitsOrder_j5 : ((Rows.limitsOrderRow.stops == [])) = true := by kernel_rfl
theorem limitsOrder_j7 : ((Rows.limitsOrderRow.knobs == [])) = true := by kernel_rfl
theorem limitsOrder_j9 : ((Rows.limitsOrderRow.inPlace == Tryz.prog.inPlace 5)) = true := by kernel_rfl
theorem limitsOrder_j10 : ((Rows.limitsOrderRow.unfollowed == Tryz.prog.unfollowed 5)) = true := by kernel_rfl
theorem limitsOrder_j11 : ((Rows.limitsOrderRow.recurses == Tryz.prog.recurses 5)) = true := by kernel_rfl
theorem limitsOrder_j12 : ((Rows.limitsOrderRow.named == Tryz.prog.varsNamed 5)) = true := by kernel_rfl
theorem limitsOrder_j13 : ((Rows.limitsOrderRow.maps == (Tryz.f5.params.toList ++ Rows.limitsOrderSpec.plain.varTypes Tryz.prog).any (Tryz.prog.mapsRec ·))) = true := by kernel_rfl
theorem limitsOrder_j14 : ((Rows.limitsOrderRow.ifaces == (Tryz.f5.params.toList ++ Rows.limitsOrderSpec.plain.varTypes Tryz.prog).any (Tryz.prog.ifacesRec ·))) = true := by kernel_rfl
theorem limitsOrder_j15 : ((Rows.limitsOrderRow.mapsOut == Tryz.prog.mapsAmong Tryz.f5.resultTypes.toList)) = true := by kernel_rfl
theorem limitsOrder_j16 : ((Rows.limitsOrderRow.loops == (Tryz.f5.params.toList ++ Rows.limitsOrderSpec.plain.varTypes Tryz.prog).any (Tryz.prog.loopsFrom ·))) = true := by kernel_rfl
theorem limitsOrder_j17 : ((Rows.limitsOrderRow.wideKeys == (Tryz.f5.params.toList ++ Rows.limitsOrderSpec.plain.varTypes Tryz.prog ++ Tryz.f5.resultTypes.toList).any (Tryz.prog.wideKeysFrom ·))) = true := by kernel_rfl
theorem limitsOrder_j18 : (Rows.limitsOrderSpec.vars.all (Tryz.prog.varReadable ·)) = true := by kernel_rfl
theorem limitsOrder_j19 : (Tryz.f5.resultTypes.all (fun t => Tryz.prog.readableRec t && decide (t < Tryz.prog.types.size))) = true := by kernel_rfl
theorem limitsOrder_j20 : ((Rows.limitsOrderRow.ifacesOut == Tryz.f5.resultTypes.toList.any (Tryz.prog.ifacesRec ·))) = true := by kernel_rfl
theorem limitsOrder_j21 : ((Rows.limitsOrderRow.loopsOut == Tryz.f5.resultTypes.toList.any (Tryz.prog.loopsFrom ·))) = true := by kernel_rfl
theorem limitsOrder_j22 : ((Rows.limitsOrderRow.plainKeys == Tryz.prog.plainKeys)) = true := by rw [Tryz.fact22]; rfl
theorem limitsOrder_j23 : (Rows.limitsOrderRow.shortTexts.isNone) = true := by kernel_rfl
theorem limitsOrder_j26 : ((Rows.limitsOrderRow.lifted == Tryz.prog.liftsFinal)) = true := by rw [Tryz.fact26]; rfl
theorem limitsOrder_j27 : ((Tryz.prog.make == some Rows.limitsOrderRow.make)) = true := by rw [Tryz.fact27]; rfl
theorem limitsOrder_j28 : ((Rows.limitsOrderRow.kinds == (if Rows.limitsOrderRow.domain.isEmpty then [] else Tryz.f5.params.toList.map fun t => match Tryz.prog.underlying t with | some (.int k) => some k | _ => none))) = true := by kernel_rfl
theorem limitsOrder_j29 : ((Rows.limitsOrderRow.pinned == Rows.limitsOrderRow.pinnedBy)) = true := by kernel_rfl
theorem limitsOrder_j30 : ((Rows.limitsOrderRow.veiled == (Tryz.f5.params.toList ++ Rows.limitsOrderSpec.plain.varTypes Tryz.prog ++ Tryz.f5.resultTypes.toList).any (Tryz.prog.veiledRec ·))) = true := by kernel_rfl
theorem limitsOrder_j31 : (Rows.limitsOrderRow.veiledFits Tryz.prog Tryz.f5.params.toList (Tryz.f5.params.toList ++ Rows.limitsOrderSpec.plain.varTypes Tryz.prog ++ Tryz.f5.resultTypes.toList)) = true := by kernel_rfl
set_option maxRecDepth 100000 in
theorem limitsOrder_closed : joinedFacts Tryz.prog 5 Tryz.f5 Rows.limitsOrderSpec Rows.limitsOrderRow = true := by
 unfold joinedFacts
 exact (and2 (and2 (and2 (and2 (and2 (and2 (and2 (and2 (and2 (and2 (and2 (and2 (and2 (and2 (and2 (and2 (and2 (and2 (and2 (and2 (and2 (and2 (and2 (and2 (and2 (and2 (and2 (and2 (and2 (and2 (and2 limitsOrder_j0 Tryz.fact1) Tryz.fact2) limitsOrder_j3) limitsOrder_j4) limitsOrder_j5) Tryz.fact6) limitsOrder_j7) Tryz.fact8) limitsOrder_j9) limitsOrder_j10) limitsOrder_j11) limitsOrder_j12) limitsOrder_j13) limitsOrder_j14) limitsOrder_j15) limitsOrder_j16) limitsOrder_j17) limitsOrder_j18) limitsOrder_j19) limitsOrder_j20) limitsOrder_j21) limitsOrder_j22) limitsOrder_j23) Tryz.fact24) Tryz.fact25) limitsOrder_j26) limitsOrder_j27) limitsOrder_j28) limitsOrder_j29) limitsOrder_j30) limitsOrder_j31)
theorem limitsOrder_named : Tryz.prog.funcNamed Rows.limitsOrderRow.func = some 5 := by kernel_rfl
theorem limitsOrder_instance : Tryz.f5.isInstance Tryz.prog Rows.limitsOrderRow.origin Rows.limitsOrderRow.targs := of_decide_eq_true (by kernel_rfl)
theorem limitsOrder_wrapper : Tryz.f5.isWrapper Tryz.prog Rows.limitsOrderRow.wrapper Rows.limitsOrderRow.mainSum := by unfold Func.isWrapper; first | (rw [if_pos (by decide +kernel)]; kernel_rfl) | (rw [if_neg (by decide +kernel)]; exact ⟨rfl, rfl⟩)
set_option maxRecDepth 100000 in
theorem limitsOrder_over : Rows.limitsOrderRow.holds Tryz.pinned (OpenSpec.ofChange Rows.limitsOrderSpec) :=
 OpenClaim.holds_of_wide 5 Tryz.f5 rfl rfl rfl rfl rfl rfl rfl ⟨rfl, rfl, rfl, rfl, rfl⟩ rfl rfl rfl rfl rfl limitsOrder_named Tryz.func5 limitsOrder_closed limitsOrder_instance limitsOrder_wrapper
  (fun os started H enc _ => limitsOrder_lifted os started H enc)
theorem limitsOrder_holds : Rows.LimitsOrderCardSaid :=
 Claim7.holds_tied_plain_at .later [] [.data, .data, .data] true (true, "a314527e42ba43a1a986057f2e4706a40430ee3f422109f3723c19ffe0241afc") false limitsOrder_over (fun _ h => by cases h) (by kernel_rfl) (fun _ h => by cases h) (OpenClaim.laidByTextAt_later rfl rfl cardTie cardPlain) rfl ⟨rfl, rfl⟩ cardMain rfl
  (fun f fn hf hfn => by
   obtain rfl : f = 5 := Option.some.inj ((show Tryz.prog.funcNamed "merestone/merestonelaw04.LimitsOrder" = some 5 by kernel_rfl).symm.trans hf) |>.symm
   obtain rfl : fn = Tryz.f5 := (Option.some.inj (Tryz.func5.symm.trans hfn)).symm
   exact ⟨cardLooks, fun j t ht => by
    rw [Tryz.params5] at ht
    have hm : t ∈ [27, 28, 3, 3, 30, 30, 40] := by simpa using Array.mem_of_getElem? ht
    simp only [List.mem_cons, List.not_mem_nil, or_false] at hm
    rcases hm with rfl | rfl | rfl | rfl | rfl | rfl | rfl
    all_goals exact (show Tryz.prog.wantsStandIn _ = false by kernel_rfl)⟩)
  (cardGoes _ rfl)
end Go.Proofs.YtkhemfnlflbniaaGreatDoor
