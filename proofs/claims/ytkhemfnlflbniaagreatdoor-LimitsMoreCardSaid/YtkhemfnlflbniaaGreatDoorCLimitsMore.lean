/- The law LimitsMore: for every input the call returns true, and its arguments read as before; the card: the row's listed variables tied to the program's text. No conditions. -/
import Derived.Test.YtkhemfnlflbniaaGreatDoorB15
import Derived.Test.YtkhemfnlflbniaaGreatDoorB13
import Derived.Test.YtkhemfnlflbniaaGreatDoorB12
import Derived.Test.YtkhemfnlflbniaaGreatDoorB11
import Derived.Test.YtkhemfnlflbniaaGreatDoorB10
import Derived.Test.YtkhemfnlflbniaaGreatDoorB09
import Derived.Test.YtkhemfnlflbniaaGreatDoorB06
import Derived.Test.YtkhemfnlflbniaaGreatDoorB05
import Derived.Test.YtkhemfnlflbniaaGreatDoorB01
import Derived.Test.YtkhemfnlflbniaaGreatDoorB04
import Derived.Shelf.Small.Bits
import Derived.Shelf.Small.Wraps
import Derived.Shelf.Strconv.Itoa0
import Derived.Shelf.Sort.Plain
import Derived.Shelf.Slices.Turned
import Derived.Ground.Names2Prog
import Derived.Shelf.Slices.CompactI
import Derived.Shelf.Slices.Cells
import Derived.Shelf.Slices.In.SortNone
import Derived.Test.YtkhemfnlflbniaaGreatDoorProg
import Derived.Test.YtkhemfnlflbniaaGreatDoorB03
import Derived.Test.YtkhemfnlflbniaaGreatDoorB02
import Derived.WalkKit
import Derived.Handy
import Derived.RangeFuncRecord
import Derived.Shelf.Abstract
import Derived.Deep.QuietTactic
import Derived.BigQuiet
import Derived.Laws.CopyOwn
import Derived.WalkSmall
import Derived.RangeFuncNested
import Derived.RangeFuncBound
import Derived.RangeFuncCalls
import Derived.RangeFuncLeaves
import Derived.Shelf.RegionOpen
import Derived.OwnWalkIn
import Derived.TacticsInMore
import Derived.LoopNIn
import Derived.LoopIn
import Derived.Maps.AppendAt
import Derived.Deep.Onto
import Derived.OrdersHeld
import Derived.Deep.LoopGhost
import Derived.Deep.WholeRow
import Derived.Deep.OwnRows
import Derived.StillTailTactics
import Derived.Great.Walk
import Derived.Great.BuildSlice
import Derived.WalkMore
import Derived.Deep.MidRow
import Derived.Deep.RegionHeld3
import Derived.Deep.DeepCutAuto
import Derived.Lib.OwnBridge
import Derived.Lib.SliceRun
import Derived.WalkSpells
import Derived.Deep.RegionWith
import Derived.Lib.AppendZerosOnto
import Derived.Deep.CutBlock
import Derived.Test.YtkhemfnlflbniaaGreatDoorB08
import Derived.Test.YtkhemfnlflbniaaGreatDoorB07
import Derived.IntWalk
import Derived.Deep.Cut
import Derived.Laws.Rows
import Derived.Laws.Tables
import Derived.Laws.StructEq
import Derived.OrdersIn
import Derived.RangeFuncBox
import Derived.Test.YtkhemfnlflbniaaGreatDoorB14
import Derived.Test.YtkhemfnlflbniaaGreatDoorRows
import Derived.ProofKit
import Derived.OpenShut
import Derived.Carry
import Derived.Lib.SmallJoins
import Derived.Deep.Slices
import Derived.ChangeMaps5
import Derived.Test.YtkhemfnlflbniaaGreatDoorCards
import Derived.LaidByTextLater
import Derived.SevenTiedAt
import Derived.LaidOnce
import Derived.KernelRfl
import Derived.Lay
import Derived.LaidLaws
import Derived.Test.YtkhemfnlflbniaaGreatDoorXLimitsMore
namespace Go.Proofs.YtkhemfnlflbniaaGreatDoor
open Go Go.ChangeShapes Go.WideShapes Go.ChangeAt Go.RowKit
set_option maxRecDepth 100000 in
theorem limitsMore_lifted (os : Os) (started : os.Started) (H : Type) (enc : TypeId × Value → H) :
 ReturnsInHanded {} Tryz.checked os 8 .any (fun w args => (Rows.limitsMoreSpec.pre enc Tryz.prog Tryz.f8 [] false w args ∧ laidMetH Tryz.prog Rows.limitsMoreRow.laid w) ∧ sizedMet enc Tryz.prog Tryz.f8 (OpenSpec.ofChange Rows.limitsMoreSpec) false w args)
  (Rows.limitsMoreSpec.post enc Tryz.prog Tryz.f8 false true false false) := by
 refine returnsInHanded_of_change_and (C := Tryz.checked) (X := fun w _ => laidMetH Tryz.prog Rows.limitsMoreRow.laid w) (fun _ _ _ hh h => h.of_heap hh) Tryz.own started (by kernel_rfl) Tryz.func8
  (ChangeSpec.witness_shaped (enc := enc) (C := Tryz.checked) (os := os) (X := fun w _ => laidMetH Tryz.prog Rows.limitsMoreRow.laid w) false (World.laidAll Tryz.prog os Rows.limitsMoreRow.laid) #[.agg #[.slice none 0 0, .slice none 0 0, .slice none 0 0, .slice none 0 0], .slice none 0 0, .agg #[.int .i64 0, .int .i64 0, .string ByteArray.empty, .int .i64 0, .int .i64 0, .int .u8 0, .int .i64 0, .int .i64 0, .int .i64 0, .int .i64 0, .int .i64 0, .int .i64 0, .int .i64 0, .int .i64 0, .int .i64 0, .int .i64 0, .int .i64 0, .int .i64 0], .agg #[.int .i64 0, .int .i64 0], .agg #[.int .i64 0, .int .i64 0], .agg #[.int .i64 0, .int .i64 0, .int .i64 0, .int .i64 0], .int .i64 0] 8 (World.laidAll_os _ _ _)
   (World.shaped_of_ZipB (by kernel_rfl) (by kernel_rfl)) (by kernel_rfl) (by kernel_rfl) (by kernel_rfl)
   (by rw [MakeChecks.laidMetH_plain _ _ _ (by kernel_rfl)]; exact laidMet_laidAll _ (by kernel_rfl) (by kernel_rfl))) ?_
 intro W base args ds gs before hval0 hW _ _ _ _
 have hval : ∀ (j : Nat) t v, Tryz.f8.params[j]? = some t → args[j]? = some v → Value.okWide Tryz.prog W .any base t v := hval0
 have hW' := hW
 obtain ⟨p, q, hA0, hV, rfl, hfz, hnd⟩ := hW
 have hA : DataW.TrodAll enc Tryz.prog W 0 (fun _ => true) true Tryz.f8.params.toList args.toList ds p := hA0
 rw [Tryz.params8] at hA hval
 obtain ⟨v0, vs0, d0, ds0, p0, q0, hargs, rfl, rfl, h0, r0⟩ := trodAll_cons hA
 obtain ⟨v1, vs1, d1, ds1, p1, q1, rfl, rfl, rfl, h1, r1⟩ := trodAll_cons r0
 obtain ⟨v2, vs2, d2, ds2, p2, q2, rfl, rfl, rfl, h2, r2⟩ := trodAll_cons r1
 obtain ⟨v3, vs3, d3, ds3, p3, q3, rfl, rfl, rfl, h3, r3⟩ := trodAll_cons r2
 obtain ⟨v4, vs4, d4, ds4, p4, q4, rfl, rfl, rfl, h4, r4⟩ := trodAll_cons r3
 obtain ⟨v5, vs5, d5, ds5, p5, q5, rfl, rfl, rfl, h5, r5⟩ := trodAll_cons r4
 obtain ⟨v6, vs6, d6, ds6, p6, q6, rfl, rfl, rfl, h6, r6⟩ := trodAll_cons r5
 obtain ⟨rfl, rfl, rfl⟩ := trodAll_nil r6
 obtain rfl : args = #[v0, v1, v2, v3, v4, v5, v6] := by cases args; simp_all
 obtain ⟨rfl, rfl⟩ := trodVars_none hV
 obtain ⟨x0, F0, rfl, hF0⟩ := open_fld (hval 0 27 v0 rfl rfl) h0
 obtain ⟨ar1, cr1, l1, rfl, hr1, hn1, hd1, hk1, hc1⟩ := open_recs (hval 1 28 v1 rfl rfl) h1
 obtain ⟨q2, rfl, hq2, hqk2⟩ := open_rcd (hval 2 50 v2 rfl rfl) h2
 obtain ⟨i3, s3, rfl, _, _⟩ := open_corner (hval 3 30 v3 rfl rfl) h3
 obtain ⟨i4, s4, rfl, _, _⟩ := open_corner (hval 4 30 v4 rfl rfl) h4
 obtain ⟨i5, s5, a5, c5, rfl, _, _, _, _⟩ := open_strip (hval 5 40 v5 rfl rfl) h5
 obtain ⟨n6, rfl, hz6⟩ := open_num (hval 6 3 v6 rfl rfl) h6
 refine (limitsMore_any W x0 F0 ar1 cr1 l1 q2 i3 s3 i4 s4 i5 s5 a5 c5 n6 hF0 hr1 hn1 hd1 hk1 hq2 hqk2).mono fun e W' ⟨he, hg⟩ => ?_
 subst he
 refine ⟨_, rfl, law_post hW' hg (by kernel_rfl) ?_ rfl rfl⟩
 intro t ht
 rw [Tryz.params8] at ht
 simp only [List.mem_cons, List.not_mem_nil, or_false] at ht
 rcases ht with rfl | rfl | rfl | rfl | rfl | rfl | rfl
 ·exact argOk46
 ·exact argOk28
 ·exact argOk50
 ·exact argOk30
 ·exact argOk30
 ·exact argOk40
 ·exact argOk3
theorem limitsMore_j0 : (Rows.limitsMoreRow.wf (OpenSpec.ofChange Rows.limitsMoreSpec)) = true := by kernel_rfl
theorem limitsMore_j3 : (Tryz.f8.params.all (Tryz.prog.readableRec ·)) = true := by kernel_rfl
theorem limitsMore_j4 : (namedTie Tryz.prog Rows.limitsMoreRow.named Rows.limitsMoreSpec.vars) = true := by kernel_rfl
theorem limitsMore_j5 : ((Rows.limitsMoreRow.stops == [])) = true := by kernel_rfl
theorem limitsMore_j7 : ((Rows.limitsMoreRow.knobs == [])) = true := by kernel_rfl
theorem limitsMore_j9 : ((Rows.limitsMoreRow.inPlace == Tryz.prog.inPlace 8)) = true := by kernel_rfl
theorem limitsMore_j10 : ((Rows.limitsMoreRow.unfollowed == Tryz.prog.unfollowed 8)) = true := by kernel_rfl
theorem limitsMore_j11 : ((Rows.limitsMoreRow.recurses == Tryz.prog.recurses 8)) = true := by kernel_rfl
theorem limitsMore_j12 : ((Rows.limitsMoreRow.named == Tryz.prog.varsNamed 8)) = true := by kernel_rfl
theorem limitsMore_j13 : ((Rows.limitsMoreRow.maps == (Tryz.f8.params.toList ++ Rows.limitsMoreSpec.plain.varTypes Tryz.prog).any (Tryz.prog.mapsRec ·))) = true := by kernel_rfl
theorem limitsMore_j14 : ((Rows.limitsMoreRow.ifaces == (Tryz.f8.params.toList ++ Rows.limitsMoreSpec.plain.varTypes Tryz.prog).any (Tryz.prog.ifacesRec ·))) = true := by kernel_rfl
theorem limitsMore_j15 : ((Rows.limitsMoreRow.mapsOut == Tryz.prog.mapsAmong Tryz.f8.resultTypes.toList)) = true := by kernel_rfl
theorem limitsMore_j16 : ((Rows.limitsMoreRow.loops == (Tryz.f8.params.toList ++ Rows.limitsMoreSpec.plain.varTypes Tryz.prog).any (Tryz.prog.loopsFrom ·))) = true := by kernel_rfl
theorem limitsMore_j17 : ((Rows.limitsMoreRow.wideKeys == (Tryz.f8.params.toList ++ Rows.limitsMoreSpec.plain.varTypes Tryz.prog ++ Tryz.f8.resultTypes.toList).any (Tryz.prog.wideKeysFrom ·))) = true := by kernel_rfl
theorem limitsMore_j18 : (Rows.limitsMoreSpec.vars.all (Tryz.prog.varReadable ·)) = true := by kernel_rfl
theorem limitsMore_j19 : (Tryz.f8.resultTypes.all (fun t => Tryz.prog.readableRec t && decide (t < Tryz.prog.types.size))) = true := by kernel_rfl
theorem limitsMore_j20 : ((Rows.limitsMoreRow.ifacesOut == Tryz.f8.resultTypes.toList.any (Tryz.prog.ifacesRec ·))) = true := by kernel_rfl
theorem limitsMore_j21 : ((Rows.limitsMoreRow.loopsOut == Tryz.f8.resultTypes.toList.any (Tryz.prog.loopsFrom ·))) = true := by kernel_rfl
theorem limitsMore_j22 : ((Rows.limitsMoreRow.plainKeys == Tryz.prog.plainKeys)) = true := by rw [Tryz.fact22]; rfl
theorem limitsMore_j23 : (Rows.limitsMoreRow.shortTexts.isNone) = true := by kernel_rfl
theorem limitsMore_j26 : ((Rows.limitsMoreRow.lifted == Tryz.prog.liftsFinal)) = true := by rw [Tryz.fact26]; rfl
theorem limitsMore_j27 : ((Tryz.prog.make == some Rows.limitsMoreRow.make)) = true := by rw [Tryz.fact27]; rfl
theorem limitsMore_j28 : ((Rows.limitsMoreRow.kinds == (if Rows.limitsMoreRow.domain.isEmpty then [] else Tryz.f8.params.toList.map fun t => match Tryz.prog.underlying t with | some (.int k) => some k | _ => none))) = true := by kernel_rfl
theorem limitsMore_j29 : ((Rows.limitsMoreRow.pinned == Rows.limitsMoreRow.pinnedBy)) = true := by kernel_rfl
theorem limitsMore_j30 : ((Rows.limitsMoreRow.veiled == (Tryz.f8.params.toList ++ Rows.limitsMoreSpec.plain.varTypes Tryz.prog ++ Tryz.f8.resultTypes.toList).any (Tryz.prog.veiledRec ·))) = true := by kernel_rfl
theorem limitsMore_j31 : (Rows.limitsMoreRow.veiledFits Tryz.prog Tryz.f8.params.toList (Tryz.f8.params.toList ++ Rows.limitsMoreSpec.plain.varTypes Tryz.prog ++ Tryz.f8.resultTypes.toList)) = true := by kernel_rfl
theorem and2 {a b : Bool} (ha : a = true) (hb : b = true) : (a && b) = true := by rw [ha, hb]; rfl
set_option maxRecDepth 100000 in
theorem limitsMore_closed : joinedFacts Tryz.prog 8 Tryz.f8 Rows.limitsMoreSpec Rows.limitsMoreRow = true := by
 unfold joinedFacts
 exact (and2 (and2 (and2 (and2 (and2 (and2 (and2 (and2 (and2 (and2 (and2 (and2 (and2 (and2 (and2 (and2 (and2 (and2 (and2 (and2 (and2 (and2 (and2 (and2 (and2 (and2 (and2 (and2 (and2 (and2 (and2 limitsMore_j0 Tryz.fact1) Tryz.fact2) limitsMore_j3) limitsMore_j4) limitsMore_j5) Tryz.fact6) limitsMore_j7) Tryz.fact8) limitsMore_j9) limitsMore_j10) limitsMore_j11) limitsMore_j12) limitsMore_j13) limitsMore_j14) limitsMore_j15) limitsMore_j16) limitsMore_j17) limitsMore_j18) limitsMore_j19) limitsMore_j20) limitsMore_j21) limitsMore_j22) limitsMore_j23) Tryz.fact24) Tryz.fact25) limitsMore_j26) limitsMore_j27) limitsMore_j28) limitsMore_j29) limitsMore_j30) limitsMore_j31)
theorem limitsMore_named : Tryz.prog.funcNamed Rows.limitsMoreRow.func = some 8 := by kernel_rfl
theorem limitsMore_instance : Tryz.f8.isInstance Tryz.prog Rows.limitsMoreRow.origin Rows.limitsMoreRow.targs := of_decide_eq_true (by kernel_rfl)
theorem limitsMore_wrapper : Tryz.f8.isWrapper Tryz.prog Rows.limitsMoreRow.wrapper Rows.limitsMoreRow.mainSum := by unfold Func.isWrapper; first | (rw [if_pos (by decide +kernel)]; kernel_rfl) | (rw [if_neg (by decide +kernel)]; exact ⟨rfl, rfl⟩)
set_option maxRecDepth 100000 in
theorem limitsMore_over : Rows.limitsMoreRow.holds Tryz.pinned (OpenSpec.ofChange Rows.limitsMoreSpec) :=
 OpenClaim.holds_of_wide 8 Tryz.f8 rfl rfl rfl rfl rfl rfl rfl ⟨rfl, rfl, rfl, rfl, rfl⟩ rfl rfl rfl rfl rfl limitsMore_named Tryz.func8 limitsMore_closed limitsMore_instance limitsMore_wrapper
  (fun os started H enc _ => limitsMore_lifted os started H enc)
theorem limitsMore_holds : Rows.LimitsMoreCardSaid :=
 Claim7.holds_tied_plain_at .later [] [.data, .data, .data] true (true, "a314527e42ba43a1a986057f2e4706a40430ee3f422109f3723c19ffe0241afc") false limitsMore_over (fun _ h => by cases h) (by kernel_rfl) (fun _ h => by cases h) (OpenClaim.laidByTextAt_later rfl rfl cardTie cardPlain) rfl ⟨rfl, rfl⟩ cardMain rfl
  (fun f fn hf hfn => by
   obtain rfl : f = 8 := Option.some.inj ((show Tryz.prog.funcNamed "merestone/merestonelaw04.LimitsMore" = some 8 by kernel_rfl).symm.trans hf) |>.symm
   obtain rfl : fn = Tryz.f8 := (Option.some.inj (Tryz.func8.symm.trans hfn)).symm
   exact ⟨cardLooks, fun j t ht => by
    rw [Tryz.params8] at ht
    have hm : t ∈ [27, 28, 50, 30, 30, 40, 3] := by simpa using Array.mem_of_getElem? ht
    simp only [List.mem_cons, List.not_mem_nil, or_false] at hm
    rcases hm with rfl | rfl | rfl | rfl | rfl | rfl | rfl
    all_goals exact (show Tryz.prog.wantsStandIn _ = false by kernel_rfl)⟩)
  (cardGoes _ rfl)
end Go.Proofs.YtkhemfnlflbniaaGreatDoor
