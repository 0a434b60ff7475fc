/- The law LimitsSharp: for every input the call returns true, and its arguments read as before; the card: the row's listed variables tied to the program's text. No conditions. -/
import Derived.Test.YtkhemfnlflbniaaGreatDoorB15
import Derived.Test.YtkhemfnlflbniaaGreatDoorB13
import Derived.Test.YtkhemfnlflbniaaGreatDoorB12
import Derived.Test.YtkhemfnlflbniaaGreatDoorB11
import Derived.Test.YtkhemfnlflbniaaGreatDoorB10
import Derived.Test.YtkhemfnlflbniaaGreatDoorB09
import Derived.Test.YtkhemfnlflbniaaGreatDoorB06
import Derived.Test.YtkhemfnlflbniaaGreatDoorB05
import Derived.Test.YtkhemfnlflbniaaGreatDoorB01
import Derived.Test.YtkhemfnlflbniaaGreatDoorB04
import Derived.Shelf.Small.Bits
import Derived.Shelf.Strconv.Itoa0
import Derived.Shelf.Sort.Plain
import Derived.Shelf.Slices.Turned
import Derived.Ground.Names2Prog
import Derived.Shelf.Slices.CompactI
import Derived.Shelf.Slices.SearchI
import Derived.Shelf.Slices.Cells
import Derived.Shelf.Slices.In.SortNone
import Derived.Test.YtkhemfnlflbniaaGreatDoorProg
import Derived.Test.YtkhemfnlflbniaaGreatDoorB03
import Derived.Test.YtkhemfnlflbniaaGreatDoorB02
import Derived.WalkKit
import Derived.Handy
import Derived.RangeFuncRecord
import Derived.Shelf.Abstract
import Derived.Deep.QuietTactic
import Derived.BigQuiet
import Derived.Laws.CopyOwn
import Derived.WalkSmall
import Derived.RangeFuncNested
import Derived.RangeFuncBound
import Derived.RangeFuncCalls
import Derived.RangeFuncLeaves
import Derived.Shelf.RegionOpen
import Derived.OwnWalkIn
import Derived.TacticsInMore
import Derived.LoopNIn
import Derived.LoopIn
import Derived.Maps.AppendAt
import Derived.Deep.Onto
import Derived.OrdersHeld
import Derived.Deep.LoopGhost
import Derived.Deep.WholeRow
import Derived.Deep.OwnRows
import Derived.StillTailTactics
import Derived.Great.Walk
import Derived.Great.BuildSlice
import Derived.WalkMore
import Derived.Deep.MidRow
import Derived.Deep.RegionHeld3
import Derived.Deep.DeepCutAuto
import Derived.Lib.OwnBridge
import Derived.Lib.SliceRun
import Derived.WalkSpells
import Derived.Deep.RegionWith
import Derived.Lib.AppendZerosOnto
import Derived.Deep.CutBlock
import Derived.Test.YtkhemfnlflbniaaGreatDoorB08
import Derived.Test.YtkhemfnlflbniaaGreatDoorB07
import Derived.IntWalk
import Derived.Deep.Cut
import Derived.Laws.Rows
import Derived.Laws.Tables
import Derived.Laws.StructEq
import Derived.OrdersIn
import Derived.RangeFuncBox
import Derived.Test.YtkhemfnlflbniaaGreatDoorB14
import Derived.Test.YtkhemfnlflbniaaGreatDoorRows
import Derived.ProofKit
import Derived.OpenShut
import Derived.Carry
import Derived.Lib.SmallJoins
import Derived.Deep.Slices
import Derived.ChangeMaps5
import Derived.Test.YtkhemfnlflbniaaGreatDoorCards
import Derived.LaidByTextLater
import Derived.SevenTiedAt
import Derived.LaidOnce
import Derived.KernelRfl
import Derived.Lay
import Derived.LaidLaws
import Derived.Test.YtkhemfnlflbniaaGreatDoorXLimitsSharp
namespace Go.Proofs.YtkhemfnlflbniaaGreatDoor
open Go Go.ChangeShapes Go.WideShapes Go.ChangeAt Go.RowKit

set_option maxRecDepth 100000 in
theorem limitsSharp_lifted (os : Os) (started : os.Started) (H : Type) (enc : TypeId × Value → H) :
    ReturnsInHanded {} Tryz.checked os 17 .any (fun w args => (Rows.limitsSharpSpec.pre enc Tryz.prog Tryz.f17 [] false w args ∧ laidMetH Tryz.prog Rows.limitsSharpRow.laid w) ∧ sizedMet enc Tryz.prog Tryz.f17 (OpenSpec.ofChange Rows.limitsSharpSpec) false w args)
      (Rows.limitsSharpSpec.post enc Tryz.prog Tryz.f17 false true false false) := by
  refine returnsInHanded_of_change_and (C := Tryz.checked) (X := fun w _ => laidMetH Tryz.prog Rows.limitsSharpRow.laid w) (fun _ _ _ hh h => h.of_heap hh) Tryz.own started (by kernel_rfl) Tryz.func17
    (ChangeSpec.witness_shaped (enc := enc) (C := Tryz.checked) (os := os) (X := fun w _ => laidMetH Tryz.prog Rows.limitsSharpRow.laid w) false (World.laidAll Tryz.prog os Rows.limitsSharpRow.laid) #[.agg #[.slice none 0 0, .slice none 0 0, .slice none 0 0, .slice none 0 0], .slice none 0 0, .agg #[.int .i64 0, .int .i64 0], .int .i64 0] 8 (World.laidAll_os _ _ _)
      (World.shaped_of_ZipB (by kernel_rfl) (by kernel_rfl)) (by kernel_rfl) (by kernel_rfl) (by kernel_rfl)
      (by rw [MakeChecks.laidMetH_plain _ _ _ (by kernel_rfl)]; exact laidMet_laidAll _ (by kernel_rfl) (by kernel_rfl))) ?_
  intro W base args ds gs before hval0 hW _ _ _ _
  have hval : ∀ (j : Nat) t v, Tryz.f17.params[j]? = some t → args[j]? = some v → Value.okWide Tryz.prog W .any base t v := hval0
  have hW' := hW
  obtain ⟨p, q, hA0, hV, rfl, hfz, hnd⟩ := hW
  have hA : DataW.TrodAll enc Tryz.prog W 0 (fun _ => true) true Tryz.f17.params.toList args.toList ds p := hA0
  rw [Tryz.params17] at hA hval
  obtain ⟨v0, vs0, d0, ds0, p0, q0, hargs, rfl, rfl, h0, r0⟩ := trodAll_cons hA
  obtain ⟨v1, vs1, d1, ds1, p1, q1, rfl, rfl, rfl, h1, r1⟩ := trodAll_cons r0
  obtain ⟨v2, vs2, d2, ds2, p2, q2, rfl, rfl, rfl, h2, r2⟩ := trodAll_cons r1
  obtain ⟨v3, vs3, d3, ds3, p3, q3, rfl, rfl, rfl, h3, r3⟩ := trodAll_cons r2
  obtain ⟨rfl, rfl, rfl⟩ := trodAll_nil r3
  obtain rfl : args = #[v0, v1, v2, v3] := by cases args; simp_all
  obtain ⟨rfl, rfl⟩ := trodVars_none hV
  obtain ⟨x0, F0, rfl, hF0⟩ := open_fld (hval 0 27 v0 rfl rfl) h0
  obtain ⟨ar1, cr1, l1, rfl, hr1, hn1, hd1, hk1, hc1⟩ := open_recs (hval 1 28 v1 rfl rfl) h1
  obtain ⟨i2, s2, rfl, _, _⟩ := open_corner (hval 2 30 v2 rfl rfl) h2
  obtain ⟨n3, rfl, hz3⟩ := open_num (hval 3 3 v3 rfl rfl) h3
  refine (limitsSharp_any W x0 F0 ar1 cr1 l1 i2 s2 n3 hF0 hr1 hn1 hd1 hk1).mono fun e W' ⟨he, hg⟩ => ?_
  subst he
  refine ⟨_, rfl, law_post hW' hg (by kernel_rfl) ?_ rfl rfl⟩
  intro t ht
  rw [Tryz.params17] at ht
  simp only [List.mem_cons, List.not_mem_nil, or_false] at ht
  rcases ht with rfl | rfl | rfl | rfl
  · exact argOk46
  · exact argOk28
  · exact argOk30
  · exact argOk3

/-! The row's closed facts, each by itself. -/
theorem limitsSharp_j0 : (Rows.limitsSharpRow.wf (OpenSpec.ofChange Rows.limitsSharpSpec)) = true := by kernel_rfl
theorem limitsSharp_j3 : (Tryz.f17.params.all (Tryz.prog.readableRec ·)) = true := by kernel_rfl
theorem limitsSharp_j4 : (namedTie Tryz.prog Rows.limitsSharpRow.named Rows.limitsSharpSpec.vars) = true := by kernel_rfl
theorem limitsSharp_j5 : ((Rows.limitsSharpRow.stops == [])) = true := by kernel_rfl
theorem limitsSharp_j7 : ((Rows.limitsSharpRow.knobs == [])) = true := by kernel_rfl
theorem limitsSharp_j9 : ((Rows.limitsSharpRow.inPlace == Tryz.prog.inPlace 17)) = true := by kernel_rfl
theorem limitsSharp_j10 : ((Rows.limitsSharpRow.unfollowed == Tryz.prog.unfollowed 17)) = true := by kernel_rfl
theorem limitsSharp_j11 : ((Rows.limitsSharpRow.recurses == Tryz.prog.recurses 17)) = true := by kernel_rfl
theorem limitsSharp_j12 : ((Rows.limitsSharpRow.named == Tryz.prog.varsNamed 17)) = true := by kernel_rfl
theorem limitsSharp_j13 : ((Rows.limitsSharpRow.maps == (Tryz.f17.params.toList ++ Rows.limitsSharpSpec.plain.varTypes Tryz.prog).any (Tryz.prog.mapsRec ·))) = true := by kernel_rfl
theorem limitsSharp_j14 : ((Rows.limitsSharpRow.ifaces == (Tryz.f17.params.toList ++ Rows.limitsSharpSpec.plain.varTypes Tryz.prog).any (Tryz.prog.ifacesRec ·))) = true := by kernel_rfl
theorem limitsSharp_j15 : ((Rows.limitsSharpRow.mapsOut == Tryz.prog.mapsAmong Tryz.f17.resultTypes.toList)) = true := by kernel_rfl
theorem limitsSharp_j16 : ((Rows.limitsSharpRow.loops == (Tryz.f17.params.toList ++ Rows.limitsSharpSpec.plain.varTypes Tryz.prog).any (Tryz.prog.loopsFrom ·))) = true := by kernel_rfl
theorem limitsSharp_j17 : ((Rows.limitsSharpRow.wideKeys == (Tryz.f17.params.toList ++ Rows.limitsSharpSpec.plain.varTypes Tryz.prog ++ Tryz.f17.resultTypes.toList).any (Tryz.prog.wideKeysFrom ·))) = true := by kernel_rfl
theorem limitsSharp_j18 : (Rows.limitsSharpSpec.vars.all (Tryz.prog.varReadable ·)) = true := by kernel_rfl
theorem limitsSharp_j19 : (Tryz.f17.resultTypes.all (fun t => Tryz.prog.readableRec t && decide (t < Tryz.prog.types.size))) = true := by kernel_rfl
theorem limitsSharp_j20 : ((Rows.limitsSharpRow.ifacesOut == Tryz.f17.resultTypes.toList.any (Tryz.prog.ifacesRec ·))) = true := by kernel_rfl
theorem limitsSharp_j21 : ((Rows.limitsSharpRow.loopsOut == Tryz.f17.resultTypes.toList.any (Tryz.prog.loopsFrom ·))) = true := by kernel_rfl
theorem limitsSharp_j22 : ((Rows.limitsSharpRow.plainKeys == Tryz.prog.plainKeys)) = true := by rw [Tryz.fact22]; rfl
theorem limitsSharp_j23 : (Rows.limitsSharpRow.shortTexts.isNone) = true := by kernel_rfl
theorem limitsSharp_j26 : ((Rows.limitsSharpRow.lifted == Tryz.prog.liftsFinal)) = true := by rw [Tryz.fact26]; rfl
theorem limitsSharp_j27 : ((Tryz.prog.make == some Rows.limitsSharpRow.make)) = true := by rw [Tryz.fact27]; rfl
theorem limitsSharp_j28 : ((Rows.limitsSharpRow.kinds == (if Rows.limitsSharpRow.domain.isEmpty then [] else Tryz.f17.params.toList.map fun t => match Tryz.prog.underlying t with | some (.int k) => some k | _ => none))) = true := by kernel_rfl
theorem limitsSharp_j29 : ((Rows.limitsSharpRow.pinned == Rows.limitsSharpRow.pinnedBy)) = true := by kernel_rfl
theorem limitsSharp_j30 : ((Rows.limitsSharpRow.veiled == (Tryz.f17.params.toList ++ Rows.limitsSharpSpec.plain.varTypes Tryz.prog ++ Tryz.f17.resultTypes.toList).any (Tryz.prog.veiledRec ·))) = true := by kernel_rfl
theorem limitsSharp_j31 : (Rows.limitsSharpRow.veiledFits Tryz.prog Tryz.f17.params.toList (Tryz.f17.params.toList ++ Rows.limitsSharpSpec.plain.varTypes Tryz.prog ++ Tryz.f17.resultTypes.toList)) = true := by kernel_rfl
set_option maxRecDepth 100000 in
theorem limitsSharp_closed : joinedFacts Tryz.prog 17 Tryz.f17 Rows.limitsSharpSpec Rows.limitsSharpRow = true := by
  unfold joinedFacts
  exact (and2 (and2 (and2 (and2 (and2 (and2 (and2 (and2 (and2 (and2 (and2 (and2 (and2 (and2 (and2 (and2 (and2 (and2 (and2 (and2 (and2 (and2 (and2 (and2 (and2 (and2 (and2 (and2 (and2 (and2 (and2 limitsSharp_j0 Tryz.fact1) Tryz.fact2) limitsSharp_j3) limitsSharp_j4) limitsSharp_j5) Tryz.fact6) limitsSharp_j7) Tryz.fact8) limitsSharp_j9) limitsSharp_j10) limitsSharp_j11) limitsSharp_j12) limitsSharp_j13) limitsSharp_j14) limitsSharp_j15) limitsSharp_j16) limitsSharp_j17) limitsSharp_j18) limitsSharp_j19) limitsSharp_j20) limitsSharp_j21) limitsSharp_j22) limitsSharp_j23) Tryz.fact24) Tryz.fact25) limitsSharp_j26) limitsSharp_j27) limitsSharp_j28) limitsSharp_j29) limitsSharp_j30) limitsSharp_j31)
theorem limitsSharp_named : Tryz.prog.funcNamed Rows.limitsSharpRow.func = some 17 := by kernel_rfl
theorem limitsSharp_instance : Tryz.f17.isInstance Tryz.prog Rows.limitsSharpRow.origin Rows.limitsSharpRow.targs := of_decide_eq_true (by kernel_rfl)
theorem limitsSharp_wrapper : Tryz.f17.isWrapper Tryz.prog Rows.limitsSharpRow.wrapper Rows.limitsSharpRow.mainSum := by unfold Func.isWrapper; first | (rw [if_pos (by decide +kernel)]; kernel_rfl) | (rw [if_neg (by decide +kernel)]; exact ⟨rfl, rfl⟩)

set_option maxRecDepth 100000 in
theorem limitsSharp_over : Rows.limitsSharpRow.holds Tryz.pinned (OpenSpec.ofChange Rows.limitsSharpSpec) :=
  OpenClaim.holds_of_wide 17 Tryz.f17 rfl rfl rfl rfl rfl rfl rfl ⟨rfl, rfl, rfl, rfl, rfl⟩ rfl rfl rfl rfl rfl limitsSharp_named Tryz.func17 limitsSharp_closed limitsSharp_instance limitsSharp_wrapper
    (fun os started H enc _ => limitsSharp_lifted os started H enc)

/-- THE STATEMENT: the card. -/
theorem limitsSharp_holds : Rows.LimitsSharpCardSaid :=
  Claim7.holds_tied_plain_at .later [] [.data, .data, .data] true (true, "a314527e42ba43a1a986057f2e4706a40430ee3f422109f3723c19ffe0241afc") false limitsSharp_over (fun _ h => by cases h) (by kernel_rfl) (fun _ h => by cases h) (OpenClaim.laidByTextAt_later rfl rfl cardTie cardPlain) rfl ⟨rfl, rfl⟩ cardMain rfl
    (fun f fn hf hfn => by
      obtain rfl : f = 17 := Option.some.inj ((show Tryz.prog.funcNamed "merestone/merestonelaw04.LimitsSharp" = some 17 by kernel_rfl).symm.trans hf) |>.symm
      obtain rfl : fn = Tryz.f17 := (Option.some.inj (Tryz.func17.symm.trans hfn)).symm
      exact ⟨cardLooks, fun j t ht => by
        rw [Tryz.params17] at ht
        have hm : t ∈ [27, 28, 30, 3] := by simpa using Array.mem_of_getElem? ht
        simp only [List.mem_cons, List.not_mem_nil, or_false] at hm
        rcases hm with rfl | rfl | rfl | rfl
        all_goals exact (show Tryz.prog.wantsStandIn _ = false by kernel_rfl)⟩)
    (cardGoes _ rfl)

end Go.Proofs.YtkhemfnlflbniaaGreatDoor
