/- The law LimitsRegions: for every input the call returns true, and its arguments read as before; the card: the row's listed variables tied to the program's text. No conditions. -/
import Derived.Test.YtkhemfnlflbniaaGreatDoorB15
import Derived.Test.YtkhemfnlflbniaaGreatDoorB13
import Derived.Test.YtkhemfnlflbniaaGreatDoorB12
import Derived.Test.YtkhemfnlflbniaaGreatDoorB11
import Derived.Test.YtkhemfnlflbniaaGreatDoorB10
import Derived.Test.YtkhemfnlflbniaaGreatDoorB09
import Derived.Test.YtkhemfnlflbniaaGreatDoorB06
import Derived.Test.YtkhemfnlflbniaaGreatDoorB05
import Derived.Test.YtkhemfnlflbniaaGreatDoorB01
import Derived.Test.YtkhemfnlflbniaaGreatDoorB04
import Derived.Shelf.Small.Bits
import Derived.Shelf.Small.Wraps
import Derived.Shelf.Strconv.Itoa0
import Derived.Shelf.Sort.Plain
import Derived.Shelf.Slices.Turned
import Derived.Ground.Names2Prog
import Derived.Shelf.Slices.CompactI
import Derived.Shelf.Slices.Cells
import Derived.Shelf.Slices.In.SortNone
import Derived.Test.YtkhemfnlflbniaaGreatDoorProg
import Derived.Test.YtkhemfnlflbniaaGreatDoorB03
import Derived.Test.YtkhemfnlflbniaaGreatDoorB02
import Derived.WalkKit
import Derived.Handy
import Derived.RangeFuncRecord
import Derived.Shelf.Abstract
import Derived.Deep.QuietTactic
import Derived.BigQuiet
import Derived.Laws.CopyOwn
import Derived.WalkSmall
import Derived.RangeFuncNested
import Derived.RangeFuncBound
import Derived.RangeFuncCalls
import Derived.RangeFuncLeaves
import Derived.Shelf.RegionOpen
import Derived.OwnWalkIn
import Derived.TacticsInMore
import Derived.LoopNIn
import Derived.LoopIn
import Derived.Maps.AppendAt
import Derived.Deep.Onto
import Derived.OrdersHeld
import Derived.Deep.LoopGhost
import Derived.Deep.WholeRow
import Derived.Deep.OwnRows
import Derived.StillTailTactics
import Derived.Great.Walk
import Derived.Great.BuildSlice
import Derived.WalkMore
import Derived.Deep.MidRow
import Derived.Deep.RegionHeld3
import Derived.Deep.DeepCutAuto
import Derived.Lib.OwnBridge
import Derived.Lib.SliceRun
import Derived.WalkSpells
import Derived.Deep.RegionWith
import Derived.Lib.AppendZerosOnto
import Derived.Deep.CutBlock
import Derived.Test.YtkhemfnlflbniaaGreatDoorB08
import Derived.Test.YtkhemfnlflbniaaGreatDoorB07
import Derived.IntWalk
import Derived.Deep.Cut
import Derived.Laws.Rows
import Derived.Laws.Tables
import Derived.Laws.StructEq
import Derived.OrdersIn
import Derived.RangeFuncBox
import Derived.Test.YtkhemfnlflbniaaGreatDoorB14
import Derived.Test.YtkhemfnlflbniaaGreatDoorRows
import Derived.ProofKit
import Derived.OpenShut
import Derived.Carry
import Derived.Lib.SmallJoins
import Derived.Deep.Slices
import Derived.ChangeMaps5
import Derived.Test.YtkhemfnlflbniaaGreatDoorCards
import Derived.LaidByTextLater
import Derived.SevenTiedAt
import Derived.LaidOnce
import Derived.KernelRfl
import Derived.Lay
import Derived.LaidLaws
import Derived.Test.YtkhemfnlflbniaaGreatDoorXLimitsRegionsb
set_option maxRecDepth 100000
namespace Go.Proofs.YtkhemfnlflbniaaGreatDoor
open Go Go.ChangeShapes Go.WideShapes Go.ChangeAt Go.RowKit Go.Proofs.Tryz
theorem limitsRegions_lifted (os:Os) (started:os.Started) (H:Type) (enc:TypeId×Value→H) :
 ReturnsInHanded {} Tryz.checked os 3 .any (fun w args=>(Rows.limitsRegionsSpec.pre enc prog Tryz.f3 [] false w args∧laidMetH prog Rows.limitsRegionsRow.laid w)∧sizedMet enc prog Tryz.f3 (OpenSpec.ofChange Rows.limitsRegionsSpec) false w args)
  (Rows.limitsRegionsSpec.post enc prog Tryz.f3 false true false false):=by
 refine returnsInHanded_of_change_and (C:=Tryz.checked) (X:=fun w _=>laidMetH prog Rows.limitsRegionsRow.laid w) (fun _ _ _ hh h=>h.of_heap hh) Tryz.own started (by kernel_rfl) func3
  (ChangeSpec.witness_shaped (enc:=enc) (C:=Tryz.checked) (os:=os) (X:=fun w _=>laidMetH prog Rows.limitsRegionsRow.laid w) false (World.laidAll prog os Rows.limitsRegionsRow.laid) #[.agg #[.slice none 0 0,.slice none 0 0,.slice none 0 0,.slice none 0 0],.slice none 0 0,.agg #[.int .i64 0,.int .i64 0],.agg #[.int .i64 0,.int .i64 0]] 8 (World.laidAll_os _ _ _)
   (World.shaped_of_ZipB (by kernel_rfl) (by kernel_rfl)) (by kernel_rfl) (by kernel_rfl) (by kernel_rfl)
   (by rw[MakeChecks.laidMetH_plain _ _ _ (by kernel_rfl)];exact laidMet_laidAll _ (by kernel_rfl) (by kernel_rfl))) ?_
 intro W base args ds gs before hval0 hW _ _ _ _;have hval:∀(j:Nat) t v,Tryz.f3.params[j]?=some t→args[j]?=some v→Value.okWide prog W .any base t v:=hval0;have hW':=hW;obtain⟨p,q,hA0,hV,rfl,hfz,hnd⟩:=hW;have hA:DataW.TrodAll enc prog W 0 (fun _=>true) true Tryz.f3.params.toList args.toList ds p:=hA0;rw[params3] at hA hval;obtain⟨v0,vs0,d0,ds0,p0,q0,hargs,rfl,rfl,h0,r0⟩:=trodAll_cons hA;obtain⟨v1,vs1,d1,ds1,p1,q1,rfl,rfl,rfl,h1,r1⟩:=trodAll_cons r0;obtain⟨v2,vs2,d2,ds2,p2,q2,rfl,rfl,rfl,h2,r2⟩:=trodAll_cons r1;obtain⟨v3,vs3,d3,ds3,p3,q3,rfl,rfl,rfl,h3,r3⟩:=trodAll_cons r2;obtain⟨rfl,rfl,rfl⟩:=trodAll_nil r3
 obtain rfl:args=#[v0,v1,v2,v3]:=by cases args;simp_all
 obtain⟨rfl,rfl⟩:=trodVars_none hV;obtain⟨x0,F0,rfl,hF0⟩:=open_fld (hval 0 27 v0 rfl rfl) h0;obtain⟨ar1,cr1,l1,rfl,hr1,hn1,hd1,hk1,hc1⟩:=Bn (hval 1 28 v1 rfl rfl) h1;obtain⟨i2,s2,rfl,_,_⟩:=AP (hval 2 30 v2 rfl rfl) h2;obtain⟨i3,s3,rfl,_,_⟩:=AP (hval 3 30 v3 rfl rfl) h3
 refine(limitsRegions_any W x0 F0 ar1 cr1 l1 i2 s2 i3 s3 hF0 hr1 hn1 hd1 hk1).mono fun e W' ⟨he,hg⟩=>?_
 subst he;refine⟨_,rfl,law_post hW' hg (by kernel_rfl) ?_ rfl rfl⟩;intro t ht;rw[params3] at ht;simp only[List.mem_cons,List.not_mem_nil,or_false] at ht
 rcases ht with rfl|rfl|rfl|rfl
 ·exact argOk46
 ·exact BG
 ·exact BH
 ·exact BH
theorem limitsRegions_j0:(Rows.limitsRegionsRow.wf (OpenSpec.ofChange Rows.limitsRegionsSpec))=true:=by kernel_rfl
theorem limitsRegions_j3:(Tryz.f3.params.all (Tryz.prog.readableRec ·))=true:=by kernel_rfl
theorem limitsRegions_j4:(namedTie prog Rows.limitsRegionsRow.named Rows.limitsRegionsSpec.vars)=true:=by kernel_rfl
theorem limitsRegions_j5:((Rows.limitsRegionsRow.stops==[]))=true:=by kernel_rfl
theorem limitsRegions_j7:((Rows.limitsRegionsRow.knobs==[]))=true:=by kernel_rfl
theorem limitsRegions_j9:((Rows.limitsRegionsRow.inPlace==Tryz.prog.inPlace 3))=true:=by kernel_rfl
theorem limitsRegions_j10:((Rows.limitsRegionsRow.unfollowed==Tryz.prog.unfollowed 3))=true:=by kernel_rfl
theorem limitsRegions_j11:((Rows.limitsRegionsRow.recurses==Tryz.prog.recurses 3))=true:=by kernel_rfl
theorem limitsRegions_j12:((Rows.limitsRegionsRow.named==Tryz.prog.varsNamed 3))=true:=by kernel_rfl
theorem limitsRegions_j13:((Rows.limitsRegionsRow.maps==(Tryz.f3.params.toList++Rows.limitsRegionsSpec.plain.varTypes prog).any (Tryz.prog.mapsRec ·)))=true:=by kernel_rfl
theorem limitsRegions_j14:((Rows.limitsRegionsRow.ifaces==(Tryz.f3.params.toList++Rows.limitsRegionsSpec.plain.varTypes prog).any (Tryz.prog.ifacesRec ·)))=true:=by kernel_rfl
theorem limitsRegions_j15:((Rows.limitsRegionsRow.mapsOut==Tryz.prog.mapsAmong Tryz.f3.resultTypes.toList))=true:=by kernel_rfl
theorem limitsRegions_j16:((Rows.limitsRegionsRow.loops==(Tryz.f3.params.toList++Rows.limitsRegionsSpec.plain.varTypes prog).any (Tryz.prog.loopsFrom ·)))=true:=by kernel_rfl
theorem limitsRegions_j17:((Rows.limitsRegionsRow.wideKeys==(Tryz.f3.params.toList++Rows.limitsRegionsSpec.plain.varTypes prog++Tryz.f3.resultTypes.toList).any (Tryz.prog.wideKeysFrom ·)))=true:=by kernel_rfl
theorem limitsRegions_j18:(Rows.limitsRegionsSpec.vars.all (Tryz.prog.varReadable ·))=true:=by kernel_rfl
theorem limitsRegions_j19:(Tryz.f3.resultTypes.all (fun t=>Tryz.prog.readableRec t&&decide (t<Tryz.prog.types.size)))=true:=by kernel_rfl
theorem limitsRegions_j20:((Rows.limitsRegionsRow.ifacesOut==Tryz.f3.resultTypes.toList.any (Tryz.prog.ifacesRec ·)))=true:=by kernel_rfl
theorem limitsRegions_j21:((Rows.limitsRegionsRow.loopsOut==Tryz.f3.resultTypes.toList.any (Tryz.prog.loopsFrom ·)))=true:=by kernel_rfl
theorem limitsRegions_j22:((Rows.limitsRegionsRow.plainKeys==Tryz.prog.plainKeys))=true:=by rw[Tryz.fact22];rfl
theorem limitsRegions_j23:(Rows.limitsRegionsRow.shortTexts.isNone)=true:=by kernel_rfl
theorem limitsRegions_j26:((Rows.limitsRegionsRow.lifted==Tryz.prog.liftsFinal))=true:=by rw[Tryz.fact26];rfl
theorem limitsRegions_j27:((Tryz.prog.make==some Rows.limitsRegionsRow.make))=true:=by rw[Tryz.fact27];rfl
theorem limitsRegions_j28:((Rows.limitsRegionsRow.kinds==(if Rows.limitsRegionsRow.domain.isEmpty then[] else Tryz.f3.params.toList.map fun t=>match Tryz.prog.underlying t with|some (.int k)=>some k|_=>none)))=true:=by kernel_rfl
theorem limitsRegions_j29:((Rows.limitsRegionsRow.pinned==Rows.limitsRegionsRow.pinnedBy))=true:=by kernel_rfl
theorem limitsRegions_j30:((Rows.limitsRegionsRow.veiled==(Tryz.f3.params.toList++Rows.limitsRegionsSpec.plain.varTypes prog++Tryz.f3.resultTypes.toList).any (Tryz.prog.veiledRec ·)))=true:=by kernel_rfl
theorem limitsRegions_j31:(Rows.limitsRegionsRow.veiledFits prog Tryz.f3.params.toList (Tryz.f3.params.toList++Rows.limitsRegionsSpec.plain.varTypes prog++Tryz.f3.resultTypes.toList))=true:=by kernel_rfl
theorem limitsRegions_closed:joinedFacts prog 3 Tryz.f3 Rows.limitsRegionsSpec Rows.limitsRegionsRow=true:=by
 unfold joinedFacts;exact(and2 (and2 (and2 (and2 (and2 (and2 (and2 (and2 (and2 (and2 (and2 (and2 (and2 (and2 (and2 (and2 (and2 (and2 (and2 (and2 (and2 (and2 (and2 (and2 (and2 (and2 (and2 (and2 (and2 (and2 (and2 limitsRegions_j0 Tryz.fact1) Tryz.fact2) limitsRegions_j3) limitsRegions_j4) limitsRegions_j5) Tryz.fact6) limitsRegions_j7) Tryz.fact8) limitsRegions_j9) limitsRegions_j10) limitsRegions_j11) limitsRegions_j12) limitsRegions_j13) limitsRegions_j14) limitsRegions_j15) limitsRegions_j16) limitsRegions_j17) limitsRegions_j18) limitsRegions_j19) limitsRegions_j20) limitsRegions_j21) limitsRegions_j22) limitsRegions_j23) Tryz.fact24) Tryz.fact25) limitsRegions_j26) limitsRegions_j27) limitsRegions_j28) limitsRegions_j29) limitsRegions_j30) limitsRegions_j31)
theorem limitsRegions_named:Tryz.prog.funcNamed Rows.limitsRegionsRow.func=some 3:=by kernel_rfl
theorem limitsRegions_instance:Tryz.f3.isInstance prog Rows.limitsRegionsRow.origin Rows.limitsRegionsRow.targs:=of_decide_eq_true (by kernel_rfl)
theorem limitsRegions_wrapper:Tryz.f3.isWrapper prog Rows.limitsRegionsRow.wrapper Rows.limitsRegionsRow.mainSum:=by unfold Func.isWrapper;first|(rw[if_pos (by decide +kernel)];kernel_rfl)|(rw[if_neg (by decide +kernel)];exact⟨rfl,rfl⟩)
theorem limitsRegions_over:Rows.limitsRegionsRow.holds Tryz.pinned (OpenSpec.ofChange Rows.limitsRegionsSpec) :=
 OpenClaim.holds_of_wide 3 Tryz.f3 rfl rfl rfl rfl rfl rfl rfl ⟨rfl,rfl,rfl,rfl,rfl⟩ rfl rfl rfl rfl rfl limitsRegions_named func3 limitsRegions_closed limitsRegions_instance limitsRegions_wrapper
  (fun os started H enc _=>limitsRegions_lifted os started H enc)
theorem limitsRegions_holds:Rows.LimitsRegionsCardSaid :=
 Claim7.holds_tied_plain_at .later [] [.data, .data, .data] true (true, "a314527e42ba43a1a986057f2e4706a40430ee3f422109f3723c19ffe0241afc") false limitsRegions_over (fun _ h => by cases h) (by kernel_rfl) (fun _ h => by cases h) (OpenClaim.laidByTextAt_later rfl rfl BF Bq) rfl ⟨rfl, rfl⟩ Bz rfl
  (fun f fn hf hfn=>by
   obtain rfl : f = 3 := Option.some.inj ((show Tryz.prog.funcNamed "merestone/merestonelaw04.LimitsRegions" = some 3 by kernel_rfl).symm.trans hf) |>.symm;obtain rfl : fn = Tryz.f3 := (Option.some.inj (Tryz.func3.symm.trans hfn)).symm
   exact⟨Bo,fun j t ht=>by
    rw[params3] at ht
    have hm:t∈[27,28,30,30]:=by simpa using Array.mem_of_getElem? ht
    simp only[List.mem_cons,List.not_mem_nil,or_false] at hm
    rcases hm with rfl|rfl|rfl|rfl
    all_goals exact(show Tryz.prog.wantsStandIn _=false by kernel_rfl)⟩)
  (Bu _ rfl)
end Go.Proofs.YtkhemfnlflbniaaGreatDoor
