/- The law LimitsOwned: for every input the call returns true, and its arguments read as before; the card: the row's listed variables tied to the program's text. No conditions. -/
import Derived.Test.YtkhemfnlflbniaaGreatDoorB15
import Derived.Test.YtkhemfnlflbniaaGreatDoorB13
import Derived.Test.YtkhemfnlflbniaaGreatDoorB12
import Derived.Test.YtkhemfnlflbniaaGreatDoorB11
import Derived.Test.YtkhemfnlflbniaaGreatDoorB10
import Derived.Test.YtkhemfnlflbniaaGreatDoorB09
import Derived.Test.YtkhemfnlflbniaaGreatDoorB06
import Derived.Test.YtkhemfnlflbniaaGreatDoorB05
import Derived.Test.YtkhemfnlflbniaaGreatDoorB01
import Derived.Test.YtkhemfnlflbniaaGreatDoorB04
import Derived.Shelf.Small.Bits
import Derived.Shelf.Small.Wraps
import Derived.Shelf.Strconv.Itoa0
import Derived.Shelf.Sort.Plain
import Derived.Shelf.Slices.Turned
import Derived.Ground.Names2Prog
import Derived.Shelf.Slices.CompactI
import Derived.Shelf.Slices.Cells
import Derived.Shelf.Slices.In.SortNone
import Derived.Test.YtkhemfnlflbniaaGreatDoorProg
import Derived.Test.YtkhemfnlflbniaaGreatDoorB03
import Derived.Test.YtkhemfnlflbniaaGreatDoorB02
import Derived.WalkKit
import Derived.Handy
import Derived.RangeFuncRecord
import Derived.Shelf.Abstract
import Derived.Deep.QuietTactic
import Derived.BigQuiet
import Derived.Laws.CopyOwn
import Derived.WalkSmall
import Derived.RangeFuncNested
import Derived.RangeFuncBound
import Derived.RangeFuncCalls
import Derived.RangeFuncLeaves
import Derived.Shelf.RegionOpen
import Derived.OwnWalkIn
import Derived.TacticsInMore
import Derived.LoopNIn
import Derived.LoopIn
import Derived.Maps.AppendAt
import Derived.Deep.Onto
import Derived.OrdersHeld
import Derived.Deep.LoopGhost
import Derived.Deep.WholeRow
import Derived.Deep.OwnRows
import Derived.StillTailTactics
import Derived.Great.Walk
import Derived.Great.BuildSlice
import Derived.WalkMore
import Derived.Deep.MidRow
import Derived.Deep.RegionHeld3
import Derived.Deep.DeepCutAuto
import Derived.Lib.OwnBridge
import Derived.Lib.SliceRun
import Derived.WalkSpells
import Derived.Deep.RegionWith
import Derived.Lib.AppendZerosOnto
import Derived.Deep.CutBlock
import Derived.Test.YtkhemfnlflbniaaGreatDoorB08
import Derived.Test.YtkhemfnlflbniaaGreatDoorB07
import Derived.IntWalk
import Derived.Deep.Cut
import Derived.Laws.Rows
import Derived.Laws.Tables
import Derived.Laws.StructEq
import Derived.OrdersIn
import Derived.RangeFuncBox
import Derived.Test.YtkhemfnlflbniaaGreatDoorB14
import Derived.Test.YtkhemfnlflbniaaGreatDoorRows
import Derived.ProofKit
import Derived.OpenShut
import Derived.Carry
import Derived.Lib.SmallJoins
import Derived.Deep.Slices
import Derived.ChangeMaps5
import Derived.Test.YtkhemfnlflbniaaGreatDoorCards
import Derived.LaidByTextLater
import Derived.SevenTiedAt
import Derived.LaidOnce
import Derived.KernelRfl
import Derived.Lay
import Derived.LaidLaws
import Derived.Test.YtkhemfnlflbniaaGreatDoorXLimitsOwned
set_option maxRecDepth 100000
namespace Go.Proofs.YtkhemfnlflbniaaGreatDoor
open Go Go.ChangeShapes Go.WideShapes Go.ChangeAt Go.RowKit Go.Proofs.Tryz
theorem limitsOwned_lifted (os:Os) (started:os.Started) (H:Type) (enc:TypeId×Value→H) :
 ReturnsInHanded {} Tryz.checked os 21 .any (fun w args=>(Rows.limitsOwnedSpec.pre enc prog Tryz.f21 [] false w args∧laidMetH prog Rows.limitsOwnedRow.laid w)∧sizedMet enc prog Tryz.f21 (OpenSpec.ofChange Rows.limitsOwnedSpec) false w args)
  (Rows.limitsOwnedSpec.post enc prog Tryz.f21 false true false false):=by
 refine returnsInHanded_of_change_and (C:=Tryz.checked) (X:=fun w _=>laidMetH prog Rows.limitsOwnedRow.laid w) (fun _ _ _ hh h=>h.of_heap hh) Tryz.own started (by kernel_rfl) func21
  (ChangeSpec.witness_shaped (enc:=enc) (C:=Tryz.checked) (os:=os) (X:=fun w _=>laidMetH prog Rows.limitsOwnedRow.laid w) false (World.laidAll prog os Rows.limitsOwnedRow.laid) #[.agg #[.slice none 0 0,.slice none 0 0,.slice none 0 0,.slice none 0 0],.slice none 0 0,.int .i64 0,.int .i64 0,.slice none 0 0] 8 (World.laidAll_os _ _ _)
   (World.shaped_of_ZipB (by kernel_rfl) (by kernel_rfl)) (by kernel_rfl) (by kernel_rfl) (by kernel_rfl)
   (by rw[MakeChecks.laidMetH_plain _ _ _ (by kernel_rfl)];exact laidMet_laidAll _ (by kernel_rfl) (by kernel_rfl))) ?_
 intro W base args ds gs before hval0 hW _ _ _ _;have hval:∀(j:Nat) t v,Tryz.f21.params[j]?=some t→args[j]?=some v→Value.okWide prog W .any base t v:=hval0;have hW':=hW;obtain⟨p,q,hA0,hV,rfl,hfz,hnd⟩:=hW;have hA:DataW.TrodAll enc prog W 0 (fun _=>true) true Tryz.f21.params.toList args.toList ds p:=hA0;rw[params21] at hA hval;obtain⟨v0,vs0,d0,ds0,p0,q0,hargs,rfl,rfl,h0,r0⟩:=trodAll_cons hA;obtain⟨v1,vs1,d1,ds1,p1,q1,rfl,rfl,rfl,h1,r1⟩:=trodAll_cons r0;obtain⟨v2,vs2,d2,ds2,p2,q2,rfl,rfl,rfl,h2,r2⟩:=trodAll_cons r1;obtain⟨v3,vs3,d3,ds3,p3,q3,rfl,rfl,rfl,h3,r3⟩:=trodAll_cons r2;obtain⟨v4,vs4,d4,ds4,p4,q4,rfl,rfl,rfl,h4,r4⟩:=trodAll_cons r3;obtain⟨rfl,rfl,rfl⟩:=trodAll_nil r4
 obtain rfl:args=#[v0,v1,v2,v3,v4]:=by cases args;simp_all
 obtain⟨rfl,rfl⟩:=trodVars_none hV;obtain⟨x0,F0,rfl,hF0⟩:=open_fld (hval 0 27 v0 rfl rfl) h0;obtain⟨ar1,cr1,l1,rfl,hr1,hn1,hd1,hk1,hc1⟩:=Bn (hval 1 28 v1 rfl rfl) h1;obtain⟨n2,rfl,hz2⟩:=open_num (hval 2 3 v2 rfl rfl) h2;obtain⟨n3,rfl,hz3⟩:=open_num (hval 3 3 v3 rfl rfl) h3;obtain⟨a4,cap4,y4,rfl,hi4,hZ4,hm4,hyo4⟩:=open_list (hval 4 52 v4 rfl rfl) h4
 refine(limitsOwned_any W x0 F0 ar1 cr1 l1 n2 n3 a4 cap4 y4 hF0 hr1 hn1 hd1 hk1 hm4 hi4).mono fun e W' ⟨he,hg⟩=>?_
 subst he;refine⟨_,rfl,law_post hW' hg (by kernel_rfl) ?_ rfl rfl⟩;intro t ht;rw[params21] at ht;simp only[List.mem_cons,List.not_mem_nil,or_false] at ht
 rcases ht with rfl|rfl|rfl|rfl|rfl
 ·exact argOk46
 ·exact BG
 ·exact argOk3
 ·exact argOk3
 ·exact argOk27
theorem limitsOwned_j0:(Rows.limitsOwnedRow.wf (OpenSpec.ofChange Rows.limitsOwnedSpec))=true:=by kernel_rfl
theorem limitsOwned_j3:(Tryz.f21.params.all (Tryz.prog.readableRec ·))=true:=by kernel_rfl
theorem limitsOwned_j4:(namedTie prog Rows.limitsOwnedRow.named Rows.limitsOwnedSpec.vars)=true:=by kernel_rfl
theorem limitsOwned_j5:((Rows.limitsOwnedRow.stops==[]))=true:=by kernel_rfl
theorem limitsOwned_j7:((Rows.limitsOwnedRow.knobs==[]))=true:=by kernel_rfl
theorem limitsOwned_j9:((Rows.limitsOwnedRow.inPlace==Tryz.prog.inPlace 21))=true:=by kernel_rfl
theorem limitsOwned_j10:((Rows.limitsOwnedRow.unfollowed==Tryz.prog.unfollowed 21))=true:=by kernel_rfl
theorem limitsOwned_j11:((Rows.limitsOwnedRow.recurses==Tryz.prog.recurses 21))=true:=by kernel_rfl
theorem limitsOwned_j12:((Rows.limitsOwnedRow.named==Tryz.prog.varsNamed 21))=true:=by kernel_rfl
theorem limitsOwned_j13:((Rows.limitsOwnedRow.maps==(Tryz.f21.params.toList++Rows.limitsOwnedSpec.plain.varTypes prog).any (Tryz.prog.mapsRec ·)))=true:=by kernel_rfl
theorem limitsOwned_j14:((Rows.limitsOwnedRow.ifaces==(Tryz.f21.params.toList++Rows.limitsOwnedSpec.plain.varTypes prog).any (Tryz.prog.ifacesRec ·)))=true:=by kernel_rfl
theorem limitsOwned_j15:((Rows.limitsOwnedRow.mapsOut==Tryz.prog.mapsAmong Tryz.f21.resultTypes.toList))=true:=by kernel_rfl
theorem limitsOwned_j16:((Rows.limitsOwnedRow.loops==(Tryz.f21.params.toList++Rows.limitsOwnedSpec.plain.varTypes prog).any (Tryz.prog.loopsFrom ·)))=true:=by kernel_rfl
theorem limitsOwned_j17:((Rows.limitsOwnedRow.wideKeys==(Tryz.f21.params.toList++Rows.limitsOwnedSpec.plain.varTypes prog++Tryz.f21.resultTypes.toList).any (Tryz.prog.wideKeysFrom ·)))=true:=by kernel_rfl
theorem limitsOwned_j18:(Rows.limitsOwnedSpec.vars.all (Tryz.prog.varReadable ·))=true:=by kernel_rfl
theorem limitsOwned_j19:(Tryz.f21.resultTypes.all (fun t=>Tryz.prog.readableRec t&&decide (t<Tryz.prog.types.size)))=true:=by kernel_rfl
theorem limitsOwned_j20:((Rows.limitsOwnedRow.ifacesOut==Tryz.f21.resultTypes.toList.any (Tryz.prog.ifacesRec ·)))=true:=by kernel_rfl
theorem limitsOwned_j21:((Rows.limitsOwnedRow.loopsOut==Tryz.f21.resultTypes.toList.any (Tryz.prog.loopsFrom ·)))=true:=by kernel_rfl
theorem limitsOwned_j22:((Rows.limitsOwnedRow.plainKeys==Tryz.prog.plainKeys))=true:=by rw[Tryz.fact22];rfl
theorem limitsOwned_j23:(Rows.limitsOwnedRow.shortTexts.isNone)=true:=by kernel_rfl
theorem limitsOwned_j26:((Rows.limitsOwnedRow.lifted==Tryz.prog.liftsFinal))=true:=by rw[Tryz.fact26];rfl
theorem limitsOwned_j27:((Tryz.prog.make==some Rows.limitsOwnedRow.make))=true:=by rw[Tryz.fact27];rfl
theorem limitsOwned_j28:((Rows.limitsOwnedRow.kinds==(if Rows.limitsOwnedRow.domain.isEmpty then[] else Tryz.f21.params.toList.map fun t=>match Tryz.prog.underlying t with|some (.int k)=>some k|_=>none)))=true:=by kernel_rfl
theorem limitsOwned_j29:((Rows.limitsOwnedRow.pinned==Rows.limitsOwnedRow.pinnedBy))=true:=by kernel_rfl
theorem limitsOwned_j30:((Rows.limitsOwnedRow.veiled==(Tryz.f21.params.toList++Rows.limitsOwnedSpec.plain.varTypes prog++Tryz.f21.resultTypes.toList).any (Tryz.prog.veiledRec ·)))=true:=by kernel_rfl
theorem limitsOwned_j31:(Rows.limitsOwnedRow.veiledFits prog Tryz.f21.params.toList (Tryz.f21.params.toList++Rows.limitsOwnedSpec.plain.varTypes prog++Tryz.f21.resultTypes.toList))=true:=by kernel_rfl
theorem limitsOwned_closed:joinedFacts prog 21 Tryz.f21 Rows.limitsOwnedSpec Rows.limitsOwnedRow=true:=by
 unfold joinedFacts;exact(and2 (and2 (and2 (and2 (and2 (and2 (and2 (and2 (and2 (and2 (and2 (and2 (and2 (and2 (and2 (and2 (and2 (and2 (and2 (and2 (and2 (and2 (and2 (and2 (and2 (and2 (and2 (and2 (and2 (and2 (and2 limitsOwned_j0 Tryz.fact1) Tryz.fact2) limitsOwned_j3) limitsOwned_j4) limitsOwned_j5) Tryz.fact6) limitsOwned_j7) Tryz.fact8) limitsOwned_j9) limitsOwned_j10) limitsOwned_j11) limitsOwned_j12) limitsOwned_j13) limitsOwned_j14) limitsOwned_j15) limitsOwned_j16) limitsOwned_j17) limitsOwned_j18) limitsOwned_j19) limitsOwned_j20) limitsOwned_j21) limitsOwned_j22) limitsOwned_j23) Tryz.fact24) Tryz.fact25) limitsOwned_j26) limitsOwned_j27) limitsOwned_j28) limitsOwned_j29) limitsOwned_j30) limitsOwned_j31)
theorem limitsOwned_named:Tryz.prog.funcNamed Rows.limitsOwnedRow.func=some 21:=by kernel_rfl
theorem limitsOwned_instance:Tryz.f21.isInstance prog Rows.limitsOwnedRow.origin Rows.limitsOwnedRow.targs:=of_decide_eq_true (by kernel_rfl)
theorem limitsOwned_wrapper:Tryz.f21.isWrapper prog Rows.limitsOwnedRow.wrapper Rows.limitsOwnedRow.mainSum:=by unfold Func.isWrapper;first|(rw[if_pos (by decide +kernel)];kernel_rfl)|(rw[if_neg (by decide +kernel)];exact⟨rfl,rfl⟩)
theorem limitsOwned_over:Rows.limitsOwnedRow.holds Tryz.pinned (OpenSpec.ofChange Rows.limitsOwnedSpec) :=
 OpenClaim.holds_of_wide 21 Tryz.f21 rfl rfl rfl rfl rfl rfl rfl ⟨rfl,rfl,rfl,rfl,rfl⟩ rfl rfl rfl rfl rfl limitsOwned_named func21 limitsOwned_closed limitsOwned_instance limitsOwned_wrapper
  (fun os started H enc _=>limitsOwned_lifted os started H enc)
theorem limitsOwned_holds:Rows.LimitsOwnedCardSaid :=
 Claim7.holds_tied_plain_at .later [] [.data, .data, .data] true (true, "a314527e42ba43a1a986057f2e4706a40430ee3f422109f3723c19ffe0241afc") false limitsOwned_over (fun _ h => by cases h) (by kernel_rfl) (fun _ h => by cases h) (OpenClaim.laidByTextAt_later rfl rfl BF Bq) rfl ⟨rfl, rfl⟩ Bz rfl
  (fun f fn hf hfn=>by
   obtain rfl : f = 21 := Option.some.inj ((show Tryz.prog.funcNamed "merestone/merestonelaw04.LimitsOwned" = some 21 by kernel_rfl).symm.trans hf) |>.symm;obtain rfl : fn = Tryz.f21 := (Option.some.inj (Tryz.func21.symm.trans hfn)).symm
   exact⟨Bo,fun j t ht=>by
    rw[params21] at ht
    have hm:t∈[27,28,3,3,52]:=by simpa using Array.mem_of_getElem? ht
    simp only[List.mem_cons,List.not_mem_nil,or_false] at hm
    rcases hm with rfl|rfl|rfl|rfl|rfl
    all_goals exact(show Tryz.prog.wantsStandIn _=false by kernel_rfl)⟩)
  (Bu _ rfl)
end Go.Proofs.YtkhemfnlflbniaaGreatDoor
