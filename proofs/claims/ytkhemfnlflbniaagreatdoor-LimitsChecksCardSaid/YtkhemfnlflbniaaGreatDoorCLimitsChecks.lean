/- The law LimitsChecks: for every input the call returns true, and its arguments read as before; the card: the row's listed variables tied to the program's text. No conditions. -/
import Derived.Test.YtkhemfnlflbniaaGreatDoorB10
import Derived.Test.YtkhemfnlflbniaaGreatDoorB09
import Derived.Test.YtkhemfnlflbniaaGreatDoorB06
import Derived.Test.YtkhemfnlflbniaaGreatDoorB05
import Derived.Test.YtkhemfnlflbniaaGreatDoorB01
import Derived.Test.YtkhemfnlflbniaaGreatDoorB04
import Derived.Shelf.Small.Bits
import Derived.Shelf.Small.Wraps
import Derived.Shelf.Strconv.Itoa0
import Derived.Shelf.Sort.Plain
import Derived.Shelf.Slices.Turned
import Derived.Ground.Names2Prog
import Derived.Shelf.Slices.CompactI
import Derived.Shelf.Slices.Cells
import Derived.Shelf.Slices.In.SortNone
import Derived.Test.YtkhemfnlflbniaaGreatDoorProg
import Derived.Test.YtkhemfnlflbniaaGreatDoorB03
import Derived.Test.YtkhemfnlflbniaaGreatDoorB02
import Derived.WalkKit
import Derived.Handy
import Derived.RangeFuncRecord
import Derived.Shelf.Abstract
import Derived.Deep.QuietTactic
import Derived.BigQuiet
import Derived.Laws.CopyOwn
import Derived.WalkSmall
import Derived.RangeFuncNested
import Derived.RangeFuncBound
import Derived.RangeFuncCalls
import Derived.RangeFuncLeaves
import Derived.Shelf.RegionOpen
import Derived.OwnWalkIn
import Derived.TacticsInMore
import Derived.LoopNIn
import Derived.LoopIn
import Derived.Maps.AppendAt
import Derived.Deep.Onto
import Derived.OrdersHeld
import Derived.Deep.LoopGhost
import Derived.Deep.WholeRow
import Derived.Deep.OwnRows
import Derived.StillTailTactics
import Derived.Great.Walk
import Derived.Great.BuildSlice
import Derived.WalkMore
import Derived.Deep.MidRow
import Derived.Deep.RegionHeld3
import Derived.Deep.DeepCutAuto
import Derived.Lib.OwnBridge
import Derived.Lib.SliceRun
import Derived.WalkSpells
import Derived.Deep.RegionWith
import Derived.Lib.AppendZerosOnto
import Derived.Deep.CutBlock
import Derived.Test.YtkhemfnlflbniaaGreatDoorB08
import Derived.Test.YtkhemfnlflbniaaGreatDoorB07
import Derived.IntWalk
import Derived.Deep.Cut
import Derived.Laws.Rows
import Derived.Laws.Tables
import Derived.Test.YtkhemfnlflbniaaGreatDoorB12
import Derived.Test.YtkhemfnlflbniaaGreatDoorB11
import Derived.Laws.StructEq
import Derived.OrdersIn
import Derived.RangeFuncBox
import Derived.Test.YtkhemfnlflbniaaGreatDoorB15
import Derived.Test.YtkhemfnlflbniaaGreatDoorB14
import Derived.Test.YtkhemfnlflbniaaGreatDoorB13
import Derived.Test.YtkhemfnlflbniaaGreatDoorRows
import Derived.ProofKit
import Derived.OpenShut
import Derived.Carry
import Derived.Lib.SmallJoins
import Derived.Deep.Slices
import Derived.ChangeMaps5
import Derived.Test.YtkhemfnlflbniaaGreatDoorCards
import Derived.LaidByTextLater
import Derived.SevenTiedAt
import Derived.LaidOnce
import Derived.KernelRfl
import Derived.Lay
import Derived.LaidLaws
import Derived.Test.YtkhemfnlflbniaaGreatDoorXLimitsChecksb
set_option maxRecDepth 100000
namespace Go.Proofs.YtkhemfnlflbniaaGreatDoor
open Go Go.ChangeShapes Go.WideShapes Go.ChangeAt Go.RowKit Go.Proofs.Tryz
theorem limitsChecks_lifted (os:Os) (started:os.Started) (H:Type) (enc:TypeId×Value→H) :
 ReturnsInHanded {} Tryz.checked os 6 .any (fun w args=>(Rows.limitsChecksSpec.pre enc prog Tryz.f6 [] false w args∧laidMetH prog Rows.limitsChecksRow.laid w)∧sizedMet enc prog Tryz.f6 (OpenSpec.ofChange Rows.limitsChecksSpec) false w args)
  (Rows.limitsChecksSpec.post enc prog Tryz.f6 false true false false):=by
 refine returnsInHanded_of_change_and (C:=Tryz.checked) (X:=fun w _=>laidMetH prog Rows.limitsChecksRow.laid w) (fun _ _ _ hh h=>h.of_heap hh) Tryz.own started (by kernel_rfl) func6
  (ChangeSpec.witness_shaped (enc:=enc) (C:=Tryz.checked) (os:=os) (X:=fun w _=>laidMetH prog Rows.limitsChecksRow.laid w) false (World.laidAll prog os Rows.limitsChecksRow.laid) #[.agg #[.slice none 0 0,.slice none 0 0,.slice none 0 0,.slice none 0 0],.slice none 0 0] 8 (World.laidAll_os _ _ _)
   (World.shaped_of_ZipB (by kernel_rfl) (by kernel_rfl)) (by kernel_rfl) (by kernel_rfl) (by kernel_rfl)
   (by rw[MakeChecks.laidMetH_plain _ _ _ (by kernel_rfl)];exact laidMet_laidAll _ (by kernel_rfl) (by kernel_rfl))) ?_
 intro W base args ds gs before hval0 hW _ _ _ _;have hval:∀(j:Nat) t v,Tryz.f6.params[j]?=some t→args[j]?=some v→Value.okWide prog W .any base t v:=hval0;have hW':=hW;obtain⟨p,q,hA0,hV,rfl,hfz,hnd⟩:=hW;have hA:DataW.TrodAll enc prog W 0 (fun _=>true) true Tryz.f6.params.toList args.toList ds p:=hA0;rw[params6] at hA hval;obtain⟨v0,vs0,d0,ds0,p0,q0,hargs,rfl,rfl,h0,r0⟩:=trodAll_cons hA;obtain⟨v1,vs1,d1,ds1,p1,q1,rfl,rfl,rfl,h1,r1⟩:=trodAll_cons r0;obtain⟨rfl,rfl,rfl⟩:=trodAll_nil r1
 obtain rfl:args=#[v0,v1]:=by cases args;simp_all
 obtain⟨rfl,rfl⟩:=trodVars_none hV;obtain⟨x0,F0,rfl,hF0⟩:=open_fld (hval 0 27 v0 rfl rfl) h0;obtain⟨ar1,cr1,l1,rfl,hr1,hn1,hd1,hk1,hc1⟩:=Bn (hval 1 28 v1 rfl rfl) h1
 refine(limitsChecks_any W x0 F0 ar1 cr1 l1 hF0 hr1 hn1 hd1 hk1).mono fun e W' ⟨he,hg⟩=>?_
 subst he;refine⟨_,rfl,law_post hW' hg (by kernel_rfl) ?_ rfl rfl⟩;intro t ht;rw[params6] at ht;simp only[List.mem_cons,List.not_mem_nil,or_false] at ht
 rcases ht with rfl|rfl
 ·exact argOk46
 ·exact BG
theorem limitsChecks_j0:(Rows.limitsChecksRow.wf (OpenSpec.ofChange Rows.limitsChecksSpec))=true:=by kernel_rfl
theorem limitsChecks_j3:(Tryz.f6.params.all (Tryz.prog.readableRec ·))=true:=by kernel_rfl
theorem limitsChecks_j4:(namedTie prog Rows.limitsChecksRow.named Rows.limitsChecksSpec.vars)=true:=by kernel_rfl
theorem limitsChecks_j5:((Rows.limitsChecksRow.stops==[]))=true:=by kernel_rfl
theorem limitsChecks_j7:((Rows.limitsChecksRow.knobs==[]))=true:=by kernel_rfl
theorem limitsChecks_j9:((Rows.limitsChecksRow.inPlace==Tryz.prog.inPlace 6))=true:=by kernel_rfl
theorem limitsChecks_j10:((Rows.limitsChecksRow.unfollowed==Tryz.prog.unfollowed 6))=true:=by kernel_rfl
theorem limitsChecks_j11:((Rows.limitsChecksRow.recurses==Tryz.prog.recurses 6))=true:=by kernel_rfl
theorem limitsChecks_j12:((Rows.limitsChecksRow.named==Tryz.prog.varsNamed 6))=true:=by kernel_rfl
theorem limitsChecks_j13:((Rows.limitsChecksRow.maps==(Tryz.f6.params.toList++Rows.limitsChecksSpec.plain.varTypes prog).any (Tryz.prog.mapsRec ·)))=true:=by kernel_rfl
theorem limitsChecks_j14:((Rows.limitsChecksRow.ifaces==(Tryz.f6.params.toList++Rows.limitsChecksSpec.plain.varTypes prog).any (Tryz.prog.ifacesRec ·)))=true:=by kernel_rfl
theorem limitsChecks_j15:((Rows.limitsChecksRow.mapsOut==Tryz.prog.mapsAmong Tryz.f6.resultTypes.toList))=true:=by kernel_rfl
theorem limitsChecks_j16:((Rows.limitsChecksRow.loops==(Tryz.f6.params.toList++Rows.limitsChecksSpec.plain.varTypes prog).any (Tryz.prog.loopsFrom ·)))=true:=by kernel_rfl
theorem limitsChecks_j17:((Rows.limitsChecksRow.wideKeys==(Tryz.f6.params.toList++Rows.limitsChecksSpec.plain.varTypes prog++Tryz.f6.resultTypes.toList).any (Tryz.prog.wideKeysFrom ·)))=true:=by kernel_rfl
theorem limitsChecks_j18:(Rows.limitsChecksSpec.vars.all (Tryz.prog.varReadable ·))=true:=by kernel_rfl
theorem limitsChecks_j19:(Tryz.f6.resultTypes.all (fun t=>Tryz.prog.readableRec t&&decide (t<Tryz.prog.types.size)))=true:=by kernel_rfl
theorem limitsChecks_j20:((Rows.limitsChecksRow.ifacesOut==Tryz.f6.resultTypes.toList.any (Tryz.prog.ifacesRec ·)))=true:=by kernel_rfl
theorem limitsChecks_j21:((Rows.limitsChecksRow.loopsOut==Tryz.f6.resultTypes.toList.any (Tryz.prog.loopsFrom ·)))=true:=by kernel_rfl
theorem limitsChecks_j22:((Rows.limitsChecksRow.plainKeys==Tryz.prog.plainKeys))=true:=by rw[Tryz.fact22];rfl
theorem limitsChecks_j23:(Rows.limitsChecksRow.shortTexts.isNone)=true:=by kernel_rfl
theorem limitsChecks_j26:((Rows.limitsChecksRow.lifted==Tryz.prog.liftsFinal))=true:=by rw[Tryz.fact26];rfl
theorem limitsChecks_j27:((Tryz.prog.make==some Rows.limitsChecksRow.make))=true:=by rw[Tryz.fact27];rfl
theorem limitsChecks_j28:((Rows.limitsChecksRow.kinds==(if Rows.limitsChecksRow.domain.isEmpty then[] else Tryz.f6.params.toList.map fun t=>match Tryz.prog.underlying t with|some (.int k)=>some k|_=>none)))=true:=by kernel_rfl
theorem limitsChecks_j29:((Rows.limitsChecksRow.pinned==Rows.limitsChecksRow.pinnedBy))=true:=by kernel_rfl
theorem limitsChecks_j30:((Rows.limitsChecksRow.veiled==(Tryz.f6.params.toList++Rows.limitsChecksSpec.plain.varTypes prog++Tryz.f6.resultTypes.toList).any (Tryz.prog.veiledRec ·)))=true:=by kernel_rfl
theorem limitsChecks_j31:(Rows.limitsChecksRow.veiledFits prog Tryz.f6.params.toList (Tryz.f6.params.toList++Rows.limitsChecksSpec.plain.varTypes prog++Tryz.f6.resultTypes.toList))=true:=by kernel_rfl
theorem limitsChecks_closed:joinedFacts prog 6 Tryz.f6 Rows.limitsChecksSpec Rows.limitsChecksRow=true:=by
 unfold joinedFacts;exact(and2 (and2 (and2 (and2 (and2 (and2 (and2 (and2 (and2 (and2 (and2 (and2 (and2 (and2 (and2 (and2 (and2 (and2 (and2 (and2 (and2 (and2 (and2 (and2 (and2 (and2 (and2 (and2 (and2 (and2 (and2 limitsChecks_j0 Tryz.fact1) Tryz.fact2) limitsChecks_j3) limitsChecks_j4) limitsChecks_j5) Tryz.fact6) limitsChecks_j7) Tryz.fact8) limitsChecks_j9) limitsChecks_j10) limitsChecks_j11) limitsChecks_j12) limitsChecks_j13) limitsChecks_j14) limitsChecks_j15) limitsChecks_j16) limitsChecks_j17) limitsChecks_j18) limitsChecks_j19) limitsChecks_j20) limitsChecks_j21) limitsChecks_j22) limitsChecks_j23) Tryz.fact24) Tryz.fact25) limitsChecks_j26) limitsChecks_j27) limitsChecks_j28) limitsChecks_j29) limitsChecks_j30) limitsChecks_j31)
theorem limitsChecks_named:Tryz.prog.funcNamed Rows.limitsChecksRow.func=some 6:=by kernel_rfl
theorem limitsChecks_instance:Tryz.f6.isInstance prog Rows.limitsChecksRow.origin Rows.limitsChecksRow.targs:=of_decide_eq_true (by kernel_rfl)
theorem limitsChecks_wrapper:Tryz.f6.isWrapper prog Rows.limitsChecksRow.wrapper Rows.limitsChecksRow.mainSum:=by unfold Func.isWrapper;first|(rw[if_pos (by decide +kernel)];kernel_rfl)|(rw[if_neg (by decide +kernel)];exact⟨rfl,rfl⟩)
theorem limitsChecks_over:Rows.limitsChecksRow.holds Tryz.pinned (OpenSpec.ofChange Rows.limitsChecksSpec) :=
 OpenClaim.holds_of_wide 6 Tryz.f6 rfl rfl rfl rfl rfl rfl rfl ⟨rfl,rfl,rfl,rfl,rfl⟩ rfl rfl rfl rfl rfl limitsChecks_named func6 limitsChecks_closed limitsChecks_instance limitsChecks_wrapper
  (fun os started H enc _=>limitsChecks_lifted os started H enc)
theorem limitsChecks_holds:Rows.LimitsChecksCardSaid :=
 Claim7.holds_tied_plain_at .later [] [.data, .data, .data] true (true, "a314527e42ba43a1a986057f2e4706a40430ee3f422109f3723c19ffe0241afc") false limitsChecks_over (fun _ h => by cases h) (by kernel_rfl) (fun _ h => by cases h) (OpenClaim.laidByTextAt_later rfl rfl BF Bq) rfl ⟨rfl, rfl⟩ Bz rfl
  (fun f fn hf hfn=>by
   obtain rfl : f = 6 := Option.some.inj ((show Tryz.prog.funcNamed "merestone/merestonelaw04.LimitsChecks" = some 6 by kernel_rfl).symm.trans hf) |>.symm;obtain rfl : fn = Tryz.f6 := (Option.some.inj (Tryz.func6.symm.trans hfn)).symm
   exact⟨Bo,fun j t ht=>by
    rw[params6] at ht
    have hm:t∈[27,28]:=by simpa using Array.mem_of_getElem? ht
    simp only[List.mem_cons,List.not_mem_nil,or_false] at hm
    rcases hm with rfl|rfl
    all_goals exact(show Tryz.prog.wantsStandIn _=false by kernel_rfl)⟩)
  (Bu _ rfl)
end Go.Proofs.YtkhemfnlflbniaaGreatDoor
