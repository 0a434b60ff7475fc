/- What the law LimitsRegions needs beyond the base: Cf4, G6a, G6b, E45, G7, G8, E37, G9, K2, G10, Zt, G11, G12, K1, K3, K4, F12, Fr, Frf. No conditions beyond those stated. -/
import Derived.Test.YtkhemfnlflbniaaGreatDoorB08
import Derived.Test.YtkhemfnlflbniaaGreatDoorB07
import Derived.Test.YtkhemfnlflbniaaGreatDoorB06
import Derived.Test.YtkhemfnlflbniaaGreatDoorB05
import Derived.Test.YtkhemfnlflbniaaGreatDoorB01
import Derived.Test.YtkhemfnlflbniaaGreatDoorB04
import Derived.Shelf.Small.Bits
import Derived.Shelf.Small.Wraps
import Derived.Shelf.Strconv.Itoa0
import Derived.Shelf.Sort.Plain
import Derived.Shelf.Slices.Turned
import Derived.Ground.Names2Prog
import Derived.Shelf.Slices.CompactI
import Derived.Shelf.Slices.Cells
import Derived.Shelf.Slices.In.SortNone
import Derived.Test.YtkhemfnlflbniaaGreatDoorProg
import Derived.Test.YtkhemfnlflbniaaGreatDoorB03
import Derived.Test.YtkhemfnlflbniaaGreatDoorB02
import Derived.WalkKit
import Derived.Handy
import Derived.RangeFuncRecord
import Derived.Shelf.Abstract
import Derived.Deep.QuietTactic
import Derived.BigQuiet
import Derived.Laws.CopyOwn
import Derived.WalkSmall
import Derived.RangeFuncNested
import Derived.RangeFuncBound
import Derived.RangeFuncCalls
import Derived.RangeFuncLeaves
import Derived.Shelf.RegionOpen
import Derived.OwnWalkIn
import Derived.TacticsInMore
import Derived.LoopNIn
import Derived.LoopIn
import Derived.Maps.AppendAt
import Derived.Deep.Onto
import Derived.OrdersHeld
import Derived.Deep.LoopGhost
import Derived.Deep.WholeRow
import Derived.Deep.OwnRows
import Derived.StillTailTactics
import Derived.Great.Walk
import Derived.Great.BuildSlice
import Derived.WalkMore
import Derived.Deep.MidRow
import Derived.Deep.RegionHeld3
import Derived.Deep.DeepCutAuto
import Derived.Lib.OwnBridge
import Derived.Lib.SliceRun
import Derived.WalkSpells
import Derived.Deep.RegionWith
import Derived.Lib.AppendZerosOnto
import Derived.Deep.CutBlock
import Derived.IntWalk
import Derived.Test.YtkhemfnlflbniaaGreatDoorB10
import Derived.Test.YtkhemfnlflbniaaGreatDoorB09
import Derived.Deep.Cut
import Derived.Laws.Rows
import Derived.Laws.Tables
import Derived.Test.YtkhemfnlflbniaaGreatDoorB12
import Derived.Test.YtkhemfnlflbniaaGreatDoorB11
import Derived.Laws.StructEq
import Derived.OrdersIn
import Derived.RangeFuncBox
import Derived.Test.YtkhemfnlflbniaaGreatDoorB15
import Derived.Test.YtkhemfnlflbniaaGreatDoorB14
import Derived.Test.YtkhemfnlflbniaaGreatDoorB13
import Derived.Test.YtkhemfnlflbniaaGreatDoorRows
import Derived.ProofKit
import Derived.OpenShut
import Derived.Carry
import Derived.Lib.SmallJoins
import Derived.Deep.Slices
import Derived.ChangeMaps5
import Derived.Test.YtkhemfnlflbniaaGreatDoorXLimitsRegionsa
set_option maxRecDepth 100000
set_option maxHeartbeats 8000000
namespace Go.Proofs.YtkhemfnlflbniaaGreatDoor
open Go Go.RowKit Go.Shelf Go.Proofs.Tryz
def Fld.nm (F:Fld) (k:Nat):List ByteArray:=F.names.getD k []
theorem Fld.nm_get (F:Fld) {k:Nat} (h:k<F.names.length):F.names[k]=F.nm k:=by unfold Fld.nm;simp[h]
theorem refNames_any (w:World) (x:FV) (F:Fld) (k:Nat) (hk:k<3) (h1:F.sts.length≤4000) (h2:F.lms.length≤4000) (h3:1≤F.lms.length) (h4:F.prs.length≤4000) (h:FldAt w x F) :
 Calls prog 162 #[x.val F,.int .i64 (k:Int)] w (RNamesPost w (F.nm k)):=by
 have hk3:k=0∨k=1∨k=2:=by omega
 rcases hk3 with rfl|rfl|rfl
 ·exact refNames0_any w x F h1 h
 ·exact refNames1_any w x F h2 h3 h
 ·exact refNames2_any w x F h4 h
theorem nm_len (F:Fld) (k:Nat) (h1:F.sts.length≤4000) (h2:F.lms.length≤4000) (h4:F.prs.length≤4000):(F.nm k).length≤4000:=by
 unfold Fld.nm Fld.names
 match k with
 | 0=>simpa using h1
 | 1=>simpa using h2
 | 2=>simpa using h4
 | _+3=>simp
theorem Fld.ordB_eq (F:Fld):F.chkC=if F.ordB=false then 30 else 0:=by
 unfold Fld.chkC Fld.ordB
 cases eQ F.sts F.sts.length<;>cases eV F.prs F.prs.length<;>rfl
theorem refCheckField_any (w:World) (x:FV) (F:Fld) (h:FldAt w x F):Calls prog 89 #[x.val F] w fun e w'=>e=.returned (.int .i64 F.check)∧Below w.heap.size w w':=by
 have H:=aa h;obtain⟨Q,hQ⟩:=ag F.check;rw[hQ];rw[Fld.check_eq] at hQ;have HN0:=aa (fun(W:World) (hb:Below w.heap.size w W) (k:Nat) (hk:k<3) (g1:F.sts.length≤4000) (g2:F.lms.length≤4000) (g3:1≤F.lms.length) (g4:F.prs.length≤4000)=>refNames_any W x F k hk g1 g2 g3 g4 (H.out.below hb));have HO0:=aa (fun(W:World) (hb:Below w.heap.size w W) (g1:F.sts.length≤1000) (g2:F.prs.length≤1000) (g3:∀p∈F.prs,p.small)=>ordered_any W x F g1 g2 g3 (H.out.below hb));obtain⟨aS,cS,aL,cL,aP,cP,aV,cV⟩:=x;obtain⟨st,lm,pr,vr⟩:=F
 unfold FV.val FV.arr at *
 dsimp only at hQ HN0 HO0 ⊢;clear h;have b0:Below w.heap.size w (w.alloc (.cells #[.slice aS st.length cS,.slice aL lm.length cL,.slice aP pr.length cP,.slice aV vr.length cV] 27)):=aD;have B0:=aa b0;clear b0
 by_cases h2:12<st.length∨10<lm.length∨40<pr.length
 ·obtain rfl:(2:Int)=Q:=by rw[if_pos h2] at hQ;exact hQ
  clear hQ H HN0 HO0;go_enter func89,ntmps89;go_wp2_with fail
  all_goals first|(exfalso;omega)|(go_ret;exact⟨rfl,B0.out⟩)
 rw[if_neg h2] at hQ
 have s1:st.length≤12:=by omega
 have s2:lm.length≤10:=by omega
 have s3:pr.length≤40:=by omega
 have d1:decide ((st.length:Int)>12)=false:=by simp;omega
 have d2:decide ((lm.length:Int)>10)=false:=by simp;omega
 have d3:decide ((pr.length:Int)>40)=false:=by simp;omega
 clear h2
 by_cases h5:st.length<2∨lm.length<1
 ·obtain rfl:(5:Int)=Q:=by rw[if_pos h5] at hQ;exact hQ
  clear hQ H HN0 HO0;go_enter func89,ntmps89;go_wp2_with fail
  all_goals first|(exfalso;omega)|(go_ret;exact⟨rfl,B0.out⟩)
 rw[if_neg h5] at hQ
 have s4:2≤st.length:=by omega
 have s5:1≤lm.length:=by omega
 have d4:decide ((st.length:Int)<2)=false:=by simp;omega
 have d5:decide ((lm.length:Int)<1)=false:=by simp;omega
 clear h5;have hvr:=refVrns_any (w.alloc (.cells #[.slice aS st.length cS,.slice aL lm.length cL,.slice aP pr.length cP,.slice aV vr.length cV] 27)) aV cV vr (by have:=H.out.lv;dsimp only at this;omega) (H.out.vr.alloc _);obtain⟨c,hc⟩:=ag (bz vr);rw[hc] at hvr hQ;have HVR:=aa hvr;clear hvr hc
 by_cases hz:c≠0
 ·obtain rfl:c=Q:=by rw[if_pos hz] at hQ;exact hQ
  have hzb:(c != 0)=true:=by simpa using hz
  clear hQ hz HN0 HO0 H;go_enter func89,ntmps89;go_wp2_with fail;refine HVR.out.mono ?_;rintro e w1 ⟨rfl,hb1⟩;have B1:=bU B0 hb1;clear hb1;go_wp2_with fail;go_ret;exact⟨rfl,B1.out⟩
 obtain rfl:c=0:=by omega
 have HQ:Hid ((Fld.mk st lm pr vr).chkA=Q):=aa (by simpa using hQ);clear hQ hz;have HN:=aa (fun(W:World) (hb:Below w.heap.size w W) (k:Nat) (hk:k<3)=>HN0.out W hb k hk (by omega) (by omega) (by omega) (by omega));have HNL:=aa (fun(k:Nat)=>nm_len (Fld.mk st lm pr vr) k (by show st.length≤4000;omega) (by show lm.length≤4000;omega) (by show pr.length≤4000;omega))
 have HNM:=aa (fun(k:Nat) (hk:k<3)=>show ∀s∈(Fld.mk st lm pr vr).nm k,s.size≤9223372036854775807 by
  rw[←Fld.nm_get _ (show k<(Fld.mk st lm pr vr).names.length from hk)]
  exact H.out.nm _ (List.getElem_mem _))
 clear HN0;go_enter func89,ntmps89;go_wp2_with fail;refine HVR.out.mono ?_;rintro e w1 ⟨rfl,hb1⟩;have B1:=bU B0 hb1;have X1:=aa (ac hb1 (by simp) (heap_alloc_new w (.cells #[.slice aS st.length cS,.slice aL lm.length cL,.slice aP pr.length cP,.slice aV vr.length cV] 27)));have l1:=lt_of_block X1.out;clear hb1 d1 d2 d3 d4 d5 HVR;go_wp2_with fail
 go_loopw [4] (fun i wr=>∃k:Nat,k≤3∧i=.int .i64 k∧Hid (((Fld.mk st lm pr vr).names.take k).any (fun l=>l.any fun s=>!bI s)=false)∧Hid (Below w1.heap.size w1 wr)) (fun i _=>3-(intOf i).toNat)
 case atStart=>exact⟨0,by omega,rfl,aa rfl,aa (Below.refl _ _)⟩
 case round =>
  obtain⟨k,hk,rfl,HA,HB⟩:=hrel;obtain⟨w2,rfl⟩:∃x:World,x=wr:=⟨wr,rfl⟩;have B2:=bU B1 HB.out;have X2:=aa (ac HB.out l1 X1.out);have l2:=lt_of_block X2.out;have c0:w2.cell? ⟨w.heap.size,0,none⟩=some (.slice aS st.length cS):=bu X2.out rfl;have c1:w2.cell? ⟨w.heap.size,1,none⟩=some (.slice aL lm.length cL):=bu X2.out rfl;have c2:w2.cell? ⟨w.heap.size,2,none⟩=some (.slice aP pr.length cP):=bu X2.out rfl;have c3:w2.cell? ⟨w.heap.size,3,none⟩=some (.slice aV vr.length cV):=bu X2.out rfl
  by_cases hlt:k<3
  ·have hkd:decide ((k:Int)<3)=true:=by simp;omega
   have HGE:=aa (Fld.nm_get (Fld.mk st lm pr vr) (k:=k) hlt);have HLT:=aa hlt;have HL4:=aa (HNL.out k);have HM4:=aa (HNM.out k hlt);have HC:=aa (HN.out w2 B2.out k hlt);obtain⟨L,hL⟩:=ag ((Fld.mk st lm pr vr).nm k);rw[hL] at HGE HL4 HM4 HC;clear hL;go_wp2_with fail;refine HC.out.mono ?_;rintro e w3 ⟨⟨o,cc,rfl,hs,hc1,hc2⟩,hb3⟩;have HS:=aa hs;have HB3:=bU HB hb3;have B3:=bU B1 HB3.out;have hl4:=HL4.out;clear hs hb3 HC c0 c1 c2 c3 hkd;go_wp2_with fail
   go_loopw [6] (fun i wr=>∃j:Nat,j≤L.length∧i=.int .i64 j∧Hid ((L.take j).any (fun s=>!bI s)=false)∧wr=w3) (fun i _=>L.length-(intOf i).toNat)
   case atStart=>exact⟨0,Nat.zero_le _,rfl,aa rfl,rfl⟩
   case round =>
    obtain⟨j,hj,rfl,HA2,hw⟩:=hrel;obtain rfl:=hw;obtain⟨w3,rfl⟩:∃x:World,x=wr:=⟨wr,rfl⟩
    by_cases hjl:j<L.length
    ·obtain⟨b,off,rfl,hbl,hcl⟩:=StrsAt.cell HS.out hjl
     have hsz:=HM4.out L[j] (List.getElem_mem hjl);obtain⟨y,hy⟩:=ag (L[j]);rw[hy] at hcl hsz;have HJL:=aa hjl
     have hrn:=fun W=>refName_any y W hsz
     cases hi:bI y with
     | false =>
       rw[hi] at hrn;have HRN:=aa hrn
       obtain rfl:(4:Int)=Q:=by
        rw[←HQ.out];unfold Fld.chkA
        rw[if_pos (gX (l:=(Fld.mk st lm pr vr).names) (k:=k) (p:=fun l=>l.any fun s=>!bI s) HLT.out (by simp only[HGE.out];exact gX (k:=j) (p:=fun s=>!bI s) hjl (by rw[hy,hi];rfl)))]
       clear hy hi hrn;go_wp2_with fail;refine(HRN.out _).mono ?_;rintro e w5 ⟨rfl,rfl⟩;go_wp2_with fail;go_ret;exact⟨rfl,B3.out⟩
     | true =>
       rw[hi] at hrn;have HRN:=aa hrn;have HA3:=aa (bR (p:=fun s=>!bI s) hjl HA2.out (by rw[hy,hi];rfl));clear hy hi hrn;go_wp2_with fail;refine(HRN.out _).mono ?_;rintro e w5 ⟨rfl,rfl⟩;go_wp2_with fail;go_roundw
       case rel=>exact⟨j+1,HJL.out,by go_num,HA3,(by first|trivial|rfl)⟩
       case measure=>have:=HJL.out;simp[intOf];omega
    ·obtain rfl:j=L.length:=by omega
     have hn:=cD (Nat.le_refl _) HA2.out;have HA3:=aa (bR (l:=(Fld.mk st lm pr vr).names) (p:=fun l=>l.any fun s=>!bI s) (k:=k) HLT.out HA.out (by simp only[HGE.out];exact hn));clear hn;go_wp2_with fail;go_roundw
     case rel=>exact⟨k+1,HLT.out,by go_num,HA3,HB3⟩
     case measure=>have:=HLT.out;simp[intOf];omega
  ·obtain rfl : k = 3 := by omega
   have hn:=cD (l:=(Fld.mk st lm pr vr).names) (Nat.le_refl 3) HA.out;have HQ2:Hid ((if(Fld.mk st lm pr vr).names.any (fun l=>cG l l.length) then 6 else(Fld.mk st lm pr vr).chkB)=Q):=aa (by rw[←HQ.out];unfold Fld.chkA;rw[hn];rfl);clear hn HQ HA;go_wp2_with fail;clear hk c0 c1 c2 c3
   go_loopw [7] (fun i wr=>∃k:Nat,k≤3∧i=.int .i64 k∧Hid (((Fld.mk st lm pr vr).names.take k).any (fun l=>cG l l.length)=false)∧Hid (Below w2.heap.size w2 wr)) (fun i _=>3-(intOf i).toNat)
   case atStart=>exact⟨0,by omega,rfl,aa rfl,aa (Below.refl _ _)⟩
   case round =>
    obtain⟨k,hk,rfl,HA,HB⟩:=hrel;obtain⟨w3,rfl⟩:∃x:World,x=wr:=⟨wr,rfl⟩;have B3:=bU B2 HB.out;have X3:=aa (ac HB.out l2 X2.out);have l3:=lt_of_block X3.out;have c0:w3.cell? ⟨w.heap.size,0,none⟩=some (.slice aS st.length cS):=bu X3.out rfl;have c1:w3.cell? ⟨w.heap.size,1,none⟩=some (.slice aL lm.length cL):=bu X3.out rfl;have c2:w3.cell? ⟨w.heap.size,2,none⟩=some (.slice aP pr.length cP):=bu X3.out rfl;have c3:w3.cell? ⟨w.heap.size,3,none⟩=some (.slice aV vr.length cV):=bu X3.out rfl
    by_cases hlt:k<3
    ·have hkd:decide ((k:Int)<3)=true:=by simp;omega
     have HGE:=aa (Fld.nm_get (Fld.mk st lm pr vr) (k:=k) hlt);have HLT:=aa hlt;have HL4:=aa (HNL.out k);have HC:=aa (HN.out w3 B3.out k hlt);obtain⟨L,hL⟩:=ag ((Fld.mk st lm pr vr).nm k);rw[hL] at HGE HL4 HC;clear hL;go_wp2_with fail;refine HC.out.mono ?_;rintro e w4 ⟨⟨o,cc,rfl,hs,hc1,hc2⟩,hb4⟩;have HS:=aa hs;have HB4:=bU HB hb4;have B4:=bU B2 HB4.out;have hl4:=HL4.out;clear hs hb4 HC c0 c1 c2 c3 hkd;go_wp2_with fail
     go_loopw [9] (fun i wr=>∃j:Nat,j≤L.length∧i=.int .i64 j∧Hid (cG L j=false)∧wr=w4) (fun i _=>L.length-(intOf i).toNat)
     case atStart=>exact⟨0,Nat.zero_le _,rfl,aa rfl,rfl⟩
     case round =>
      obtain⟨j,hj,rfl,HA2,hw⟩:=hrel;obtain rfl:=hw;obtain⟨w4,rfl⟩:∃x:World,x=wr:=⟨wr,rfl⟩
      by_cases hjl:j<L.length
      ·obtain⟨b,off,rfl,hbl,hcl⟩:=StrsAt.cell HS.out hjl
       have hrp:=fun cap=>refplace_any w4 (some ⟨b,off,none⟩) cap L j hjl hl4 HS.out
       have hfl:=fun q=>firstAt_lt (l:=L) (q:=q) hjl
       have hts:=rA L j;rw[show L.getD j default=L[j] from by simp[hjl]] at hts;obtain⟨y,hy⟩:=ag (L[j]);rw[hy] at hcl hts;simp only[hy] at hrp hfl;have HFL:=aa hfl;have HRP:=aa hrp;have HTS:=aa hts;have HJL:=aa hjl;clear hy hrp hfl hts;obtain⟨r,hr⟩:=ag ((L.take j).any fun y_1=>decide (y_1=y));rw[hr] at HFL HTS;clear hr;go_wp2_with fail;refine(HRP.out _).mono ?_;rintro e w5 ⟨⟨q,rfl,hF⟩,rfl⟩;have hqd:=HFL.out q hF
       have hqd':decide (q<j)=r:=by rw[←hqd];simp
       clear hF
       cases r with
       | true =>
         obtain rfl:(6:Int)=Q:=by
          rw[←HQ2.out];rw[if_pos (gX (l:=(Fld.mk st lm pr vr).names) (k:=k) (p:=fun l=>cG l l.length) HLT.out (by simp only[HGE.out];exact qu (k:=j+1) HJL.out (by rw[HTS.out];simp)))]
         go_wp2_with fail;go_ret;exact⟨rfl,B4.out⟩
       | false =>
         have HA3:Hid (cG L (j+1)=false):=aa (by rw[HTS.out,HA2.out];rfl);go_wp2_with fail;go_roundw
         case rel=>exact⟨j+1,HJL.out,by go_num,HA3,(by first|trivial|rfl)⟩
         case measure=>have:=HJL.out;simp[intOf];omega
      ·obtain rfl:j=L.length:=by omega
       have HA3:=aa (bR (l:=(Fld.mk st lm pr vr).names) (p:=fun l=>cG l l.length) (k:=k) HLT.out HA.out (by simp only[HGE.out];exact HA2.out));go_wp2_with fail;go_roundw
       case rel=>first|exact⟨k+1,HLT.out,by go_num,HA3,HB4⟩|((repeat apply Exists.intro);exact⟨⟨k+1,HLT.out,by go_num,HA3,HB4⟩,rfl⟩)
       case measure=>have:=HLT.out;simp[intOf];omega
    ·obtain rfl:k=3:=by omega
     have hn:=cD (l:=(Fld.mk st lm pr vr).names) (Nat.le_refl 3) HA.out;have HQ3:Hid ((Fld.mk st lm pr vr).chkB=Q):=aa (by rw[←HQ2.out,hn];rfl);clear hn HQ2 HA;go_wp2_with fail;clear hk c0 c1 c2 c3 HNL HNM HN
     go_loopw [10] (fun i wr=>∃k:Nat,k≤st.length∧i=.int .i64 k∧Hid ((st.take k).any (fun s:Sta=>!bm s.x 0 100000)=false)∧wr=w3) (fun i _=>st.length-(intOf i).toNat)
     case atStart=>exact⟨0,Nat.zero_le _,rfl,aa rfl,rfl⟩
     case round =>
      obtain⟨k,hk,rfl,HA,hw⟩:=hrel;obtain rfl:=hw;obtain⟨w3,rfl⟩:∃x:World,x=wr:=⟨wr,rfl⟩;have c0:w3.cell? ⟨w.heap.size,0,none⟩=some (.slice aS st.length cS):=bu X3.out rfl
      by_cases hlt:k<st.length
      ·obtain⟨b,off,rfl,hbl,hcc⟩:=RecsAt.at H.out.st hlt
       have e1:=hcc 1 (by omega);rw[←B3.out.cell hbl] at e1;obtain⟨y,hy⟩:=ag (st[k]);dsimp only at e1;rw[hy] at e1;simp only[Sta.cells,List.getElem?_cons_zero,List.getElem?_cons_succ] at e1;have HLT:=aa hlt;have HY:=aa hy;clear hy hcc
       have hw:=fun W=>within3_any y.x 0 100000 W
       cases hi:bm y.x 0 100000 with
       | false =>
         rw[hi] at hw;have HI:=aa hw
         obtain rfl:(1:Int)=Q:=by
          rw[←HQ3.out];unfold Fld.chkB
          rw[if_pos (gX (l:=st) (p:=fun s=>!bm s.x 0 100000) HLT.out (by rw[HY.out,hi];rfl))]
         clear hi hw;go_wp2_with fail;refine(HI.out _).mono ?_;rintro e w5 ⟨rfl,rfl⟩;go_wp2_with fail;go_ret;exact⟨rfl,B3.out⟩
       | true =>
         rw[hi] at hw;have HI:=aa hw;have HA2:=aa (bR (p:=fun s:Sta=>!bm s.x 0 100000) HLT.out HA.out (by rw[HY.out,hi];rfl));clear hi hw;go_wp2_with fail;refine(HI.out _).mono ?_;rintro e w5 ⟨rfl,rfl⟩;go_wp2_with fail;go_roundw
         case rel=>first|exact⟨k+1,HLT.out,by go_num,HA2,(by first|trivial|rfl)⟩|((repeat apply Exists.intro);exact⟨⟨k+1,HLT.out,by go_num,HA2,(by first|trivial|rfl)⟩,rfl⟩)
         case measure=>have:=HLT.out;simp[intOf];omega
      ·obtain rfl:k=st.length:=by omega
       have hn:=cD (Nat.le_refl _) HA.out;have HQ4:Hid ((if pr.any (fun p=>!cH lm.length st.length p) then 1 else(Fld.mk st lm pr vr).chkC)=Q):=aa (by have h3:=HQ3.out;unfold Fld.chkB at h3;dsimp only at h3;rw[hn,if_neg (by simp)] at h3;exact h3);clear hn HQ3 HA;go_wp2_with fail;clear c0 hk
       go_loopw [11] (fun i wr=>∃k:Nat,k≤pr.length∧i=.int .i64 k∧Hid ((pr.take k).any (fun p:Par=>!cH lm.length st.length p)=false)∧Hid (Below w3.heap.size w3 wr)) (fun i _=>pr.length-(intOf i).toNat)
       case atStart=>exact⟨0,Nat.zero_le _,rfl,aa rfl,aa (Below.refl _ _)⟩
       case round =>
        obtain⟨k,hk,rfl,HA,HB⟩:=hrel;obtain⟨w4,rfl⟩:∃x:World,x=wr:=⟨wr,rfl⟩;have B4:=bU B3 HB.out;have X4:=aa (ac HB.out l3 X3.out);have l4:=lt_of_block X4.out;have g0:w4.cell? ⟨w.heap.size,0,none⟩=some (.slice aS st.length cS):=bu X4.out rfl;have g1:w4.cell? ⟨w.heap.size,1,none⟩=some (.slice aL lm.length cL):=bu X4.out rfl;have g2:w4.cell? ⟨w.heap.size,2,none⟩=some (.slice aP pr.length cP):=bu X4.out rfl;have g3:w4.cell? ⟨w.heap.size,3,none⟩=some (.slice aV vr.length cV):=bu X4.out rfl
        by_cases hlt:k<pr.length
        ·obtain⟨b,off,rfl,hbl,hcc⟩:=RecsAt.at H.out.pr hlt
         have e0:=hcc 0 (by omega);have e1:=hcc 1 (by omega);have e2:=hcc 2 (by omega);have e3:=hcc 3 (by omega);rw[←B4.out.cell hbl,Nat.add_zero] at e0;rw[←B4.out.cell hbl] at e1 e2 e3;obtain⟨y,hy⟩:=ag (pr[k]);dsimp only at e0 e1 e2 e3;rw[hy] at e0 e1 e2 e3;simp only[Par.cells,List.getElem?_cons_zero,List.getElem?_cons_succ] at e0 e1 e2 e3;have HLT:=aa hlt;have HY:=aa hy;clear hy hcc;have HPR:Hid (cH lm.length st.length y=(bm y.south 0 ((lm.length:Int)-2)&&bm y.wst 0 ((st.length:Int)-1)&&bm y.est 0 ((st.length:Int)-1))):=aa rfl;have HBF:=aa (show Below w.heap.size w (w4.alloc (.cells #[.string y.name,.int .i64 y.south,.int .i64 y.wst,.int .i64 y.est] 133)) from B4.out.alloc B4.out.size _);have HBR:=aa (show Below w3.heap.size w3 (w4.alloc (.cells #[.string y.name,.int .i64 y.south,.int .i64 y.wst,.int .i64 y.est] 133)) from HB.out.alloc HB.out.size _);obtain⟨ys,y0,y1,y2⟩:=y;dsimp only at e0 e1 e2 e3 HPR HBF HBR;have v1:IntKind.i64.wrap ((lm.length:Int)-2)=(lm.length:Int)-2:=IntWalk.i64_in _ (by omega);have v2:IntKind.i64.wrap ((st.length:Int)-1)=(st.length:Int)-1:=IntWalk.i64_in _ (by omega)
         have q1:=fun W=>within3_any y0 0 ((lm.length:Int)-2) W
         have q2:=fun W=>within3_any y1 0 ((st.length:Int)-1) W
         have q3:=fun W=>within3_any y2 0 ((st.length:Int)-1) W
         cases hi1:bm y0 0 ((lm.length:Int)-2) with
         | false =>
           rw[hi1] at q1;have HI1:=aa q1
           obtain rfl:(1:Int)=Q:=by
            rw[←HQ4.out,if_pos (gX (l:=pr) (p:=fun p:Par=>!cH lm.length st.length p) HLT.out (by rw[HY.out,HPR.out,hi1];rfl))]
           clear hi1 q1 q2 q3;go_wp2_with fail;refine(HI1.out _).mono ?_;rintro e w6 ⟨rfl,rfl⟩;go_wp2_with fail;go_ret;exact⟨rfl,HBF.out⟩
         | true =>
           rw[hi1] at q1;have HI1:=aa q1
           cases hi2:bm y1 0 ((st.length:Int)-1) with
           | false =>
             rw[hi2] at q2;have HI2:=aa q2
             obtain rfl:(1:Int)=Q:=by
              rw[←HQ4.out,if_pos (gX (l:=pr) (p:=fun p:Par=>!cH lm.length st.length p) HLT.out (by rw[HY.out,HPR.out,hi1,hi2];rfl))]
             clear hi1 hi2 q1 q2 q3;go_wp2_with fail;refine(HI1.out _).mono ?_;rintro e w6 ⟨rfl,rfl⟩;go_wp2_with fail;refine(HI2.out _).mono ?_;rintro e w6 ⟨rfl,rfl⟩;go_wp2_with fail;go_ret;exact⟨rfl,HBF.out⟩
           | true =>
             rw[hi2] at q2;have HI2:=aa q2
             cases hi3:bm y2 0 ((st.length:Int)-1) with
             | false =>
               rw[hi3] at q3;have HI3:=aa q3
               obtain rfl:(1:Int)=Q:=by
                rw[←HQ4.out,if_pos (gX (l:=pr) (p:=fun p:Par=>!cH lm.length st.length p) HLT.out (by rw[HY.out,HPR.out,hi1,hi2,hi3];rfl))]
               clear hi1 hi2 hi3 q1 q2 q3;go_wp2_with fail;refine(HI1.out _).mono ?_;rintro e w6 ⟨rfl,rfl⟩;go_wp2_with fail;refine(HI2.out _).mono ?_;rintro e w6 ⟨rfl,rfl⟩;go_wp2_with fail;refine(HI3.out _).mono ?_;rintro e w6 ⟨rfl,rfl⟩;go_wp2_with fail;go_ret;exact⟨rfl,HBF.out⟩
             | true =>
               rw[hi3] at q3;have HI3:=aa q3;have HA2:=aa (bR (p:=fun p:Par=>!cH lm.length st.length p) HLT.out HA.out (by rw[HY.out,HPR.out,hi1,hi2,hi3];rfl));clear hi1 hi2 hi3 q1 q2 q3;go_wp2_with fail;refine(HI1.out _).mono ?_;rintro e w6 ⟨rfl,rfl⟩;go_wp2_with fail;refine(HI2.out _).mono ?_;rintro e w6 ⟨rfl,rfl⟩;go_wp2_with fail;refine(HI3.out _).mono ?_;rintro e w6 ⟨rfl,rfl⟩;go_wp2_with fail;go_roundw
               case rel=>first|exact⟨k+1,HLT.out,by go_num,HA2,HBR⟩|((repeat apply Exists.intro);exact⟨⟨k+1,HLT.out,by go_num,HA2,HBR⟩,rfl⟩)
               case measure=>have:=HLT.out;simp[intOf];omega
        ·obtain rfl:k=pr.length:=by omega
         have hn:=cD (Nat.le_refl _) HA.out
         have hsm:=fun p (hp:p∈pr)=>oy (nL:=lm.length) (nS:=st.length) (p:=p) (by have:=hn;rw[List.any_eq_false] at this;simpa using this p hp) (by omega) (by omega)
         have HO:=aa (HO0.out w4 B4.out (by omega) (by omega) hsm);have HQ5:Hid ((if(Fld.mk st lm pr vr).ordB=false then 30 else 0)=Q):=aa (by have h3:=HQ4.out;rw[hn,if_neg (by simp),Fld.ordB_eq] at h3;exact h3);clear hn hsm HO0 HQ4;obtain⟨r,hr⟩:=ag ((Fld.mk st lm pr vr).ordB);rw[hr] at HO HQ5;clear hr
         cases r with
         | false =>
           obtain rfl:(30:Int)=Q:=by rw[←HQ5.out];rfl
           go_wp2_with fail;refine HO.out.mono ?_;rintro e w6 ⟨rfl,hb6⟩;have B6:=bU B4 hb6;clear hb6;go_wp2_with fail;go_ret;exact⟨rfl,B6.out⟩
         | true =>
           obtain rfl:(0:Int)=Q:=by rw[←HQ5.out];rfl
           go_wp2_with fail;refine HO.out.mono ?_;rintro e w6 ⟨rfl,hb6⟩;have B6:=bU B4 hb6;clear hb6;go_wp2_with fail;go_ret;exact⟨rfl,B6.out⟩
theorem guard46 (op:BinOp) (x y:Operand) (xs ys:Array Value) (w:World):(eqGuard op 46 x y (.agg xs) (.agg ys)).run prog w=.ok () w:=run_eqGuard_agg w op 46 x y xs ys (by kernel_rfl)
theorem eql46b (a b:Crs) (w:World):(binOp .eql 46 (.agg a.vals) (.agg b.vals)).run prog w=.ok (.bool (decide (a=b))) w:=by
 rw[run_eql_struct,BA (d:=9997)]
 rfl
theorem rpoint_any (w:World) (x:FV) (F:Fld) (l s:Int) (hs:F.sts.length≤1000) (h0:0≤l) (h1:l≤1000) (h2:0≤s) (h3:s≤1000) :
 Calls prog 168 #[x.val F,.int .i64 l,.int .i64 s] w fun e w'=>e=.returned (.int .i64 (eE F l s))∧Below w.heap.size w w':=by
 obtain⟨m1,m2⟩:=vM hs h0 h1 h2 h3;unfold eE FV.val FV.arr;go_enter func168,ntmps168;go_wp2_with fail;go_ret;exact⟨rfl,by go_grown⟩
theorem rcorner_any (w:World) (x:FV) (F:Fld) (l s:Int) (hl:F.lms.length≤4000) (hs:F.sts.length≤4000) :
 Calls prog 219 #[x.val F,.int .i64 l,.int .i64 s] w fun e w'=>e=.returned (.bool (bZ F l&&aY F s))∧Below w.heap.size w w':=by
 have H1:=aa (fun W=>within3_any l 0 ((F.lms.length:Int)-1) W);have H2:=aa (fun W=>within3_any s 0 ((F.sts.length:Int)-1) W);unfold bZ aY FV.val FV.arr;obtain⟨p,hp⟩:=ag (bm l 0 ((F.lms.length:Int)-1));obtain⟨q,hq⟩:=ag (bm s 0 ((F.sts.length:Int)-1));rw[hp] at H1 ⊢;rw[hq] at H2 ⊢;clear hp hq;cases p
 rotate_left
 all_goals
  go_enter func219,ntmps219;go_wp2_with (go_at_call 165;(first|with_reducible refine(H1.out _).mono ?_|with_reducible refine(H2.out _).mono ?_);rintro e w1 ⟨rfl,rfl⟩);go_ret;exact⟨by simp,by go_grown⟩
theorem two_boxes (w:World) (x:FV) (F:Fld) (c:Cll):Below w.heap.size w ((w.alloc (.cells (x.arr F) 27)).alloc (.cells c.vals 48))∧Kb [(w.heap.size+1,.cells c.vals 48),(w.heap.size,.cells (x.arr F) 27)] ((w.alloc (.cells (x.arr F) 27)).alloc (.cells c.vals 48)) :=
 ⟨(aD).alloc (by simp) _,by
   have:=Kb.alloc (o:=.cells c.vals 48) (Kb.alloc (W:=w) (o:=.cells (x.arr F) 27) (L:=[]) trivial)
   simpa using this⟩
theorem rrun_any (w:World) (x:FV) (F:Fld) (c:Cll) (hF:F.check=0) (h:FldAt w x F) (h1:aY F c.fr=true) (h2:aY F c.tt=true) :
 Calls prog 239 #[x.val F,c.val] w fun e w'=>e=.returned (.int .i64 (oX F c))∧Below w.heap.size w w':=by
 have hb:=z7 hF h1 h2;have hl:=(bb hF).1;obtain⟨w0,hw0⟩:∃W,W=(w.alloc (.cells (x.arr F) 27)).alloc (.cells c.vals 48):=⟨_,rfl⟩;have B0:=aa (hw0▸(two_boxes w x F c).1);have X0:=aa (hw0▸(two_boxes w x F c).2);have kc:=ak X0.out.1;have kf9Q:=ak X0.out.2.1;have h0:FldAt w0 x F:=h.below B0.out;obtain⟨n,b,off,e1,hn,e2,hbb,c1⟩:=zH h0 h1;obtain⟨m,b',off',e1',hm,e2',_,c2⟩:=zH h0 h2;rw[e2] at e2';cases e2';unfold oX at hb ⊢;obtain⟨X,hX⟩:=ag ((F.sts.getD c.fr.toNat js).x);obtain⟨Y,hY⟩:=ag ((F.sts.getD c.tt.toNat js).x);rw[hX] at hb c1 ⊢;rw[hY] at hb c2 ⊢;unfold Cll.val;unfold FV.arr at kf9Q;unfold Cll.vals at kc;rw[e1,e1'] at kc;rw[e2] at kf9Q;have kw:IntKind.i64.wrap (Y-X)=Y-X:=IntWalk.i64_in _ (by omega)
 have d1:decide ((n:Int)<(F.sts.length:Int))=true:=by simp;omega
 have d2:decide ((m:Int)<(F.sts.length:Int))=true:=by simp;omega
 clear h h0 hX hY h1 h2 e1 e1' e2 hF;go_enter func239,ntmps239;go_upto_region 1 with fail;unfold FV.val;rw[←hw0];clear hw0
 go_quiet (fail)
 go_wp2_with fail;go_ret;exact⟨rfl,B0.out.trans (aA _ _)⟩
theorem rpair_any (w:World) (p q lo hi r:Int) (hlo:-1000000≤lo∧lo≤1000000) :
 Calls prog 237 #[.int .i64 p,.int .i64 q,.int .i64 lo,.int .i64 hi,.int .i64 r] w fun e w'=>e=.returned (.slice (some ⟨w.heap.size,0,none⟩) 2 2)∧w'=w.alloc (.cells (bh (eG p q lo hi r)).toArray 65):=by
 go_enter func237,ntmps237;go_wp2_with (refine Great.wpList_buildSliceTo rfl 59 65 2 _ rfl _ rfl _ rfl underlying59 #[.int .i64 p,.int .i64 q,.int .i64 hi,.int .i64 r,.int .i64 q,.int .i64 p,.int .i64 (-lo),.int .i64 r] (by simp[Act.eval];kernel_rfl) ?_);go_ret;exact⟨rfl,rfl⟩
theorem rtable_any (w:World) (x:FV) (F:Fld) (c:Cll) (hl:F.lms.length≤4000) (hs:F.sts.length≤4000) (hk:0≤c.kind∧c.kind≤255) :
 Calls prog 277 #[x.val F,c.val] w fun e w'=>e=.returned (.bool (tableR F c))∧Below w.heap.size w w':=by
 obtain⟨w0,hw0⟩:∃W,W=(w.alloc (.cells (x.arr F) 27)).alloc (.cells c.vals 48):=⟨_,rfl⟩;have B0:=aa (hw0▸(two_boxes w x F c).1);have X0:=aa (hw0▸(two_boxes w x F c).2);have HC:=aa (fun W=>rcorner_any W x F c.limit c.fr hl hs);have HE:=aa (fun W=>within3_any c.er 0 100000 W);have HS1:=aa (fun W=>within3_any c.sz 0 100000 W);have HS2:=aa (fun W=>within3_any c.sz (-100000) 100000 W);have HT:=aa (fun W=>within3_any c.tt 0 ((F.sts.length:Int)-1) W);obtain⟨R,hR⟩:=ag (tableR F c);rw[hR];unfold tableR at hR;obtain⟨pc9Q,hpc⟩:=ag (bZ F c.limit&&aY F c.fr);obtain⟨pe,hpe⟩:=ag (bm c.er 0 100000);obtain⟨s1,hs1⟩:=ag (bm c.sz 0 100000);obtain⟨s2,hs2⟩:=ag (bm c.sz (-100000) 100000);obtain⟨pt,hpt⟩:=ag (bm c.tt 0 ((F.sts.length:Int)-1));rw[hpc] at HC hR;rw[hpe] at HE hR;rw[hs1] at HS1 hR;rw[hs2] at HS2 hR;rw[hpt] at HT hR
 have XE:=fun(W:World)=>eql46b c.crs crs0 W
 have XG:=fun(op:BinOp) (x y:Operand) (xs ys:Array Value) (W:World)=>guard46 op x y xs ys W
 obtain⟨q,hq⟩:=ag (decide (c.crs=crs0));rw[hq] at hR XE;obtain⟨oth,hoth⟩:=ag (decide (c.limit<c.other)&&decide (c.other<F.lms.length));rw[hoth] at hR;obtain⟨kind,limit,other,fr,tt,sz,er,c1,c2,c3,c4,c5,c6⟩:=c;have HO:=aa hoth;have HR:=aa hR;clear hR hpc hpe hs1 hs2 hpt hq hoth;unfold crs0 Crs.vals at XE
 unfold Cll.val Cll.vals FV.val FV.arr at *
 dsimp only at *
 have kc:=ak X0.out.1;have kf9Q:=ak X0.out.2.1;go_enter func277,ntmps277;go_upto_region 1 with fail;rw[←hw0];clear hw0;go_upto_region 2 with fail
 go_cut [6] (fun t wx=>t=.bool oth∧wx=w0)
 case first =>
  have ho:=HO.out
  by_cases o1:limit<other
  ·by_cases o2:other<(F.lms.length:Int)
   ·have d1:decide (limit<other)=true:=by simpa using o1
    have d2:decide (other<(F.lms.length:Int))=true:=by simpa using o2
    rw[d1,d2] at ho;subst ho;clear HO;go_wp2_with fail;go_meet;exact⟨rfl,rfl⟩
   ·have d1:decide (limit<other)=true:=by simpa using o1
    have d2:decide (other<(F.lms.length:Int))=false:=by simpa using o2
    rw[d1,d2] at ho;subst ho;clear HO;go_wp2_with fail;go_meet;exact⟨rfl,rfl⟩
  ·have d1:decide (limit<other)=false:=by simpa using o1
   rw[d1,Bool.false_and] at ho;subst ho;clear HO;go_wp2_with fail;go_meet;exact⟨rfl,rfl⟩
 case rest =>
 obtain⟨rfl,rfl⟩:=hcut;go_wp2_with fail;refine(HC.out _).mono ?_;rintro e w1 ⟨rfl,hb1⟩;have X1:=aa (X0.out.next hb1);have B1:=bU B0 hb1;clear hb1 X0 B0 HC kc kf9Q;have kc:=ak X1.out.1;have kf9Q:=ak X1.out.2.1;cases pc9Q
 ·obtain rfl:R=false:=by rw[←HR.out,if_pos (by simp)]
  go_wp2_with fail;go_ret;exact⟨rfl,B1.out⟩
 go_wp2_with fail;refine(HE.out _).mono ?_;rintro e w2 ⟨rfl,rfl⟩;cases pe
 ·obtain rfl:R=false:=by rw[←HR.out,if_pos (by simp)]
  go_wp2_with fail;go_ret;exact⟨rfl,B1.out⟩
 have hR:=HR.out;rw[if_neg (by simp)] at hR;have HR2:=aa hR;clear HR hR HO HE;go_upto_region 6 with fail
 by_cases k1:kind=1
 ·subst k1
  have hR:=HR2.out;simp only[↓reduceIte] at hR;clear HR2;cases q
  ·obtain rfl:R=false:=by rw[←hR];simp
   go_wp2_with fail;go_ret;exact⟨rfl,B1.out⟩
  by_cases t3:other=0
  rotate_left
  ·obtain rfl:R=false:=by rw[←hR];simp[t3]
   go_wp2_with fail;go_ret;exact⟨rfl,B1.out⟩
  by_cases t2:tt=0
  rotate_left
  ·obtain rfl:R=false:=by rw[←hR];simp[t2]
   go_wp2_with fail;go_ret;exact⟨rfl,B1.out⟩
  cases s1
  ·obtain rfl:R=false:=by rw[←hR];simp
   go_wp2_with (go_at_call 165;(first|with_reducible refine(HT.out _).mono ?_|with_reducible refine(HS1.out _).mono ?_|with_reducible refine(HS2.out _).mono ?_);rintro e w2 ⟨rfl,rfl⟩);go_ret;exact⟨rfl,B1.out⟩
  obtain rfl:R=true:=by rw[←hR];simp[*]
  go_wp2_with (go_at_call 165;(first|with_reducible refine(HT.out _).mono ?_|with_reducible refine(HS1.out _).mono ?_|with_reducible refine(HS2.out _).mono ?_);rintro e w2 ⟨rfl,rfl⟩);go_ret;exact⟨rfl,B1.out⟩
 by_cases k2:kind=2
 ·subst k2
  have hR:=HR2.out;simp only[↓reduceIte,Int.reduceEq] at hR;clear HR2;cases q
  ·obtain rfl:R=false:=by rw[←hR];simp
   go_wp2_with fail;go_ret;exact⟨rfl,B1.out⟩
  cases oth
  ·obtain rfl:R=false:=by rw[←hR];simp
   go_wp2_with fail;go_ret;exact⟨rfl,B1.out⟩
  by_cases t2:tt=0
  rotate_left
  ·obtain rfl:R=false:=by rw[←hR];simp[t2]
   go_wp2_with fail;go_ret;exact⟨rfl,B1.out⟩
  cases s1
  ·obtain rfl:R=false:=by rw[←hR];simp
   go_wp2_with (go_at_call 165;(first|with_reducible refine(HT.out _).mono ?_|with_reducible refine(HS1.out _).mono ?_|with_reducible refine(HS2.out _).mono ?_);rintro e w2 ⟨rfl,rfl⟩);go_ret;exact⟨rfl,B1.out⟩
  obtain rfl:R=true:=by rw[←hR];simp[*]
  go_wp2_with (go_at_call 165;(first|with_reducible refine(HT.out _).mono ?_|with_reducible refine(HS1.out _).mono ?_|with_reducible refine(HS2.out _).mono ?_);rintro e w2 ⟨rfl,rfl⟩);go_ret;exact⟨rfl,B1.out⟩
 by_cases k3:kind=3
 ·subst k3
  have hR:=HR2.out;simp only[↓reduceIte,Int.reduceEq] at hR;clear HR2
  by_cases t5:other=0
  rotate_left
  ·obtain rfl:R=false:=by rw[←hR];simp[t5]
   go_wp2_with fail;go_ret;exact⟨rfl,B1.out⟩
  by_cases t4:sz=0
  rotate_left
  ·obtain rfl:R=false:=by rw[←hR];simp[t4]
   go_wp2_with fail;go_ret;exact⟨rfl,B1.out⟩
  by_cases t3:er=0
  rotate_left
  ·obtain rfl:R=false:=by rw[←hR];simp[t3]
   go_wp2_with fail;go_ret;exact⟨rfl,B1.out⟩
  cases pt
  ·obtain rfl:R=false:=by rw[←hR];simp
   go_wp2_with (go_at_call 165;(first|with_reducible refine(HT.out _).mono ?_|with_reducible refine(HS1.out _).mono ?_|with_reducible refine(HS2.out _).mono ?_);rintro e w2 ⟨rfl,rfl⟩);go_ret;exact⟨rfl,B1.out⟩
  by_cases t1:¬tt=fr
  rotate_left
  ·obtain rfl:R=false:=by rw[←hR];simp[t1]
   have t1b:(tt != fr)=false:=by simpa using t1
   go_wp2_with (go_at_call 165;(first|with_reducible refine(HT.out _).mono ?_|with_reducible refine(HS1.out _).mono ?_|with_reducible refine(HS2.out _).mono ?_);rintro e w2 ⟨rfl,rfl⟩);go_ret;exact⟨rfl,B1.out⟩
  have t1b:(tt != fr)=true:=by simpa using t1
  obtain rfl:R=true:=by rw[←hR];simp[*]
  go_wp2_with (go_at_call 165;(first|with_reducible refine(HT.out _).mono ?_|with_reducible refine(HS1.out _).mono ?_|with_reducible refine(HS2.out _).mono ?_);rintro e w2 ⟨rfl,rfl⟩);go_ret;exact⟨rfl,B1.out⟩
 by_cases k4:kind=4
 ·subst k4
  have hR:=HR2.out;simp only[↓reduceIte,Int.reduceEq] at hR;clear HR2;cases q
  ·obtain rfl:R=false:=by rw[←hR];simp
   go_wp2_with fail;go_ret;exact⟨rfl,B1.out⟩
  cases oth
  ·obtain rfl:R=false:=by rw[←hR];simp
   go_wp2_with fail;go_ret;exact⟨rfl,B1.out⟩
  by_cases t4:sz=0
  rotate_left
  ·obtain rfl:R=false:=by rw[←hR];simp[t4]
   go_wp2_with fail;go_ret;exact⟨rfl,B1.out⟩
  by_cases t3:er=0
  rotate_left
  ·obtain rfl:R=false:=by rw[←hR];simp[t3]
   go_wp2_with fail;go_ret;exact⟨rfl,B1.out⟩
  by_cases t2:fr<tt
  rotate_left
  ·obtain rfl:R=false:=by rw[←hR];simp[t2]
   go_wp2_with fail;go_ret;exact⟨rfl,B1.out⟩
  by_cases t1:tt<(F.sts.length:Int)
  rotate_left
  ·obtain rfl:R=false:=by rw[←hR];simp[t1]
   go_wp2_with fail;go_ret;exact⟨rfl,B1.out⟩
  obtain rfl:R=true:=by rw[←hR];simp[*]
  go_wp2_with fail;go_ret;exact⟨rfl,B1.out⟩
 by_cases k5:kind=5
 ·subst k5
  have hR:=HR2.out;simp only[↓reduceIte,Int.reduceEq] at hR;clear HR2;cases q
  ·obtain rfl:R=false:=by rw[←hR];simp
   go_wp2_with fail;go_ret;exact⟨rfl,B1.out⟩
  by_cases t4:other=0
  rotate_left
  ·obtain rfl:R=false:=by rw[←hR];simp[t4]
   go_wp2_with fail;go_ret;exact⟨rfl,B1.out⟩
  cases pt
  ·obtain rfl:R=false:=by rw[←hR];simp
   go_wp2_with (go_at_call 165;(first|with_reducible refine(HT.out _).mono ?_|with_reducible refine(HS1.out _).mono ?_|with_reducible refine(HS2.out _).mono ?_);rintro e w2 ⟨rfl,rfl⟩);go_ret;exact⟨rfl,B1.out⟩
  by_cases t2:¬tt=fr
  rotate_left
  ·obtain rfl:R=false:=by rw[←hR];simp[t2]
   have t2b:(tt != fr)=false:=by simpa using t2
   go_wp2_with (go_at_call 165;(first|with_reducible refine(HT.out _).mono ?_|with_reducible refine(HS1.out _).mono ?_|with_reducible refine(HS2.out _).mono ?_);rintro e w2 ⟨rfl,rfl⟩);go_ret;exact⟨rfl,B1.out⟩
  have t2b:(tt != fr)=true:=by simpa using t2
  cases s2
  ·obtain rfl:R=false:=by rw[←hR];simp
   go_wp2_with (go_at_call 165;(first|with_reducible refine(HT.out _).mono ?_|with_reducible refine(HS1.out _).mono ?_|with_reducible refine(HS2.out _).mono ?_);rintro e w2 ⟨rfl,rfl⟩);go_ret;exact⟨rfl,B1.out⟩
  obtain rfl:R=true:=by rw[←hR];simp[*]
  go_wp2_with (go_at_call 165;(first|with_reducible refine(HT.out _).mono ?_|with_reducible refine(HS1.out _).mono ?_|with_reducible refine(HS2.out _).mono ?_);rintro e w2 ⟨rfl,rfl⟩);go_ret;exact⟨rfl,B1.out⟩
 have hR:=HR2.out;simp only[k1,k2,k3,k4,k5,if_false] at hR;subst hR;clear HR2;go_wp2_with fail;go_ret;exact⟨rfl,B1.out⟩
attribute [local go_sem] Oper.semAt_some
theorem ymid {P:Program} {o:Oper} {a:Act} {V:World} {ty:TypeId} {x:Operand} {b off:Nat} {cs:List Value} {d:TypeDesc} (ho:o.op=.load ty x) (hx:a.eval x=.pointer (some ⟨b,off,none⟩)) (hc:V.rangeAt b off cs)
 (hu:P.underlying ty=some d) (hd:d.isRow=true) (hi:(P.info? ty).map (·.size)=some cs.length):(execOp a.eval o).run P V=.ok (.value (.agg cs.toArray)) V:=by
 unfold execOp;simp only[ho,hx,Instr.loadAt,Instr.sureAddr,Sem.run_bind,Sem.run_pure,Result.andThen_ok,run_loadVar_mid V b off ty cs d hc hu hd hi]
theorem itvV_eq (r:Option (Int×Int)×Int):il r=.tuple #[.int .i64 (r.1.getD (0,0)).1,.int .i64 (r.1.getD (0,0)).2,.bool r.1.isSome,.int .i64 r.2]:=by
 obtain⟨a,b⟩:=r
 cases a<;>rfl
theorem crs_mid {V:World} {b:Nat} {c:Cll} (h:V.heap[b]?=some (.cells c.vals 48 (0,0))):V.rangeAt b 7 c.crs.vals.toList :=
 kH h rfl
theorem table_facts {F:Fld} {c:Cll} (h:tableR F c=true):bZ F c.limit=true∧aY F c.fr=true∧(c.kind=3→aY F c.tt=true):=by
 unfold tableR at h
 by_cases h0:(bZ F c.limit&&aY F c.fr)=false∨bm c.er 0 100000=false
 ·rw[if_pos h0] at h;cases h
 rw[if_neg h0] at h
 have h1:(bZ F c.limit&&aY F c.fr)=true:=by
  cases q:(bZ F c.limit&&aY F c.fr)
  ·exact absurd (.inl q) h0
  ·rfl
 rw[Bool.and_eq_true] at h1;refine⟨h1.1,h1.2,fun k=>?_⟩;unfold aY;simp only[k] at h;simp at h;exact h.1.2
theorem rcheckCall_any (w:World) (x:FV) (F:Fld) (c:Cll) (hF:F.check=0) (h:FldAt w x F) (hk:0≤c.kind∧c.kind≤255) :
 Calls prog 236 #[x.val F,c.val] w fun e w'=>e=.returned (.int .i64 (dP F c))∧Below w.heap.size w w':=by
 have ff:=bb hF;have hvr:bz F.vrs=0:=ff.2.2.2.1;rw[←call_ref hvr c];unfold callR;rw[itv_ref];obtain⟨w0,hw0⟩:∃W,W=(w.alloc (.cells (x.arr F) 27)).alloc (.cells c.vals 48):=⟨_,rfl⟩;have B0:=aa (hw0▸(two_boxes w x F c).1);have X0:=aa (hw0▸(two_boxes w x F c).2);have HT:=aa (fun W=>rtable_any W x F c (by omega) (by omega) hk);have HO:=aa (fun W=>rcourse_any c.crs W);have HF:=aa (fun W (hb:Below w.heap.size w W)=>h.below hb);have HRN:=aa (fun(q:tableR F c=true) (k:c.kind=3) W (hb:Below w.heap.size w W)=>rrun_any W x F c hF (h.below hb) (table_facts q).2.1 ((table_facts q).2.2 k));have HI:=aa (fun W (hb:Below w.heap.size w W)=>(itvV_eq (lD F.vrs c.crs (oX F c)))▸ritv_any W x.aV x.cV F.vrs c.crs (oX F c) (by have:=h.lv;omega) (h.below hb).vr);obtain⟨T,hT⟩:=ag (tableR F c);obtain⟨ok,hok⟩:=ag c.crs.ok;obtain⟨⟨I1,I2⟩,hI⟩:=ag (lD F.vrs c.crs (oX F c));obtain⟨R,hR⟩:=ag (oX F c);rw[hT] at HT HRN ⊢;rw[hok] at HO ⊢;rw[hI] at HI ⊢;rw[hR] at HI HRN;dsimp only at HI ⊢;obtain⟨lo,hlo⟩:=ag ((I1.getD (0,0)).1);obtain⟨hi,hhi⟩:=ag ((I1.getD (0,0)).2);obtain⟨is,his⟩:=ag I1.isSome;rw[hlo,hhi,his] at HI;have HIS:=aa his;clear hT hok hI hR hlo hhi ff hvr hF h his;have HCM:=aa (fun(V:World) (hV:V.heap[w.heap.size+1]?=some (.cells c.vals 48 (0,0)))=>crs_mid hV);have kc:=ak X0.out.1;obtain⟨kind,limit,other,fr,tt,sz,er,c1,c2,c3,c4,c5,c6⟩:=c;unfold Cll.vals at kc;unfold Crs.vals at HCM
 dsimp only at *
 obtain⟨Z,hZ⟩:∃r:Int,(if T=false then 1 else if kind≠3 then 0 else if ok=false then 1 else if I2≠0 then I2 else if I1=none then 5 else 0)=r:=⟨_,rfl⟩;rw[hZ];go_enter func236,ntmps236;go_upto_region 1 with fail;unfold FV.val Cll.val;rw[←hw0];clear hw0;refine wp_region_list ?_;refine ah rfl 27 _ rfl _ rfl w.heap.size rfl 27 _ (0,0) _ X0.out.2.1 underlying27 rfl (by kernel_rfl) ?_;refine ah rfl 48 _ rfl _ rfl (w.heap.size+1) rfl 48 _ (0,0) _ X0.out.1 underlying48 rfl (by kernel_rfl) ?_;simp only[Act.put,sA,sB,sC];go_wp2_with fail;refine(HT.out _).mono ?_;rintro e w1 ⟨rfl,hb1⟩;have X1:=aa (X0.out.next hb1);have B1:=bU B0 hb1;clear hb1 X0 B0 HT kc;have kc:=ak X1.out.1;unfold Cll.vals at kc;dsimp only at kc;cases T
 ·rw[if_pos rfl] at hZ
  subst hZ;go_wp2_with fail;go_ret;exact⟨rfl,B1.out⟩
 rw[if_neg (by simp)] at hZ;have HRN2:=aa (HRN.out rfl);clear HRN
 by_cases h3:kind=3
 rotate_left
 ·rw[if_pos h3] at hZ
  subst hZ;go_wp2_with fail;go_ret;exact⟨rfl,B1.out⟩
 subst h3;rw[if_neg (by simp)] at hZ;have HZ:=aa hZ;clear hZ;have HRN3:=aa (HRN2.out rfl);clear HRN2;unfold Crs.val Crs.vals at HO;dsimp only at HO;go_wp2_with fail;refine(HO.out _).mono ?_;rintro e w2 ⟨rfl,hb2⟩;have X2:=aa (X1.out.next hb2);have B2:=bU B1 hb2;clear hb2 X1 B1 HO kc;have hZ:=HZ.out;clear HZ;cases ok
 ·rw[if_pos rfl] at hZ
  subst hZ;simp only[reduceCtorEq,↓reduceIte];go_wp2_with fail;go_ret;exact⟨rfl,B2.out⟩
 rw[if_neg (by simp)] at hZ;have HZ:=aa hZ;clear hZ;simp only[↓reduceIte];unfold Cll.val FV.val at HRN3;unfold Crs.val Crs.vals at HI;dsimp only at HI;go_upto_region 8 with fail
 go_cut [8,9] (fun t u wx=>t=.bool is∧u=.int .i64 I2∧Hid (Below w2.heap.size w2 wx))
 case first =>
  refine aJ (S:=Below w2.heap.size w2) (last:=100) (by kernel_rfl) ?_;obtain⟨W0,hW0⟩:∃W,W=w2.drew:=⟨_,rfl⟩
  have hS0:Below w2.heap.size w2 W0:=by rw[hW0];exact(Below.refl _ _).drew
  rw[←hW0];clear hW0;refine aR 0 24 (.pointer (some ⟨w.heap.size,3,none⟩)) hS0 ?_;(try simp only[s3]);refine tf 1 25 (.slice x.aV F.vrs.length x.cV) hS0 (fun V hV=>?_) ?_
  ·(have z:=ak (X2.out.next hV).2.1 3;unfold FV.arr at z;simp[go_sem,execOp,z])
  (try simp only[s3]);refine aR 2 26 (.pointer (some ⟨(w.heap.size+1),7,none⟩)) hS0 ?_;(try simp only[s3]);refine tf 3 27 (.agg #[.int .i64 c1,.int .i64 c2,.int .i64 c3,.int .i64 c4,.int .i64 c5,.int .i64 c6]) hS0 (fun V hV=>?_) ?_
  ·exact ymid rfl rfl (HCM.out V (X2.out.next hV).1) underlying46 rfl (by kernel_rfl)
  (try simp only[s3]);refine tf 4 28 (.agg (x.arr F)) hS0 (fun V hV=>?_) ?_
  ·exact gp rfl rfl (X2.out.next hV).2.1 underlying27 rfl (by kernel_rfl)
  (try simp only[s3]);refine tf 5 29 (.agg (Cll.mk 3 limit other fr tt sz er ⟨c1,c2,c3,c4,c5,c6⟩).vals) hS0 (fun V hV=>?_) ?_
  ·exact gp rfl rfl (X2.out.next hV).1 underlying48 rfl (by kernel_rfl)
  (try simp only[s3]);refine ae 6 rfl (by kernel_rfl) (fun K hK=>?_);go_simp;go_at_call 239;refine(HRN3.out _ (bB B2.out hS0)).mono ?_;rintro e wq1 ⟨rfl,hq1⟩;have hS1:Below w2.heap.size w2 wq1:=bB hS0 hq1;clear hq1;go_wp2_with fail;refine hK.out _ _ (.inr hS1) ?_;clear hK K;(try simp only[Act.put,s3]);refine ae 7 rfl (by kernel_rfl) (fun K hK=>?_);go_simp;go_at_call 238;refine(HI.out _ (bB B2.out hS1)).mono ?_;rintro e wq2 ⟨rfl,hq2⟩;have hS2:Below w2.heap.size w2 wq2:=bB hS1 hq2;clear hq2;go_wp2_with fail;refine hK.out _ _ (.inr hS2) ?_;clear hK K;(try simp only[Act.put,s3]);refine aR 8 23 (.tuple #[.int .i64 lo,.int .i64 hi,.bool is,.int .i64 I2]) hS2 ?_;(try simp only[s3]);refine aR 9 32 (.int .i64 lo) hS2 ?_;(try simp only[s3]);refine aR 10 33 (.int .i64 hi) hS2 ?_;(try simp only[s3]);refine aR 11 34 (.bool is) hS2 ?_;(try simp only[s3]);refine aR 12 35 (.int .i64 I2) hS2 ?_;(try simp only[s3]);refine aR 13 6 (.int .i64 lo) hS2 ?_;(try simp only[s3]);refine aR 14 7 (.int .i64 hi) hS2 ?_;(try simp only[s3]);refine aR 15 8 (.bool is) hS2 ?_;(try simp only[s3]);refine aR 16 9 (.int .i64 I2) hS2 ?_;(try simp only[s3]);refine aw (by kernel_rfl) ?_ _;go_wp2_with fail;go_meet;exact⟨rfl,rfl,aa hS2⟩
 case rest =>
 obtain⟨rfl,rfl,HB⟩:=hcut;obtain⟨w3,rfl⟩:∃z:World,z=wc:=⟨wc,rfl⟩;have B3:=bU B2 HB.out;clear HB B2 X2;have hZ:=HZ.out;clear HZ
 by_cases hz:I2=0
 rotate_left
 ·have hzb:(I2 != 0)=true:=by simpa using hz
  rw[if_pos hz] at hZ;subst hZ;clear hz;go_wp2_with fail;go_ret;exact⟨rfl,B3.out⟩
 subst hz;rw[if_neg (by simp)] at hZ
 cases I1 with
 | none =>
   obtain rfl:false=is:=HIS.out;rw[if_pos rfl] at hZ;subst hZ;go_wp2_with fail;go_ret;exact⟨rfl,B3.out⟩
 | some p =>
   obtain rfl:true=is:=HIS.out;rw[if_neg (by simp)] at hZ;subst hZ;go_wp2_with fail;go_ret;exact⟨rfl,B3.out⟩
theorem rCheckCall_any (w:World) (x:FV) (F:Fld) (c:Cll) (h:FldAt w x F) (hk:0≤c.kind∧c.kind≤255) :
 Calls prog 170 #[x.val F,c.val] w fun e w'=>e=.returned (.int .i64 (dp F c))∧Below w.heap.size w w':=by
 obtain⟨w0,hw0⟩:∃W,W=(w.alloc (.cells (x.arr F) 27)).alloc (.cells c.vals 48):=⟨_,rfl⟩;have B0:=aa (hw0▸(two_boxes w x F c).1);have X0:=aa (hw0▸(two_boxes w x F c).2);have HC:=aa (fun W (hb:Below w.heap.size w W)=>refCheckField_any W x F (h.below hb));have HK:=aa (fun(hF:F.check=0) W (hb:Below w.heap.size w W)=>rcheckCall_any W x F c hF (h.below hb) hk);unfold dp;obtain⟨z,hz⟩:=ag F.check;obtain⟨v,hv⟩:=ag (dP F c);rw[hz] at HC HK ⊢;rw[hv] at HK ⊢;obtain⟨Z,hZ⟩:∃r:Int,(if z≠0 then z else v)=r:=⟨_,rfl⟩;rw[hZ];clear hz hv h hk;go_enter func170,ntmps170;go_upto_region 1 with fail
 unfold FV.val Cll.val at *
 rw[←hw0];clear hw0;refine wp_region_list ?_;refine ah rfl 27 _ rfl _ rfl w.heap.size rfl 27 _ (0,0) _ X0.out.2.1 underlying27 rfl (by kernel_rfl) ?_;simp only[Act.put,sA,sB,sC];go_wp2_with fail;refine(HC.out _ B0.out).mono ?_;rintro e w1 ⟨rfl,hb1⟩;have X1:=aa (X0.out.next hb1);have B1:=bU B0 hb1;clear hb1 X0 B0 HC
 by_cases h0:z=0
 rotate_left
 ·rw[if_pos h0] at hZ
  subst hZ
  have hzb:(z==0)=false:=by simpa using h0
  clear h0;go_wp2_with fail;go_ret;exact⟨rfl,B1.out⟩
 subst h0;rw[if_neg (by simp)] at hZ;subst hZ;go_upto_region 3 with fail;refine wp_region_list ?_;refine ah rfl 27 _ rfl _ rfl w.heap.size rfl 27 _ (0,0) _ X1.out.2.1 underlying27 rfl (by kernel_rfl) ?_;refine ah rfl 48 _ rfl _ rfl (w.heap.size+1) rfl 48 _ (0,0) _ X1.out.1 underlying48 rfl (by kernel_rfl) ?_;simp only[Act.put,sA,sB,sC];go_wp2_with fail;refine(HK.out trivial _ B1.out).mono ?_;rintro e w2 ⟨rfl,hb2⟩;have B2:=bU B1 hb2;clear hb2;go_wp2_with fail;go_ret;exact⟨rfl,B2.out⟩
theorem alongG_snoc (F:Fld) (c:Cll) (r:Int) (k:Nat):li F c r k++eG (eE F c.limit (c.fr+(k:Int))) (eE F c.other (c.fr+(k:Int))) 0 0 r=li F c r (k+1):=by
 unfold li;rw[List.range_succ,List.flatMap_append];simp
theorem alongG_len (F:Fld) (c:Cll) (r:Int) (k:Nat):(li F c r k).length=2*k:=by
 induction k with
 | zero=>rfl
 | succ k ih=>rw[←alongG_snoc,List.length_append,ih];simp[eG];omega
theorem pair_owns {w:World} {B:Nat} (hB:B≤w.heap.size) (p q lo hi r:Int):(w.alloc (.cells (bh (eG p q lo hi r)).toArray 65)).ownsRow B 65 4 (.slice (some ⟨w.heap.size,0,none⟩) 2 2) (eG p q lo hi r).length (bh (eG p q lo hi r)) :=
 ⟨by simp[eG,bh,Bd.cells],.inr ⟨w.heap.size,2,(bh (eG p q lo hi r)).toArray,rfl,hB,heap_alloc_new _ _,Nat.le_refl _,by unfold maxLen;omega,rfl,rfl⟩⟩
structure QJ (w:World) (x:FV) (F:Fld) (c:Cll) (v:Value) (bs:List Bd) (W:World):Prop where
 own:W.ownsRow w.heap.size 65 4 v bs.length (bh bs)
 b:Below w.heap.size w W
 k:Kb [(w.heap.size+1,.cells c.vals 48),(w.heap.size,.cells (x.arr F) 27)] W
theorem QJ.next {w:World} {x:FV} {F:Fld} {c:Cll} {v:Value} {bs:List Bd} {W W':World} (h:QJ w x F c v bs W) (hb:Below W.heap.size W W'):QJ w x F c v bs W' :=
 ⟨av h.own (fun g hg=>hb.block g (jh h.own hg).1),bB h.b hb,h.k.next hb⟩
theorem QJ.more {w:World} {x:FV} {F:Fld} {c:Cll} {v v':Value} {bs news:List Bd} {W W':World} (h:QJ w x F c v bs W) (h1:W'.ownsRow w.heap.size 65 4 v' (bs++news).length (bh (bs++news))) (h2:Below w.heap.size W W')
 (h3:∀(k:Nat) (cs:Array Value) (t:TypeId) (f:Nat×Nat),W.heap[k]?=some (.cells cs t f)→t≠65→W'.heap[k]?=some (.cells cs t f)):QJ w x F c v' (bs++news) W' :=
 ⟨h1,h.b.trans h2,h3 _ _ _ _ h.k.1 (by decide),h3 _ _ _ _ h.k.2.1 (by decide),trivial⟩
theorem rbounds1_any (w:World) (x:FV) (F:Fld) (c:Cll) (r:Int) (hk:c.kind=1) (hF:F.check=0) (hc:dP F c=0) (_h:FldAt w x F) :
 Calls prog 171 #[x.val F,c.val,.int .i64 r] w fun e w'=>(∃v,e=.returned v∧w'.ownsRow w.heap.size 65 4 v (eo F c r).length (bh (eo F c r)))∧Below w.heap.size w w':=by
 have ff:=bb hF;have cn9Q:=gZ hF hc;obtain⟨w0,hw0⟩:∃W,W=(w.alloc (.cells (x.arr F) 27)).alloc (.cells c.vals 48):=⟨_,rfl⟩;have B0:=aa (hw0▸(two_boxes w x F c).1);have X0:=aa (hw0▸(two_boxes w x F c).2);have kn9Q:=cn9Q.2.2.1 (by omega);have HPT:=aa (fun W=>rpoint_any W x F c.limit c.fr (by omega) cn9Q.1.1 cn9Q.1.2 cn9Q.2.1.1 cn9Q.2.1.2);obtain⟨P1,hP1⟩:=ag (eE F c.limit c.fr);have HPR:=aa (fun W=>rpair_any W 0 P1 (c.sz-c.er) (c.sz+c.er) r (by omega));rw[hP1] at HPT;have HCM:=aa (fun(V:World) (hV:V.heap[w.heap.size+1]?=some (.cells c.vals 48 (0,0)))=>crs_mid hV);obtain⟨kind,limit,other,fr,tt,sz,er,c1,c2,c3,c4,c5,c6⟩:=c
 dsimp only at *
 subst hk
 have hbs:∀a,eE F limit fr=a→eo F ⟨1,limit,other,fr,tt,sz,er,⟨c1,c2,c3,c4,c5,c6⟩⟩ r=eG 0 a (sz-er) (sz+er) r:=fun a e=>by unfold eo;rw[if_pos rfl,e]
 rw[hbs _ hP1];have kc:=ak X0.out.1;unfold Cll.vals at kc
 unfold FV.val Cll.val at *
 dsimp only at *
 clear _h hF hc ff hP1 cn9Q hbs;go_enter func171,ntmps171;go_upto_region 1 with fail;rw[←hw0];clear hw0;go_wp2_with (refine ah rfl 27 _ rfl _ rfl w.heap.size rfl 27 _ (0,0) _ X0.out.2.1 underlying27 rfl (by kernel_rfl) ?_);refine(HPT.out _).mono ?_;rintro e w1 ⟨rfl,hb1⟩;have X1:=aa (X0.out.next hb1);have B1:=bU B0 hb1;clear hb1 X0 B0 HPT kc;have kc:=ak X1.out.1;unfold Cll.vals at kc;dsimp only at kc;go_wp2_with fail;refine(HPR.out _).mono ?_;rintro e w3 ⟨rfl,rfl⟩;go_wp2_with fail;go_ret;exact⟨⟨_,rfl,pair_owns B1.out.size _ _ _ _ _⟩,B1.out.alloc B1.out.size _⟩
theorem rbounds2_any (w:World) (x:FV) (F:Fld) (c:Cll) (r:Int) (hk:c.kind=2) (hF:F.check=0) (hc:dP F c=0) (_h:FldAt w x F) :
 Calls prog 171 #[x.val F,c.val,.int .i64 r] w fun e w'=>(∃v,e=.returned v∧w'.ownsRow w.heap.size 65 4 v (eo F c r).length (bh (eo F c r)))∧Below w.heap.size w w':=by
 have ff:=bb hF;have cn9Q:=gZ hF hc;obtain⟨w0,hw0⟩:∃W,W=(w.alloc (.cells (x.arr F) 27)).alloc (.cells c.vals 48):=⟨_,rfl⟩;have B0:=aa (hw0▸(two_boxes w x F c).1);have X0:=aa (hw0▸(two_boxes w x F c).2);have kn9Q:=cn9Q.2.2.1 (by omega);have ko9Q:=cn9Q.2.2.2.1 (by omega);have HP2:=aa (fun W=>rpoint_any W x F c.other c.fr (by omega) ko9Q.1 ko9Q.2 cn9Q.2.1.1 cn9Q.2.1.2);obtain⟨P2,hP2⟩:=ag (eE F c.other c.fr);have HPT:=aa (fun W=>rpoint_any W x F c.limit c.fr (by omega) cn9Q.1.1 cn9Q.1.2 cn9Q.2.1.1 cn9Q.2.1.2);obtain⟨P1,hP1⟩:=ag (eE F c.limit c.fr);have HPR:=aa (fun W=>rpair_any W P1 P2 (c.sz-c.er) (c.sz+c.er) r (by omega));rw[hP1] at HPT;rw[hP2] at HP2;have HCM:=aa (fun(V:World) (hV:V.heap[w.heap.size+1]?=some (.cells c.vals 48 (0,0)))=>crs_mid hV);obtain⟨kind,limit,other,fr,tt,sz,er,c1,c2,c3,c4,c5,c6⟩:=c
 dsimp only at *
 subst hk
 have hbs:∀a b,eE F limit fr=a→eE F other fr=b→eo F ⟨2,limit,other,fr,tt,sz,er,⟨c1,c2,c3,c4,c5,c6⟩⟩ r=eG a b (sz-er) (sz+er) r:=fun a b e f=>by unfold eo;rw[if_neg (by simp),if_pos rfl,e,f]
 rw[hbs _ _ hP1 hP2];have kc:=ak X0.out.1;unfold Cll.vals at kc
 unfold FV.val Cll.val at *
 dsimp only at *
 clear _h hF hc ff hP1 cn9Q hbs hP2 ko9Q;go_enter func171,ntmps171;go_upto_region 1 with fail;rw[←hw0];clear hw0;go_wp2_with (refine ah rfl 27 _ rfl _ rfl w.heap.size rfl 27 _ (0,0) _ X0.out.2.1 underlying27 rfl (by kernel_rfl) ?_);refine(HPT.out _).mono ?_;rintro e w1 ⟨rfl,hb1⟩;have X1:=aa (X0.out.next hb1);have B1:=bU B0 hb1;clear hb1 X0 B0 HPT kc;have kc:=ak X1.out.1;unfold Cll.vals at kc;dsimp only at kc;go_wp2_with (refine ah rfl 27 _ rfl _ rfl w.heap.size rfl 27 _ (0,0) _ X1.out.2.1 underlying27 rfl (by kernel_rfl) ?_);refine(HP2.out _).mono ?_;rintro e w2 ⟨rfl,hb2⟩;have B2:=bU B1 hb2;clear hb2 X1 B1 HP2 kc;go_wp2_with fail;refine(HPR.out _).mono ?_;rintro e w3 ⟨rfl,rfl⟩;go_wp2_with fail;go_ret;exact⟨⟨_,rfl,pair_owns B2.out.size _ _ _ _ _⟩,B2.out.alloc B2.out.size _⟩
theorem rbounds5_any (w:World) (x:FV) (F:Fld) (c:Cll) (r:Int) (hk:c.kind=5) (hF:F.check=0) (hc:dP F c=0) (_h:FldAt w x F) :
 Calls prog 171 #[x.val F,c.val,.int .i64 r] w fun e w'=>(∃v,e=.returned v∧w'.ownsRow w.heap.size 65 4 v (eo F c r).length (bh (eo F c r)))∧Below w.heap.size w w':=by
 have ff:=bb hF;have cn9Q:=gZ hF hc;obtain⟨w0,hw0⟩:∃W,W=(w.alloc (.cells (x.arr F) 27)).alloc (.cells c.vals 48):=⟨_,rfl⟩;have B0:=aa (hw0▸(two_boxes w x F c).1);have X0:=aa (hw0▸(two_boxes w x F c).2);have kn9Q:=cn9Q.2.2.1 (by omega);have ko9Q:=cn9Q.2.2.2.2.1 (by omega);have HP2:=aa (fun W=>rpoint_any W x F c.limit c.tt (by omega) cn9Q.1.1 cn9Q.1.2 ko9Q.1 ko9Q.2);obtain⟨P2,hP2⟩:=ag (eE F c.limit c.tt);have HPT:=aa (fun W=>rpoint_any W x F c.limit c.fr (by omega) cn9Q.1.1 cn9Q.1.2 cn9Q.2.1.1 cn9Q.2.1.2);obtain⟨P1,hP1⟩:=ag (eE F c.limit c.fr);have HPR:=aa (fun W=>rpair_any W P1 P2 (c.sz-c.er) (c.sz+c.er) r (by omega));rw[hP1] at HPT;rw[hP2] at HP2;have HCM:=aa (fun(V:World) (hV:V.heap[w.heap.size+1]?=some (.cells c.vals 48 (0,0)))=>crs_mid hV);obtain⟨kind,limit,other,fr,tt,sz,er,c1,c2,c3,c4,c5,c6⟩:=c
 dsimp only at *
 subst hk
 have hbs:∀a b,eE F limit fr=a→eE F limit tt=b→eo F ⟨5,limit,other,fr,tt,sz,er,⟨c1,c2,c3,c4,c5,c6⟩⟩ r=eG a b (sz-er) (sz+er) r:=fun a b e f=>by unfold eo;rw[if_neg (by simp),if_neg (by simp),if_neg (by simp),if_neg (by simp),if_pos rfl,e,f]
 rw[hbs _ _ hP1 hP2];have kc:=ak X0.out.1;unfold Cll.vals at kc
 unfold FV.val Cll.val at *
 dsimp only at *
 clear _h hF hc ff hP1 cn9Q hbs hP2 ko9Q;go_enter func171,ntmps171;go_upto_region 1 with fail;rw[←hw0];clear hw0;go_wp2_with (refine ah rfl 27 _ rfl _ rfl w.heap.size rfl 27 _ (0,0) _ X0.out.2.1 underlying27 rfl (by kernel_rfl) ?_);refine(HPT.out _).mono ?_;rintro e w1 ⟨rfl,hb1⟩;have X1:=aa (X0.out.next hb1);have B1:=bU B0 hb1;clear hb1 X0 B0 HPT kc;have kc:=ak X1.out.1;unfold Cll.vals at kc;dsimp only at kc;go_wp2_with (refine ah rfl 27 _ rfl _ rfl w.heap.size rfl 27 _ (0,0) _ X1.out.2.1 underlying27 rfl (by kernel_rfl) ?_);refine(HP2.out _).mono ?_;rintro e w2 ⟨rfl,hb2⟩;have B2:=bU B1 hb2;clear hb2 X1 B1 HP2 kc;go_wp2_with fail;refine(HPR.out _).mono ?_;rintro e w3 ⟨rfl,rfl⟩;go_wp2_with fail;go_ret;exact⟨⟨_,rfl,pair_owns B2.out.size _ _ _ _ _⟩,B2.out.alloc B2.out.size _⟩
theorem rbounds3_any (w:World) (x:FV) (F:Fld) (c:Cll) (r:Int) (hk:c.kind=3) (hF:F.check=0) (hc:dP F c=0) (h:FldAt w x F) :
 Calls prog 171 #[x.val F,c.val,.int .i64 r] w fun e w'=>(∃v,e=.returned v∧w'.ownsRow w.heap.size 65 4 v (eo F c r).length (bh (eo F c r)))∧Below w.heap.size w w':=by
 have ff:=bb hF;have cn9Q:=gZ hF hc;obtain⟨w0,hw0⟩:∃W,W=(w.alloc (.cells (x.arr F) 27)).alloc (.cells c.vals 48):=⟨_,rfl⟩;have B0:=aa (hw0▸(two_boxes w x F c).1);have X0:=aa (hw0▸(two_boxes w x F c).2);have ko9Q:=cn9Q.2.2.2.2.1 (by omega);obtain⟨s1,s2,lo,hi,hit⟩:=cn9Q.2.2.2.2.2.2.1 hk;have HP2:=aa (fun W=>rpoint_any W x F c.limit c.tt (by omega) cn9Q.1.1 cn9Q.1.2 ko9Q.1 ko9Q.2);obtain⟨P2,hP2⟩:=ag (eE F c.limit c.tt)
 have hbd:-100000≤lo∧lo≤100000:=by
  unfold gV lD at hit
  have hfb:∃e,gD c.crs e (oX F c)=some (lo,hi):=by
   split at hit
   ·cases hit
   ·split at hit
    ·cases hit
    ·split at hit
     ·cases hit
     ·split at hit
      ·cases hit
      ·exact⟨_,(Prod.mk.inj hit).1⟩
  obtain⟨e,hfb⟩:=hfb;have:=nW hfb;omega
 have HRN:=aa (fun W (hb:Below w.heap.size w W)=>rrun_any W x F c hF (h.below hb) s1 s2);have HI:=aa (fun W (hb:Below w.heap.size w W)=>(itvV_eq (lD F.vrs c.crs (oX F c)))▸ritv_any W x.aV x.cV F.vrs c.crs (oX F c) (by have:=h.lv;omega) (h.below hb).vr);unfold gV at hit
 have hgd:((gV F c).1.getD (0,0))=(lo,hi):=by unfold gV;rw[hit];rfl
 rw[hit] at HI;dsimp only[Option.getD_some,Option.isSome_some] at HI;obtain⟨R,hR⟩:=ag (oX F c);rw[hR] at HI HRN;have HPT:=aa (fun W=>rpoint_any W x F c.limit c.fr (by omega) cn9Q.1.1 cn9Q.1.2 cn9Q.2.1.1 cn9Q.2.1.2);obtain⟨P1,hP1⟩:=ag (eE F c.limit c.fr);have HPR:=aa (fun W=>rpair_any W P1 P2 lo hi r (by omega));rw[hP1] at HPT;rw[hP2] at HP2;have HCM:=aa (fun(V:World) (hV:V.heap[w.heap.size+1]?=some (.cells c.vals 48 (0,0)))=>crs_mid hV);obtain⟨kind,limit,other,fr,tt,sz,er,c1,c2,c3,c4,c5,c6⟩:=c
 dsimp only at *
 subst hk
 have hbs:∀a b,eE F limit fr=a→eE F limit tt=b→eo F ⟨3,limit,other,fr,tt,sz,er,⟨c1,c2,c3,c4,c5,c6⟩⟩ r=eG a b lo hi r:=fun a b e f=>by unfold eo;rw[if_neg (by simp),if_neg (by simp),if_pos rfl,e,f,hgd]
 rw[hbs _ _ hP1 hP2];unfold Crs.val Crs.vals at HI;have kc:=ak X0.out.1;unfold Cll.vals at kc
 unfold FV.val Cll.val at *
 dsimp only at *
 clear h hF hc ff hP1 cn9Q hbs hP2 ko9Q hit hgd hR s1 s2 hbd;go_enter func171,ntmps171;go_upto_region 1 with fail;rw[←hw0];clear hw0;go_wp2_with (refine ah rfl 27 _ rfl _ rfl w.heap.size rfl 27 _ (0,0) _ X0.out.2.1 underlying27 rfl (by kernel_rfl) ?_);refine(HPT.out _).mono ?_;rintro e w1 ⟨rfl,hb1⟩;have X1:=aa (X0.out.next hb1);have B1:=bU B0 hb1;clear hb1 X0 B0 HPT kc;have kc:=ak X1.out.1;unfold Cll.vals at kc;dsimp only at kc;unfold Crs.vals at HCM;dsimp only at HCM HI;go_upto_region 12 with fail
 go_cut [10,11] (fun t u wx=>t=.int .i64 lo∧u=.int .i64 hi∧Hid (Below w1.heap.size w1 wx))
 case first =>
  refine aJ (S:=Below w1.heap.size w1) (last:=100) (by kernel_rfl) ?_;obtain⟨W0,hW0⟩:∃W,W=w1.drew:=⟨_,rfl⟩
  have hS0:Below w1.heap.size w1 W0:=by rw[hW0];exact(Below.refl _ _).drew
  rw[←hW0];clear hW0;refine aR 0 70 (.pointer (some ⟨w.heap.size,3,none⟩)) hS0 ?_;(try simp only[s3]);refine tf 1 71 (.slice x.aV F.vrs.length x.cV) hS0 (fun V hV=>?_) ?_
  ·(have z:=ak (X1.out.next hV).2.1 3;unfold FV.arr at z;simp[go_sem,execOp,z])
  (try simp only[s3]);refine aR 2 72 (.pointer (some ⟨(w.heap.size+1),7,none⟩)) hS0 ?_;(try simp only[s3]);refine tf 3 73 (.agg #[.int .i64 c1,.int .i64 c2,.int .i64 c3,.int .i64 c4,.int .i64 c5,.int .i64 c6]) hS0 (fun V hV=>?_) ?_
  ·exact ymid rfl rfl (HCM.out V (X1.out.next hV).1) underlying46 rfl (by kernel_rfl)
  (try simp only[s3]);refine tf 4 74 (.agg (x.arr F)) hS0 (fun V hV=>?_) ?_
  ·exact gp rfl rfl (X1.out.next hV).2.1 underlying27 rfl (by kernel_rfl)
  (try simp only[s3]);refine tf 5 75 (.agg (Cll.mk 3 limit other fr tt sz er ⟨c1,c2,c3,c4,c5,c6⟩).vals) hS0 (fun V hV=>?_) ?_
  ·exact gp rfl rfl (X1.out.next hV).1 underlying48 rfl (by kernel_rfl)
  (try simp only[s3]);refine ae 6 rfl (by kernel_rfl) (fun K hK=>?_);go_simp;go_at_call 239;refine(HRN.out _ (bB B1.out hS0)).mono ?_;rintro e wq1 ⟨rfl,hq1⟩;have hS1:Below w1.heap.size w1 wq1:=bB hS0 hq1;clear hq1;go_wp2_with fail;refine hK.out _ _ (.inr hS1) ?_;clear hK K;(try simp only[Act.put,s3]);refine ae 7 rfl (by kernel_rfl) (fun K hK=>?_);go_simp;go_at_call 238;refine(HI.out _ (bB B1.out hS1)).mono ?_;rintro e wq2 ⟨rfl,hq2⟩;have hS2:Below w1.heap.size w1 wq2:=bB hS1 hq2;clear hq2;go_wp2_with fail;refine hK.out _ _ (.inr hS2) ?_;clear hK K;(try simp only[Act.put,s3]);refine aR 8 69 (.tuple #[.int .i64 lo,.int .i64 hi,.bool true,.int .i64 0]) hS2 ?_;(try simp only[s3]);refine aR 9 78 (.int .i64 lo) hS2 ?_;(try simp only[s3]);refine aR 10 79 (.int .i64 hi) hS2 ?_;(try simp only[s3]);refine aR 11 80 (.bool true) hS2 ?_;(try simp only[s3]);refine aR 12 81 (.int .i64 0) hS2 ?_;(try simp only[s3]);refine aR 13 10 (.int .i64 lo) hS2 ?_;(try simp only[s3]);refine aR 14 11 (.int .i64 hi) hS2 ?_;(try simp only[s3]);refine aR 15 12 (.bool true) hS2 ?_;(try simp only[s3]);refine aR 16 13 (.int .i64 0) hS2 ?_;(try simp only[s3]);refine aw (by kernel_rfl) ?_ _;go_wp2_with fail;go_meet;exact⟨rfl,rfl,aa hS2⟩
 case rest =>
 obtain⟨rfl,rfl,HB⟩:=hcut;obtain⟨wz9Q,rfl⟩:∃z:World,z=wc:=⟨wc,rfl⟩;have XZ:=aa (X1.out.next HB.out);have BZ9Q:=bU B1 HB.out;clear HB X1 B1 kc HRN HI;have kc:=ak XZ.out.1;unfold Cll.vals at kc;dsimp only at kc;go_wp2_with (refine ah rfl 27 _ rfl _ rfl w.heap.size rfl 27 _ (0,0) _ XZ.out.2.1 underlying27 rfl (by kernel_rfl) ?_);refine(HP2.out _).mono ?_;rintro e w2 ⟨rfl,hb2⟩;have B2:=bU BZ9Q hb2;clear hb2 XZ BZ9Q HP2 kc;go_wp2_with fail;refine(HPR.out _).mono ?_;rintro e w3 ⟨rfl,rfl⟩;go_wp2_with fail;go_ret;exact⟨⟨_,rfl,pair_owns B2.out.size _ _ _ _ _⟩,B2.out.alloc B2.out.size _⟩
theorem rbounds4_any (w:World) (x:FV) (F:Fld) (c:Cll) (r:Int) (hk:c.kind=4) (hF:F.check=0) (hc:dP F c=0) (_h:FldAt w x F) :
 Calls prog 171 #[x.val F,c.val,.int .i64 r] w fun e w'=>(∃v,e=.returned v∧w'.ownsRow w.heap.size 65 4 v (eo F c r).length (bh (eo F c r)))∧Below w.heap.size w w':=by
 have ff:=bb hF;have cn9Q:=gZ hF hc;obtain⟨w0,hw0⟩:∃W,W=(w.alloc (.cells (x.arr F) 27)).alloc (.cells c.vals 48):=⟨_,rfl⟩;have B0:=aa (hw0▸(two_boxes w x F c).1);have X0:=aa (hw0▸(two_boxes w x F c).2);have ko9Q:=cn9Q.2.2.2.1 (by omega);have kt:=cn9Q.2.2.2.2.2.1 hk;have HPX:=aa (fun W s (h0:0≤s) (h1:s≤1000)=>rpoint_any W x F c.limit s (by omega) cn9Q.1.1 cn9Q.1.2 h0 h1);have HPY:=aa (fun W s (h0:0≤s) (h1:s≤1000)=>rpoint_any W x F c.other s (by omega) ko9Q.1 ko9Q.2 h0 h1);have HPT:=aa (fun W=>rpoint_any W x F c.limit c.fr (by omega) cn9Q.1.1 cn9Q.1.2 cn9Q.2.1.1 cn9Q.2.1.2);obtain⟨P1,hP1⟩:=ag (eE F c.limit c.fr);rw[hP1] at HPT;have HCM:=aa (fun(V:World) (hV:V.heap[w.heap.size+1]?=some (.cells c.vals 48 (0,0)))=>crs_mid hV);obtain⟨kind,limit,other,fr,tt,sz,er,c1,c2,c3,c4,c5,c6⟩:=c
 dsimp only at *
 subst hk;have cf0:=cn9Q.2.1;obtain⟨n,hn⟩:∃n:Nat,(tt-fr+1).toNat=n:=⟨_,rfl⟩
 have hn2:fr+(n:Int)=tt+1:=by omega
 have hn3:n≤1001:=by omega
 have hbs:eo F ⟨4,limit,other,fr,tt,sz,er,⟨c1,c2,c3,c4,c5,c6⟩⟩ r=li F ⟨4,limit,other,fr,tt,sz,er,⟨c1,c2,c3,c4,c5,c6⟩⟩ r n:=by
  unfold eo;rw[if_neg (by simp),if_neg (by simp),if_neg (by simp),if_pos rfl,←hn]
 rw[hbs];have HSNO:=aa (fun k=>alongG_snoc F ⟨4,limit,other,fr,tt,sz,er,⟨c1,c2,c3,c4,c5,c6⟩⟩ r k);have HLE:=aa (fun k=>alongG_len F ⟨4,limit,other,fr,tt,sz,er,⟨c1,c2,c3,c4,c5,c6⟩⟩ r k);clear hn cn9Q;have kc:=ak X0.out.1;unfold Cll.vals at kc
 unfold FV.val Cll.val at *
 dsimp only at *
 clear _h hF hc ff hP1 hbs ko9Q HCM;go_enter func171,ntmps171;go_upto_region 1 with fail;rw[←hw0];clear hw0;go_wp2_with (refine ah rfl 27 _ rfl _ rfl w.heap.size rfl 27 _ (0,0) _ X0.out.2.1 underlying27 rfl (by kernel_rfl) ?_);refine(HPT.out _).mono ?_;rintro e w1 ⟨rfl,hb1⟩;have X1:=aa (X0.out.next hb1);have B1:=bU B0 hb1;clear hb1 X0 B0 HPT kc;have kc:=ak X1.out.1;unfold Cll.vals at kc;dsimp only at kc;go_upto_region 14 with fail;have J1:Hid (QJ w x F ⟨4,limit,other,fr,tt,sz,er,⟨c1,c2,c3,c4,c5,c6⟩⟩ (.slice none 0 0) (li F ⟨4,limit,other,fr,tt,sz,er,⟨c1,c2,c3,c4,c5,c6⟩⟩ r 0) w1):=aa ⟨World.ownsRow_nil _ _ _ _,B1.out,X1.out⟩;clear X1 B1;go_wp2_with fail
 go_loopw [14,15] (fun v s wr=>∃(k:Nat) (p:Int),k≤n∧s=.int .i64 p∧p=fr+(k:Int)∧Hid (QJ w x F ⟨4,limit,other,fr,tt,sz,er,⟨c1,c2,c3,c4,c5,c6⟩⟩ v (li F ⟨4,limit,other,fr,tt,sz,er,⟨c1,c2,c3,c4,c5,c6⟩⟩ r k) wr)) (fun _ s _=>(tt+1-intOf s).toNat)
 case atStart=>exact⟨0,fr,Nat.zero_le _,rfl,by omega,J1⟩
 case round =>
  obtain⟨k,p,hk,rfl,hp,J⟩:=hrel;obtain⟨w2,rfl⟩:∃z:World,z=wr:=⟨wr,rfl⟩;obtain⟨v,rfl⟩:∃z:Value,z=u14:=⟨u14,rfl⟩;clear kc J1;have kc:=ak J.out.k.1;unfold Cll.vals at kc;dsimp only at kc
  by_cases hlt:k<n
  ·have hpb:0≤p∧p≤1000∧p≤tt:=by omega
   have HPA:=aa (fun W=>HPX.out W p hpb.1 hpb.2.1);have HPB:=aa (fun W=>HPY.out W p hpb.1 hpb.2.1);have HSN:=aa (HSNO.out k);rw[←hp] at HSN;obtain⟨P1,hP1⟩:=ag (eE F limit p);obtain⟨P2,hP2⟩:=ag (eE F other p);rw[hP1] at HPA HSN;rw[hP2] at HPB HSN;have HPQ:=aa (fun W=>rpair_any W P1 P2 0 0 r (by omega));have HP9:=aa hp;have HK9:=aa hlt;clear hP1 hP2 hp;go_upto_region 18 with fail;refine aJ (S:=Kb [(w.heap.size+1,.cells (Cll.mk 4 limit other fr tt sz er ⟨c1,c2,c3,c4,c5,c6⟩).vals 48),(w.heap.size,.cells (x.arr F) 27)]) (last:=100) (by kernel_rfl) ?_;obtain⟨W0,hW0⟩:∃W,W=w2.drew:=⟨_,rfl⟩;have J0:=aa (J.out.next (show Below w2.heap.size w2 W0 by rw[hW0];exact(Below.refl _ _).drew));have hS0:=J0.out.k;rw[←hW0];clear hW0;refine aR 0 101 (v) hS0 ?_;(try simp only[s3]);refine tf 1 102 (.agg (x.arr F)) hS0 (fun V hV=>?_) ?_
   ·exact gp rfl rfl hV.2.1 underlying27 rfl (by kernel_rfl)
   (try simp only[s3]);refine aR 2 103 (.pointer (some ⟨(w.heap.size+1),1,none⟩)) hS0 ?_;(try simp only[s3]);refine tf 3 104 (.int .i64 limit) hS0 (fun V hV=>?_) ?_
   ·(have z:=ak hV.1 1;unfold Cll.vals at z;simp[go_sem,execOp,z])
   (try simp only[s3]);refine aR 4 105 (.int .i64 p) hS0 ?_;(try simp only[s3]);refine tf 6 107 (.agg (x.arr F)) hS0 (fun V hV=>?_) ?_
   ·exact gp rfl rfl hV.2.1 underlying27 rfl (by kernel_rfl)
   (try simp only[s3]);refine aR 7 108 (.pointer (some ⟨(w.heap.size+1),2,none⟩)) hS0 ?_;(try simp only[s3]);refine tf 8 109 (.int .i64 other) hS0 (fun V hV=>?_) ?_
   ·(have z:=ak hV.1 2;unfold Cll.vals at z;simp[go_sem,execOp,z])
   (try simp only[s3]);refine aR 9 110 (.int .i64 p) hS0 ?_;(try simp only[s3]);refine aR 11 112 (.int .i64 r) hS0 ?_;(try simp only[s3]);refine ae 5 rfl (by kernel_rfl) (fun K hK=>?_);go_simp;go_at_call 168;refine(HPA.out _).mono ?_;rintro e wq1 ⟨rfl,hq1⟩;have J1:=aa (J0.out.next hq1);have hS1:=J1.out.k;clear hq1;go_wp2_with fail;refine hK.out _ _ (.inr hS1) ?_;clear hK K;(try simp only[Act.put,s3]);refine ae 10 rfl (by kernel_rfl) (fun K hK=>?_);go_simp;go_at_call 168;refine(HPB.out _).mono ?_;rintro e wq2 ⟨rfl,hq2⟩;have J2:=aa (J1.out.next hq2);have hS2:=J2.out.k;clear hq2;go_wp2_with fail;refine hK.out _ _ (.inr hS2) ?_;clear hK K;(try simp only[Act.put,s3]);refine ae 12 rfl (by kernel_rfl) (fun K hK=>?_);go_simp;go_at_call 237;refine(HPQ.out _).mono ?_;rintro e wq3 ⟨rfl,hq3⟩
   have hb3:Below wq2.heap.size wq2 wq3:=by rw[hq3];exact aD
   have own3:=(J2.out.next hb3).own;have hg3:=(show wq3.heap[wq2.heap.size]?=some (.cells (bh (eG P1 P2 0 0 r)).toArray 65 (0,0)) by rw[hq3];exact heap_alloc_new _ _);have J3:=aa (J2.out.next hb3);have hS3:=J3.out.k;obtain⟨v',w4,hrun,ho,hbl,hty⟩:=wy (news:=eG P1 P2 0 0 r) own3 hg3 (by rw[alongG_len];omega) (by show 2≤_;omega) J3.out.b.size 59;have J4:=aa (QJ.more J3.out ho hbl hty);rw[HSN.out] at J4;have hS4:=J4.out.k;have HRUN:=aa hrun;clear hrun ho hbl hty own3 hg3 hb3 hq3;go_wp2_with fail;refine hK.out _ _ (.inr hS3) ?_;clear hK K;(try simp only[Act.put,s3]);refine ae 13 rfl (by kernel_rfl) (fun K hK=>?_);refine oA rfl (s:=.tmp 101) (x:=.tmp 113) (t:=59) rfl rfl rfl HRUN.out ?_;refine hK.out _ _ (.inr hS4) ?_;clear hK K;(try simp only[Act.put,sA]);refine aR 14 14 (v') hS4 ?_;(try simp only[s3]);refine aw (by kernel_rfl) ?_ _;go_wp2_with fail;go_roundw
   case rel=>exact⟨k+1,p+1,HK9.out,rfl,by have:=HP9.out;omega,J4⟩
   case measure=>simp[intOf];omega
  ·obtain rfl:k=n:=by omega
   have hpt:tt<p:=by omega
   have JH:=J;clear J hp;go_wp2_with fail;go_ret;exact⟨⟨_,rfl,JH.out.own⟩,JH.out.b⟩
theorem rboundsC_any (w:World) (x:FV) (F:Fld) (c:Cll) (r:Int) (hF:F.check=0) (hc:dP F c=0) (h:FldAt w x F) :
 Calls prog 171 #[x.val F,c.val,.int .i64 r] w fun e w'=>(∃v,e=.returned v∧w'.ownsRow w.heap.size 65 4 v (eo F c r).length (bh (eo F c r)))∧Below w.heap.size w w':=by
 rcases(gZ hF hc).2.2.2.2.2.2.2 with k|k|k|k|k
 ·exact rbounds1_any w x F c r k hF hc h
 ·exact rbounds2_any w x F c r k hF hc h
 ·exact rbounds3_any w x F c r k hF hc h
 ·exact rbounds4_any w x F c r k hF hc h
 ·exact rbounds5_any w x F c r k hF hc h
theorem rBounds_any (w:World) (x:FV) (F:Fld) (c:Cll) (r:Int) (h:FldAt w x F) (hk:0≤c.kind∧c.kind≤255) :
 Calls prog 92 #[x.val F,c.val,.int .i64 r] w fun e w'=>(∃v,e=.returned (.tuple #[v,.int .i64 (ic F c r).2])∧w'.ownsRow w.heap.size 65 4 v (ic F c r).1.length (bh (ic F c r).1))∧Below w.heap.size w w':=by
 obtain⟨⟨RL,RE⟩,hR⟩:=ag (ic F c r);rw[hR];unfold ic at hR;obtain⟨w0,hw0⟩:∃W,W=(w.alloc (.cells (x.arr F) 27)).alloc (.cells c.vals 48):=⟨_,rfl⟩;have B0:=aa (show Below w.heap.size w w0 by rw[hw0];exact(aD).alloc (by simp) _)
 have X0:=aa (show Kb [(w.heap.size+1,.cells c.vals 48),(w.heap.size,.cells (x.arr F) 27)] w0 by
  rw[hw0];have:=Kb.alloc (o:=.cells c.vals 48) (Kb.alloc (W:=w) (o:=.cells (x.arr F) 27) (L:=[]) trivial)
  simpa using this)
 have HCF:=aa (rCheckCall_any w0 x F c (h.below B0.out) hk);have HB:=aa (fun(q:dp F c=0) W (hb:Below w.heap.size w W)=>rboundsC_any W x F c r (gC q).1 (gC q).2 (h.below hb));have HIN:=aa (fun W=>within3_any r 0 1000000 W);obtain⟨z,hz⟩:=ag (dp F c);rw[hz] at HCF hR HB;obtain⟨p,hp⟩:=ag (bm r 0 1000000);rw[hp] at hR HIN;clear hz hp h;go_enter func92,ntmps92;go_upto_region 1 with fail;unfold FV.val Cll.val;rw[←hw0];clear hw0;refine wp_region_list ?_;refine ah rfl 27 _ rfl _ rfl w.heap.size rfl 27 _ (0,0) _ X0.out.2.1 underlying27 rfl (by kernel_rfl) ?_;refine ah rfl 48 _ rfl _ rfl (w.heap.size+1) rfl 48 _ (0,0) _ X0.out.1 underlying48 rfl (by kernel_rfl) ?_;simp only[Act.put,sA,sB,sC];go_wp2_with fail;refine HCF.out.mono ?_;rintro e w1 ⟨rfl,hb1⟩;have X1:=aa (X0.out.next hb1);have B1:=bU B0 hb1;clear hb1 HCF X0
 by_cases h0:z=0
 rotate_left
 ·rw[if_pos h0] at hR
  have hzb:(z != 0)=true:=by simpa using h0
  cases hR;clear h0;go_wp2_with fail;go_ret2;exact⟨⟨_,rfl,fI _ _⟩,B1.out⟩
 subst h0;rw[if_neg (by omega)] at hR
 cases p with
 | false =>
   rw[if_pos rfl] at hR;cases hR;go_wp2_with fail;refine(HIN.out _).mono ?_;rintro e w2 ⟨rfl,rfl⟩;go_wp2_with fail;go_ret2;exact⟨⟨_,rfl,fI _ _⟩,B1.out⟩
 | true =>
   rw[if_neg (by simp)] at hR;cases hR;go_wp2_with fail;refine(HIN.out _).mono ?_;rintro e w2 ⟨rfl,rfl⟩;go_upto_region 6 with fail;refine wp_region_list ?_;refine ah rfl 27 _ rfl _ rfl w.heap.size rfl 27 _ (0,0) _ X1.out.2.1 underlying27 rfl (by kernel_rfl) ?_;refine ah rfl 48 _ rfl _ rfl (w.heap.size+1) rfl 48 _ (0,0) _ X1.out.1 underlying48 rfl (by kernel_rfl) ?_;simp only[Act.put,sA,sB,sC];go_wp2_with fail;refine(HB.out trivial _ B1.out).mono ?_;rintro e w3 ⟨⟨v,rfl,hv⟩,hb3⟩;have HV:=aa hv;have HB3:=aa hb3;clear hv hb3;go_wp2_with fail;go_ret2;refine⟨⟨_,rfl,?_⟩,bB B1.out HB3.out⟩;obtain⟨h1,h2|⟨g,cp,cur,e1,e2,e3⟩⟩:=HV.out
   ·exact⟨h1,.inl h2⟩
   ·exact⟨h1,.inr ⟨g,cp,cur,e1,Nat.le_trans B1.out.size e2,e3⟩⟩
def pointE (F:Fld) (i s:Int):Int×Int:=if F.check≠0 then(0,F.check) else if bD F i s=false then(0,1) else((eX F i s:Int),0)
theorem rPoints_any (w:World) (x:FV) (F:Fld) (h:FldAt w x F) :
 Calls prog 167 #[x.val F] w fun e w'=>e=.returned (.int .i64 (if F.check=0 then F.points else 0))∧Below w.heap.size w w':=by
 obtain⟨w0,hw0⟩:∃W,W=w.alloc (.cells (x.arr F) 27):=⟨_,rfl⟩;have B0:=aa (show Below w.heap.size w w0 by rw[hw0];exact aD);have X0:=aa (show Kb [(w.heap.size,.cells (x.arr F) 27)] w0 by rw[hw0];exact Kb.alloc trivial);have HCF:=aa (refCheckField_any w0 x F (h.below B0.out));have HBD:=aa (fun(q:F.check=0)=>xL (F:=F) (by have:=(bb q).2.1;omega) (by have:=(bb q).1;omega));unfold Fld.points;obtain⟨m,hm⟩:=ag ((F.lms.length:Int)*(F.sts.length:Int));rw[hm] at HBD ⊢;obtain⟨z,hz⟩:=ag F.check;rw[hz] at HCF HBD ⊢;have HM:=aa hm;obtain⟨Z,hZ⟩:∃r:Int,(if z=0 then 1+m else 0)=r:=⟨_,rfl⟩;rw[hZ];clear hz h hm;have kk:=ak X0.out.1
 unfold FV.val FV.arr at *
 go_enter func167,ntmps167;go_upto_region 1 with fail;rw[←hw0];clear hw0;go_wp2_with fail;refine HCF.out.mono ?_;rintro e w1 ⟨rfl,hb1⟩;have X1:=aa (X0.out.next hb1);have B1:=bU B0 hb1;clear hb1 HCF X0 kk
 by_cases h0:z=0
 rotate_left
 ·rw[if_neg h0] at hZ
  subst hZ
  have hzb:(z != 0)=true:=by simpa using h0
  clear h0;go_wp2_with fail;go_ret;exact⟨rfl,B1.out⟩
 subst h0;rw[if_pos rfl] at hZ;subst hZ;have hbd:=HBD.out (by trivial);have hm:=HM.out
 have wm:IntKind.i64.wrap ((F.lms.length:Int)*(F.sts.length:Int))=m:=by rw[hm];exact IntWalk.i64_in _ (by omega)
 have kk:=ak X1.out.1;clear hm HM HBD;go_wp2_with fail;go_ret;exact⟨rfl,B1.out⟩
theorem nat2_split (p:Nat):vt p=[(⟨0,(p:Int)+1,100000,0⟩:Bd)]++[⟨(p:Int)+1,0,0,0⟩]:=rfl
theorem rnature_ok (w:World) (x:FV) (F:Fld) (hF:F.check=0) (hf:FldAt w x F) :
 Calls prog 90 #[x.val F] w fun e w'=>(∃v,e=.returned (.tuple #[v,.int .i64 0])∧w'.ownsRow w.heap.size 65 4 v (fF F).length (bh (fF F)))∧Below w.heap.size w w':=by
 have hl:=(bb hF).2.1;have hs:=(bb hF).1;have hm:=kX hF;obtain⟨n,hn⟩:=ag (F.lms.length*F.sts.length)
 have hP:F.points=(n:Int)+1:=by unfold Fld.points;rw[←hn];push_cast;omega
 have HPT:=aa (fun W (hb:Below w.heap.size w W)=>rPoints_any W x F (hf.below hb));have HCF:=aa (fun W (hb:Below w.heap.size w W)=>refCheckField_any W x F (hf.below hb));rw[if_pos hF,hP] at HPT;rw[hF] at HCF;rw[Af];obtain⟨w0,hw0⟩:∃W,W=w.alloc (.cells (x.arr F) 27):=⟨_,rfl⟩;have J0:=aa (show NJ w x F (.slice none 0 0) [] w0 from⟨World.ownsRow_nil _ _ _ _,by rw[hw0];exact aD,by rw[hw0];exact heap_alloc_new _ _⟩);rw[hn] at hm;have HN:=aa hn;clear hn hP hf
 unfold FV.val FV.arr at *
 go_enter func90,ntmps90;go_upto_region 1 with fail;rw[←hw0];clear hw0;have kk:=ak J0.out.k;unfold FV.arr at kk;go_wp2_with fail;refine(HCF.out _ J0.out.b).mono ?_;rintro e w1 ⟨rfl,hb⟩;have J1:=aa (J0.out.next hb);clear hb kk J0 HCF;go_wp2_with fail
 go_loopw [5,6] (fun v p wr=>∃(k:Nat),k≤n∧p=.int .i64 ((k:Int)+1)∧Hid (NJ w x F v ((List.range k).flatMap vt) wr)) (fun _ p _=>n+1-(intOf p).toNat)
 case atStart=>exact⟨0,Nat.zero_le _,rfl,J1⟩
 case round =>
  obtain⟨k,hk,rfl,J⟩:=hrel;obtain⟨wA,rfl⟩:∃z:World,z=wr:=⟨wr,rfl⟩;have kk:=ak J.out.k;unfold FV.arr at kk
  by_cases hlt:k<n
  ·go_wp2_with fail
   refine(HPT.out _ J.out.b).mono ?_;rintro e wB ⟨rfl,hb⟩;have J2:=aa (J.out.next hb);clear hb kk;have own3:=J2.out.own.alloc (.cells #[.int .i64 0,.int .i64 ((k:Int)+1),.int .i64 100000,.int .i64 0] 65);obtain⟨v1,wC,hrun,ho,hbl,hty⟩:=wy (news:=[⟨0,(k:Int)+1,100000,0⟩]) own3 (b:=wB.heap.size) (heap_alloc_new _ _) (by rw[sy];omega) (by show 1≤_;omega) (by have:=J2.out.lt;simp;omega) 59;have J3:=aa (NJ.more (J2.out.next ((Below.refl _ _).alloc (Nat.le_refl _) (.cells #[.int .i64 0,.int .i64 ((k:Int)+1),.int .i64 100000,.int .i64 0] 65))) ho hbl hty);have HRUN:=aa hrun;clear hrun ho hbl hty own3 J J2;have own4:=J3.out.own.alloc (.cells #[.int .i64 ((k:Int)+1),.int .i64 0,.int .i64 0,.int .i64 0] 65);obtain⟨v',wD,hrun,ho,hbl,hty⟩:=wy (news:=[⟨(k:Int)+1,0,0,0⟩]) own4 (b:=wC.heap.size) (heap_alloc_new _ _) (by rw[List.length_append,sy];simp;omega) (by show 1≤_;omega) (by have:=J3.out.lt;simp;omega) 59;have J4:=aa (NJ.more (J3.out.next ((Below.refl _ _).alloc (Nat.le_refl _) (.cells #[.int .i64 ((k:Int)+1),.int .i64 0,.int .i64 0,.int .i64 0] 65))) ho hbl hty);rw[List.append_assoc,←nat2_split,←jP] at J4;have HRUN2:=aa hrun;clear hrun ho hbl hty own4 J3
   have hkw:IntKind.i64.wrap ((k:Int)+1+1)=((k+1:Nat):Int)+1:=by rw[IntWalk.i64_in _ (by omega)];push_cast;rfl
   go_wp2_with (at_builtin;first|(refine aN rfl (s:=.tmp 20) (x:=.tmp 23) (t:=59) rfl rfl rfl HRUN.out ?_)|(refine aN rfl (s:=.tmp 25) (x:=.tmp 28) (t:=59) rfl rfl rfl HRUN2.out ?_));go_roundw
   case rel=>exact⟨k+1,by omega,by go_num,J4⟩
   case measure=>simp[intOf];omega
  ·obtain rfl:k=n:=by omega
   go_wp2_with fail;refine(HPT.out _ J.out.b).mono ?_;rintro e wB ⟨rfl,hb⟩;have J2:=aa (J.out.next hb);clear hb kk J;have hJ2:Hid (NJ w x F u5 (iR F 0) wB):=aa (by have:=J2.out;unfold iR;rw[HN.out];simpa using this);clear J2;have kk:=ak hJ2.out.k;unfold FV.arr at kk;go_wp2_with fail
   go_loopw [5,7] (fun v i wr=>∃(k:Nat),k≤F.lms.length-1∧i=.int .i64 (k:Int)∧Hid (NJ w x F v (iR F k) wr)) (fun _ i _=>F.lms.length-1-(intOf i).toNat)
   case atStart=>exact⟨0,Nat.zero_le _,rfl,hJ2⟩
   case round =>
    obtain⟨k,hk2,rfl,J⟩:=hrel;obtain⟨wD,rfl⟩:∃z:World,z=wr:=⟨wr,rfl⟩;clear hJ2 kk;have kk:=ak J.out.k;unfold FV.arr at kk
    by_cases hlt2:k<F.lms.length-1
    ·have hkb:(k:Int)+1≤1000:=by omega
     have hlt3:(k:Int)<(F.lms.length:Int)-1:=by omega
     have hlt5:decide ((k:Int)+1<(F.lms.length:Int))=true:=by simp;omega
     go_wp2_with fail
     go_loopw [5,8] (fun v i wr=>∃(st:Nat),st≤F.sts.length∧i=.int .i64 (st:Int)∧Hid (NJ w x F v (jz F k st) wr)) (fun _ i _=>F.sts.length-(intOf i).toNat)
     case atStart=>exact⟨0,Nat.zero_le _,rfl,aa (by rw[ul];exact J.out)⟩
     case round =>
      obtain⟨st,hst,rfl,J5⟩:=hrel;obtain⟨wE,rfl⟩:∃z:World,z=wr:=⟨wr,rfl⟩;clear kk;have kk:=ak J5.out.k;unfold FV.arr at kk
      by_cases hlt4:st<F.sts.length
      ·have HPA:=aa (fun W=>rpoint_any W x F ((k:Int)+1) (st:Int) (by omega) (by omega) (by omega) (by omega) (by omega))
       have HPB:=aa (fun W=>rpoint_any W x F (k:Int) (st:Int) (by omega) (by omega) (by omega) (by omega) (by omega));have HNA:=aa (show Ba F k st=⟨eE F ((k:Int)+1) (st:Int),eE F (k:Int) (st:Int),0,0⟩ from rfl);unfold FV.val FV.arr at HPA HPB;obtain⟨p,hp⟩:=ag (eE F ((k:Int)+1) (st:Int));obtain⟨q,hq⟩:=ag (eE F (k:Int) (st:Int));rw[hp] at HPA HNA;rw[hq] at HPB HNA;have wk1:IntKind.i64.wrap ((k:Int)+1)=(k:Int)+1:=IntWalk.i64_in _ (by omega);have hklen:k*F.sts.length≤9*12:=Nat.mul_le_mul (by omega) (by omega);clear hp hq J;go_upto_region 16 with fail;have J0:=aa (J5.out.next (Below.refl _ wE).drew);have hS0:Kb [(w.heap.size,.cells #[.slice x.aS F.sts.length x.cS,.slice x.aL F.lms.length x.cL,.slice x.aP F.prs.length x.cP,.slice x.aV F.vrs.length x.cV] 27)] wE.drew:=⟨J0.out.k,trivial⟩;clear J5 kk;refine aJ (S:=Kb [(w.heap.size,.cells #[.slice x.aS F.sts.length x.cS,.slice x.aL F.lms.length x.cL,.slice x.aP F.prs.length x.cP,.slice x.aV F.vrs.length x.cV] 27)]) (last:=100) (by kernel_rfl) ?_;refine aR 0 45 (u5) hS0 ?_;(try simp only[s3]);refine tf 1 46 (.agg #[.slice x.aS F.sts.length x.cS,.slice x.aL F.lms.length x.cL,.slice x.aP F.prs.length x.cP,.slice x.aV F.vrs.length x.cV]) hS0 (fun V hV=>?_) ?_
       ·exact gp rfl rfl hV.1 underlying27 rfl (by kernel_rfl)
       (try simp only[s3]);refine aR 2 47 (.int .i64 ((k:Int))) hS0 ?_;(try simp only[s3]);refine tf 3 48 (.int .i64 ((k:Int)+1)) hS0 (fun V hV=>?_) ?_
       ·simp[go_sem,execOp,wk1]
       (try simp only[s3]);refine aR 4 49 (.int .i64 ((st:Int))) hS0 ?_;(try simp only[s3]);refine tf 6 51 (.agg #[.slice x.aS F.sts.length x.cS,.slice x.aL F.lms.length x.cL,.slice x.aP F.prs.length x.cP,.slice x.aV F.vrs.length x.cV]) hS0 (fun V hV=>?_) ?_
       ·exact gp rfl rfl hV.1 underlying27 rfl (by kernel_rfl)
       (try simp only[s3]);refine aR 7 52 (.int .i64 ((k:Int))) hS0 ?_;(try simp only[s3]);refine aR 8 53 (.int .i64 ((st:Int))) hS0 ?_;(try simp only[s3]);refine ae 5 rfl (by kernel_rfl) (fun K hK=>?_);go_simp;go_at_call 168;refine(HPA.out _).mono ?_;rintro e z1 ⟨rfl,hb1⟩;have hS1:=hS0.next hb1;have J1:=aa (J0.out.next hb1);clear hb1 J0;go_wp2_with fail;refine hK.out _ _ (.inr hS1) ?_;clear hK K;(try simp only[Act.put,s3]);refine ae 9 rfl (by kernel_rfl) (fun K hK=>?_);go_simp;go_at_call 168;refine(HPB.out _).mono ?_;rintro e z2 ⟨rfl,hb2⟩;have hS2:=hS1.next hb2;have J2:=aa (J1.out.next hb2);clear hb2 J1;go_wp2_with fail;refine hK.out _ _ (.inr hS2) ?_;clear hK K;(try simp only[Act.put,s3]);refine aR 10 55 (.agg #[.int .i64 p,.int .i64 q,.int .i64 0,.int .i64 0]) hS2 ?_;(try simp only[s3]);refine ae 11 rfl (by kernel_rfl) (fun K hK=>?_);refine Eq.mpr (if_pos (by kernel_rfl)) ?_;go_simp;have hS3:=hS2.next ((Below.refl _ z2).alloc (Nat.le_refl _) (.cells #[.int .i64 p,.int .i64 q,.int .i64 0,.int .i64 0] 65));obtain⟨v2,z4,hrun,ho,hbl,hty⟩:=wy (news:=[⟨p,q,0,0⟩]) (J2.out.own.alloc (.cells #[.int .i64 p,.int .i64 q,.int .i64 0,.int .i64 0] 65)) (b:=z2.heap.size) (heap_alloc_new _ _) (by rw[xn,HN.out];omega) (by simp) (by have:=J2.out.lt;simp;omega) 59;have J4:=aa (NJ.more (J2.out.next ((Below.refl _ _).alloc (Nat.le_refl _) (.cells #[.int .i64 p,.int .i64 q,.int .i64 0,.int .i64 0] 65))) ho hbl hty);have hS4:Kb [(w.heap.size,.cells #[.slice x.aS F.sts.length x.cS,.slice x.aL F.lms.length x.cL,.slice x.aP F.prs.length x.cP,.slice x.aV F.vrs.length x.cV] 27)] z4:=⟨hty _ _ _ _ hS3.1 (by decide),trivial⟩;have HRUN:=aa hrun;clear hrun ho hbl hty;refine hK.out _ _ (.inr hS3) ?_;clear hK K;(try simp only[Act.put,s3]);refine ae 12 rfl (by kernel_rfl) (fun K hK=>?_);refine oA rfl (s:=.tmp 45) (x:=.tmp 56) (t:=59) rfl rfl rfl HRUN.out ?_;refine hK.out _ _ (.inr hS4) ?_;clear hK K;(try simp only[Act.put,sA]);refine aR 13 5 (v2) hS4 ?_;(try simp only[s3]);refine aw (by kernel_rfl) ?_ _;rw[←HNA.out,uu] at J4;go_wp2_with fail;go_roundw
       case rel=>exact⟨st+1,by omega,by go_num,J4⟩
       case measure=>simp[intOf];omega
      ·obtain rfl:st=F.sts.length:=by omega
       have J6:Hid (NJ w x F u5 (iR F (k+1)) wE):=aa (by rw[←xR];exact J5.out);clear J J5;go_wp2_with fail;go_roundw
       case rel=>exact⟨k+1,by omega,by go_num,J6⟩
       case measure=>simp[intOf];omega
    ·have hlt5:decide ((k:Int)+1<(F.lms.length:Int))=false:=by simp;omega
     have hkb:(k:Int)+1≤1000:=by omega
     have hkk:k=F.lms.length-1:=by omega
     rw[hkk] at J;clear hkk;go_wp2_with fail;go_ret2;exact⟨⟨_,rfl,J.out.own⟩,J.out.b⟩
theorem rNature_any (w:World) (x:FV) (F:Fld) (h:FldAt w x F) :
 Calls prog 90 #[x.val F] w fun e w'=>(∃v,e=.returned (.tuple #[v,.int .i64 F.check])∧w'.ownsRow w.heap.size 65 4 v (jm F).length (bh (jm F)))∧Below w.heap.size w w':=by
 unfold jm
 by_cases hF:F.check=0
 ·rw[hF,if_pos rfl]
  exact rnature_ok w x F hF h
 rw[if_neg hF];obtain⟨w0,hw0⟩:∃W,W=w.alloc (.cells (x.arr F) 27):=⟨_,rfl⟩;have B0:=aa (show Below w.heap.size w w0 by rw[hw0];exact aD);have X0:=aa (show Kb [(w.heap.size,.cells (x.arr F) 27)] w0 by rw[hw0];exact Kb.alloc trivial);have HCF:=aa (refCheckField_any w0 x F (h.below B0.out));obtain⟨z,hz⟩:=ag F.check;rw[hz] at HCF hF ⊢
 have hzb:(z != 0)=true:=by simpa using hF
 clear hz h hF;have kk:=ak X0.out.1
 unfold FV.val FV.arr at *
 go_enter func90,ntmps90;go_upto_region 1 with fail;rw[←hw0];clear hw0;go_wp2_with fail;refine HCF.out.mono ?_;rintro e w1 ⟨rfl,hb1⟩;have B1:=bU B0 hb1;clear hb1 HCF X0 kk;go_wp2_with fail;go_ret2;exact⟨⟨_,rfl,fI _ _⟩,B1.out⟩
theorem rPoint_any (w:World) (x:FV) (F:Fld) (i s:Int) (h:FldAt w x F) :
 Calls prog 141 #[x.val F,.int .i64 i,.int .i64 s] w fun e w'=>e=.returned (.tuple #[.int .i64 (pointE F i s).1,.int .i64 (pointE F i s).2])∧Below w.heap.size w w':=by
 obtain⟨w0,hw0⟩:∃W,W=w.alloc (.cells (x.arr F) 27):=⟨_,rfl⟩;have B0:=aa (show Below w.heap.size w w0 by rw[hw0];exact aD);have X0:=aa (show Kb [(w.heap.size,.cells (x.arr F) 27)] w0 by rw[hw0];exact Kb.alloc trivial);have HC:=aa (refCheckField_any w0 x F (h.below B0.out));have HCO:=aa (fun(q:F.check=0) W=>rcorner_any W x F i s (by have:=(bb q).2.1;omega) (by have:=(bb q).1;omega))
 have HPT:=aa (fun(q:F.check=0) (ab:bD F i s=true) W=>(by
  unfold bD at ab;rw[Bool.and_eq_true] at ab;have a:=ab.1;have b:=ab.2;have g:=bb q;have a3:=dZ.1 (show bm i 0 ((F.lms.length:Int)-1)=true from a);have b3:=dZ.1 (show bm s 0 ((F.sts.length:Int)-1)=true from b);have:=rpoint_any W x F i s (by omega) (by omega) (by omega) (by omega) (by omega);rw[←(kh a b).2.2] at this
  exact this))
 have hCB:(bZ F i&&aY F s)=bD F i s:=rfl;rw[hCB] at HCO;obtain⟨⟨R1,R2⟩,hR⟩:=ag (pointE F i s);rw[hR];unfold pointE at hR;obtain⟨M,hM⟩:=ag F.check;obtain⟨cb,hcb⟩:=ag (bD F i s);rw[hM] at HC hR HPT HCO;rw[hcb] at hR HPT HCO;have kk:=ak X0.out.1;clear hM hcb hCB h
 unfold FV.val FV.arr at *
 go_enter func141,ntmps141;go_upto_region 1 with fail;rw[←hw0];clear hw0;go_wp2_with fail;refine HC.out.mono ?_;rintro e w1 ⟨rfl,hb1⟩;have X1:=aa (X0.out.next hb1);have B1:=bU B0 hb1;clear hb1 HC X0 B0 kk
 by_cases h0:M=0
 rotate_left
 ·have hzb:(M != 0)=true:=by simpa using h0
  rw[if_pos h0] at hR;cases hR;clear h0 HPT HCO;go_wp2_with fail;go_ret2;exact⟨rfl,B1.out⟩
 subst h0;rw[if_neg (by simp)] at hR;have HR:=aa hR;have HCO2:=aa (HCO.out (by trivial));have kk:=ak X1.out.1;clear hR HCO;go_wp2_with fail;refine(HCO2.out _).mono ?_;rintro e w2 ⟨rfl,hb2⟩;have X2:=aa (X1.out.next hb2);have B2:=bU B1 hb2;clear hb2 X1 B1 kk HCO2;have kk:=ak X2.out.1;have hR:=HR.out;clear HR;cases cb
 ·rw[if_pos rfl] at hR
  cases hR;clear HPT;go_wp2_with fail;go_ret2;exact⟨rfl,B2.out⟩
 rw[if_neg (by simp)] at hR;have HP2:=aa (HPT.out (by trivial) (by trivial));obtain⟨p,hp⟩:∃p:Int,((eX F i s:Nat):Int)=p:=⟨_,rfl⟩;rw[hp] at hR HP2;cases hR;clear HPT hp;go_wp2_with fail;refine(HP2.out _).mono ?_;rintro e w3 ⟨rfl,hb3⟩;have B3:=bU B2 hb3;clear hb3 kk;go_wp2_with fail;go_ret2;exact⟨rfl,B3.out⟩
theorem rcornered_any (w:World) (x:FV) (F:Fld) (i s:Int) (h:FldAt w x F) :
 Calls prog 78 #[x.val F,.agg #[.int .i64 i,.int .i64 s]] w fun e w'=>e=.returned (.int .i64 (pointE F i s).2)∧Below w.heap.size w w':=by
 obtain⟨w0,hw0⟩:∃W,W=(w.alloc (.cells (x.arr F) 27)).alloc (.cells #[.int .i64 i,.int .i64 s] 30):=⟨_,rfl⟩;have B0:=aa (show Below w.heap.size w w0 by rw[hw0];exact(aD).alloc (by simp) _)
 have X0:=aa (show Kb [(w.heap.size+1,.cells #[.int .i64 i,.int .i64 s] 30),(w.heap.size,.cells (x.arr F) 27)] w0 by
  rw[hw0];have:=Kb.alloc (o:=.cells #[.int .i64 i,.int .i64 s] 30) (Kb.alloc (W:=w) (o:=.cells (x.arr F) 27) (L:=[]) trivial)
  simpa using this)
 have HP:=aa (rPoint_any w0 x F i s (h.below B0.out));obtain⟨⟨p,e⟩,hp⟩:=ag (pointE F i s);rw[hp] at HP ⊢;have k0:=ak X0.out.2.1;have k1:=ak X0.out.1;clear h hp
 unfold FV.val FV.arr at *
 go_enter func78,ntmps78;go_upto_region 1 with fail;rw[←hw0];clear hw0;go_wp2_with fail;refine HP.out.mono ?_;rintro e w1 ⟨rfl,hb1⟩;have B1:=bU B0 hb1;clear hb1 k0 k1;go_wp2_with fail;go_ret;exact⟨rfl,B1.out⟩
theorem rpointC_any (w:World) (x:FV) (F:Fld) (i s:Int) (h:FldAt w x F) :
 Calls prog 80 #[x.val F,.agg #[.int .i64 i,.int .i64 s]] w fun e w'=>e=.returned (.int .i64 (pointE F i s).1)∧Below w.heap.size w w':=by
 obtain⟨w0,hw0⟩:∃W,W=(w.alloc (.cells (x.arr F) 27)).alloc (.cells #[.int .i64 i,.int .i64 s] 30):=⟨_,rfl⟩;have B0:=aa (show Below w.heap.size w w0 by rw[hw0];exact(aD).alloc (by simp) _)
 have X0:=aa (show Kb [(w.heap.size+1,.cells #[.int .i64 i,.int .i64 s] 30),(w.heap.size,.cells (x.arr F) 27)] w0 by
  rw[hw0];have:=Kb.alloc (o:=.cells #[.int .i64 i,.int .i64 s] 30) (Kb.alloc (W:=w) (o:=.cells (x.arr F) 27) (L:=[]) trivial)
  simpa using this)
 have HP:=aa (rPoint_any w0 x F i s (h.below B0.out));obtain⟨⟨p,e⟩,hp⟩:=ag (pointE F i s);rw[hp] at HP ⊢;have k0:=ak X0.out.2.1;have k1:=ak X0.out.1;clear h hp
 unfold FV.val FV.arr at *
 go_enter func80,ntmps80;go_upto_region 1 with fail;rw[←hw0];clear hw0;go_wp2_with fail;refine HP.out.mono ?_;rintro e w1 ⟨rfl,hb1⟩;have B1:=bU B0 hb1;clear hb1 k0 k1;go_wp2_with fail;go_ret;exact⟨rfl,B1.out⟩
theorem rname4_any (s:ByteArray) (w:World) (hs:s.size≤9223372036854775807) :
 Calls prog 169 #[.string s] w fun e w'=>e=.returned (.bool (bI s))∧w=w':=by
 obtain⟨P,hP⟩:=ag (bI s);rw[hP]
 by_cases h1:s.size<1
 ·obtain rfl:false=P:=by rw[←hP];unfold bI;simp;omega
  have d1:decide ((s.size:Int)<1)=true:=by simp;omega
  clear h1 hP;go_enter func169,ntmps169;go_wp2_with fail;go_ret;exact⟨rfl,rfl⟩
 have d1:decide ((s.size:Int)<1)=false:=by simp;omega
 by_cases h2:24<s.size
 ·obtain rfl:false=P:=by rw[←hP];unfold bI;simp;omega
  have d2:decide ((s.size:Int)>24)=true:=by simp;omega
  have d2':decide (24<s.size)=true:=by simp;omega
  clear h1 h2 hP;go_enter func169,ntmps169;go_wp2_with fail;go_ret;exact⟨rfl,rfl⟩
 have d2:decide ((s.size:Int)>24)=false:=by simp;omega
 have d2':decide (24<s.size)=false:=by simp;omega
 have h0:=zK s 0 (by omega)
 have hpos:0<s.size:=by omega
 have HP:Hid ((iU s[0]&&s.data.toList.all dG)=P):=aa (by rw[←hP];unfold bI;rw[h0];simp[show 1≤s.size by omega,show s.size≤24 by omega]);clear hP h0
 by_cases hlow:iU s[0]=true
 rotate_left
 ·obtain rfl:false=P:=by rw[←HP.out];simp[hlow]
  have hb:¬(97≤s[0].toNat∧s[0].toNat≤122):=by rw[←pG];exact hlow
  clear hlow HP
  by_cases g:s[0].toNat<97
  ·have d3:decide ((s[0].toNat:Int)<97)=true:=by simp;omega
   clear hb;go_enter func169,ntmps169;go_wp2_with fail;go_ret;exact⟨rfl,rfl⟩
  ·have d3:decide ((s[0].toNat:Int)<97)=false:=by simp;omega
   have d4:decide ((s[0].toNat:Int)>122)=true:=by simp;omega
   clear hb;go_enter func169,ntmps169;go_wp2_with fail;go_ret;exact⟨rfl,rfl⟩
 have hb:97≤s[0].toNat∧s[0].toNat≤122:=(pG _).1 hlow
 have d3:decide ((s[0].toNat:Int)<97)=false:=by simp;omega
 have d4:decide ((s[0].toNat:Int)>122)=false:=by simp;omega
 have HL:=aa hlow;clear hlow hb;go_enter func169,ntmps169;go_wp2_with fail
 go_loop [3] (fun i=>∃k:Nat,k≤s.size∧i=.int .i64 k∧Hid ((s.data.toList.take k).all dG=true)) (fun i=>s.size-(intOf i).toNat)
 case atStart=>exact⟨0,Nat.zero_le _,rfl,aa rfl⟩
 case round =>
  obtain⟨k,hk,rfl,HA⟩:=hrel;clear d3 d4
  by_cases hlt:k<s.size
  ·have HS:=aa (ua s k hlt)
   have hni:=dM s[k];have HNO:Hid (dG s[k]=false→P=false):=aa (fun hn=>by rw[←HP.out,kL (l:=s.data.toList) (k:=k) (by simpa using hlt) rfl hn,Bool.and_false]);have HYES:Hid (dG s[k]=true→(s.data.toList.take (k+1)).all dG=true):=aa (fun hn=>by rw[HS.out,List.all_append,HA.out];simp[hn])
   by_cases g1:s[k].toNat<97
   ·have f1:decide ((s[k].toNat:Int)<97)=true:=by simp;omega
    by_cases g2:s[k].toNat<48
    ·have f2:decide ((s[k].toNat:Int)<48)=true:=by simp;omega
     by_cases g3:s[k].toNat=45
     ·have fe9Q:((s[k].toNat:Int) != 45)=false:=by simp;omega
      have HN2:=aa (HYES.out (hni.2 (by omega)));have HK:=aa hlt;clear hni HYES HNO g1 g2 g3;go_wp2_with fail;go_round
      case rel=>exact⟨k+1,HK.out,by go_num,HN2⟩
      case measure=>have:=HK.out;simp[intOf];omega
     ·have fe9Q:((s[k].toNat:Int) != 45)=true:=by simp;omega
      obtain rfl:=HNO.out (by rw[←Bool.not_eq_true,hni];omega);clear hni HYES HNO g1 g2 g3;go_wp2_with fail;go_ret;exact⟨rfl,rfl⟩
    ·have f2:decide ((s[k].toNat:Int)<48)=false:=by simp;omega
     by_cases g3:s[k].toNat≤57
     ·have f3:decide ((s[k].toNat:Int)>57)=false:=by simp;omega
      have HN2:=aa (HYES.out (hni.2 (by omega)));have HK:=aa hlt;clear hni HYES HNO g1 g2 g3;go_wp2_with fail;go_round
      case rel=>exact⟨k+1,HK.out,by go_num,HN2⟩
      case measure=>have:=HK.out;simp[intOf];omega
     ·have f3:decide ((s[k].toNat:Int)>57)=true:=by simp;omega
      have fe9Q:((s[k].toNat:Int) != 45)=true:=by simp;omega
      obtain rfl:=HNO.out (by rw[←Bool.not_eq_true,hni];omega);clear hni HYES HNO g1 g2 g3;go_wp2_with fail;go_ret;exact⟨rfl,rfl⟩
   ·have f1:decide ((s[k].toNat:Int)<97)=false:=by simp;omega
    by_cases g2:s[k].toNat≤122
    ·have f2:decide ((s[k].toNat:Int)>122)=false:=by simp;omega
     have HN2:=aa (HYES.out (hni.2 (by omega)));have HK:=aa hlt;clear hni HYES HNO g1 g2;go_wp2_with fail;go_round
     case rel=>exact⟨k+1,HK.out,by go_num,HN2⟩
     case measure=>have:=HK.out;simp[intOf];omega
    ·have f2:decide ((s[k].toNat:Int)>122)=true:=by simp;omega
     have f3:decide ((s[k].toNat:Int)<48)=false:=by simp;omega
     have f4:decide ((s[k].toNat:Int)>57)=true:=by simp;omega
     have fe9Q:((s[k].toNat:Int) != 45)=true:=by simp;omega
     obtain rfl:=HNO.out (by rw[←Bool.not_eq_true,hni];omega);clear hni HYES HNO g1 g2;go_wp2_with fail;go_ret;exact⟨rfl,rfl⟩
  ·have hall:s.data.toList.all dG=true:=by have:=HA.out;rwa [List.take_of_length_le (by simp;omega)] at this
   obtain rfl:true=P:=by rw[←HP.out,hall,HL.out];rfl
   clear hall;go_wp2_with fail;go_ret;exact⟨rfl,rfl⟩
def recR (F:Fld) (r:Rcd) (last:Int):Int:=if r.right=false∨r.id≤last then 1 else r.err F
theorem call_mid50 {V:World} {b:Nat} {r:Rcd} (h:V.heap[b]?=some (.cells r.vals 50 (0,0))):V.rangeAt b 5 r.call.vals.toList:=kH h rfl
theorem two_boxes50 (w:World) (x:FV) (F:Fld) (r:Rcd):Below w.heap.size w ((w.alloc (.cells (x.arr F) 27)).alloc (.cells r.vals 50))∧Kb [(w.heap.size+1,.cells r.vals 50),(w.heap.size,.cells (x.arr F) 27)] ((w.alloc (.cells (x.arr F) 27)).alloc (.cells r.vals 50)) :=
 ⟨(aD).alloc (by simp) _,by
   have:=Kb.alloc (o:=.cells r.vals 50) (Kb.alloc (W:=w) (o:=.cells (x.arr F) 27) (L:=[]) trivial)
   simpa using this⟩
theorem bounds_err {F:Fld} {c:Cll} {r:Int} (hF:F.check=0) (hc:dP F c=0) (h:bm r 0 1000000=true):ic F c r=(eo F c r,0):=by
 unfold ic dp;rw[if_neg (show ¬F.check≠0 by simpa using hF),if_neg (by simpa using hc),if_neg (by rw[h];simp)]
theorem checkRecord_any (w:World) (x:FV) (F:Fld) (r:Rcd) (last:Int) (hF:F.check=0) (h:FldAt w x F) (hk:0≤r.call.kind∧r.call.kind≤255) (hd:r.deed.size≤9223372036854775807) :
 Calls prog 91 #[x.val F,.agg r.vals,.int .i64 last] w fun e w'=>e=.returned (.int .i64 (recR F r last))∧Below w.heap.size w w':=by
 obtain⟨w0,hw0⟩:∃W,W=(w.alloc (.cells (x.arr F) 27)).alloc (.cells r.vals 50):=⟨_,rfl⟩;have B0:=aa (hw0▸(two_boxes50 w x F r).1);have X0:=aa (hw0▸(two_boxes50 w x F r).2);have HNM:=aa (fun W=>rname4_any r.deed W hd);have HCC:=aa (fun W (hb:Below w.heap.size w W)=>rCheckCall_any W x F r.call (h.below hb) hk)
 have HBB:=aa (fun(q:dP F r.call=0) (q2:bm r.id 0 1000000=true) W (hb:Below w.heap.size w W)=>(by
  have:=rBounds_any W x F r.call r.id (h.below hb) hk;rw[bounds_err hF q q2] at this
  exact this))
 have HCM:=aa (fun(V:World) (hV:V.heap[w.heap.size+1]?=some (.cells r.vals 50 (0,0)))=>call_mid50 hV)
 have hcf:dp F r.call=dP F r.call:=by unfold dp;rw[if_neg (by simpa using hF)]
 rw[hcf] at HCC;obtain⟨Z,hZ⟩:=ag (recR F r last);rw[hZ];unfold recR Rcd.err at hZ;obtain⟨ce9,hce⟩:=ag (dP F r.call);rw[hce] at HCC HBB hZ;obtain⟨nb,hnb⟩:=ag (bI r.deed);rw[hnb] at HNM
 have hrt:∀(_:¬(1≤r.id∧r.id≤1000000∧0≤r.day∧r.day≤100000∧nb=true∧1≤r.year∧r.year≤3000∧0≤r.rank∧r.rank≤1000)),r.right=false:=fun q=>by
  cases k:r.right
  ·rfl
  ·unfold Rcd.right bm at k
   rw[hnb] at k;simp at k;exact absurd (by obtain⟨⟨⟨⟨a,b⟩,c⟩,d⟩,e⟩:=k;exact⟨a.1,a.2,b.1,b.2,c,d.1,d.2,e.1,e.2⟩) q
 have hrt2:(1≤r.id∧r.id≤1000000∧0≤r.day∧r.day≤100000∧nb=true∧1≤r.year∧r.year≤3000∧0≤r.rank∧r.rank≤1000)→r.right=true:=fun q=>by
  unfold Rcd.right bm;rw[hnb];simp[q.2.2.2.2.1];omega
 obtain⟨id,day,deed,year,rank,kind,limit,other,fr,tt,sz,er,c1,c2,c3,c4,c5,c6⟩:=r
 dsimp only at *
 have H1:=aa (fun(q:¬(1≤id∧id≤1000000∧0≤day∧day≤100000∧nb=true∧1≤year∧year≤3000∧0≤rank∧rank≤1000∧last<id))=>(by
  rw[←hZ,if_pos]
  by_cases z:id≤last
  ·exact .inr z
  ·exact .inl (hrt (fun y=>q ⟨y.1,y.2.1,y.2.2.1,y.2.2.2.1,y.2.2.2.2.1,y.2.2.2.2.2.1,y.2.2.2.2.2.2.1,y.2.2.2.2.2.2.2.1,y.2.2.2.2.2.2.2.2,by omega⟩)):1=Z))
 have H2:=aa (fun(q:1≤id∧id≤1000000∧0≤day∧day≤100000∧nb=true∧1≤year∧year≤3000∧0≤rank∧rank≤1000∧last<id)=>(by
  rw[←hZ];refine(if_neg ?_).symm;rintro(z|z)
  ·rw[hrt2 ⟨q.1,q.2.1,q.2.2.1,q.2.2.2.1,q.2.2.2.2.1,q.2.2.2.2.2.1,q.2.2.2.2.2.2.1,q.2.2.2.2.2.2.2.1,q.2.2.2.2.2.2.2.2.1⟩] at z;cases z
  ·omega:(if ce9≠0 then ce9 else if kind=3∧c4≠year then 1 else 0)=Z))
 clear hZ hrt hrt2 hce hnb hcf h hF hd;unfold FV.val;have kr:=ak X0.out.1;unfold Rcd.vals at kr;dsimp only at kr
 by_cases t0:id<1
 ·obtain rfl:1=Z:=H1.out (by omega)
  clear H1 H2 HBB HCC HCM;go_enter func91,ntmps91;go_upto_region 1 with fail;rw[←hw0];clear hw0;go_wp2_with fail;go_ret;exact⟨rfl,B0.out⟩
 by_cases t1:1000000<id
 ·obtain rfl:1=Z:=H1.out (by omega)
  clear H1 H2 HBB HCC HCM;go_enter func91,ntmps91;go_upto_region 1 with fail;rw[←hw0];clear hw0;go_wp2_with fail;go_ret;exact⟨rfl,B0.out⟩
 by_cases t2:day<0
 ·obtain rfl:1=Z:=H1.out (by omega)
  clear H1 H2 HBB HCC HCM;go_enter func91,ntmps91;go_upto_region 1 with fail;rw[←hw0];clear hw0;go_wp2_with fail;go_ret;exact⟨rfl,B0.out⟩
 by_cases t3:100000<day
 ·obtain rfl:1=Z:=H1.out (by omega)
  clear H1 H2 HBB HCC HCM;go_enter func91,ntmps91;go_upto_region 1 with fail;rw[←hw0];clear hw0;go_wp2_with fail;go_ret;exact⟨rfl,B0.out⟩
 cases nb
 ·obtain rfl:1=Z:=H1.out (by simp)
  clear H1 H2 HBB HCC HCM;go_enter func91,ntmps91;go_upto_region 1 with fail;rw[←hw0];clear hw0;go_wp2_with (go_at_call 169;refine(HNM.out _).mono ?_;rintro e w1 ⟨rfl,rfl⟩);go_ret;exact⟨rfl,B0.out⟩
 by_cases t5:year<1
 ·obtain rfl:1=Z:=H1.out (by simp;omega)
  clear H1 H2 HBB HCC HCM;go_enter func91,ntmps91;go_upto_region 1 with fail;rw[←hw0];clear hw0;go_wp2_with (go_at_call 169;refine(HNM.out _).mono ?_;rintro e w1 ⟨rfl,rfl⟩);go_ret;exact⟨rfl,B0.out⟩
 by_cases t69Q:3000<year
 ·obtain rfl:1=Z:=H1.out (by simp;omega)
  clear H1 H2 HBB HCC HCM;go_enter func91,ntmps91;go_upto_region 1 with fail;rw[←hw0];clear hw0;go_wp2_with (go_at_call 169;refine(HNM.out _).mono ?_;rintro e w1 ⟨rfl,rfl⟩);go_ret;exact⟨rfl,B0.out⟩
 by_cases t79Q:rank<0
 ·obtain rfl:1=Z:=H1.out (by simp;omega)
  clear H1 H2 HBB HCC HCM;go_enter func91,ntmps91;go_upto_region 1 with fail;rw[←hw0];clear hw0;go_wp2_with (go_at_call 169;refine(HNM.out _).mono ?_;rintro e w1 ⟨rfl,rfl⟩);go_ret;exact⟨rfl,B0.out⟩
 by_cases t89Q:1000<rank
 ·obtain rfl:1=Z:=H1.out (by simp;omega)
  clear H1 H2 HBB HCC HCM;go_enter func91,ntmps91;go_upto_region 1 with fail;rw[←hw0];clear hw0;go_wp2_with (go_at_call 169;refine(HNM.out _).mono ?_;rintro e w1 ⟨rfl,rfl⟩);go_ret;exact⟨rfl,B0.out⟩
 by_cases t9:id≤last
 ·obtain rfl:1=Z:=H1.out (by simp;omega)
  clear H1 H2 HBB HCC HCM;go_enter func91,ntmps91;go_upto_region 1 with fail;rw[←hw0];clear hw0;go_wp2_with (go_at_call 169;refine(HNM.out _).mono ?_;rintro e w1 ⟨rfl,rfl⟩);go_ret;exact⟨rfl,B0.out⟩
 have hZ:=H2.out (by simp;omega);have HZ:=aa hZ
 have hid2:bm id 0 1000000=true:=by unfold bm;simp;omega
 have HBB2:=aa (fun q=>HBB.out q hid2);clear H1 H2 hZ hid2 HBB;unfold FV.val at HCC HBB2;unfold Cll.val at HCC HBB2
 have dd:decide (id≤last)=false:=by simp;omega
 go_enter func91,ntmps91;go_upto_region 1 with fail;rw[←hw0];clear hw0;go_upto_region 3 with (go_at_call 169;refine(HNM.out _).mono ?_;rintro e w1 ⟨rfl,rfl⟩);go_wp2_with (first|(refine ah rfl 27 _ rfl _ rfl w.heap.size rfl 27 _ (0,0) _ X0.out.2.1 underlying27 rfl (by kernel_rfl) ?_)|(refine wpList_load_mid rfl 48 _ rfl (w.heap.size+1) 5 rfl _ _ (HCM.out _ X0.out.1) underlying48 rfl (by kernel_rfl) ?_));refine(HCC.out _ B0.out).mono ?_;rintro e w1 ⟨rfl,hb1⟩;have X1:=aa (X0.out.next hb1);have B1:=bU B0 hb1;clear hb1 X0 B0 kr HCC;have kr:=ak X1.out.1;unfold Rcd.vals at kr;dsimp only at kr;have hZ:=HZ.out;clear HZ
 by_cases h0:ce9=0
 rotate_left
 ·rw[if_pos h0] at hZ
  subst hZ
  have hzb:(ce9 != 0)=true:=by simpa using h0
  clear h0 HBB2;go_wp2_with fail;go_ret;exact⟨rfl,B1.out⟩
 subst h0;rw[if_neg (by simp)] at hZ;have HBB3:=aa (HBB2.out rfl);clear HBB2
 by_cases h3:kind=3
 ·subst h3
  by_cases h4:c4=year
  rotate_left
  ·rw[if_pos ⟨rfl,h4⟩] at hZ
   subst hZ
   have h4b:(c4 != year)=true:=by simpa using h4
   clear h4 HBB3;go_wp2_with fail;go_ret;exact⟨rfl,B1.out⟩
  ·rw[if_neg (fun z=>z.2 h4)] at hZ
   subst hZ
   have h4b:(c4 != year)=false:=by simpa using h4
   clear h4;go_wp2_with (first|(refine ah rfl 27 _ rfl _ rfl w.heap.size rfl 27 _ (0,0) _ X1.out.2.1 underlying27 rfl (by kernel_rfl) ?_)|(refine wpList_load_mid rfl 48 _ rfl (w.heap.size+1) 5 rfl _ _ (HCM.out _ X1.out.1) underlying48 rfl (by kernel_rfl) ?_));refine(HBB3.out _ B1.out).mono ?_;rintro e w2 ⟨⟨v,rfl,hv⟩,hb2⟩;have B2:=bU B1 hb2;clear hv hb2;go_wp2_with fail;go_ret;exact⟨rfl,B2.out⟩
 ·rw[if_neg (fun z=>h3 z.1)] at hZ
  subst hZ;go_wp2_with (first|(refine ah rfl 27 _ rfl _ rfl w.heap.size rfl 27 _ (0,0) _ X1.out.2.1 underlying27 rfl (by kernel_rfl) ?_)|(refine wpList_load_mid rfl 48 _ rfl (w.heap.size+1) 5 rfl _ _ (HCM.out _ X1.out.1) underlying48 rfl (by kernel_rfl) ?_));refine(HBB3.out _ B1.out).mono ?_;rintro e w2 ⟨⟨v,rfl,hv⟩,hb2⟩;have B2:=bU B1 hb2;clear hv hb2;go_wp2_with fail;go_ret;exact⟨rfl,B2.out⟩
theorem refconsistentE_any (w:World) (N:Int) (a:Option Addr) (cap:Nat) (bs:List Bd) (hN:bK N) (hl:bs.length≤9223372036854775807) (h:BoundsAt w a bs) :
 Calls prog 188 #[.agg #[.int .i64 N,.slice a bs.length cap]] w fun e w'=>e=.returned (.tuple #[.bool (aQ N bs).1,.int .i64 (aQ N bs).2])∧Below w.heap.size w w':=by
 have hB0:Below w.heap.size w (w.alloc (.cells #[.int .i64 N,.slice a bs.length cap] 61)):=aD;have hck:=refcheck_any (w.alloc (.cells #[.int .i64 N,.slice a bs.length cap] 61)) N a cap bs hN hl (h.alloc _);have H:=aa h;clear h
 by_cases hc:aO N bs=0
 ·obtain⟨n0,n1,n2,nv⟩:=cR hc
  rw[hc] at hck;obtain⟨R,rfl⟩:=Int.eq_ofNat_of_zero_le (show 0≤N by omega)
  have hv:au R bs:=fun b hb=>(nv b hb).1
  have hcs:=fun W hb=>refconsistent_any W R a cap bs (by omega) (by omega) (by omega) hb hv
  rw[keptR_eq (by omega) hv] at hcs
  have hE:aQ R bs=(mB R bs,0):=by unfold aQ;rw[if_pos hc];rfl
  obtain⟨q,hq⟩:=ag (mB R bs);rw[hq] at hcs hE;have HCK:=aa hck;have HE:=aa hE;have HCS:=aa hcs;clear hck hE hcs hq nv hc hv hN;go_enter func188,ntmps188;go_wp2_with fail;refine HCK.out.mono ?_;rintro e w1 ⟨rfl,hb1⟩;have X1:=aa (ac hb1 (by simp) (heap_alloc_new w (.cells #[.int .i64 (R:Int),.slice a bs.length cap] 61)));have c0:w1.cell? ⟨w.heap.size,0,none⟩=some (.int .i64 (R:Int)):=bu X1.out rfl;have c1:w1.cell? ⟨w.heap.size,1,none⟩=some (.slice a bs.length cap):=bu X1.out rfl;have B1:=aa (bB hB0 hb1);clear hb1;go_wp2_with fail;refine(HCS.out _ (H.out.below B1.out (Nat.le_refl _))).mono ?_;rintro e w2 ⟨rfl,hb2⟩;go_wp2_with fail;go_ret2;exact⟨by rw[HE.out];rfl,bB B1.out hb2⟩
 ·have hE:aQ N bs=(false,aO N bs):=by unfold aQ;rw[if_neg hc]
  obtain⟨c,hcc⟩:=ag (aO N bs);rw[hcc] at hE hc hck
  have hc2:(c != 0)=true:=by simpa using hc
  have HCK:=aa hck;have HE:=aa hE;clear hE hc hck hcc hN;go_enter func188,ntmps188;go_wp2_with fail;refine HCK.out.mono ?_;rintro e w1 ⟨rfl,hb1⟩;go_wp2_with fail;go_ret2;exact⟨by rw[HE.out];rfl,bB hB0 hb1⟩
theorem appendB3 {w:World} {base base2:Nat} {v v2:Value} {bs news:List Bd} (hown:w.ownsRow base 65 4 v bs.length (bh bs)) (h2:w.ownsRow base2 65 4 v2 news.length (bh news)) (hne:news≠[]) (hx:bs.length≤100000) (hn:news.length≤100000) (hb:base≤w.heap.size) (ty:TypeId) :
 ∃v' w',(Builtin.append_ #[59,59] ty #[v,v2]).run prog w=.ok v' w'∧w'.ownsRow base 65 4 v' (bs++news).length (bh (bs++news))∧Below base w w' ∧
  (∀(k:Nat) (cs:Array Value) (t:TypeId) (f:Nat×Nat),w.heap[k]?=some (.cells cs t f)→t≠65→w'.heap[k]?=some (.cells cs t f))∧(∀q,q<w.heap.size→v.ownBlock≠some q→w'.heap[q]?=w.heap[q]?):=by
 obtain⟨hl2,⟨e1,e2⟩|⟨g,cap,cur,e1,_,hgb,hcap,_,hcs,htk⟩⟩:=h2
 ·exact absurd (List.length_eq_zero_iff.1 e2) hne
 subst e1;obtain⟨i0,hi,hz0,hz1,hz2⟩:=info_parts lR
 have hnews:∀j u,(bh news)[j]?=some u→w.cell? ((⟨g,0,none⟩:Addr).add j)=some u:=by
  intro j u hj;rw[show((⟨g,0,none⟩:Addr).add j)=⟨g,0+j,none⟩ from by unfold Addr.add;split<;>simp_all];rw[cell_of_row _ _ _ _ _ _ hgb,Nat.zero_add]
  have hlt:j<news.length*4:=by rw[←hl2];exact(List.getElem?_eq_some_iff.1 hj).1
  rw[←htk,List.getElem?_take_of_lt hlt] at hj;simpa using hj
 have h1:∀u∈bh news,u.oneCell'=true:=by
  intro u hu;unfold bh at hu;obtain⟨d,_,hd⟩:=List.mem_flatMap.1 hu;simp[Bd.cells] at hd
  rcases hd with rfl|rfl|rfl|rfl<;>rfl
 have hm:(bs.length+news.length)*32≤200000*32:=Nat.mul_le_mul (by omega) (Nat.le_refl _);obtain⟨v',w',hrun,q2,h3,_,h5⟩:=run_append_own_at (P:=prog) w base 59 ty 65 i0 _ 4 32 underlying59 hi hz0 hz1 hz2 rfl (by decide) v _ _ hown ⟨g,0,none⟩ news.length cap (bh news) (cU _) hnews h1 (by unfold maxLen;omega) (by omega) hb;refine⟨v',w',hrun,by rw[List.length_append,dI];exact q2,(Below.refl base w).grown h3 hb (fun q e=>?_),fun k cs t f hk ht=>?_,fun q hq hne=>h3.block q hq (fun e=>hne e.symm)⟩
 ·rcases hown.2 with ⟨e1,_⟩|⟨g1,cp',cu,e1,hge,hh,_⟩
  ·rw[e1] at e;simp[Value.ownBlock] at e
  ·rw[e1] at e
   simp only[Value.ownBlock,Option.some.injEq] at e;omega
 ·rw[h3.block k (lt_of_block hk) ?_]
  ·exact hk
  ·intro e
   rcases hown.2 with ⟨e1,_⟩|⟨g2,cap2,cur2,e1,_,hgb2,_⟩
   ·rw[e1] at e;cases e
   ·rw[e1] at e
    simp only[Value.ownBlock,Option.some.injEq] at e;subst e;rw[hk] at hgb2;cases hgb2;exact ht rfl
theorem empty_owns {W:World} {B:Nat} (hB:B≤W.heap.size):(W.alloc (.cells #[] 65)).ownsRow B 65 4 (.slice (some ⟨W.heap.size,0,none⟩) 0 0) ([]:List Bd).length (bh []) :=
 ⟨rfl,.inr ⟨W.heap.size,0,#[],rfl,hB,heap_alloc_new _ _,Nat.le_refl _,Nat.zero_le _,rfl,rfl⟩⟩
theorem call_mid18 {W:World} {b off k:Nat} {r:Rcd} (hc:∀j,j<18→W.cell? ⟨b,off+k*18+j,none⟩=r.cells[j]?):W.rangeAt b (off+k*18+5) r.call.vals.toList:=by
 intro j v hv;have hj:j<13:=(List.getElem?_eq_some_iff.1 hv).1;have:=hc (5+j) (by omega);rw[show off+k*18+(5+j)=off+k*18+5+j by omega] at this;rw[this,←hv]
 show(r.vals.toList)[5+j]?=_
 rw[←List.getElem?_drop]
 rfl
structure QS (w:World) (x:FV) (F:Fld) (P:Int) (g:Nat) (v:Value) (bs:List Bd) (W:World):Prop where
 own:W.ownsRow w.heap.size 65 4 v bs.length (bh bs)
 b:Below w.heap.size w W
 k:W.heap[w.heap.size]?=some (.cells (x.arr F) 27 (0,0))
 z:W.heap[w.heap.size+1]?=some (.cells #[.int .i64 0,.slice none 0 0] 61 (0,0))
 s:W.heap[g]?=some (.cells #[.int .i64 P,v] 61 (0,0))
theorem QS.ge {w:World} {x:FV} {F:Fld} {P:Int} {g:Nat} {v:Value} {bs:List Bd} {W:World} (_h:QS w x F P g v bs W) (hg:w.heap.size+2≤g):w.heap.size≤g:=by omega
theorem QS.next {w:World} {x:FV} {F:Fld} {P:Int} {g:Nat} {v:Value} {bs:List Bd} {W W':World} (h:QS w x F P g v bs W) (hb:Below W.heap.size W W'):QS w x F P g v bs W' :=
 ⟨av h.own (fun q hq=>hb.block q (jh h.own hq).1),bB h.b hb,ac hb (lt_of_block h.k) h.k,ac hb (lt_of_block h.z) h.z,ac hb (lt_of_block h.s) h.s⟩
theorem QS.put {w W W':World} {x:FV} {F:Fld} {P:Int} {g:Nat} {v v':Value} {bs cs:List Bd} (h:QS w x F P g v bs W) (hg:w.heap.size+2≤g) (hn:W'.ownsRow w.heap.size 65 4 v' cs.length (bh cs)) (hb:Below w.heap.size w W')
 (hty:∀(k:Nat) (cs:Array Value) (t:TypeId) (f:Nat×Nat),W.heap[k]?=some (.cells cs t f)→t≠65→W'.heap[k]?=some (.cells cs t f)):QS w x F P g v' cs (W'.setCell ⟨g,1,none⟩ v'):=by
 have hk:=hty _ _ _ _ h.k (by decide);have hz:=hty _ _ _ _ h.z (by decide);have hs:=hty _ _ _ _ h.s (by decide);refine⟨av hn (fun q hq=>?_),hb.setCell (by dsimp only;omega) _,?_,?_,?_⟩
 ·refine heap_setCell_other _ _ _ _ (fun e=>?_)
  have e2:q=g:=e;subst e2
  rcases hn.2 with ⟨e1,_⟩|⟨g1,cp',cu,e1,_,hh,_⟩
  ·rw[e1] at hq;cases hq
  ·rw[e1] at hq
   simp only[Value.ownBlock,Option.some.injEq] at hq;subst hq;rw[hs] at hh;cases hh
 ·rw[heap_setCell_other _ _ _ _ (by dsimp only;omega)];exact hk
 ·rw[heap_setCell_other _ _ _ _ (by dsimp only;omega)];exact hz
 ·have:=Go.heap_setCell_same _ _ 1 _ _ v' hs
  simpa using this
theorem QS.fin {w W:World} {x:FV} {F:Fld} {P:Int} {g:Nat} {v:Value} {bs:List Bd} (h:QS w x F P g v bs W) (cs:Array Value):(W.setRow (w.heap.size+1) cs).ownsRow w.heap.size 65 4 v bs.length (bh bs) :=
 av h.own (fun q hq=>setRow_other _ _ _ _ (fun e=>by
  have hz:=h.z
  rcases h.own.2 with ⟨e1,_⟩|⟨g1,cp',cu,e1,_,hh,_⟩
  ·rw[e1] at hq;cases hq
  ·rw[e1] at hq
   simp only[Value.ownBlock,Option.some.injEq] at hq;have e2:q=w.heap.size+1:=e;rw[hq,e2,hz] at hh
   cases hh))
theorem natF_ne {F:Fld} (hF:F.check=0):fF F≠[]:=by
 intro e;have h:=xZ F (F.lms.length-1);rw[←Af,e] at h;have:=(kX hF).2;simp at h;omega
theorem natB_few {F:Fld} {l:List Rcd} (h:cX F l) (k:Nat):(j9 F l k).length≤3000:=by
 have h1:=y8 h.fld
 have h2:((l.take k).flatMap (Rcd.bs F)).length≤(l.flatMap (Rcd.bs F)).length:=by
  have:l.flatMap (Rcd.bs F)=(l.take k).flatMap (Rcd.bs F)++(l.drop k).flatMap (Rcd.bs F):=by rw[←List.flatMap_append,List.take_append_drop]
  rw[this,List.length_append];omega
 unfold j9;rw[List.length_append]
 rcases h.bds with h3|h3
 ·unfold aj at h3
  rw[List.length_append] at h3;omega
 ·subst h3
  simp;omega
theorem right_in {r:Rcd} (h:r.right=true):bm r.id 0 1000000=true:=by
 have:=gU h
 unfold bm;simp;omega
theorem err_call0 {F:Fld} {r:Rcd} (h:r.err F=0):dP F r.call=0:=by
 unfold Rcd.err at h
 by_cases q:dP F r.call≠0
 ·rw[if_pos q] at h;exact absurd h q
 ·exact Classical.not_not.1 q
theorem rsystem_any (w:World) (x:FV) (F:Fld) (ar:Option Addr) (cr:Nat) (l:List Rcd) (hG:cX F l) (h:FldAt w x F) (hr:cI w ar l) (hk:∀r∈l,(0≤r.call.kind∧r.call.kind≤255)∧r.deed.size≤9223372036854775807) :
 Calls prog 93 #[x.val F,.slice ar l.length cr] w fun e w'=>(∃v,e=.returned (.agg #[.int .i64 (bj F),v])∧w'.ownsRow w.heap.size 65 4 v (aj F l).length (bh (aj F l)))∧Below w.heap.size w w':=by
 obtain⟨w0,hw0⟩:∃W,W=(w.alloc (.cells (x.arr F) 27)).alloc (.cells #[.int .i64 0,.slice none 0 0] 61):=⟨_,rfl⟩;have B0:=aa (show Below w.heap.size w w0 by rw[hw0];exact(aD).alloc (by simp) _)
 have X0:=aa (show Kb [(w.heap.size+1,.cells #[.int .i64 0,.slice none 0 0] 61),(w.heap.size,.cells (x.arr F) 27)] w0 by
  rw[hw0];have:=Kb.alloc (o:=.cells #[.int .i64 0,.slice none 0 0] 61) (Kb.alloc (W:=w) (o:=.cells (x.arr F) 27) (L:=[]) trivial)
  simpa using this)
 have hF:=hG.fld;have HP:=aa (fun W (hb:Below w.heap.size w W)=>rPoints_any W x F (h.below hb));have HN:=aa (fun W (hb:Below w.heap.size w W)=>rNature_any W x F (h.below hb));unfold jm at HN;rw[if_pos hF,AK] at HP;rw[hF,if_pos rfl] at HN
 have HB:=aa (fun W (hb:Below w.heap.size w W) k (hk9:k<l.length)=>(by
  have hm:l[k]∈l:=List.getElem_mem hk9;have he:=hG.each _ hm;have:=rBounds_any W x F l[k].call l[k].id (h.below hb) (hk _ hm).1;rw[bounds_err hF (err_call0 he.2) (right_in he.1)] at this
  exact this))
 have HNE:=aa (fun k (hk9:k<l.length)=>AE (F:=F) (c:=l[k].call) (r:=l[k].id) hF (err_call0 (hG.each _ (List.getElem_mem hk9)).2));have HLE:=aa (fun k (hk9:k<l.length)=>uv (F:=F) (c:=l[k].call) (r:=l[k].id) hF (err_call0 (hG.each _ (List.getElem_mem hk9)).2));have HRR:=aa (fun W (hb:Below w.heap.size w W)=>hr.below hb (Nat.le_refl _));have HFW:=aa (fun k=>natB_few hG k);have HNN:=aa (fun k (e:j9 F l k=[])=>natF_ne hF (List.append_eq_nil_iff.1 e).1);have hlen:=hG.few;obtain⟨P,hP⟩:∃P:Int,((bj F:Nat):Int)=P:=⟨_,rfl⟩;rw[hP] at HP ⊢;have HSY:=aa (zw F l);have kk:=ak X0.out.2.1
 unfold FV.val FV.arr at *
 clear h hr hk hG hF hP;go_enter func93,ntmps93;go_upto_region 1 with fail;rw[←hw0];clear hw0;go_wp2_with fail;refine(HP.out _ B0.out).mono ?_;rintro e w1 ⟨rfl,hb1⟩;have X1:=aa (X0.out.next hb1);have B1:=bU B0 hb1;have hsz:=aa (show w.heap.size+2≤w1.heap.size by have:=lt_of_block X1.out.1;omega);clear hb1 X0 B0 HP kk;have kk:=ak X1.out.2.1;go_upto_region 2 with fail;refine mj ?_;intro w2 hW2;obtain⟨g,hg⟩:=ag w1.heap.size
 have hb2:Below w1.heap.size w1 w2:=by rw[hW2];exact aD
 have XS:=aa (show w2.heap[g]?=some (.cells #[.int .i64 P,.slice none 0 0] 61 (0,0)) by rw[hW2,←hg];exact heap_alloc_new _ _);have J2:Hid (QS w x F P g (.slice none 0 0) [] w2):=aa ⟨World.ownsRow_nil _ _ _ _,bB B1.out hb2,ac hb2 (lt_of_block X1.out.2.1) X1.out.2.1,ac hb2 (lt_of_block X1.out.1) X1.out.1,XS.out⟩;have HG:=aa (show w.heap.size+2≤g by rw[←hg];exact hsz.out);rw[hg];clear hb2 hW2 hg hsz XS X1 B1 kk;have kk:=ak J2.out.k;unfold FV.arr at kk;go_wp2_with fail;refine(HN.out _ J2.out.b).mono ?_;rintro e w3 ⟨⟨v0,rfl,hv⟩,hb3⟩;obtain⟨o0,c0,rfl⟩:=vR hv;have J3:=J2.out.next hb3;have J4:=aa (QS.put J3 HG.out (hv.mono J2.out.b.size) J3.b (fun _ _ _ _ q _=>q));have ks:=ak J3.s;have fs:=cf (i:=1) J3.s;have HN0:=aa (lB F l);clear hv hb3 J3 J2 kk HN;go_upto_region 3 with fail;refine mj ?_;intro w4 hW4;rw[←hW4] at J4;clear hW4 ks fs;rw[←HN0.out] at J4;clear HN0;go_wp2_with fail
 go_loopw [6] (fun p wr=>∃(k:Nat) (v:Value),k≤l.length∧p=.int .i64 (k:Int)∧Hid (QS w x F P g v (j9 F l k) wr)) (fun p _=>l.length-(intOf p).toNat)
 case atStart=>exact⟨0,_,Nat.zero_le _,rfl,J4⟩
 case round =>
  obtain⟨k,v,hk,rfl,J⟩:=hrel;obtain⟨w5,rfl⟩:∃z:World,z=wr:=⟨wr,rfl⟩;clear J4
  by_cases hlt:k<l.length
  ·have HBK:=aa (fun W (hb:Below w.heap.size w W)=>HB.out W hb k hlt)
   have HNK:=aa (HNE.out k hlt);have HLK:=aa (HLE.out k hlt);have HSN:=aa (wX F l hlt);obtain⟨rb,ro,e1,hbl,hcc⟩:=RecsAt.at (HRR.out w5 J.out.b) hlt
   have HCI:=aa (fun V (hV:Below w5.heap.size w5 V)=>(by
    have z:=(hV.cell hbl).trans (hcc 0 (by omega));rw[Nat.add_zero] at z
    exact z.trans rfl:V.cell? ⟨rb,ro+k*18,none⟩=some (.int .i64 l[k].id)))
   have HCM:=aa (fun V (hV:Below w5.heap.size w5 V)=>call_mid18 (W:=V) (b:=rb) (off:=ro) (k:=k) (r:=l[k]) (fun j hj=>by rw[hV.cell hbl];exact hcc j hj));obtain⟨r,hr⟩:=ag (l[k]);rw[hr] at HBK HNK HLK HSN HCI HCM;subst e1
   have hk1:(k:Int)<(l.length:Int):=by omega
   have hk0:(0:Int)≤(k:Int):=by omega
   have HBS:=aa (show r.bs F=eo F r.call r.id from rfl);rw[HBS.out] at HSN;obtain⟨nb,hnb⟩:=ag (eo F r.call r.id);rw[hnb] at HBK HNK HLK HSN;have HRV:=aa (rfl:r.call.val=.agg r.call.vals);rw[HRV.out] at HBK;clear hr hcc hbl hnb HBS HRV;go_upto_region 6 with fail
   go_cut [7] (fun v2 wx=>Hid (wx.ownsRow w5.heap.size 65 4 v2 nb.length (bh nb))∧Hid (Below w5.heap.size w5 wx))
   case first =>
    refine aJ (S:=Below w5.heap.size w5) (last:=100) (by kernel_rfl) ?_;obtain⟨W0,hW0⟩:∃W,W=w5.drew:=⟨_,rfl⟩
    have hS0:Below w5.heap.size w5 W0:=by rw[hW0];exact(Below.refl _ _).drew
    rw[←hW0];clear hW0;refine tf 0 25 (.agg #[.slice x.aS F.sts.length x.cS,.slice x.aL F.lms.length x.cL,.slice x.aP F.prs.length x.cP,.slice x.aV F.vrs.length x.cV]) hS0 (fun V hV=>?_) ?_
    ·exact gp rfl rfl (J.out.next hV).k underlying27 rfl (by kernel_rfl)
    (try simp only[s3]);refine aR 1 26 (.slice (some ⟨rb,ro,none⟩) l.length cr) hS0 ?_;(try simp only[s3]);refine aR 2 27 (.int .i64 ((k:Int))) hS0 ?_;(try simp only[s3]);refine tf 3 28 (.pointer (some ⟨rb,ro+k*18,none⟩)) hS0 (fun V hV=>?_) ?_
    ·simp[go_sem,execOp,hk1,hk0]
    (try simp only[s3]);refine aR 4 29 (.pointer (some ⟨rb,ro+k*18+5,none⟩)) hS0 ?_;(try simp only[s3]);refine tf 5 30 (.agg r.call.vals) hS0 (fun V hV=>?_) ?_
    ·exact ymid rfl rfl (HCM.out V hV) underlying48 rfl (by kernel_rfl)
    (try simp only[s3]);refine aR 6 31 (.slice (some ⟨rb,ro,none⟩) l.length cr) hS0 ?_;(try simp only[s3]);refine aR 7 32 (.int .i64 ((k:Int))) hS0 ?_;(try simp only[s3]);refine tf 8 33 (.pointer (some ⟨rb,ro+k*18,none⟩)) hS0 (fun V hV=>?_) ?_
    ·simp[go_sem,execOp,hk1,hk0]
    (try simp only[s3]);refine aR 9 34 (.pointer (some ⟨rb,ro+k*18,none⟩)) hS0 ?_;(try simp only[s3]);refine tf 10 35 (.int .i64 r.id) hS0 (fun V hV=>?_) ?_
    ·(have z:=HCI.out V hV;simp[go_sem,execOp,z])
    (try simp only[s3]);refine ae 11 rfl (by kernel_rfl) (fun K hK=>?_);go_simp;go_at_call 92;refine(HBK.out _ (bB J.out.b hS0)).mono ?_;rintro e wq1 ⟨⟨v9,rfl,hv9⟩,hq1⟩;have hS1:Below w5.heap.size w5 wq1:=bB hS0 hq1;have HO9:=aa (hv9.mono hS0.size);clear hq1 hv9;go_wp2_with fail;refine hK.out _ _ (.inr hS1) ?_;clear hK K;(try simp only[Act.put,s3]);refine aR 12 24 (.tuple #[v9,.int .i64 0]) hS1 ?_;(try simp only[s3]);refine aR 13 37 (v9) hS1 ?_;(try simp only[s3]);refine aR 14 38 (.int .i64 0) hS1 ?_;(try simp only[s3]);refine aR 15 7 (v9) hS1 ?_;(try simp only[s3]);refine aR 16 8 (.int .i64 0) hS1 ?_;(try simp only[s3]);refine aw (by kernel_rfl) ?_ _;go_wp2_with fail;go_meet;exact⟨HO9,aa hS1⟩
   case rest =>
   obtain⟨HO2,HB2⟩:=hcut;obtain⟨v2,rfl⟩:∃z:Value,z=u7:=⟨u7,rfl⟩;obtain⟨w6,rfl⟩:∃z:World,z=wc:=⟨wc,rfl⟩;have J6:=J.out.next HB2.out;have hbA:Below w6.heap.size w6 (w6.alloc (.cells #[] 65)):=aD;have J7:=J6.next hbA;have own2:=HO2.out.alloc (.cells #[] 65);obtain⟨v3,w8,hrun1,ho8,hb8,hty8,hbk8⟩:=appendB3 (bs:=[]) (news:=j9 F l k) (empty_owns J6.b.size) J7.own (fun e=>HNN.out k e) (by simp) (by have:=HFW.out k;omega) J7.b.size 59
   have own28:=av own2 (fun q hq=>hbk8 q (jh own2 hq).1 (by
    have h9:=(jh HO2.out hq).1;simp only[Value.ownBlock,ne_eq,Option.some.injEq]
    omega))
   obtain⟨v4,w99Q,hrun2,ho9,hb9,hty9,-⟩:=appendB3 (bs:=j9 F l k) (news:=nb) ho8 own28 HNK.out (by have:=HFW.out k;omega) (by have:=HLK.out;omega) (J7.b.trans hb8).size 59;obtain⟨o4,c4,e4⟩:=vR ho9;obtain⟨n4,hn4⟩:=ag ((j9 F l k++nb).length);rw[hn4] at e4;subst e4;have J9:=QS.put J7 HG.out ho9 (J7.b.trans (hb8.trans hb9)) (fun q cs t f a ht=>hty9 q cs t f (hty8 q cs t f a ht) ht);rw[HSN.out] at J9;have ks:=ak J7.s;have ks9:=hty9 _ _ _ _ (hty8 _ _ _ _ J7.s (by decide)) (by decide);have kz:=ak ks9;have fz9Q:=cf (i:=1) ks9;have HJ9:=aa J9;have HRUN1:=aa hrun1;have HRUN2:=aa hrun2;clear J9 hn4 hrun1 hrun2 ho8 ho9 hb8 hb9 hty8 hty9 hbk8 own2 own28 J6 J7 hbA ks9 HO2 HB2 J;go_wp2_with (at_builtin;first|(refine aN rfl (s:=.tmp 39) (x:=.tmp 41) (t:=59) rfl rfl rfl HRUN1.out ?_)|(refine aN rfl (s:=.tmp 42) (x:=.tmp 43) (t:=59) rfl rfl rfl HRUN2.out ?_));go_roundw
   case rel=>exact⟨k+1,_,by omega,by go_num,HJ9⟩
   case measure=>simp[intOf];omega
  ·obtain rfl:k=l.length:=by omega
   have JH:=J.out;rw[HSY.out] at JH;obtain⟨o,c,rfl⟩:=vR JH.own;have HJH:=aa JH;clear JH J;go_upto_region 8 with fail;refine wp_region_list ?_;refine ah rfl 61 _ rfl _ rfl g rfl 61 _ (0,0) _ HJH.out.s underlying61 rfl (by kernel_rfl) ?_;refine wpList_store_row rfl 61 _ _ rfl (w.heap.size+1) #[.int .i64 P,.slice o (aj F l).length c] rfl rfl 61 _ HJH.out.z (by kernel_rfl) rfl (by simp[Value.oneCell']) ?_;go_wp2_with fail;exact bodyPost_ret (cv results93 _ _ (w.heap.size+1) 61 _ (0,0) _ rfl (setRow_heap _ _ _ _ _ _ HJH.out.z) underlying61 rfl (by kernel_rfl)) rfl ⟨⟨_,rfl,HJH.out.fin _⟩,below_setRow HJH.out.b (by omega) _⟩
theorem rec_step {F:Fld} {r:Rcd} {last:Int} {k many:Nat} {Z:Int×Int}:(if r.right=false∨r.id≤last then((k:Int),(1:Int)) else if r.err F≠0 then((k:Int),r.err F) else if 2000<many then((k:Int),2) else Z)=if recR F r last≠0 then((k:Int),recR F r last) else if 2000<many then((k:Int),2) else Z:=by
 unfold recR
 by_cases h1:r.right=false∨r.id≤last
 ·rw[if_pos h1,if_pos h1,if_pos (by simp)]
 ·rw[if_neg h1,if_neg h1]
theorem rec_zero {F:Fld} {r:Rcd} {last:Int} (h:recR F r last=0):r.right=true∧r.err F=0:=by
 unfold recR at h
 by_cases h1:r.right=false∨r.id≤last
 ·rw[if_pos h1] at h;cases h
 ·rw[if_neg h1] at h
  refine⟨?_,h⟩;cases q:r.right
  ·exact absurd (.inl q) h1
  ·rfl
theorem rCheck_any (w:World) (x:FV) (F:Fld) (ar:Option Addr) (cr:Nat) (l:List Rcd) (h:FldAt w x F) (hr:cI w ar l) (hn:l.length≤100000) (hk:∀r∈l,(0≤r.call.kind∧r.call.kind≤255)∧r.deed.size≤9223372036854775807) :
 Calls prog 32 #[x.val F,.slice ar l.length cr] w fun e w'=>e=.returned (.tuple #[.int .i64 (cm F l).1,.int .i64 (cm F l).2])∧Below w.heap.size w w':=by
 obtain⟨⟨R1,R2⟩,hR⟩:=ag (cm F l);rw[hR];unfold cm at hR;obtain⟨w0,hw0⟩:∃W,W=w.alloc (.cells (x.arr F) 27):=⟨_,rfl⟩;have B0:=aa (show Below w.heap.size w w0 by rw[hw0];exact aD);have X0:=aa (show Kb [(w.heap.size,.cells (x.arr F) 27)] w0 by rw[hw0];exact Kb.alloc trivial);have HCF:=aa (fun W (hb:Below w.heap.size w W)=>refCheckField_any W x F (h.below hb));have HNT:=aa (fun W (hb:Below w.heap.size w W)=>rNature_any W x F (h.below hb));have HLZ:=aa (show F.check=0→jm F=fF F from fun q=>by unfold jm;rw[if_pos q]);have HRR:=aa (fun W (hb:Below w.heap.size w W)=>hr.below hb (Nat.le_refl _));have HCK:=aa (fun(q:F.check=0) W (hb:Below w.heap.size w W) k (hk9:k<l.length) last=>checkRecord_any W x F l[k] last q (h.below hb) (hk _ (List.getElem_mem hk9)).1 (hk _ (List.getElem_mem hk9)).2)
 have HBD:=aa (fun(q:F.check=0) W (hb:Below w.heap.size w W) k (hk9:k<l.length) last (q2:recR F l[k] last=0)=>(by
  have:=rBounds_any W x F l[k].call l[k].id (h.below hb) (hk _ (List.getElem_mem hk9)).1;have z:=rec_zero q2;rw[bounds_err q (err_call0 z.2) (right_in z.1)] at this
  exact this))
 have HLB:=aa (fun(q:F.check=0) k (hk9:k<l.length) last (q2:recR F l[k] last=0)=>uv (F:=F) (c:=l[k].call) (r:=l[k].id) q (err_call0 (rec_zero q2).2));have HFW:=aa (fun(q:F.check=0)=>y8 q);obtain⟨z,hz⟩:=ag F.check;rw[hz] at HCF HNT HLZ HCK HBD hR HFW HLB;obtain⟨NL,hNL⟩:=ag (jm F);rw[hNL] at HNT HLZ;have HNN:=aa hn;clear hz hNL hk hr h hn;have kk:=ak X0.out.1
 unfold FV.val FV.arr at *
 go_enter func32,ntmps32;go_upto_region 1 with fail;rw[←hw0];clear hw0;go_wp2_with fail;refine(HCF.out _ B0.out).mono ?_;rintro e w1 ⟨rfl,hb1⟩;have X1:=aa (X0.out.next hb1);have B1:=bU B0 hb1;clear hb1 X0 B0 HCF kk
 by_cases h0:z=0
 rotate_left
 ·rw[if_pos h0] at hR
  have hzb:(z != 0)=true:=by simpa using h0
  cases hR;clear h0;go_wp2_with fail;go_ret2;exact⟨rfl,B1.out⟩
 subst h0;rw[if_neg (by simp)] at hR;have hL:=HLZ.out rfl;subst hL;have HR:=aa hR;have HCK2:=aa (HCK.out rfl);have HBD2:=aa (HBD.out rfl);have HLB2:=aa (HLB.out rfl);have HFW2:=aa (HFW.out rfl);have kk:=ak X1.out.1;clear hR HLZ HCK HBD HFW HLB;go_wp2_with fail;refine(HNT.out _ B1.out).mono ?_;rintro e w2 ⟨⟨v0,rfl,hv⟩,hb2⟩;obtain⟨o0,c0,rfl⟩:=vR hv;have X2:=aa (X1.out.next hb2);have B2:=bU B1 hb2;clear hv hb2 X1 B1 HNT kk;have HNZ:=aa (lB F l);obtain⟨n0,hn0⟩:=ag ((fF F).length);have HN0:=aa hn0;rw[hn0];clear hn0
 have hn02:n0≤2000:=by have:=HFW2.out;have:=HN0.out;omega
 go_wp2_with fail
 go_loopw [9,10,11] (fun m la p wr=>∃(k many:Nat) (last:Int),k≤l.length∧p=.int .i64 (k:Int)∧la=.int .i64 last∧m=.int .i64 (many:Int)∧many≤2000∧Hid (last=fS l k)∧Hid (many=(j9 F l k).length)∧Hid (fH F (l.drop k) k last many=(R1,R2))∧Hid (Below w2.heap.size w2 wr)) (fun _ _ p _=>l.length-(intOf p).toNat)
 case atStart=>exact⟨0,n0,0,Nat.zero_le _,rfl,rfl,rfl,hn02,aa rfl,aa (by rw[HNZ.out];exact HN0.out.symm),aa (by rw[←HN0.out];exact HR.out),aa (Below.refl _ _)⟩
 case round =>
  obtain⟨k,many,last,hk,rfl,rfl,rfl,hm,HLA,HMA,HG,HB⟩:=hrel;obtain⟨w3,rfl⟩:∃z:World,z=wr:=⟨wr,rfl⟩;have B3:=bU B2 HB.out;have X3:=aa (X2.out.next HB.out);clear HR HN0 hn02
  by_cases hlt:k<l.length
  rotate_left
  ·obtain rfl:k=l.length:=by omega
   have hG:=HG.out;rw[List.drop_length] at hG;cases hG;go_wp2_with fail;go_ret2;exact⟨rfl,B3.out⟩
  have hG:=HG.out;rw[Ab F l hlt,rec_step] at hG;have HTK:=aa (wX F l hlt);have HLI:=aa (mM l hlt);have HCR:=aa (fun W (hb:Below w.heap.size w W)=>HCK2.out W hb k hlt last);have HBR:=aa (fun W (hb:Below w.heap.size w W) q2=>HBD2.out W hb k hlt last q2);have HLR:=aa (fun q2=>HLB2.out k hlt last q2);obtain⟨rb,ro,e1,hbl,hcc⟩:=RecsAt.at (HRR.out w3 B3.out) hlt;have HCA:=aa (fun V (hV:Below w3.heap.size w3 V)=>jw (W:=V) (b:=rb) (off:=ro) (k:=k) (r:=l[k]) (fun j hj=>by rw[hV.cell hbl];exact hcc j hj))
  have HCI:=aa (fun V (hV:Below w3.heap.size w3 V)=>(by
   have z:=(hV.cell hbl).trans (hcc 0 (by omega));rw[Nat.add_zero] at z
   exact z.trans rfl:V.cell? ⟨rb,ro+k*18,none⟩=some (.int .i64 l[k].id)))
  have HCM:=aa (fun V (hV:Below w3.heap.size w3 V)=>call_mid18 (W:=V) (b:=rb) (off:=ro) (k:=k) (r:=l[k]) (fun j hj=>by rw[hV.cell hbl];exact hcc j hj));obtain⟨r,hr⟩:=ag (l[k]);rw[hr] at HTK HLI hG HCR HBR HLR HCA HCI HCM;subst e1
  have hk1:(k:Int)<(l.length:Int):=by omega
  have hk0:(0:Int)≤(k:Int):=by omega
  have HTL:=aa (show(j9 F l (k+1)).length=(j9 F l k).length+(eo F r.call r.id).length by rw[←HTK.out,List.length_append];rfl);have hbs:r.bs F=eo F r.call r.id:=rfl;rw[hbs] at hG;obtain⟨nb,hnb⟩:=ag (eo F r.call r.id);rw[hnb] at HBR HTL hG HLR;have HRV:=aa (rfl:r.call.val=.agg r.call.vals);rw[HRV.out] at HBR;obtain⟨er,her⟩:=ag (recR F r last);rw[her] at HCR HBR hG HLR;have HG2:=aa hG;have HB9:=aa HB.out;clear hr hcc hbl hnb HRV her hG HG HB HCK2 HBD2 HLB2 hbs X2 HTK
  by_cases g0:300≤k
  ·have hG:=HG2.out
   rw[if_pos g0] at hG;cases hG
   have g0b:(300:Int)≤(k:Int):=by omega
   clear g0;go_wp2_with fail;go_ret2;exact⟨rfl,B3.out⟩
  have hG:=HG2.out;rw[if_neg g0] at hG;have HG3:=aa hG
  have g0b:(k:Int)<300:=by omega
  clear HG2 hG g0;have kk:=ak X3.out.1;go_upto_region 12 with fail
  go_cut [6] (fun t wx=>t=.int .i64 er∧Hid (Below w3.heap.size w3 wx))
  case first =>
   refine aJ (S:=Below w3.heap.size w3) (last:=100) (by kernel_rfl) ?_;obtain⟨W0,hW0⟩:∃W,W=w3.drew:=⟨_,rfl⟩
   have hS0:Below w3.heap.size w3 W0:=by rw[hW0];exact(Below.refl _ _).drew
   rw[←hW0];clear hW0;refine tf 0 35 (.agg #[.slice x.aS F.sts.length x.cS,.slice x.aL F.lms.length x.cL,.slice x.aP F.prs.length x.cP,.slice x.aV F.vrs.length x.cV]) hS0 (fun V hV=>?_) ?_
   ·exact gp rfl rfl (X3.out.next hV).1 underlying27 rfl (by kernel_rfl)
   (try simp only[s3]);refine aR 1 36 (.slice (some ⟨rb,ro,none⟩) l.length cr) hS0 ?_;(try simp only[s3]);refine aR 2 37 (.int .i64 ((k:Int))) hS0 ?_;(try simp only[s3]);refine tf 3 38 (.pointer (some ⟨rb,ro+k*18,none⟩)) hS0 (fun V hV=>?_) ?_
   ·simp[go_sem,execOp,hk1,hk0]
   (try simp only[s3]);refine tf 4 39 (.agg r.vals) hS0 (fun V hV=>?_) ?_
   ·exact ymid rfl rfl (HCA.out V hV) underlying50 rfl (by kernel_rfl)
   (try simp only[s3]);refine aR 5 40 (.int .i64 last) hS0 ?_;(try simp only[s3]);refine ae 6 rfl (by kernel_rfl) (fun K hK=>?_);go_simp;go_at_call 91;refine(HCR.out _ (bB B3.out hS0)).mono ?_;rintro e wq1 ⟨rfl,hq1⟩;have hS1:Below w3.heap.size w3 wq1:=bB hS0 hq1;clear hq1;go_wp2_with fail;refine hK.out _ _ (.inr hS1) ?_;clear hK K;(try simp only[Act.put,s3]);refine aR 7 6 (.int .i64 er) hS1 ?_;(try simp only[s3]);refine aw (by kernel_rfl) ?_ _;go_wp2_with fail;go_meet;exact⟨rfl,aa hS1⟩
  case rest =>
  obtain⟨rfl,HB4⟩:=hcut;obtain⟨w4,rfl⟩:∃z:World,z=wc:=⟨wc,rfl⟩;have B4:=bU B3 HB4.out;have X4:=aa (X3.out.next HB4.out);clear kk X3
  by_cases e0:er=0
  rotate_left
  ·have hG:=HG3.out
   have hzb:(er != 0)=true:=by simpa using e0
   rw[if_pos e0] at hG;cases hG;clear e0 HBR HLR;go_wp2_with fail;go_ret2;exact⟨rfl,B4.out⟩
  subst e0;have hG:=HG3.out;rw[if_neg (by simp)] at hG;have HG4:=aa hG;have HBR2:=aa (fun W hb=>HBR.out W hb rfl);have hnl:=HLR.out rfl;clear HG3 hG HBR HLR;have kk:=ak X4.out.1;go_upto_region 15 with fail
  go_cut [12] (fun t wx=>∃o c,t=.slice o nb.length c∧Hid (Below w4.heap.size w4 wx))
  case first =>
   refine aJ (S:=Below w4.heap.size w4) (last:=100) (by kernel_rfl) ?_;obtain⟨W0,hW0⟩:∃W,W=w4.drew:=⟨_,rfl⟩
   have hS0:Below w4.heap.size w4 W0:=by rw[hW0];exact(Below.refl _ _).drew
   rw[←hW0];clear hW0;refine tf 0 47 (.agg #[.slice x.aS F.sts.length x.cS,.slice x.aL F.lms.length x.cL,.slice x.aP F.prs.length x.cP,.slice x.aV F.vrs.length x.cV]) hS0 (fun V hV=>?_) ?_
   ·exact gp rfl rfl (X4.out.next hV).1 underlying27 rfl (by kernel_rfl)
   (try simp only[s3]);refine aR 1 48 (.slice (some ⟨rb,ro,none⟩) l.length cr) hS0 ?_;(try simp only[s3]);refine aR 2 49 (.int .i64 ((k:Int))) hS0 ?_;(try simp only[s3]);refine tf 3 50 (.pointer (some ⟨rb,ro+k*18,none⟩)) hS0 (fun V hV=>?_) ?_
   ·simp[go_sem,execOp,hk1,hk0]
   (try simp only[s3]);refine aR 4 51 (.pointer (some ⟨rb,ro+k*18+5,none⟩)) hS0 ?_;(try simp only[s3]);refine tf 5 52 (.agg r.call.vals) hS0 (fun V hV=>?_) ?_
   ·exact ymid rfl rfl (HCM.out V (bB HB4.out hV)) underlying48 rfl (by kernel_rfl)
   (try simp only[s3]);refine aR 6 53 (.slice (some ⟨rb,ro,none⟩) l.length cr) hS0 ?_;(try simp only[s3]);refine aR 7 54 (.int .i64 ((k:Int))) hS0 ?_;(try simp only[s3]);refine tf 8 55 (.pointer (some ⟨rb,ro+k*18,none⟩)) hS0 (fun V hV=>?_) ?_
   ·simp[go_sem,execOp,hk1,hk0]
   (try simp only[s3]);refine aR 9 56 (.pointer (some ⟨rb,ro+k*18,none⟩)) hS0 ?_;(try simp only[s3]);refine tf 10 57 (.int .i64 r.id) hS0 (fun V hV=>?_) ?_
   ·(have z:=HCI.out V (bB HB4.out hV);simp[go_sem,execOp,z])
   (try simp only[s3]);refine ae 11 rfl (by kernel_rfl) (fun K hK=>?_);go_simp;go_at_call 92;refine(HBR2.out _ (bB B4.out hS0)).mono ?_;rintro e wq1 ⟨⟨v9,rfl,hv9⟩,hq1⟩;obtain⟨o99Q,c9,rfl⟩:=vR hv9;have hS1:Below w4.heap.size w4 wq1:=bB hS0 hq1;clear hq1 hv9;go_wp2_with fail;refine hK.out _ _ (.inr hS1) ?_;clear hK K;(try simp only[Act.put,s3]);refine aR 12 46 (.tuple #[.slice o99Q nb.length c9,.int .i64 0]) hS1 ?_;(try simp only[s3]);refine aR 13 59 (.slice o99Q nb.length c9) hS1 ?_;(try simp only[s3]);refine aR 14 60 (.int .i64 0) hS1 ?_;(try simp only[s3]);refine aR 15 12 (.slice o99Q nb.length c9) hS1 ?_;(try simp only[s3]);refine aR 16 13 (.int .i64 0) hS1 ?_;(try simp only[s3]);refine aw (by kernel_rfl) ?_ _;go_wp2_with fail;go_meet;exact⟨_,_,rfl,aa hS1⟩
  case rest =>
  obtain⟨o99Q,c9,rfl,HB5⟩:=hcut;obtain⟨w5,rfl⟩:∃z:World,z=wc:=⟨wc,rfl⟩;have B5:=bU B4 HB5.out;have HB35:=bU HB4 HB5.out;have HB25:=aa (show Below w2.heap.size w2 w5 from bB HB9.out HB35.out);have hci:=HCI.out w5 HB35.out;obtain⟨m,hm9⟩:=ag nb.length;rw[hm9] at hnl HG4 HTL ⊢;clear kk X4 HBR2 hm9 HB4 HB5
  by_cases g1:2000<many+m
  ·have hG:=HG4.out
   rw[if_pos g1] at hG;cases hG
   have g1b:(2000:Int)<(many:Int)+(m:Int):=by omega
   clear g1;go_wp2_with fail;go_ret2;exact⟨rfl,B5.out⟩
  have hG:=HG4.out;rw[if_neg g1] at hG;have HG5:=aa hG
  have g1b:(many:Int)+(m:Int)≤2000:=by omega
  clear HG4 hG g1;go_wp2_with fail;go_roundw
  case rel=>exact⟨k+1,many+m,r.id,by omega,by go_num,rfl,by go_num,by omega,aa HLI.out.symm,aa (by rw[HTL.out,←HMA.out]),HG5,HB25⟩
  case measure=>simp[intOf];omega
theorem agree_eq {F:Fld} {l:List Rcd} (hg:cX F l):aQ (bj F) (aj F l)=(bi F l,0):=by
 have k:=ez hg;unfold aQ bi mB;rw[if_pos k]
theorem ragree_any (w:World) (x:FV) (F:Fld) (ar:Option Addr) (cr:Nat) (l:List Rcd) (hG:cX F l) (h:FldAt w x F) (hr:cI w ar l) (hk:∀r∈l,(0≤r.call.kind∧r.call.kind≤255)∧r.deed.size≤9223372036854775807) :
 Calls prog 110 #[x.val F,.slice ar l.length cr] w fun e w'=>e=.returned (.bool (bi F l))∧Below w.heap.size w w':=by
 obtain⟨w0,hw0⟩:∃W,W=w.alloc (.cells (x.arr F) 27):=⟨_,rfl⟩;have B0:=aa (show Below w.heap.size w w0 by rw[hw0];exact aD);have X0:=aa (show w0.heap[w.heap.size]?=some (.cells (x.arr F) 27 (0,0)) by rw[hw0];exact heap_alloc_new _ _);have HS:=aa (rsystem_any w0 x F ar cr l hG (h.below B0.out) (hr.below B0.out (Nat.le_refl _)) hk)
 have HC:=aa (fun W o c (hb:BoundsAt W o (aj F l))=>(by
  have:=refconsistentE_any W (bj F) o c (aj F l) (by have:=iC hG.fld;unfold bK;omega) (by have:=Aa hG;omega) hb;rw[agree_eq hG] at this
  exact this))
 obtain⟨ab,hab⟩:=ag (bi F l);rw[hab] at HC ⊢;obtain⟨P,hP⟩:∃P:Int,((bj F:Nat):Int)=P:=⟨_,rfl⟩;rw[hP] at HS HC;have kk:=ak X0.out;clear hab hP h hr hk hG
 unfold FV.val FV.arr at *
 go_enter func110,ntmps110;go_upto_region 1 with fail;rw[←hw0];clear hw0;go_wp2_with fail;refine HS.out.mono ?_;rintro e w1 ⟨⟨v,rfl,ho⟩,hb1⟩;have B1:=bU B0 hb1;obtain⟨o,c,rfl,hB,-⟩:=zx ho;have HCB:=aa (HC.out w1 o c hB);clear hb1 ho hB kk HS HC X0;go_wp2_with fail;refine HCB.out.mono ?_;rintro e w2 ⟨rfl,hb2⟩;have B2:=bU B1 hb2;clear hb2;go_wp2_with fail;go_ret;exact⟨rfl,B2.out⟩
theorem rmatched_any (w:World) (x:FV) (F:Fld) (ar:Option Addr) (cr:Nat) (l:List Rcd) (m:Int) (h:FldAt w x F) (hr:cI w ar l) (hn:l.length≤100000) (hk:∀r∈l,(0≤r.call.kind∧r.call.kind≤255)∧r.deed.size≤9223372036854775807) :
 Calls prog 77 #[x.val F,.slice ar l.length cr,.int .i64 m] w fun e w'=>e=.returned (.int .i64 (aW F l m))∧Below w.heap.size w w':=by
 obtain⟨w0,hw0⟩:∃W,W=w.alloc (.cells (x.arr F) 27):=⟨_,rfl⟩;have B0:=aa (show Below w.heap.size w w0 by rw[hw0];exact aD);have X0:=aa (show w0.heap[w.heap.size]?=some (.cells (x.arr F) 27 (0,0)) by rw[hw0];exact heap_alloc_new _ _);have HC:=aa (rCheck_any w0 x F ar cr l (h.below B0.out) (hr.below B0.out (Nat.le_refl _)) hn hk);have HA:=aa (fun(q:(cm F l).2=0) W (hb:Below w0.heap.size w0 W)=>ragree_any W x F ar cr l ((fM F l).1 q) ((h.below B0.out).below hb) ((hr.below B0.out (Nat.le_refl _)).below hb (Nat.le_refl _)) hk);obtain⟨R,hR⟩:=ag (aW F l m);rw[hR];unfold aW at hR;obtain⟨⟨r1,r2⟩,hc⟩:=ag (cm F l);rw[hc] at HC HA hR;obtain⟨ab,hab⟩:=ag (bi F l);rw[hab] at HA hR;dsimp only at hR;have HR:=aa hR;clear hR hc hab h hr hn hk;have kk:=ak X0.out
 unfold FV.val FV.arr at *
 go_enter func77,ntmps77;go_upto_region 1 with fail;rw[←hw0];clear hw0;go_wp2_with fail;refine HC.out.mono ?_;rintro e w1 ⟨rfl,hb1⟩;have HB1:=aa hb1;have B1:=bU B0 hb1;have X1:=aa (ac hb1 (lt_of_block X0.out) X0.out);clear hb1 HC X0 kk;have hq:=HR.out
 by_cases h0:r2=0
 rotate_left
 ·have hzb:(r2 != 0)=true:=by simpa using h0
  rw[if_pos h0] at hq;subst hq;clear h0 HA HR;go_wp2_with fail;go_ret;exact⟨rfl,B1.out⟩
 subst h0;rw[if_neg (by simp)] at hq
 by_cases h1:m=0
 rotate_left
 ·have hzb:(m != 0)=true:=by simpa using h1
  rw[if_pos h1] at hq;subst hq;clear h1 HA HR;go_wp2_with fail;go_ret;exact⟨rfl,B1.out⟩
 subst h1;rw[if_neg (by simp)] at hq;have HQ:=aa hq;have HA1:=aa (HA.out (by trivial) w1 HB1.out);have kk:=ak X1.out;clear hq HR HA;go_wp2_with fail;refine HA1.out.mono ?_;rintro e w2 ⟨rfl,hb2⟩;have B2:=bU B1 hb2;have hq:=HQ.out;clear hb2 kk;cases ab
 ·rw[if_neg (by simp)] at hq
  subst hq;go_wp2_with fail;go_ret;exact⟨rfl,B2.out⟩
 ·rw[if_pos rfl] at hq
  subst hq;go_wp2_with fail;go_ret;exact⟨rfl,B2.out⟩
theorem rbetweenL_any (w:World) (x:FV) (F:Fld) (ar:Option Addr) (cr:Nat) (l:List Rcd) (a b:Nat) (hG:cX F l) (ha:bi F l=true) (hN:bj F≤40) (h1:a<bj F) (h2:b<bj F) (h:FldAt w x F) (hr:cI w ar l) (hk:∀r∈l,(0≤r.call.kind∧r.call.kind≤255)∧r.deed.size≤9223372036854775807) :
 Calls prog 79 #[x.val F,.slice ar l.length cr,.int .i64 (a:Int),.int .i64 (b:Int)] w fun e w'=>e=.returned (.tuple #[.int .i64 (-aF (bj F) (aj F l) b a),.int .i64 (aF (bj F) (aj F l) a b)])∧Below w.heap.size w w':=by
 obtain⟨w0,hw0⟩:∃W,W=w.alloc (.cells (x.arr F) 27):=⟨_,rfl⟩;have B0:=aa (show Below w.heap.size w w0 by rw[hw0];exact aD);have X0:=aa (show w0.heap[w.heap.size]?=some (.cells (x.arr F) 27 (0,0)) by rw[hw0];exact heap_alloc_new _ _);have HS:=aa (rsystem_any w0 x F ar cr l hG (h.below B0.out) (hr.below B0.out (Nat.le_refl _)) hk)
 have HC:=aa (fun W o c (hb:BoundsAt W o (aj F l))=>(by
  have:=refbetween_any W (bj F) o c (aj F l) a b (by have:=iC hG.fld;unfold bK;omega) (by have:=Aa hG;omega) hb (fun _=>by omega);rw[nz hG ha h1 h2] at this
  exact this))
 obtain⟨lo,hlo⟩:=ag (-aF (bj F) (aj F l) b a);obtain⟨hi,hhi⟩:=ag (aF (bj F) (aj F l) a b);rw[hlo,hhi] at HC ⊢;obtain⟨P,hP⟩:∃P:Int,((bj F:Nat):Int)=P:=⟨_,rfl⟩;rw[hP] at HS HC;unfold Sp.arr at HC;have kk:=ak X0.out;clear hlo hhi hP h hr hk hG ha hN h1 h2
 unfold FV.val FV.arr at *
 go_enter func79,ntmps79;go_upto_region 1 with fail;rw[←hw0];clear hw0;go_wp2_with fail;refine HS.out.mono ?_;rintro e w1 ⟨⟨v,rfl,ho⟩,hb1⟩;have B1:=bU B0 hb1;obtain⟨o,c,rfl,hB,-⟩:=zx ho;have HCB:=aa (HC.out w1 o c hB);clear hb1 ho hB kk HS HC X0;go_wp2_with fail;refine HCB.out.mono ?_;rintro e w2 ⟨rfl,hb2⟩;have B2:=bU B1 hb2;clear hb2 HCB B1;dsimp only;go_upto_region 2 with (refine wpList_store_row rfl 115 _ _ rfl w2.heap.size #[.int .i64 lo,.int .i64 hi,.bool true,.bool true] rfl rfl 115 _ (heap_alloc_new _ _) (by kernel_rfl) rfl (by simp[Value.oneCell']) ?_;rw[World.setRow_alloc_new]);refine mj ?_;intro w3 hW3
 have hb3:Below w2.heap.size w2 w3:=by rw[hW3];exact aD
 have G3:=aa (show w3.heap[w2.heap.size]?=some (.cells #[.int .i64 lo,.int .i64 hi,.bool true,.bool true] 115 (0,0)) by rw[hW3];exact heap_alloc_new _ _);have B3:=bU B2 hb3;obtain⟨g,hg⟩:=ag w2.heap.size;rw[hg] at G3 ⊢;(try simp only[Act.put]);clear hW3 hb3 hg B2;refine aJ (S:=Below w3.heap.size w3) (last:=100) (by kernel_rfl) ?_;obtain⟨W0,hW0⟩:∃W,W=w3.drew:=⟨_,rfl⟩
 have hS0:Below w3.heap.size w3 W0:=by rw[hW0];exact(Below.refl _ _).drew
 rw[←hW0];clear hW0;refine aR 0 21 (.pointer (some ⟨g,0,none⟩)) hS0 ?_;(try simp only[s3]);refine tf 1 22 (.int .i64 lo) hS0 (fun V hV=>?_) ?_
 ·(have z:V.cell? ⟨g,0,none⟩=some (.int .i64 lo):=ce (i:=0) (ac hV (lt_of_block G3.out) G3.out) rfl;simp[go_sem,execOp,z])
 (try simp only[s3]);refine aR 2 23 (.pointer (some ⟨g,1,none⟩)) hS0 ?_;(try simp only[s3]);refine tf 3 24 (.int .i64 hi) hS0 (fun V hV=>?_) ?_
 ·(have z:V.cell? ⟨g,1,none⟩=some (.int .i64 hi):=ce (i:=1) (ac hV (lt_of_block G3.out) G3.out) rfl;simp[go_sem,execOp,z])
 (try simp only[s3]);refine aR 4 8 (.int .i64 lo) hS0 ?_;(try simp only[s3]);refine aR 5 9 (.int .i64 hi) hS0 ?_;(try simp only[s3]);refine aw (by kernel_rfl) ?_ _;go_wp2_with fail;go_ret2;exact⟨rfl,bB B3.out hS0⟩
theorem match_point {F:Fld} {l:List Rcd} {i s:Int}:aW F l (pointE F i s).2=aW F l (bq (bD F i s)):=by
 unfold aW
 by_cases h:(cm F l).2≠0
 ·rw[if_pos h,if_pos h]
 have g:=(fM F l).1 (Classical.not_not.1 h)
 have e:(pointE F i s).2=bq (bD F i s):=by
  unfold pointE bq;rw[if_neg (by rw[g.fld];simp)]
  cases bD F i s<;>rfl
 rw[e]
theorem match_point2 {F:Fld} {l:List Rcd} {i s j t:Int}:(∀e,(pointE F i s).2=e→e≠0→aW F l e=aW F l (bq (bD F i s&&bD F j t))∧aW F l e≠0)∧((pointE F i s).2=0→aW F l (pointE F j t).2=aW F l (bq (bD F i s&&bD F j t))):=by
 constructor
 ·intro e he h0
  subst he;rw[match_point];unfold aW
  by_cases h:(cm F l).2≠0
  ·rw[if_pos h,if_pos h];exact⟨rfl,h⟩
  have g:=(fM F l).1 (Classical.not_not.1 h);rw[if_neg h,if_neg h]
  have c:bD F i s=false:=by
   unfold pointE at h0;rw[if_neg (by rw[g.fld];simp)] at h0
   cases q:bD F i s with
   | false=>rfl
   | true=>rw[q,if_neg (by simp)] at h0;exact absurd rfl h0
  rw[c];exact⟨rfl,by simp[bq]⟩
 ·intro h0
  rw[match_point];unfold aW
  by_cases h:(cm F l).2≠0
  ·rw[if_pos h,if_pos h]
  have g:=(fM F l).1 (Classical.not_not.1 h)
  have c:bD F i s=true:=by
   unfold pointE at h0;rw[if_neg (by rw[g.fld];simp)] at h0
   cases q:bD F i s with
   | true=>rfl
   | false=>rw[q,if_pos rfl] at h0;exact absurd h0 (by simp)
  rw[c,Bool.true_and]
theorem point_of {F:Fld} {i s:Int} (hF:F.check=0) (h:bD F i s=true):(pointE F i s).1=(eX F i s:Int)∧eX F i s<bj F:=by
 unfold pointE;rw[if_neg (by rw[hF];simp),h,if_neg (by simp)];unfold bD at h;rw[Bool.and_eq_true] at h;exact⟨rfl,(kh h.1 h.2).2.1⟩
theorem rRegion_any (w:World) (x:FV) (F:Fld) (ar:Option Addr) (cr:Nat) (l:List Rcd) (i s:Int) (hN:bj F≤40) (h:FldAt w x F) (hr:cI w ar l) (hn:l.length≤100000) (hk:∀r∈l,(0≤r.call.kind∧r.call.kind≤255)∧r.deed.size≤9223372036854775807) :
 Calls prog 25 #[x.val F,.slice ar l.length cr,.agg #[.int .i64 i,.int .i64 s]] w fun e w'=>e=.returned (.tuple #[.int .i64 (jn F l i s).1,.int .i64 (jn F l i s).2.1,.int .i64 (jn F l i s).2.2])∧Below w.heap.size w w':=by
 obtain⟨w0,hw0⟩:∃W,W=(w.alloc (.cells (x.arr F) 27)).alloc (.cells #[.int .i64 i,.int .i64 s] 30):=⟨_,rfl⟩;have B0:=aa (show Below w.heap.size w w0 by rw[hw0];exact(aD).alloc (by simp) _)
 have X0:=aa (show Kb [(w.heap.size+1,.cells #[.int .i64 i,.int .i64 s] 30),(w.heap.size,.cells (x.arr F) 27)] w0 by
  rw[hw0];have:=Kb.alloc (o:=.cells #[.int .i64 i,.int .i64 s] 30) (Kb.alloc (W:=w) (o:=.cells (x.arr F) 27) (L:=[]) trivial)
  simpa using this)
 have HF:=aa (fun W (hb:Below w0.heap.size w0 W)=>(h.below B0.out).below hb);have HRR:=aa (fun W (hb:Below w0.heap.size w0 W)=>(hr.below B0.out (Nat.le_refl _)).below hb (Nat.le_refl _));have HCO:=aa (fun W (hb:Below w0.heap.size w0 W)=>rcornered_any W x F i s (HF.out W hb));have HPO:=aa (fun W (hb:Below w0.heap.size w0 W)=>rpointC_any W x F i s (HF.out W hb))
 have HMA:=aa (fun W (hb:Below w0.heap.size w0 W)=>(by
  have:=rmatched_any W x F ar cr l (pointE F i s).2 (HF.out W hb) (HRR.out W hb) hn hk;rw[match_point] at this
  exact this))
 have HBT:=aa (fun(q:aW F l (bq (bD F i s))=0) W (hb:Below w0.heap.size w0 W)=>(by
  obtain⟨q1,q2,q3⟩:=cx.1 q;have pp9Q:=point_of q1.fld (flag_zero.1 q2);have:=rbetweenL_any W x F ar cr l 0 (eX F i s) q1 q3 hN (by have:=(iC q1.fld).1;omega) pp9Q.2 (HF.out W hb) (HRR.out W hb) hk;rw[←pp9Q.1] at this
  exact this))
 obtain⟨⟨R1,R2,R3⟩,hR⟩:=ag (jn F l i s);rw[hR];unfold jn gT eF at hR;obtain⟨⟨p,e9⟩,hp⟩:=ag (pointE F i s);obtain⟨M,hM⟩:=ag (aW F l (bq (bD F i s)));rw[hp] at HCO HPO HMA HBT;rw[hM] at HMA HBT hR;have HR:=aa hR;clear hR hp hM h hr hn hk hN HF HRR;dsimp only at HCO HPO HMA HBT
 unfold FV.val FV.arr at *
 go_enter func25,ntmps25;go_upto_region 1 with fail;rw[←hw0];clear hw0;refine aJ (S:=Below w0.heap.size w0) (last:=100) (by kernel_rfl) ?_;obtain⟨W0,hW0⟩:∃W,W=w0.drew:=⟨_,rfl⟩
 have hS0:Below w0.heap.size w0 W0:=by rw[hW0];exact(Below.refl _ _).drew
 rw[←hW0];clear hW0;refine tf 0 9 (.agg #[.slice x.aS F.sts.length x.cS,.slice x.aL F.lms.length x.cL,.slice x.aP F.prs.length x.cP,.slice x.aV F.vrs.length x.cV]) hS0 (fun V hV=>?_) ?_
 ·exact gp rfl rfl (ac hV (lt_of_block X0.out.2.1) X0.out.2.1) underlying27 rfl (by kernel_rfl)
 (try simp only[s3]);refine aR 1 10 (.slice ar l.length cr) hS0 ?_;(try simp only[s3]);refine tf 2 11 (.agg #[.slice x.aS F.sts.length x.cS,.slice x.aL F.lms.length x.cL,.slice x.aP F.prs.length x.cP,.slice x.aV F.vrs.length x.cV]) hS0 (fun V hV=>?_) ?_
 ·exact gp rfl rfl (ac hV (lt_of_block X0.out.2.1) X0.out.2.1) underlying27 rfl (by kernel_rfl)
 (try simp only[s3]);refine tf 3 12 (.agg #[.int .i64 i,.int .i64 s]) hS0 (fun V hV=>?_) ?_
 ·exact gp rfl rfl (ac hV (lt_of_block X0.out.1) X0.out.1) underlying30 rfl (by kernel_rfl)
 (try simp only[s3]);refine ae 4 rfl (by kernel_rfl) (fun K hK=>?_);go_simp;go_at_call 78;refine(HCO.out _ hS0).mono ?_;rintro e wq1 ⟨rfl,hb1⟩;have hS1:Below w0.heap.size w0 wq1:=bB hS0 hb1;clear hb1;go_wp2_with fail;refine hK.out _ _ (.inr hS1) ?_;clear hK K;(try simp only[Act.put,s3]);refine ae 5 rfl (by kernel_rfl) (fun K hK=>?_);go_simp;go_at_call 77;refine(HMA.out _ hS1).mono ?_;rintro e wq2 ⟨rfl,hb2⟩;have hS2:Below w0.heap.size w0 wq2:=bB hS1 hb2;clear hb2;go_wp2_with fail;refine hK.out _ _ (.inr hS2) ?_;clear hK K;(try simp only[Act.put,s3]);refine aR 6 8 (.int .i64 M) hS2 ?_;(try simp only[s3]);refine aw (by kernel_rfl) ?_ _;have B1:=aa hS2;have X1:=aa (X0.out.next hS2);obtain⟨w1,hw1⟩:∃Z:World,Z=wq2:=⟨_,rfl⟩;rw[←hw1] at B1 X1 ⊢;clear hw1 X0 HCO HMA;have hq:=HR.out
 by_cases h0:M=0
 rotate_left
 ·have hzb:(M != 0)=true:=by simpa using h0
  rw[if_pos h0] at hq;cases hq;clear h0 HBT HPO HR;go_wp2_with fail;refine bodyPost_ret (by simp[results,results25,go_sem]) rfl ⟨rfl,bB B0.out B1.out⟩
 subst h0;rw[if_neg (by simp)] at hq;have HB2:=aa (HBT.out (by trivial));clear HBT HR;go_upto_region 4 with fail;obtain⟨v1,hv1⟩:=ag (-aF (bj F) (aj F l) (eX F i s) 0);obtain⟨v2,hv2⟩:=ag (aF (bj F) (aj F l) 0 (eX F i s));rw[hv1,hv2] at HB2 hq;cases hq;clear hv1 hv2;rw[show((0:Nat):Int)=0 from rfl] at HB2;refine aJ (S:=Below w1.heap.size w1) (last:=100) (by kernel_rfl) ?_;obtain⟨W0,hW0⟩:∃W,W=w1.drew:=⟨_,rfl⟩
 have hS0:Below w1.heap.size w1 W0:=by rw[hW0];exact(Below.refl _ _).drew
 rw[←hW0];clear hW0;refine tf 0 19 (.agg #[.slice x.aS F.sts.length x.cS,.slice x.aL F.lms.length x.cL,.slice x.aP F.prs.length x.cP,.slice x.aV F.vrs.length x.cV]) hS0 (fun V hV=>?_) ?_
 ·exact gp rfl rfl (ac hV (lt_of_block X1.out.2.1) X1.out.2.1) underlying27 rfl (by kernel_rfl)
 (try simp only[s3]);refine aR 1 20 (.slice ar l.length cr) hS0 ?_;(try simp only[s3]);refine tf 2 21 (.agg #[.slice x.aS F.sts.length x.cS,.slice x.aL F.lms.length x.cL,.slice x.aP F.prs.length x.cP,.slice x.aV F.vrs.length x.cV]) hS0 (fun V hV=>?_) ?_
 ·exact gp rfl rfl (ac hV (lt_of_block X1.out.2.1) X1.out.2.1) underlying27 rfl (by kernel_rfl)
 (try simp only[s3]);refine tf 3 22 (.agg #[.int .i64 i,.int .i64 s]) hS0 (fun V hV=>?_) ?_
 ·exact gp rfl rfl (ac hV (lt_of_block X1.out.1) X1.out.1) underlying30 rfl (by kernel_rfl)
 (try simp only[s3]);refine ae 4 rfl (by kernel_rfl) (fun K hK=>?_);go_simp;go_at_call 80;refine(HPO.out _ (bB B1.out hS0)).mono ?_;rintro e wq1 ⟨rfl,hb1⟩;have hS1:Below w1.heap.size w1 wq1:=bB hS0 hb1;clear hb1;go_wp2_with fail;refine hK.out _ _ (.inr hS1) ?_;clear hK K;(try simp only[Act.put,s3]);refine ae 5 rfl (by kernel_rfl) (fun K hK=>?_);go_simp;go_at_call 79;refine(HB2.out _ (bB B1.out hS1)).mono ?_;rintro e wq2 ⟨rfl,hb2⟩;have hS2:Below w1.heap.size w1 wq2:=bB hS1 hb2;clear hb2;go_wp2_with fail;refine hK.out _ _ (.inr hS2) ?_;clear hK K;(try simp only[Act.put,s3]);refine aR 6 18 (.tuple #[.int .i64 R1,.int .i64 R2]) hS2 ?_;(try simp only[s3]);refine aR 7 25 (.int .i64 R1) hS2 ?_;(try simp only[s3]);refine aR 8 26 (.int .i64 R2) hS2 ?_;(try simp only[s3]);refine aR 9 6 (.int .i64 R1) hS2 ?_;(try simp only[s3]);refine aR 10 7 (.int .i64 R2) hS2 ?_;(try simp only[s3]);refine aw (by kernel_rfl) ?_ _;have B2:=bU B1 hS2;go_wp2_with fail;refine bodyPost_ret (by simp[results,results25,go_sem]) rfl ⟨rfl,bB B0.out B2.out⟩
theorem rWidth_any (w:World) (x:FV) (F:Fld) (ar:Option Addr) (cr:Nat) (l:List Rcd) (i s j t:Int) (hN:bj F≤40) (h:FldAt w x F) (hr:cI w ar l) (hn:l.length≤100000) (hk:∀r∈l,(0≤r.call.kind∧r.call.kind≤255)∧r.deed.size≤9223372036854775807) :
 Calls prog 27 #[x.val F,.slice ar l.length cr,.agg #[.int .i64 i,.int .i64 s],.agg #[.int .i64 j,.int .i64 t]] w fun e w'=>e=.returned (.tuple #[.int .i64 (lS F l i s j t).1,.int .i64 (lS F l i s j t).2.1,.int .i64 (lS F l i s j t).2.2])∧Below w.heap.size w w':=by
 obtain⟨w0,hw0⟩:∃W,W=((w.alloc (.cells (x.arr F) 27)).alloc (.cells #[.int .i64 i,.int .i64 s] 30)).alloc (.cells #[.int .i64 j,.int .i64 t] 30):=⟨_,rfl⟩;have B0:=aa (show Below w.heap.size w w0 by rw[hw0];exact((aD).alloc (by simp) _).alloc (by simp;omega) _)
 have X0:=aa (show Kb [(w.heap.size+1+1,.cells #[.int .i64 j,.int .i64 t] 30),(w.heap.size+1,.cells #[.int .i64 i,.int .i64 s] 30),(w.heap.size,.cells (x.arr F) 27)] w0 by
  rw[hw0];have:=Kb.alloc (o:=.cells #[.int .i64 j,.int .i64 t] 30) (Kb.alloc (o:=.cells #[.int .i64 i,.int .i64 s] 30) (Kb.alloc (W:=w) (o:=.cells (x.arr F) 27) (L:=[]) trivial))
  simpa using this)
 have HF:=aa (fun W (hb:Below w0.heap.size w0 W)=>(h.below B0.out).below hb);have HRR:=aa (fun W (hb:Below w0.heap.size w0 W)=>(hr.below B0.out (Nat.le_refl _)).below hb (Nat.le_refl _));have HC1:=aa (fun W (hb:Below w0.heap.size w0 W)=>rcornered_any W x F i s (HF.out W hb));have HC2:=aa (fun W (hb:Below w0.heap.size w0 W)=>rcornered_any W x F j t (HF.out W hb));have HP1:=aa (fun W (hb:Below w0.heap.size w0 W)=>rpointC_any W x F i s (HF.out W hb));have HP2:=aa (fun W (hb:Below w0.heap.size w0 W)=>rpointC_any W x F j t (HF.out W hb));have HMA:=aa (fun W (hb:Below w0.heap.size w0 W) m=>rmatched_any W x F ar cr l m (HF.out W hb) (HRR.out W hb) hn hk)
 have HBT:=aa (fun(q:aW F l (bq (bD F i s&&bD F j t))=0) W (hb:Below w0.heap.size w0 W)=>(by
  obtain⟨q1,q2,q3⟩:=cx.1 q;have q4:=flag_zero.1 q2;rw[Bool.and_eq_true] at q4;have pp9Q:=point_of q1.fld q4.1;have pq9Q:=point_of q1.fld q4.2;have:=rbetweenL_any W x F ar cr l (eX F i s) (eX F j t) q1 q3 hN pp9Q.2 pq9Q.2 (HF.out W hb) (HRR.out W hb) hk;rw[←pp9Q.1,←pq9Q.1] at this
  exact this))
 have HMP:=aa (match_point2 (F:=F) (l:=l) (i:=i) (s:=s) (j:=j) (t:=t));obtain⟨⟨R1,R2,R3⟩,hR⟩:=ag (lS F l i s j t);rw[hR];unfold lS at hR;obtain⟨⟨p,e1⟩,hp⟩:=ag (pointE F i s);obtain⟨⟨q,e2⟩,hpq⟩:=ag (pointE F j t);obtain⟨M,hM⟩:=ag (aW F l (bq (bD F i s&&bD F j t)));rw[hp] at HC1 HP1 HBT HMP;rw[hpq] at HC2 HP2 HBT HMP;rw[hM] at HBT hR HMP;have HR:=aa hR;clear hR hp hpq hM h hr hn hk hN HF HRR;dsimp only at HC1 HC2 HP1 HP2 HBT HMP
 unfold FV.val FV.arr at *
 go_enter func27,ntmps27;go_upto_region 1 with fail;rw[←hw0];clear hw0;have k0:=ak X0.out.2.2.1;have k1:=ak X0.out.2.1;go_wp2_with fail;refine(HC1.out _ (Below.refl _ _)).mono ?_;rintro e w1 ⟨rfl,hb1⟩;have BB1:=aa hb1;have X1:=aa (X0.out.next hb1);clear hb1 k0 k1 X0;have k0:=ak X1.out.2.2.1;have k2:=ak X1.out.1;have hq:=HR.out
 by_cases h1:e1=0
 rotate_left
 ·have hzb:(e1==0)=false:=by simpa using h1
  obtain⟨m1,m2⟩:=HMP.out.1 e1 rfl h1;have HM1:=aa (HMA.out w1 BB1.out e1);rw[m1] at HM1 m2
  have hzm:(M != 0)=true:=by simpa using m2
  rw[if_pos m2] at hq;cases hq;clear h1 m1 m2 HMP HMA HBT HR HC2 HP1 HP2 HC1;go_wp2_with fail;refine HM1.out.mono ?_;rintro e w2 ⟨rfl,hb2⟩;have B2:=aa (B0.out.trans ((bB BB1.out hb2).mono B0.out.size));clear hb2 k0 k2;go_wp2_with fail;refine bodyPost_ret (by simp[results,results27,go_sem]) rfl ⟨rfl,B2.out⟩
 subst h1
 have HM2:=aa (fun W hb=>(by
  have:=HMA.out W hb e2;rw[HMP.out.2 rfl] at this
  exact this))
 clear HMA HMP hq HC1;go_wp2_with fail;refine(HC2.out _ BB1.out).mono ?_;rintro e w2 ⟨rfl,hb2⟩;have BB2:=bU BB1 hb2;have X2:=aa (X1.out.next hb2);clear hb2 k0 k2 X1 BB1 HC2;have k0:=ak X2.out.2.2.1;go_wp2_with fail;refine(HM2.out _ BB2.out).mono ?_;rintro e w3 ⟨rfl,hb3⟩;have BB3:=bU BB2 hb3;have X3:=aa (X2.out.next hb3);clear hb3 k0 X2 BB2 HM2;have hq:=HR.out
 by_cases h0:M=0
 rotate_left
 ·have hzb:(M != 0)=true:=by simpa using h0
  rw[if_pos h0] at hq;cases hq;clear h0 HBT HR HP1 HP2;go_wp2_with fail;refine bodyPost_ret (by simp[results,results27,go_sem]) rfl ⟨rfl,bB B0.out BB3.out⟩
 subst h0;rw[if_neg (by simp)] at hq;have HB2:=aa (HBT.out (by trivial));clear HBT HR;go_upto_region 7 with fail;obtain⟨v1,hv1⟩:=ag (-aF (bj F) (aj F l) (eX F j t) (eX F i s));obtain⟨v2,hv2⟩:=ag (aF (bj F) (aj F l) (eX F i s) (eX F j t));rw[hv1,hv2] at HB2 hq;cases hq;clear hv1 hv2;refine aJ (S:=Below w3.heap.size w3) (last:=100) (by kernel_rfl) ?_;obtain⟨W0,hW0⟩:∃W,W=w3.drew:=⟨_,rfl⟩
 have hS0:Below w3.heap.size w3 W0:=by rw[hW0];exact(Below.refl _ _).drew
 rw[←hW0];clear hW0;refine tf 0 28 (.agg #[.slice x.aS F.sts.length x.cS,.slice x.aL F.lms.length x.cL,.slice x.aP F.prs.length x.cP,.slice x.aV F.vrs.length x.cV]) hS0 (fun V hV=>?_) ?_
 ·exact gp rfl rfl (ac hV (lt_of_block X3.out.2.2.1) X3.out.2.2.1) underlying27 rfl (by kernel_rfl)
 (try simp only[s3]);refine aR 1 29 (.slice ar l.length cr) hS0 ?_;(try simp only[s3]);refine tf 2 30 (.agg #[.slice x.aS F.sts.length x.cS,.slice x.aL F.lms.length x.cL,.slice x.aP F.prs.length x.cP,.slice x.aV F.vrs.length x.cV]) hS0 (fun V hV=>?_) ?_
 ·exact gp rfl rfl (ac hV (lt_of_block X3.out.2.2.1) X3.out.2.2.1) underlying27 rfl (by kernel_rfl)
 (try simp only[s3]);refine tf 3 31 (.agg #[.int .i64 i,.int .i64 s]) hS0 (fun V hV=>?_) ?_
 ·exact gp rfl rfl (ac hV (lt_of_block X3.out.2.1) X3.out.2.1) underlying30 rfl (by kernel_rfl)
 (try simp only[s3]);refine tf 5 33 (.agg #[.slice x.aS F.sts.length x.cS,.slice x.aL F.lms.length x.cL,.slice x.aP F.prs.length x.cP,.slice x.aV F.vrs.length x.cV]) hS0 (fun V hV=>?_) ?_
 ·exact gp rfl rfl (ac hV (lt_of_block X3.out.2.2.1) X3.out.2.2.1) underlying27 rfl (by kernel_rfl)
 (try simp only[s3]);refine tf 6 34 (.agg #[.int .i64 j,.int .i64 t]) hS0 (fun V hV=>?_) ?_
 ·exact gp rfl rfl (ac hV (lt_of_block X3.out.1) X3.out.1) underlying30 rfl (by kernel_rfl)
 (try simp only[s3]);refine ae 4 rfl (by kernel_rfl) (fun K hK=>?_);go_simp;go_at_call 80;refine(HP1.out _ (bB BB3.out hS0)).mono ?_;rintro e wq1 ⟨rfl,hb1⟩;have hS1:Below w3.heap.size w3 wq1:=bB hS0 hb1;clear hb1;go_wp2_with fail;refine hK.out _ _ (.inr hS1) ?_;clear hK K;(try simp only[Act.put,s3]);refine ae 7 rfl (by kernel_rfl) (fun K hK=>?_);go_simp;go_at_call 80;refine(HP2.out _ (bB BB3.out hS1)).mono ?_;rintro e wq2 ⟨rfl,hb2⟩;have hS2:Below w3.heap.size w3 wq2:=bB hS1 hb2;clear hb2;go_wp2_with fail;refine hK.out _ _ (.inr hS2) ?_;clear hK K;(try simp only[Act.put,s3]);refine ae 8 rfl (by kernel_rfl) (fun K hK=>?_);go_simp;go_at_call 79;refine(HB2.out _ (bB BB3.out hS2)).mono ?_;rintro e wq3 ⟨rfl,hb3⟩;have hS3:Below w3.heap.size w3 wq3:=bB hS2 hb3;clear hb3;go_wp2_with fail;refine hK.out _ _ (.inr hS3) ?_;clear hK K;(try simp only[Act.put,s3]);refine aR 9 27 (.tuple #[.int .i64 R1,.int .i64 R2]) hS3 ?_;(try simp only[s3]);refine aR 10 37 (.int .i64 R1) hS3 ?_;(try simp only[s3]);refine aR 11 38 (.int .i64 R2) hS3 ?_;(try simp only[s3]);refine aR 12 8 (.int .i64 R1) hS3 ?_;(try simp only[s3]);refine aR 13 9 (.int .i64 R2) hS3 ?_;(try simp only[s3]);refine aw (by kernel_rfl) ?_ _;have B4:=bU BB3 hS3;go_wp2_with fail;refine bodyPost_ret (by simp[results,results27,go_sem]) rfl ⟨rfl,bB B0.out B4.out⟩
theorem limitsRegions_any (w:World) (x:FV) (F:Fld) (ar:Option Addr) (cr:Nat) (l:List Rcd) (i s:Int) (j t:Int) (h:FldAt w x F) (hr:cI w ar l) (hn:l.length≤9223372036854775807) (hd:∀r∈l,r.deed.size≤9223372036854775807) (hk:∀r∈l,0≤r.call.kind∧r.call.kind≤255) :
 Calls prog 3 #[x.val F,.slice ar l.length cr,.agg #[.int .i64 i,.int .i64 s],.agg #[.int .i64 j,.int .i64 t]] w fun e w'=>e=.returned (.bool true)∧Below w.heap.size w w':=by
 obtain⟨w0,hw0⟩:∃W,W=((w.alloc (.cells (x.arr F) 27)).alloc (.cells #[.int .i64 i,.int .i64 s] 30)).alloc (.cells #[.int .i64 j,.int .i64 t] 30):=⟨_,rfl⟩;have B0:=aa (show Below w.heap.size w w0 by rw[hw0];exact((aD).alloc (by simp) _).alloc (by simp;omega) _)
 have X0:=aa (show Kb [(w.heap.size+1+1,.cells #[.int .i64 j,.int .i64 t] 30),(w.heap.size+1,.cells #[.int .i64 i,.int .i64 s] 30),(w.heap.size,.cells (x.arr F) 27)] w0 by
  rw[hw0];have:=Kb.alloc (o:=.cells #[.int .i64 j,.int .i64 t] 30) (Kb.alloc (o:=.cells #[.int .i64 i,.int .i64 s] 30) (Kb.alloc (W:=w) (o:=.cells (x.arr F) 27) (L:=[]) trivial))
  simpa using this)
 have HF:=aa (fun W (hb:Below w0.heap.size w0 W)=>(h.below B0.out).below hb);have HRR:=aa (fun W (hb:Below w0.heap.size w0 W)=>(hr.below B0.out (Nat.le_refl _)).below hb (Nat.le_refl _));have HSM:=aa (Bi w0 x F ar cr l (h.below B0.out) (hr.below B0.out (Nat.le_refl _)) hn hd);have HSV:=aa (fun W=>Av W);have HRC:=aa (fun(q:lz F l=true)=>And.intro (tN q) (A9 q hk));obtain⟨sm,hsm⟩:=ag (lz F l);rw[hsm] at HSM HRC;have k0:=ak X0.out.2.2.1;have k1:=ak X0.out.2.1;have k2:=ak X0.out.1;unfold FV.arr at k0;unfold FV.val FV.arr at HSM;clear h hr hn hd hk hsm;go_enter func3,ntmps3;go_upto_region 1 with fail
 try unfold FV.val FV.arr
 rw[show((w.alloc (.cells #[.slice x.aS F.sts.length x.cS,.slice x.aL F.lms.length x.cL,.slice x.aP F.prs.length x.cP,.slice x.aV F.vrs.length x.cV] 27)).alloc (.cells #[.int .i64 i,.int .i64 s] 30)).alloc (.cells #[.int .i64 j,.int .i64 t] 30)=w0 from hw0.symm];clear hw0;go_wp2_with fail;refine HSM.out.mono ?_;rintro e w1 ⟨rfl,hb1⟩;have BB1:=aa hb1;have X1:=aa (X0.out.next hb1);clear hb1 k0 k1 k2 HSM X0;cases sm
 ·go_wp2_with fail
  refine(HSV.out _).mono ?_;rintro e wz9Q ⟨rfl,hbz⟩;have BZ9Q:=aa (B0.out.trans ((bB BB1.out hbz).mono B0.out.size));clear hbz;go_wp2_with fail;go_ret;exact⟨rfl,BZ9Q.out⟩
 obtain⟨⟨⟨f1,f2,f3⟩,f4,f5⟩,hn5,hk5⟩:=HRC.out (by trivial)
 have hpt:bj F≤40:=by
  unfold bj;have:=Nat.mul_le_mul f2 f1;omega
 have HRG:=aa (fun W (hb:Below w0.heap.size w0 W)=>ub W x F ar cr l i s (HF.out W hb) (HRR.out W hb) hn5 hk5);have HRX:=aa (fun W (hb:Below w0.heap.size w0 W)=>rRegion_any W x F ar cr l i s hpt (HF.out W hb) (HRR.out W hb) hn5 hk5);have HWD:=aa (fun W (hb:Below w0.heap.size w0 W)=>uE W x F ar cr l i s j t (HF.out W hb) (HRR.out W hb) hn5 hk5);have HWX:=aa (fun W (hb:Below w0.heap.size w0 W)=>rWidth_any W x F ar cr l i s j t hpt (HF.out W hb) (HRR.out W hb) hn5 hk5);obtain⟨⟨p1,p2,p3⟩,hp⟩:=ag (jn F l i s);obtain⟨⟨q1,q2,q3⟩,hq⟩:=ag (lS F l i s j t);rw[hp] at HRG HRX;rw[hq] at HWD HWX;clear hp hq hpt f1 f2 f3 f4 f5 hn5 hk5 HRC HF HRR;have k0:=ak X1.out.2.2.1;have k1:=ak X1.out.2.1;have k2:=ak X1.out.1;unfold FV.arr at k0;have HC:=aa (HRG.out w1 BB1.out)
 try unfold FV.val FV.arr at HC
 go_wp2_with fail;refine HC.out.mono ?_;rintro e w2 ⟨rfl,hb⟩;have BB2:=bU BB1 hb;have X2:=aa (X1.out.next hb);clear hb k0 k1 k2 HC BB1 X1 HRG;have k0:=ak X2.out.2.2.1;have k1:=ak X2.out.2.1;have k2:=ak X2.out.1;unfold FV.arr at k0;have HC:=aa (HRX.out w2 BB2.out)
 try unfold FV.val FV.arr at HC
 go_wp2_with fail;refine HC.out.mono ?_;rintro e w3 ⟨rfl,hb⟩;have BB3:=bU BB2 hb;have X3:=aa (X2.out.next hb);clear hb k0 k1 k2 HC BB2 X2 HRX;have k0:=ak X3.out.2.2.1;have k1:=ak X3.out.2.1;have k2:=ak X3.out.1;unfold FV.arr at k0;have HC:=aa (HWD.out w3 BB3.out)
 try unfold FV.val FV.arr at HC
 go_wp2_with fail;refine HC.out.mono ?_;rintro e w4 ⟨rfl,hb⟩;have BB4:=bU BB3 hb;have X4:=aa (X3.out.next hb);clear hb k0 k1 k2 HC BB3 X3 HWD;have k0:=ak X4.out.2.2.1;have k1:=ak X4.out.2.1;have k2:=ak X4.out.1;unfold FV.arr at k0;have HC:=aa (HWX.out w4 BB4.out)
 try unfold FV.val FV.arr at HC
 go_wp2_with fail;refine HC.out.mono ?_;rintro e w5 ⟨rfl,hb⟩;have BB5:=bU BB4 hb;have X5:=aa (X4.out.next hb);clear hb k0 k1 k2 HC BB4 X4 HWX;go_wp2_with fail;refine(HSV.out _).mono ?_;rintro e wz9Q ⟨rfl,hbz⟩;have BZ9Q:=aa (B0.out.trans ((bB BB5.out hbz).mono B0.out.size));clear hbz;go_wp2_with fail;go_ret;exact⟨rfl,BZ9Q.out⟩
end Go.Proofs.YtkhemfnlflbniaaGreatDoor
namespace Go.Proofs.YtkhemfnlflbniaaGreatDoor
open Go Go.ChangeShapes Go.WideShapes Go.ChangeAt Go.RowKit Go.Joins Go.Deep Go.Proofs.Tryz
theorem and2 {a b:Bool} (ha:a=true) (hb:b=true):(a&&b)=true:=by rw[ha,hb];rfl
section
variable {H:Type} {enc:TypeId×Value→H}
theorem trodAll_below {W W':World} (hb:Below W.heap.size W W'):∀(ts:List TypeId) (vs:List Value) (ds:List (DataW H)) (ps:List MemPlace),(∀t∈ts,tY t)→DataW.TrodAll enc prog W 0 (fun _=>true) true ts vs ds ps →
 (∀x∈ps,x.block<W.heap.size)→DataW.TrodAll enc prog W' 0 (fun b=>decide (b<W.heap.size)) true ts vs ds ps
 | [],vs,ds,ps,_,h,_=>by
   obtain⟨rfl,rfl,rfl⟩:=trodAll_nil h;exact trodAll_mk0
 | t::ts,vs,ds,ps,hT,h,hs=>by
   obtain⟨v,vs',d,ds',p,q,rfl,rfl,rfl,h1,h2⟩:=trodAll_cons h;have ht:=hT t (List.mem_cons_self ..);exact trodAll_cons_mk (Below.trod Tryz.laidOut ht.1 ht.2 h1 hb (fun x hx=>hs x (List.mem_append_left _ hx))) (trodAll_below hb ts vs' ds' q (fun x hx=>hT x (List.mem_cons_of_mem _ hx)) h2 (fun x hx=>hs x (List.mem_append_right _ hx)))
theorem law_post {f:Func} {s:ChangeSpec} {W W':World} {args:Array Value} {ds gs:List (DataW H)} {before:List MemPlace}
 (hW:DataW.Whole enc prog f.params.toList s.vars false W args.toList ds gs before) (hb:Below W.heap.size W W') (hrt:f.resultTypes=#[4])
 (hts:∀t∈f.params.toList,tY t) (hsv:s.vars=[]) (hfn:s.fn H (ds++[])={ results:=[.lit (.bool true)],args:=ds }) :
 s.post enc prog f false true false false W args (.bool true) W':=by
 have hW':=hW;obtain⟨p,q,hA,hV,rfl,hfz,hnd⟩:=hW;have hV':=hV;rw[hsv] at hV';obtain⟨rfl,rfl⟩:=trodVars_none hV'
 have hlt:∀x∈p,x.block<W.heap.size:=fun x hx=>by
  have:=hW'.lt x;exact this (List.mem_append_left _ hx)
 refine⟨ds,[],p++[],[],p,[],hW',?_,?_,?_,hb.frame _,fun h=>by cases h⟩
 ·rw[hfn,hrt]
  exact trodAll_cons_mk (shut_bool underlying4 _) trodAll_mk0
 ·rw[hfn]
  exact trodAll_below hb _ _ _ _ hts hA hlt
 ·rw[hfn,hsv]
  rfl
end
theorem argOk46:tY 27:=⟨by kernel_rfl,of_decide_eq_true (by kernel_rfl)⟩
section
variable {H:Type} {enc:TypeId×Value→H}
theorem sta_trod {W:World} {n:Nat} {cs:List Value} {y:DataW H×List MemPlace} (hl:cs.length=2) (h:DataW.trod enc prog W 0 (fun _=>true) true n 131 cs=some y):∃s:Sta,cs=s.cells∧s.name.size≤9223372036854775807∧bK s.x:=by
 have c9:Tryz.prog.cellsOf 9=1:=by kernel_rfl
 have c3:Tryz.prog.cellsOf 3=1:=by kernel_rfl
 match cs,hl with
 | [u0,u1],_ =>
   obtain⟨ys,n2,_,_,_,hyl,hf⟩:=DataW.trod_struct underlying131 h
   match ys,hyl with
   | [y0,y1],_ =>
     have f0:DataW.trod enc prog W 0 (fun _=>true) true n2 9 (([u0,u1].drop 0).take (Tryz.prog.cellsOf 9))=some y0:=hf 0 _ rfl;have f1:DataW.trod enc prog W 0 (fun _=>true) true n2 3 (([u0,u1].drop 1).take (Tryz.prog.cellsOf 3))=some y1:=hf 1 _ rfl;rw[c9] at f0;rw[c3] at f1;obtain⟨k0,rfl,o0⟩:=zu (v:=u0) (y:=y0) f0;obtain⟨k1,rfl,o1⟩:=bA (v:=u1) (y:=y1) f1;exact⟨⟨k0,k1⟩,rfl,o0,o1⟩
theorem par_trod {W:World} {n:Nat} {cs:List Value} {y:DataW H×List MemPlace} (hl:cs.length=4) (h:DataW.trod enc prog W 0 (fun _=>true) true n 133 cs=some y):∃s:Par,cs=s.cells∧s.name.size≤9223372036854775807∧bK s.south∧bK s.wst∧bK s.est:=by
 have c9:Tryz.prog.cellsOf 9=1:=by kernel_rfl
 have c3:Tryz.prog.cellsOf 3=1:=by kernel_rfl
 match cs,hl with
 | [u0,u1,u2,u3],_ =>
   obtain⟨ys,n2,_,_,_,hyl,hf⟩:=DataW.trod_struct underlying133 h
   match ys,hyl with
   | [y0,y1,y2,y3],_ =>
     have f0:DataW.trod enc prog W 0 (fun _=>true) true n2 9 (([u0,u1,u2,u3].drop 0).take (Tryz.prog.cellsOf 9))=some y0:=hf 0 _ rfl;have f1:DataW.trod enc prog W 0 (fun _=>true) true n2 3 (([u0,u1,u2,u3].drop 1).take (Tryz.prog.cellsOf 3))=some y1:=hf 1 _ rfl;have f2:DataW.trod enc prog W 0 (fun _=>true) true n2 3 (([u0,u1,u2,u3].drop 2).take (Tryz.prog.cellsOf 3))=some y2:=hf 2 _ rfl;have f3:DataW.trod enc prog W 0 (fun _=>true) true n2 3 (([u0,u1,u2,u3].drop 3).take (Tryz.prog.cellsOf 3))=some y3:=hf 3 _ rfl;rw[c9] at f0;rw[c3] at f1 f2 f3;obtain⟨k0,rfl,o0⟩:=zu (v:=u0) (y:=y0) f0;obtain⟨k1,rfl,o1⟩:=bA (v:=u1) (y:=y1) f1;obtain⟨k2,rfl,o2⟩:=bA (v:=u2) (y:=y2) f2;obtain⟨k3,rfl,o3⟩:=bA (v:=u3) (y:=y3) f3;exact⟨⟨k0,k1,k2,k3⟩,rfl,o0,o1,o2,o3⟩
theorem vrn_trod {W:World} {n:Nat} {cs:List Value} {y:DataW H×List MemPlace} (hl:cs.length=2) (h:DataW.trod enc prog W 0 (fun _=>true) true n 253 cs=some y):∃s:Vrn,cs=s.cells∧bK s.year∧bK s.east:=by
 have c3:Tryz.prog.cellsOf 3=1:=by kernel_rfl
 match cs,hl with
 | [u0,u1],_ =>
   obtain⟨ys,n2,_,_,_,hyl,hf⟩:=DataW.trod_struct underlying253 h
   match ys,hyl with
   | [y0,y1],_ =>
     have f0:DataW.trod enc prog W 0 (fun _=>true) true n2 3 (([u0,u1].drop 0).take (Tryz.prog.cellsOf 3))=some y0:=hf 0 _ rfl;have f1:DataW.trod enc prog W 0 (fun _=>true) true n2 3 (([u0,u1].drop 1).take (Tryz.prog.cellsOf 3))=some y1:=hf 1 _ rfl;rw[c3] at f0 f1;obtain⟨k0,rfl,o0⟩:=bA (v:=u0) (y:=y0) f0;obtain⟨k1,rfl,o1⟩:=bA (v:=u1) (y:=y1) f1;exact⟨⟨k0,k1⟩,rfl,o0,o1⟩
theorem open_fld {b0:Nat} {W:World} {v:Value} {d:DataW H} {p:List MemPlace} (hv:Value.okWide prog W .any b0 27 v) (h:DataW.Trod enc prog W 0 (fun _=>true) true 27 v d p) :
 ∃(x:FV) (F:Fld),v=x.val F∧FldAt W x F:=by
 obtain⟨v0,v1,v2,v3,y0,y1,y2,y3,n,rfl,_,_,h0,h1,h2,h3⟩:=open_agg4 underlying27 (by kernel_rfl) (by kernel_rfl) hv h;obtain⟨aS,cS,sts,e0,r0,l0,k0⟩:=xP (k:=2) (f:=Sta.cells) (by omega) underlying22 (by kernel_rfl) (fun n cs y hl hh=>sta_trod hl hh) h0
 obtain⟨aL,cL,lms,e1,r1,l1,k1⟩:=xP (k:=1) (f:=cO) (by omega) underlying23 (by kernel_rfl) (fun n cs y hl hh=>by
  match cs,hl with
  | [u],_ =>
    obtain⟨s,rfl,hs⟩:=zu hh
    exact⟨s,rfl,hs⟩) h1
 obtain⟨aP,cP,prs,e2,r2,l2,k2⟩:=xP (k:=4) (f:=Par.cells) (by omega) underlying24 (by kernel_rfl) (fun n cs y hl hh=>par_trod hl hh) h2;obtain⟨aV,cV,vrs,e3,r3,l3,k3⟩:=xP (k:=2) (f:=Vrn.cells) (by omega) underlying25 (by kernel_rfl) (fun n cs y hl hh=>vrn_trod hl hh) h3;simp only[List.cons.injEq,and_true] at e0 e1 e2 e3;subst e0 e1 e2 e3;refine⟨⟨aS,cS,aL,cL,aP,cP,aV,cV⟩,⟨sts,lms,prs,vrs⟩,rfl,r0,r1,r2,r3,l0,l1,l2,l3,?_,fun s hs=>(k0 s hs).2,fun s hs=>(k2 s hs).2,k3⟩;intro l hl s hs;simp only[Fld.names,List.mem_cons,List.not_mem_nil,or_false] at hl
 rcases hl with rfl|rfl|rfl
 ·obtain⟨t,ht,rfl⟩:=List.mem_map.1 hs
  exact(k0 t ht).1
 ·exact k1 s hs
 ·obtain⟨t,ht,rfl⟩:=List.mem_map.1 hs
  exact(k2 t ht).1
end
end Go.Proofs.YtkhemfnlflbniaaGreatDoor
