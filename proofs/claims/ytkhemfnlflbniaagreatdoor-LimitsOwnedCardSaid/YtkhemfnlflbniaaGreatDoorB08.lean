/- Merged text 8 of the base: Ff, Fg, Fh, Fi, Tk, Kc, E20, Yf, Co1, Co2, Co3, Co4. No conditions beyond those stated. -/
import Derived.Test.YtkhemfnlflbniaaGreatDoorB07
import Derived.Test.YtkhemfnlflbniaaGreatDoorB02
import Derived.Test.YtkhemfnlflbniaaGreatDoorB03
import Derived.Laws.Rows
import Derived.Laws.Tables
import Derived.Laws.CopyOwn
import Derived.Test.YtkhemfnlflbniaaGreatDoorB05
import Derived.Test.YtkhemfnlflbniaaGreatDoorB06
import Derived.Test.YtkhemfnlflbniaaGreatDoorB04
set_option maxRecDepth 100000
set_option maxHeartbeats 8000000
namespace Go.Proofs.YtkhemfnlflbniaaGreatDoor
open Go Go.RowKit Go.Shelf Tryz
def Fld.chkC (F:Fld):Int:=if eQ F.sts F.sts.length=false then 30 else if eV F.prs F.prs.length=false then 30 else 0
def Fld.chkB (F:Fld):Int:=if F.sts.any (fun s=>!bm s.x 0 100000) then 1 else if F.prs.any (fun p=>!cH F.lms.length F.sts.length p) then 1 else F.chkC
def Fld.chkA (F:Fld):Int:=if F.names.any (fun l=>l.any fun s=>!bI s) then 4 else if F.names.any (fun l=>cG l l.length) then 6 else F.chkB
theorem Fld.check_eq (F:Fld):F.check=if 12<F.sts.length∨10<F.lms.length∨40<F.prs.length then 2 else if F.sts.length<2∨F.lms.length<1 then 5 else if bz F.vrs≠0 then bz F.vrs else F.chkA:=rfl
theorem AY (a b c:Option Addr) (l m n i j k:Nat) (w:World):(Instr.index 225 (.agg #[.slice a l i,.slice b m j,.slice c n k]) (.int .i64 0)).run prog w=.ok (.slice a l i) w:=by kernel_rfl
theorem AV (a b c:Option Addr) (l m n i j k:Nat) (w:World):(Instr.index 225 (.agg #[.slice a l i,.slice b m j,.slice c n k]) (.int .i64 1)).run prog w=.ok (.slice b m j) w:=by kernel_rfl
theorem AQ (a b c:Option Addr) (l m n i j k:Nat) (w:World):(Instr.index 225 (.agg #[.slice a l i,.slice b m j,.slice c n k]) (.int .i64 2)).run prog w=.ok (.slice c n k) w:=by kernel_rfl
theorem uh (l:List Sta) (k:Nat):eQ l (k+1)=(eQ l k&&(k==0||decide ((l.getD (k-1) js).x<(l.getD k js).x))):=by
 unfold eQ;rw[List.range_succ,List.all_append];simp
theorem sX {l:List Sta} {k n:Nat} (h:k≤n) (hk:eQ l k=false):eQ l n=false:=by
 unfold eQ at *
 rw[←Bool.not_eq_true,List.all_eq_true] at *
 intro hh
 exact hk fun x hx=>hh x (List.mem_range.2 (by have:=List.mem_range.1 hx;omega))
theorem sG (l:List Par) (k:Nat):eV l (k+1)=(eV l k&&(decide ((l.getD k r8).wst<(l.getD k r8).est)&&!(l.take k).any (nG (l.getD k r8)))):=by
 unfold eV;rw[List.range_succ,List.all_append];simp
theorem mh {l:List Par} {k n:Nat} (h:k≤n) (hk:eV l k=false):eV l n=false:=by
 unfold eV at *
 rw[←Bool.not_eq_true,List.all_eq_true] at *
 intro hh
 exact hk fun x hx=>hh x (List.mem_range.2 (by have:=List.mem_range.1 hx;omega))
theorem oy {nL nS:Nat} {p:Par} (h:cH nL nS p=true) (h1:nL≤1000) (h2:nS≤1000):p.small:=by
 unfold cH bm at h;simp at h;unfold Par.small;omega
theorem fZ (w:World) (x:FV) (F:Fld) (h:FldAt w x F):Calls prog 136 #[x.val F] w fun e w'=>e=.returned (.int .i64 F.check)∧Below w.heap.size w w':=by
 have H:=aa h;obtain⟨Q,hQ⟩:=ag F.check;rw[hQ];rw[Fld.check_eq] at hQ;obtain⟨aS,cS,aL,cL,aP,cP,aV,cV⟩:=x;obtain⟨st,lm,pr,vr⟩:=F;unfold FV.val FV.arr;dsimp only at hQ ⊢;clear h;have b0:Below w.heap.size w (w.alloc (.cells #[.slice aS st.length cS,.slice aL lm.length cL,.slice aP pr.length cP,.slice aV vr.length cV] 27)):=aD;have B0:=aa b0;clear b0
 by_cases h2:12<st.length∨10<lm.length∨40<pr.length
 ·obtain rfl:(2:Int)=Q:=by rw[if_pos h2] at hQ;exact hQ
  clear hQ H;go_enter func136,ntmps136;go_wp2_with fail
  all_goals first|(exfalso;omega)|(go_ret;exact⟨rfl,B0.out⟩)
 rw[if_neg h2] at hQ
 have s1:st.length≤12:=by omega
 have s2:lm.length≤10:=by omega
 have s3:pr.length≤40:=by omega
 have d1:decide ((st.length:Int)>12)=false:=by simp;omega
 have d2:decide ((lm.length:Int)>10)=false:=by simp;omega
 have d3:decide ((pr.length:Int)>40)=false:=by simp;omega
 clear h2
 by_cases h5:st.length<2∨lm.length<1
 ·obtain rfl:(5:Int)=Q:=by rw[if_pos h5] at hQ;exact hQ
  clear hQ H;go_enter func136,ntmps136;go_wp2_with fail
  all_goals first|(exfalso;omega)|(go_ret;exact⟨rfl,B0.out⟩)
 rw[if_neg h5] at hQ
 have s4:2≤st.length:=by omega
 have s5:1≤lm.length:=by omega
 have d4:decide ((st.length:Int)<2)=false:=by simp;omega
 have d5:decide ((lm.length:Int)<1)=false:=by simp;omega
 clear h5;have hvr:=gI (w.alloc (.cells #[.slice aS st.length cS,.slice aL lm.length cL,.slice aP pr.length cP,.slice aV vr.length cV] 27)) aV cV vr (by have:=H.out.lv;dsimp only at this;omega) (H.out.vr.alloc _);obtain⟨c,hc⟩:=ag (bz vr);rw[hc] at hvr hQ;have HVR:=aa hvr;clear hvr hc
 by_cases hz:c=0
 ·subst hz
  have HQ:Hid ((Fld.mk st lm pr vr).chkA=Q):=aa (by simpa using hQ);clear hQ;have HN:=aa (fun(W:World) (hb:Below w.heap.size w W)=>xw W ⟨aS,cS,aL,cL,aP,cP,aV,cV⟩ ⟨st,lm,pr,vr⟩ (by show st.length≤4000;omega) (by show pr.length≤4000;omega) (H.out.below hb));unfold FV.val FV.arr at HN;dsimp only at HN;go_enter func136,ntmps136;go_wp2_with fail;refine HVR.out.mono ?_;rintro e w1 ⟨rfl,hb1⟩;have x1:=ac hb1 (by simp) (heap_alloc_new w (.cells #[.slice aS st.length cS,.slice aL lm.length cL,.slice aP pr.length cP,.slice aV vr.length cV] 27));have c0:w1.cell? ⟨w.heap.size,0,none⟩=some (.slice aS st.length cS):=bu x1 rfl;have c1:w1.cell? ⟨w.heap.size,1,none⟩=some (.slice aL lm.length cL):=bu x1 rfl;have c2:w1.cell? ⟨w.heap.size,2,none⟩=some (.slice aP pr.length cP):=bu x1 rfl;have c3:w1.cell? ⟨w.heap.size,3,none⟩=some (.slice aV vr.length cV):=bu x1 rfl;have B1:=bU B0 hb1;have X1:=aa x1;have l1:=lt_of_block x1;clear hb1 x1;go_wp2_with fail;refine(HN.out _ B1.out).mono ?_;rintro e w2 ⟨⟨p0,q0,p2,q2,rfl,n0,m0,n2,m2⟩,hb2⟩;dsimp only at n0 m0 n2 m2;have x2:=ac hb2 l1 X1.out;have B2:=bU B1 hb2;have X2:=aa x2;have l2:=lt_of_block x2;have HCF0:=aa (fun(W:World) (hb:Below w2.heap.size w2 W)=>dD W p0 q0 (st.map Sta.name) 208 #[] (fun s=>!bI s) (by rw[List.length_map];omega) (n0.below hb (Nat.le_refl _)) (fun k hk W' _=>(lW _ W' (H.out.nm (st.map Sta.name) (by simp[Fld.names]) _ (List.getElem_mem hk))).mono fun _ _ ⟨he,hw⟩=>⟨he,hw▸Below.refl _ _⟩) (enters_of func208 (by kernel_rfl) rfl));have HCF1:=aa (fun(W:World) (hb:Below w2.heap.size w2 W)=>dD W aL cL lm 208 #[] (fun s=>!bI s) (by omega) (H.out.lm.below (bB B2.out hb) (Nat.le_refl _)) (fun k hk W' _=>(lW _ W' (H.out.nm lm (by simp[Fld.names]) _ (List.getElem_mem hk))).mono fun _ _ ⟨he,hw⟩=>⟨he,hw▸Below.refl _ _⟩) (enters_of func208 (by kernel_rfl) rfl));have HCF2:=aa (fun(W:World) (hb:Below w2.heap.size w2 W)=>dD W p2 q2 (pr.map Par.name) 208 #[] (fun s=>!bI s) (by rw[List.length_map];omega) (n2.below hb (Nat.le_refl _)) (fun k hk W' _=>(lW _ W' (H.out.nm (pr.map Par.name) (by simp[Fld.names]) _ (List.getElem_mem hk))).mono fun _ _ ⟨he,hw⟩=>⟨he,hw▸Below.refl _ _⟩) (enters_of func208 (by kernel_rfl) rfl));rw[List.length_map] at HCF0 HCF2;obtain⟨r0,hr0⟩:=ag ((st.map Sta.name).any fun s=>!bI s);obtain⟨r1,hr1⟩:=ag (lm.any fun s=>!bI s);obtain⟨r2,hr2⟩:=ag ((pr.map Par.name).any fun s=>!bI s);rw[hr0] at HCF0;rw[hr1] at HCF1;rw[hr2] at HCF2
  have HR:=aa (show((Fld.mk st lm pr vr).names.any fun l=>l.any fun s=>!bI s)=(r0||(r1||r2)) by simp only[Fld.names,List.any_cons,List.any_nil,hr0,hr1,hr2,Bool.or_false]);have B2s:=aa (Below.refl w2.heap.size w2);clear hb2 x2 n0 m0 n2 m2 hr0 hr1 hr2 c0 c1 c2 c3 d1 d2 d3 d4 d5;go_wp2_with fail
  go_loopw [52] (fun i wr=>∃k:Nat,k≤3∧i=.int .i64 k∧Hid (0<k→r0=false)∧Hid (1<k→r1=false)∧Hid (2<k→r2=false)∧Below w2.heap.size w2 wr) (fun i _=>3-(intOf i).toNat)
  case atStart=>exact⟨0,by omega,rfl,aa (fun h=>absurd h (by omega)),aa (fun h=>absurd h (by omega)),aa (fun h=>absurd h (by omega)),Below.refl _ _⟩
  case round =>
   obtain⟨k,hk,rfl,k0,k1,k2,hb⟩:=hrel
   have hk4:k=0∨k=1∨k=2∨k=3:=by omega
   rcases hk4 with rfl|rfl|rfl|rfl
   ·have hix:=AY p0 aL p2 st.length lm.length pr.length q0 cL q2
    cases r0 with
    | true =>
      obtain rfl:(4:Int)=Q:=by rw[←HQ.out];unfold Fld.chkA;rw[HR.out];simp
      go_wp2_with fail;refine(HCF0.out _ hb).mono ?_;rintro e w3 ⟨rfl,hb3⟩;go_wp2_with fail;go_ret;exact⟨rfl,B2.out.trans ((bB hb hb3).mono B2.out.size)⟩
    | false =>
      go_wp2_with fail;refine(HCF0.out _ hb).mono ?_;rintro e w3 ⟨rfl,hb3⟩;go_wp2_with fail;go_roundw
      case rel=>exact⟨1,by omega,(by first|trivial|rfl),(by first|exact aa (fun _=>rfl)|trivial|exact aa (fun _=>trivial)),aa (fun h=>absurd h (by omega)),aa (fun h=>absurd h (by omega)),bB hb hb3⟩
      case measure=>simp[intOf]
   ·have hix:=AV p0 aL p2 st.length lm.length pr.length q0 cL q2
    cases r1 with
    | true =>
      obtain rfl:(4:Int)=Q:=by rw[←HQ.out];unfold Fld.chkA;rw[HR.out];simp
      go_wp2_with fail;refine(HCF1.out _ hb).mono ?_;rintro e w3 ⟨rfl,hb3⟩;go_wp2_with fail;go_ret;exact⟨rfl,B2.out.trans ((bB hb hb3).mono B2.out.size)⟩
    | false =>
      go_wp2_with fail;refine(HCF1.out _ hb).mono ?_;rintro e w3 ⟨rfl,hb3⟩;go_wp2_with fail;go_roundw
      case rel=>exact⟨2,by omega,(by first|trivial|rfl),aa (fun _=>k0.out (by omega)),(by first|exact aa (fun _=>rfl)|trivial|exact aa (fun _=>trivial)),aa (fun h=>absurd h (by omega)),bB hb hb3⟩
      case measure=>simp[intOf]
   ·have hix:=AQ p0 aL p2 st.length lm.length pr.length q0 cL q2
    cases r2 with
    | true =>
      obtain rfl:(4:Int)=Q:=by rw[←HQ.out];unfold Fld.chkA;rw[HR.out];simp
      go_wp2_with fail;refine(HCF2.out _ hb).mono ?_;rintro e w3 ⟨rfl,hb3⟩;go_wp2_with fail;go_ret;exact⟨rfl,B2.out.trans ((bB hb hb3).mono B2.out.size)⟩
    | false =>
      go_wp2_with fail;refine(HCF2.out _ hb).mono ?_;rintro e w3 ⟨rfl,hb3⟩;go_wp2_with fail;go_roundw
      case rel=>exact⟨3,by omega,(by first|trivial|rfl),aa (fun _=>k0.out (by omega)),aa (fun _=>k1.out (by omega)),(by first|exact aa (fun _=>rfl)|trivial|exact aa (fun _=>trivial)),bB hb hb3⟩
      case measure=>simp[intOf]
   ·have hn : ((Fld.mk st lm pr vr).names.any fun l => l.any fun s => !bI s) = false := by rw [HR.out, k0.out (by omega), k1.out (by omega), k2.out (by omega)]; rfl
    have HQ2:Hid ((if(Fld.mk st lm pr vr).names.any (fun l=>cG l l.length) then 6 else(Fld.mk st lm pr vr).chkB)=Q):=aa (by rw[←HQ.out];unfold Fld.chkA;rw[hn];rfl);have B3:=bU B2 hb;have x3:=ac hb l2 X2.out;have c0:wr.cell? ⟨w.heap.size,0,none⟩=some (.slice aS st.length cS):=bu x3 rfl;have c1:wr.cell? ⟨w.heap.size,1,none⟩=some (.slice aL lm.length cL):=bu x3 rfl;have c2:wr.cell? ⟨w.heap.size,2,none⟩=some (.slice aP pr.length cP):=bu x3 rfl;have c3:wr.cell? ⟨w.heap.size,3,none⟩=some (.slice aV vr.length cV):=bu x3 rfl;have X3:=aa x3;have l3:=lt_of_block x3;obtain⟨w3,rfl⟩:∃X:World,X=wr:=⟨wr,rfl⟩;clear hn HQ HR HCF0 HCF1 HCF2 k0 k1 k2 hb x3 B2s;go_wp2_with fail;refine(HN.out _ B3.out).mono ?_;rintro e w4 ⟨⟨p4,q4,p6,q6,rfl,n0,m0,n2,m2⟩,hb4⟩;dsimp only at n0 m0 n2 m2;have x4:=ac hb4 l3 X3.out;have B4:=bU B3 hb4;have X4:=aa x4;have l4:=lt_of_block x4;have HTW0:=aa (lH w4 p4 q4 (st.map Sta.name) (by rw[List.length_map];exact m0.1) m0.2 n0);have HTW1:=aa (lH w4 aL cL lm H.out.ll.1 H.out.ll.2 (H.out.lm.below B4.out (Nat.le_refl _)));have HTW2:=aa (lH w4 p6 q6 (pr.map Par.name) (by rw[List.length_map];exact m2.1) m2.2 n2);obtain⟨t0,ht0⟩:=ag (cG (st.map Sta.name) (st.map Sta.name).length);obtain⟨t1,ht1⟩:=ag (cG lm lm.length);obtain⟨t2,ht2⟩:=ag (cG (pr.map Par.name) (pr.map Par.name).length);have HR:=aa (show((Fld.mk st lm pr vr).names.any fun l=>cG l l.length)=(t0||(t1||t2)) by simp only[Fld.names,List.any_cons,List.any_nil,ht0,ht1,ht2,Bool.or_false]);rw[ht0] at HTW0;rw[ht1] at HTW1;rw[ht2] at HTW2;rw[List.length_map] at HTW0 HTW2;clear hb4 x4 n0 m0 n2 m2 ht0 ht1 ht2 c0 c1 c2 c3;go_wp2_with fail
    go_loopw [60] (fun i wr=>∃k:Nat,k≤3∧i=.int .i64 k∧Hid (0<k→t0=false)∧Hid (1<k→t1=false)∧Hid (2<k→t2=false)∧wr=w4) (fun i _=>3-(intOf i).toNat)
    case atStart=>exact⟨0,by omega,rfl,aa (fun h=>absurd h (by omega)),aa (fun h=>absurd h (by omega)),aa (fun h=>absurd h (by omega)),rfl⟩
    case round =>
     obtain⟨k,hk,rfl,k0,k1,k2,rfl⟩:=hrel;obtain⟨w4,rfl⟩:∃X:World,X=wr:=⟨wr,rfl⟩
     have hk4:k=0∨k=1∨k=2∨k=3:=by omega
     rcases hk4 with rfl|rfl|rfl|rfl
     ·have hix:=AY p4 aL p6 st.length lm.length pr.length q4 cL q6
      cases t0 with
      | true =>
        obtain rfl:(6:Int)=Q:=by rw[←HQ2.out,HR.out];simp
        go_wp2_with fail;refine HTW0.out.mono ?_;rintro e w5 ⟨rfl,rfl⟩;go_wp2_with fail;go_ret;exact⟨rfl,B4.out⟩
      | false =>
        go_wp2_with fail;refine HTW0.out.mono ?_;rintro e w5 ⟨rfl,rfl⟩;go_wp2_with fail;go_roundw
        case rel=>exact⟨1,by omega,(by first|trivial|rfl),(by first|exact aa (fun _=>rfl)|trivial|exact aa (fun _=>trivial)),aa (fun h=>absurd h (by omega)),aa (fun h=>absurd h (by omega)),(by first|trivial|rfl)⟩
        case measure=>simp[intOf]
     ·have hix:=AV p4 aL p6 st.length lm.length pr.length q4 cL q6
      cases t1 with
      | true =>
        obtain rfl:(6:Int)=Q:=by rw[←HQ2.out,HR.out];simp
        go_wp2_with fail;refine HTW1.out.mono ?_;rintro e w5 ⟨rfl,rfl⟩;go_wp2_with fail;go_ret;exact⟨rfl,B4.out⟩
      | false =>
        go_wp2_with fail;refine HTW1.out.mono ?_;rintro e w5 ⟨rfl,rfl⟩;go_wp2_with fail;go_roundw
        case rel=>exact⟨2,by omega,(by first|trivial|rfl),aa (fun _=>k0.out (by omega)),(by first|exact aa (fun _=>rfl)|trivial|exact aa (fun _=>trivial)),aa (fun h=>absurd h (by omega)),(by first|trivial|rfl)⟩
        case measure=>simp[intOf]
     ·have hix:=AQ p4 aL p6 st.length lm.length pr.length q4 cL q6
      cases t2 with
      | true =>
        obtain rfl:(6:Int)=Q:=by rw[←HQ2.out,HR.out];simp
        go_wp2_with fail;refine HTW2.out.mono ?_;rintro e w5 ⟨rfl,rfl⟩;go_wp2_with fail;go_ret;exact⟨rfl,B4.out⟩
      | false =>
        go_wp2_with fail;refine HTW2.out.mono ?_;rintro e w5 ⟨rfl,rfl⟩;go_wp2_with fail;go_roundw
        case rel=>exact⟨3,by omega,(by first|trivial|rfl),aa (fun _=>k0.out (by omega)),aa (fun _=>k1.out (by omega)),(by first|exact aa (fun _=>rfl)|trivial|exact aa (fun _=>trivial)),(by first|trivial|rfl)⟩
        case measure=>simp[intOf]
     ·have hn : ((Fld.mk st lm pr vr).names.any fun l => cG l l.length) = false := by rw [HR.out, k0.out (by omega), k1.out (by omega), k2.out (by omega)]; rfl
      have HQ3:Hid ((Fld.mk st lm pr vr).chkB=Q):=aa (by rw[←HQ2.out,hn];rfl);have c0:w4.cell? ⟨w.heap.size,0,none⟩=some (.slice aS st.length cS):=bu X4.out rfl;have c1:w4.cell? ⟨w.heap.size,1,none⟩=some (.slice aL lm.length cL):=bu X4.out rfl;have c2:w4.cell? ⟨w.heap.size,2,none⟩=some (.slice aP pr.length cP):=bu X4.out rfl;have c3:w4.cell? ⟨w.heap.size,3,none⟩=some (.slice aV vr.length cV):=bu X4.out rfl;clear hn HQ2 HR HTW0 HTW1 HTW2 k0 k1 k2;go_wp2_with fail
      go_loopw [69] (fun i wr=>∃k:Nat,k≤st.length∧i=.int .i64 k∧Hid ((st.take k).any (fun s=>!bm s.x 0 100000)=false)∧Below w4.heap.size w4 wr) (fun i _=>st.length-(intOf i).toNat)
      case atStart=>exact⟨0,by omega,rfl,aa rfl,Below.refl _ _⟩
      case round =>
       obtain⟨k,hk,rfl,HA,hb⟩:=hrel
       by_cases hlt:k<st.length
       ·obtain⟨b,off,rfl,hbl,hcc⟩:=RecsAt.at H.out.st hlt
        have e0:=hcc 0 (by omega);have e1:=hcc 1 (by omega);rw[←(bB B4.out hb).cell hbl,Nat.add_zero] at e0;rw[←(bB B4.out hb).cell hbl] at e1;obtain⟨y,hy⟩:=ag (st[k]);dsimp only at e0 e1;rw[hy] at e0 e1;simp only[Sta.cells,List.getElem?_cons_zero,List.getElem?_cons_succ] at e0 e1;have HY:=aa hy;have BB:=aa hb;have BW:=bU B4 hb;have hsz:=BB.out.size;clear hy hcc hb c0 c1 c2 c3
        cases hi:bm y.x 0 100000 with
        | false =>
          obtain rfl:(1:Int)=Q:=by
           rw[←HQ3.out];unfold Fld.chkB
           rw[if_pos (gX (l:=st) (p:=fun s=>!bm s.x 0 100000) hlt (by rw[HY.out,hi];rfl))]
          have HI:=aa (fun W=>gN hi W);clear hi;go_wp2_with fail;refine(HI.out _).mono ?_;rintro e w5 ⟨rfl,rfl⟩;go_wp2_with fail;go_ret;exact⟨rfl,BW.out.alloc BW.out.size _⟩
        | true =>
          have HI:=aa (fun W=>gN hi W);have HA2:=aa (bR (p:=fun s:Sta=>!bm s.x 0 100000) hlt HA.out (by rw[HY.out,hi];rfl));clear hi;go_wp2_with fail;refine(HI.out _).mono ?_;rintro e w5 ⟨rfl,rfl⟩;go_wp2_with fail;go_roundw
          case rel=>first|exact⟨k+1,by omega,by go_num,HA2,BB.out.alloc hsz _⟩|((repeat apply Exists.intro);exact⟨⟨k+1,by omega,by go_num,HA2,BB.out.alloc hsz _⟩,rfl⟩)
          case measure=>simp[intOf];omega
       ·obtain rfl:k=st.length:=by omega
        have hn:=cD (Nat.le_refl _) HA.out;have HQ4:Hid ((if pr.any (fun p=>!cH lm.length st.length p) then 1 else(Fld.mk st lm pr vr).chkC)=Q):=aa (by have h3:=HQ3.out;unfold Fld.chkB at h3;dsimp only at h3;rw[hn,if_neg (by simp)] at h3;exact h3);have B5:=bU B4 hb;have x5:=ac hb l4 X4.out;have X5:=aa x5;have l5:=lt_of_block x5;obtain⟨w5,rfl⟩:∃X:World,X=wr:=⟨wr,rfl⟩;clear hn HQ3 HA c0 c1 c2 c3;have c0:w5.cell? ⟨w.heap.size,0,none⟩=some (.slice aS st.length cS):=bu x5 rfl;have c1:w5.cell? ⟨w.heap.size,1,none⟩=some (.slice aL lm.length cL):=bu x5 rfl;have c2:w5.cell? ⟨w.heap.size,2,none⟩=some (.slice aP pr.length cP):=bu x5 rfl;have c3:w5.cell? ⟨w.heap.size,3,none⟩=some (.slice aV vr.length cV):=bu x5 rfl;clear x5 hb;go_wp2_with fail
        go_loopw [81] (fun i wr=>∃k:Nat,k≤pr.length∧i=.int .i64 k∧Hid ((pr.take k).any (fun p:Par=>!cH lm.length st.length p)=false)∧Below w5.heap.size w5 wr) (fun i _=>pr.length-(intOf i).toNat)
        case atStart=>exact⟨0,by omega,rfl,aa rfl,Below.refl _ _⟩
        case round =>
         obtain⟨k,hk,rfl,HA,hb⟩:=hrel
         by_cases hlt:k<pr.length
         ·obtain⟨b,off,rfl,hbl,hcc⟩:=RecsAt.at H.out.pr hlt
          have e0:=hcc 0 (by omega);have e1:=hcc 1 (by omega);have e2:=hcc 2 (by omega);have e3:=hcc 3 (by omega);rw[←(bB B5.out hb).cell hbl,Nat.add_zero] at e0;rw[←(bB B5.out hb).cell hbl] at e1 e2 e3;obtain⟨y,hy⟩:=ag (pr[k]);dsimp only at e0 e1 e2 e3;rw[hy] at e0 e1 e2 e3;simp only[Par.cells,List.getElem?_cons_zero,List.getElem?_cons_succ] at e0 e1 e2 e3;have HY:=aa hy;have BB:=aa hb;have BW:=bU B5 hb;have hsz:=BB.out.size;have xr:=ac hb l5 X5.out;have lr:=lt_of_block xr;clear hy hcc hb c0 c1 c2 c3;have g0:wr.cell? ⟨w.heap.size,0,none⟩=some (.slice aS st.length cS):=bu xr rfl;have g1:wr.cell? ⟨w.heap.size,1,none⟩=some (.slice aL lm.length cL):=bu xr rfl;have g2:wr.cell? ⟨w.heap.size,2,none⟩=some (.slice (some ⟨b,off,none⟩) pr.length cP):=bu xr rfl;have g3:wr.cell? ⟨w.heap.size,3,none⟩=some (.slice aV vr.length cV):=bu xr rfl;have HPR:Hid (cH lm.length st.length y=(bm y.south 0 ((lm.length:Int)-2)&&bm y.wst 0 ((st.length:Int)-1)&&bm y.est 0 ((st.length:Int)-1))):=aa rfl;clear xr;obtain⟨ys,y0,y1,y2⟩:=y;dsimp only at e0 e1 e2 e3 HPR
          cases hi1:bm y0 0 ((lm.length:Int)-2) with
          | false =>
            obtain rfl:(1:Int)=Q:=by
             rw[←HQ4.out,if_pos (gX (l:=pr) (p:=fun p:Par=>!cH lm.length st.length p) hlt (by rw[HY.out,HPR.out,hi1];rfl))]
            have HI1:=aa (fun W=>gN hi1 W);clear hi1;go_wp2_with fail;refine(HI1.out _).mono ?_;rintro e w6 ⟨rfl,rfl⟩;go_wp2_with fail;go_ret;exact⟨rfl,BW.out.alloc BW.out.size _⟩
          | true =>
            have HI1:=aa (fun W=>gN hi1 W)
            cases hi2:bm y1 0 ((st.length:Int)-1) with
            | false =>
              obtain rfl:(1:Int)=Q:=by
               rw[←HQ4.out,if_pos (gX (l:=pr) (p:=fun p:Par=>!cH lm.length st.length p) hlt (by rw[HY.out,HPR.out,hi1,hi2];rfl))]
              have HI2:=aa (fun W=>gN hi2 W);clear hi1 hi2;go_wp2_with fail;refine(HI1.out _).mono ?_;rintro e w6 ⟨rfl,rfl⟩;go_wp2_with fail;refine(HI2.out _).mono ?_;rintro e w6 ⟨rfl,rfl⟩;go_wp2_with fail;go_ret;exact⟨rfl,BW.out.alloc BW.out.size _⟩
            | true =>
              have HI2:=aa (fun W=>gN hi2 W)
              cases hi3:bm y2 0 ((st.length:Int)-1) with
              | false =>
                obtain rfl:(1:Int)=Q:=by
                 rw[←HQ4.out,if_pos (gX (l:=pr) (p:=fun p:Par=>!cH lm.length st.length p) hlt (by rw[HY.out,HPR.out,hi1,hi2,hi3];rfl))]
                have HI3:=aa (fun W=>gN hi3 W);clear hi1 hi2 hi3;go_wp2_with fail;refine(HI1.out _).mono ?_;rintro e w6 ⟨rfl,rfl⟩;go_wp2_with fail;refine(HI2.out _).mono ?_;rintro e w6 ⟨rfl,rfl⟩;go_wp2_with fail;refine(HI3.out _).mono ?_;rintro e w6 ⟨rfl,rfl⟩;go_wp2_with fail;go_ret;exact⟨rfl,BW.out.alloc BW.out.size _⟩
              | true =>
                have HI3:=aa (fun W=>gN hi3 W);have HA2:=aa (bR (p:=fun p:Par=>!cH lm.length st.length p) hlt HA.out (by rw[HY.out,HPR.out,hi1,hi2,hi3];rfl));clear hi1 hi2 hi3;go_wp2_with fail;refine(HI1.out _).mono ?_;rintro e w6 ⟨rfl,rfl⟩;go_wp2_with fail;refine(HI2.out _).mono ?_;rintro e w6 ⟨rfl,rfl⟩;go_wp2_with fail;refine(HI3.out _).mono ?_;rintro e w6 ⟨rfl,rfl⟩;go_wp2_with fail;go_roundw
                case rel=>first|exact⟨k+1,by omega,by go_num,HA2,BB.out.alloc hsz _⟩|((repeat apply Exists.intro);exact⟨⟨k+1,by omega,by go_num,HA2,BB.out.alloc hsz _⟩,rfl⟩)
                case measure=>simp[intOf];omega
         ·obtain rfl:k=pr.length:=by omega
          have hn:=cD (Nat.le_refl _) HA.out;have HSM:=aa (fun p (hp:p∈pr)=>oy (nL:=lm.length) (nS:=st.length) (p:=p) (by have:=hn;rw[List.any_eq_false] at this;simpa using this p hp) (by omega) (by omega));have HQ5:Hid ((Fld.mk st lm pr vr).chkC=Q):=aa (by have h3:=HQ4.out;rw[hn,if_neg (by simp)] at h3;exact h3);have B6:=bU B5 hb;have x6:=ac hb l5 X5.out;have X6:=aa x6;have l6:=lt_of_block x6;obtain⟨w6,rfl⟩:∃X:World,X=wr:=⟨wr,rfl⟩;clear hn HQ4 HA c0 c1 c2 c3;clear x6 hb;go_wp2_with fail
          go_loopw [12] (fun i wr=>∃k nd:Nat,1≤k∧k≤st.length∧i=.int .i64 k∧Hid (eQ st k=true)∧wr=w6.drewN nd) (fun i _=>st.length-(intOf i).toNat)
          case atStart=>exact⟨1,0,by omega,by omega,rfl,aa (by simp[eQ,List.range_succ]),rfl⟩
          case round =>
           obtain⟨k,nd,hk1,hk,rfl,HA,rfl⟩:=hrel;have c0:w6.cell? ⟨w.heap.size,0,none⟩=some (.slice aS st.length cS):=bu X6.out rfl;have c1:w6.cell? ⟨w.heap.size,1,none⟩=some (.slice aL lm.length cL):=bu X6.out rfl;have c2:w6.cell? ⟨w.heap.size,2,none⟩=some (.slice aP pr.length cP):=bu X6.out rfl;have c3:w6.cell? ⟨w.heap.size,3,none⟩=some (.slice aV vr.length cV):=bu X6.out rfl
           by_cases hlt:k<st.length
           ·obtain⟨b,off,rfl,hbl,hcc⟩:=RecsAt.at H.out.st hlt
            have e1:=hcc 1 (by omega);obtain⟨b',off',eq',_,hcc'⟩:=RecsAt.at H.out.st (show k-1<st.length by omega);cases eq';have f1:=hcc' 1 (by omega);rw[←B6.out.cell hbl] at e1 f1;dsimp only at e1 f1;simp only[Sta.cells,List.getElem?_cons_zero,List.getElem?_cons_succ] at e1 f1;have HSUC:=aa (uh st k);rw[show(st.getD (k-1) js)=st[k-1] from by simp[show k-1<st.length by omega],show st.getD k js=st[k] from by simp[hlt]] at HSUC;obtain⟨u,hu⟩:=ag (st[k-1].x);obtain⟨v,hv⟩:=ag (st[k].x);rw[hu] at f1 HSUC;rw[hv] at e1 HSUC;obtain⟨j,rfl⟩:∃j,k=j+1:=⟨k-1,by omega⟩;simp only[Nat.add_sub_cancel] at f1
            have hj1:(((j+1:Nat):Int)-1)=(j:Int):=by omega
            have hjw:IntKind.i64.wrap (j:Int)=(j:Int):=IntWalk.i64_in _ (by omega)
            have hdl:decide (((j+1:Nat):Int)<(st.length:Int))=true:=by simp;omega
            have hjl:j<st.length:=by omega
            clear hu hv hcc hcc'
            by_cases huv:u<v
            ·have hd:decide (u≥v)=false:=by simp;omega
             have HS:Hid (eQ st (j+1+1)=true):=aa (by rw[HSUC.out,HA.out];simp[huv]);clear huv;go_wp2_with fail
             go_quiet (fail)
             go_wp2_with fail;go_roundw
             case rel=>exact⟨j+1+1,_,by omega,by omega,by go_num,HS,rfl⟩
             case measure=>simp[intOf];omega
            ·have hd:decide (u≥v)=true:=by simp;omega
             obtain rfl:(30:Int)=Q:=by
              rw[←HQ5.out];unfold Fld.chkC
              rw[if_pos (sX (n:=st.length) (k:=j+1+1) (by omega) (by rw[HSUC.out];simp[huv]))]
             clear huv;go_wp2_with fail
             go_quiet (fail)
             go_wp2_with fail;go_ret;exact⟨rfl,(B6.out.trans (aA _ _)).trans (aA _ _)⟩
           ·obtain rfl:k=st.length:=by omega
            have HQ6:Hid ((if eV pr pr.length=false then 30 else 0)=Q):=aa (by have h3:=HQ5.out;unfold Fld.chkC at h3;dsimp only at h3;rw[HA.out,if_neg (by simp)] at h3;exact h3)
            have hdl:decide ((st.length:Int)<(st.length:Int))=false:=by simp
            clear HQ5 HA;go_wp2_with fail;clear c0 c1 c2 c3;obtain⟨w7,hw7⟩:∃X:World,X=w6.drewN nd:=⟨_,rfl⟩;rw[←hw7];have B7:=aa (show Below w.heap.size w w7 by rw[hw7];exact B6.out.trans (aA _ _));have X7:=aa (show w7.heap[w.heap.size]?=some (.cells #[.slice aS st.length cS,.slice aL lm.length cL,.slice aP pr.length cP,.slice aV vr.length cV] 27 (0,0)) by rw[hw7];exact X6.out);have l7:=lt_of_block X7.out;clear hw7
            go_loopw [138] (fun i wr=>∃k:Nat,k≤pr.length∧i=.int .i64 k∧Hid (eV pr k=true)∧Below w7.heap.size w7 wr) (fun i _=>pr.length-(intOf i).toNat)
            case atStart=>exact⟨0,by omega,rfl,aa rfl,Below.refl _ _⟩
            case round =>
             obtain⟨k,hk,rfl,HA,hb⟩:=hrel
             by_cases hlt:k<pr.length
             ·obtain⟨b,off,rfl,hbl,hcc⟩:=RecsAt.at H.out.pr hlt
              have e0:=hcc 0 (by omega);have e1:=hcc 1 (by omega);have e2:=hcc 2 (by omega);have e3:=hcc 3 (by omega);rw[←(bB B7.out hb).cell hbl,Nat.add_zero] at e0;rw[←(bB B7.out hb).cell hbl] at e1 e2 e3;obtain⟨y,hy⟩:=ag (pr[k]);dsimp only at e0 e1 e2 e3;rw[hy] at e0 e1 e2 e3;simp only[Par.cells,List.getElem?_cons_zero,List.getElem?_cons_succ] at e0 e1 e2 e3;have HSUC:=aa (sG pr k);rw[show pr.getD k r8=y from by rw[←hy];simp[hlt]] at HSUC;have HYS:=aa (HSM.out y (by rw[←hy];exact List.getElem_mem hlt));have HY:=aa hy;have BB:=aa hb;have BW:=bU B7 hb;have hsz:=BB.out.size;have xr:=ac hb l7 X7.out;have lr:=lt_of_block xr
              have lr2:w.heap.size<wr.heap.size+1:=by omega
              clear hy hcc hb;have g0:wr.cell? ⟨w.heap.size,0,none⟩=some (.slice aS st.length cS):=bu xr rfl;have g1:wr.cell? ⟨w.heap.size,1,none⟩=some (.slice aL lm.length cL):=bu xr rfl;have g2:wr.cell? ⟨w.heap.size,2,none⟩=some (.slice (some ⟨b,off,none⟩) pr.length cP):=bu xr rfl;have g3:wr.cell? ⟨w.heap.size,3,none⟩=some (.slice aV vr.length cV):=bu xr rfl;clear xr
              have hkc:k≤cP:=by have:=H.out.lp.1;dsimp only at this;omega
              have hkd:decide (k≤cP)=true:=by simpa using hkc
              have HCF:=aa (iZ (wr.alloc (.cells #[.string y.name,.int .i64 y.south,.int .i64 y.wst,.int .i64 y.est] 133)) (some ⟨b,off,none⟩) cP (pr.take k) 211 #[.pointer (some ⟨wr.heap.size,0,none⟩)] (nG y) (by simp;omega)
               (.inr ⟨b,off,rfl,by have:=BW.out.size;simp;omega,fun i hi j hj=>by
                have hi2:i<pr.length:=by simp at hi;omega
                obtain⟨b',off',eq',_,hcc'⟩:=RecsAt.at H.out.pr hi2;cases eq';rw[(BW.out.alloc BW.out.size _).cell hbl,hcc' j hj]
                simp⟩)
               (fun i hi W hW=>by
                have hi2:i<pr.length:=by simp at hi;omega
                have hv:(pr.take k)[i]=pr[i]:=by simp
                rw[hv]
                exact ze y pr[i] W wr.heap.size HYS.out (HSM.out _ (List.getElem_mem hi2)) (ac hW (by simp) (heap_alloc_new wr _))) (enters_of func211 (by kernel_rfl) rfl))
              have htl:(pr.take k).length=k:=by simp;omega
              rw[htl] at HCF;obtain⟨q,hq⟩:=ag ((pr.take k).any (nG y));rw[hq] at HCF HSUC;obtain⟨yn,y0,y1,y2⟩:=y;dsimp only at e0 e1 e2 e3 HCF HSUC;clear hq htl
              by_cases hge:y1<y2
              ·have hd:decide (y1≥y2)=false:=by simp;omega
               have hd2:decide (y1<y2)=true:=by simpa using hge
               cases q with
               | true =>
                 obtain rfl:(30:Int)=Q:=by rw[←HQ6.out,if_pos (mh (k:=k+1) (by omega) (by rw[HSUC.out];simp))]
                 clear hge;go_wp2_with fail;refine HCF.out.mono ?_;rintro e w8 ⟨rfl,hb8⟩;go_wp2_with fail;go_ret;exact⟨rfl,(BW.out.alloc BW.out.size _).trans (hb8.mono (by have:=BW.out.size;simp;omega))⟩
               | false =>
                 have HA2:Hid (eV pr (k+1)=true):=aa (by rw[HSUC.out,HA.out,hd2];rfl);clear hge;go_wp2_with fail;refine HCF.out.mono ?_;rintro e w8 ⟨rfl,hb8⟩;go_wp2_with fail;go_roundw
                 case rel=>first|exact⟨k+1,by omega,by go_num,HA2,(BB.out.alloc hsz _).trans (hb8.mono (by simp;omega))⟩|((repeat apply Exists.intro);exact⟨⟨k+1,by omega,by go_num,HA2,(BB.out.alloc hsz _).trans (hb8.mono (by simp;omega))⟩,rfl⟩)
                 case measure=>simp[intOf];omega
              ·have hd:decide (y1≥y2)=true:=by simp;omega
               have hd2:decide (y1<y2)=false:=by simpa using hge
               obtain rfl:(30:Int)=Q:=by rw[←HQ6.out,if_pos (mh (k:=k+1) (by omega) (by rw[HSUC.out,hd2];simp))]
               clear hge;go_wp2_with fail;go_ret;exact⟨rfl,BW.out.alloc BW.out.size _⟩
             ·obtain rfl:k=pr.length:=by omega
              obtain rfl:(0:Int)=Q:=by rw[←HQ6.out,if_neg (by rw[HA.out];simp)]
              go_wp2_with fail;go_ret;exact⟨rfl,bB B7.out hb⟩
 ·obtain rfl:c=Q:=by rw[if_pos hz] at hQ;exact hQ
  have hzb:(c != 0)=true:=by simpa using hz
  clear hQ hz;go_enter func136,ntmps136;go_wp2_with fail;refine HVR.out.mono ?_;rintro e w1 ⟨rfl,hb1⟩;have B1:=bU B0 hb1;clear hb1;go_wp2_with fail;go_ret;exact⟨rfl,B1.out⟩
def Fld.points (F:Fld):Int:=1+(F.lms.length:Int)*(F.sts.length:Int)
theorem xL {F:Fld} (hl:F.lms.length≤1000) (hs:F.sts.length≤1000):0≤(F.lms.length:Int)*(F.sts.length:Int)∧(F.lms.length:Int)*(F.sts.length:Int)≤1000000:=by
 have:=A3 (A:=1000) (B:=1000) (a:=(F.lms.length:Int)) (b:=(F.sts.length:Int)) (by omega) (by omega) (by omega) (by omega);have h2:0≤(F.lms.length:Int)*(F.sts.length:Int):=Int.mul_nonneg (by omega) (by omega);omega
theorem oH (w:World) (x:FV) (F:Fld) (hl:F.lms.length≤1000) (hs:F.sts.length≤1000) :
 Calls prog 214 #[x.val F] w fun e w'=>e=.returned (.int .i64 F.points)∧Below w.heap.size w w':=by
 obtain⟨h1,h2⟩:=xL hl hs;unfold Fld.points FV.val FV.arr;obtain⟨st,lm,pr,vr⟩:=F
 dsimp only at *
 go_enter func214,ntmps214;go_wp2_with fail;go_ret;exact⟨rfl,by go_grown⟩
theorem kG {P:Program} {ops:Array Oper} {Q:Exit→Act→World→Prop} {md:Region.Mode} {S:World→Prop} {last:Nat} {i d:Nat} {oi:Oper} {v:Value} {fuel:Nat} {listed:Array Bool} {a:Act} {w:World} (hl:cQ md ops last=true) (hil:i≠last) (hi:ops[i]?=some oi) (hd:oi.dst=some d)
 (hs:Region.noSelect ops=true) (hf:Region.free md ops listed i=true) (hr:(Region.ready md ops listed).contains i=true)
 (hQ:∀c a w,Q (.panic c) (a.put oi.dst v) w→Q (.panic c) a w) (hy:YieldsIf P ops S oi v a) (hS:S w)
 (h:bv P md ops Q S last fuel (listed.setIfInBounds i true) { a with tmps:=a.tmps.setIfInBounds d v } w):bv P md ops Q S last (fuel+1) listed a w :=
 bC hl hil hi hs hf hr hQ hy hS (by rw[hd];exact h)
def BJ (md:Region.Mode) (ops:Array Oper) (listed:Array Bool) (i d:Nat):Bool:=Region.noSelect ops&&Region.free md ops listed i&&(Region.ready md ops listed).contains i&&(match ops[i]? with|some o=>o.dst==some d|none=>false)
theorem rO {md:Region.Mode} {ops:Array Oper} {listed:Array Bool} {i d:Nat} {oi:Oper} (hi:ops[i]?=some oi) (h:BJ md ops listed i d=true):oi.dst=some d∧Region.noSelect ops=true∧Region.free md ops listed i=true∧(Region.ready md ops listed).contains i=true:=by
 unfold BJ at h;rw[hi] at h;simp only[Bool.and_eq_true,beq_iff_eq] at h;exact⟨h.2,h.1.1.1,h.1.1.2,h.1.2⟩
theorem Ck {P:Program} {ops:Array Oper} {Q:Exit→Act→World→Prop} {md:Region.Mode} {oi:Oper} {fuel:Nat} {listed:Array Bool} {a:Act} {w:World} {S:World→Prop} {last:Nat} (i d:Nat) (v:Value) (hi:ops[i]?=some oi) (hB:(cQ md ops last&&decide (i≠last)&&BJ md ops listed i d)=true) (hw:Region.wanted oi (yielded ops a.tmps)=true) (hQ:∀c a w,Q (.panic c) (a.put oi.dst v) w→Q (.panic c) a w) (hy:∀V,S V→(execOp a.eval oi).run P V=.ok (.value v) V) (hS:S w) (h:bv P md ops Q S last fuel (listed.setIfInBounds i true) { a with tmps:=a.tmps.setIfInBounds d v } w):bv P md ops Q S last (fuel+1) listed a w:=by
 simp only[Bool.and_eq_true,decide_eq_true_eq] at hB;obtain⟨h1,h2,h3,h4⟩:=rO hi hB.2;exact kG hB.1.1 hB.1.2 hi h1 h2 h3 h4 hQ (.inl ⟨hw,hy⟩) hS h
section
variable {P:Program} {ops:Array Oper} {Q:Exit→Act→World→Prop} {md:Region.Mode} {S:World→Prop} {last:Nat}
theorem rx {i:Nat} {oi:Oper} {v:Value} (hl:ops.size≤last) (hi:ops[i]?=some oi) (hsel:∀(j:Nat) (o:Oper) cs b,ops[j]?=some o→o.op≠.select cs b)
 (hQ:∀c a w,Q (.panic c) (a.put oi.dst v) w→Q (.panic c) a w) :
 ∀(fuel:Nat) (listed:Array Bool) (a:Act) (w:World),
  (∀j oj,ops[j]?=some oj→j≠i→listed.getD j true=false→(∀e∈oj.after,Region.binds md e=true→e.on≠i)→oi.apart ops oj=true) →
  i∈Region.ready md ops listed→YieldsIf P ops S oi v a→S w →
  bv P md ops Q S last fuel (listed.setIfInBounds i true) (a.put oi.dst v) w→bv P md ops Q S last (fuel+1) listed a w:=by
 intro fuel
 induction fuel with
 | zero =>
   intro listed a w _ hr hy hS H;refine⟨fun h=>(by rw[h] at hr;cases hr),fun j hj=>?_⟩
   by_cases hji:j=i
   ·subst hji;exact hy.wpOp hi hS ⟨.inr hS,H⟩
   ·have:=ready_mono hj hji
    rw[H.1] at this;cases this
 | succ fuel ih =>
   intro listed a w hfree hr hy hS H;refine⟨fun h=>(by rw[h] at hr;cases hr),fun j hj=>?_⟩
   by_cases hji:j=i
   ·subst hji;exact hy.wpOp hi hS ⟨.inr hS,H⟩
   ·have h1:=H.2 j (ready_mono hj hji)
    obtain⟨hjun,oj,hoj,hall⟩:=mem_ready.1 hj
    have hjl:j≠last:=by
     have:=(Array.getElem?_eq_some_iff.1 hoj).1;omega
    have hnot:∀e∈oj.after,Region.binds md e=true→e.on≠i:=fun e he hb heq=>by
     have h1:=hall e he hb;have h0:=(mem_ready.1 hr).1;rw[heq] at h1
     rcases Nat.lt_or_ge i listed.size with h'|h'
     ·simp[h'] at h0 h1;rw[h0] at h1;cases h1
     ·simp[Array.getElem?_eq_none h'] at h1
    have h2:=wpOp_putIf hoj (hfree j oj hoj hji hjun hnot) (fun cs b=>hsel i oi cs b hi) (fun cs b=>hsel j oj cs b hoj) hQ hy h1
    have hfree':∀k ok,ops[k]?=some ok→k≠i→(listed.setIfInBounds j true).getD k true=false →
     (∀e∈ok.after,Region.binds md e=true→e.on≠i)→oi.apart ops ok=true:=fun k ok hk hki hun hno=>by
     refine hfree k ok hk hki ?_ hno
     by_cases hjk:j=k
     ·subst hjk;exact hjun
     ·rw[getD_set_ne true hjk] at hun;exact hun
    refine wpOp_mono (fun a' w' h3=>?_) h2;have hSw:S w':=h3.2.1.resolve_left hjl;refine⟨.inr hSw,ih (listed.setIfInBounds j true) a' w' hfree' (ready_mono hr (Ne.symm hji)) h3.1 hSw ?_⟩;rw[Array.setIfInBounds_comm _ _ hji];exact h3.2.2
theorem io {i d:Nat} {oi:Oper} {v:Value} {fuel:Nat} {listed:Array Bool} {a:Act} {w:World} (hl:ops.size≤last) (hi:ops[i]?=some oi) (hd:oi.dst=some d)
 (hs:Region.noSelect ops=true) (hf:Region.free md ops listed i=true) (hr:(Region.ready md ops listed).contains i=true)
 (hQ:∀c a w,Q (.panic c) (a.put oi.dst v) w→Q (.panic c) a w) (hy:YieldsIf P ops S oi v a) (hS:S w)
 (h:bv P md ops Q S last fuel (listed.setIfInBounds i true) { a with tmps:=a.tmps.setIfInBounds d v } w):bv P md ops Q S last (fuel+1) listed a w :=
 rx hl hi (Region.noSelect_spec hs) hQ fuel listed a w (Region.free_spec hi hf) (by simpa using hr) hy hS (by rw[hd];exact h)
theorem Cj {P:Program} {ops:Array Oper} {Q:Exit→Act→World→Prop} {md:Region.Mode} {oi:Oper} {fuel:Nat} {listed:Array Bool} {a:Act} {w:World} {S:World→Prop} {last:Nat} (i d:Nat) (v:Value) (hi:ops[i]?=some oi) (hB:(decide (ops.size≤last)&&BJ md ops listed i d)=true) (hw:Region.wanted oi (yielded ops a.tmps)=true) (hQ:∀c a w,Q (.panic c) (a.put oi.dst v) w→Q (.panic c) a w) (hy:∀V,S V→(execOp a.eval oi).run P V=.ok (.value v) V) (hS:S w) (h:bv P md ops Q S last fuel (listed.setIfInBounds i true) { a with tmps:=a.tmps.setIfInBounds d v } w):bv P md ops Q S last (fuel+1) listed a w:=by
 simp only[Bool.and_eq_true,decide_eq_true_eq] at hB;obtain⟨h1,h2,h3,h4⟩:=rO hi hB.2;exact io hB.1 hi h1 h2 h3 h4 hQ (.inl ⟨hw,hy⟩) hS h
end
theorem sA {α:Type} (l:List α) (i:Nat) (a:α):l.toArray.setIfInBounds i a=(l.set i a).toArray:=List.setIfInBounds_toArray ..
theorem sB {α:Type} (x:α) (l:List α) (n:Nat) (a:α):(x::l).set (n+1) a=x::l.set n a:=List.set_cons_succ ..
theorem sC {α:Type} (x:α) (l:List α) (a:α):(x::l).set 0 a=a::l:=List.set_cons_zero ..
def Ak (md:Region.Mode) (ops:Array Oper) (listed:Array Bool) (i d:Nat):Bool :=
 Region.noSelect ops&&Region.free md ops listed i&&(Region.ready md ops listed).contains i&&(match ops[i]? with|some o=>o.dst==some d|none=>false)
theorem ou {md:Region.Mode} {ops:Array Oper} {listed:Array Bool} {i d:Nat} {oi:Oper} (hi:ops[i]?=some oi) (h:Ak md ops listed i d=true) :
 oi.dst=some d∧Region.noSelect ops=true∧Region.free md ops listed i=true∧(Region.ready md ops listed).contains i=true:=by
 unfold Ak at h;rw[hi] at h;simp only[Bool.and_eq_true,beq_iff_eq] at h;exact⟨h.2,h.1.1.1,h.1.1.2,h.1.2⟩
section
variable {P:Program} {ops:Array Oper} {Q:Exit→Act→World→Prop} {md:Region.Mode} {S2 S:World→Prop} {T:Nat→Bool} {last:Nat} {oi:Oper} {fuel:Nat} {listed:Array Bool} {a:Act} {w:World}
theorem tF (i d:Nat) (v:Value) (hi:ops[i]?=some oi) (hB:((cQ md ops last&&decide (i≠last)||decide (ops.size≤last))&&Ak md ops listed i d)=true)
 (hw:Region.wanted oi (yielded ops a.tmps)=true) (hQ:∀c a w,Q (.panic c) (a.put oi.dst v) w→Q (.panic c) a w) (hy:∀V,S V→(execOp a.eval oi).run P V=.ok (.value v) V) (hS:S w)
 (h:bv P md ops Q S last fuel (listed.setIfInBounds i true) { a with tmps:=a.tmps.setIfInBounds d v } w):bv P md ops Q S last (fuel+1) listed a w:=by
 simp only[Bool.and_eq_true,Bool.or_eq_true,decide_eq_true_eq] at hB;obtain⟨h1,h2,h3,h4⟩:=ou hi hB.2
 rcases hB.1 with q|q
 ·exact kG q.1 q.2 hi h1 h2 h3 h4 hQ (.inl ⟨hw,hy⟩) hS h
 ·exact io q hi h1 h2 h3 h4 hQ (.inl ⟨hw,hy⟩) hS h
end
theorem tf {P:Program} {ops:Array Oper} {Q:Exit→Act→World→Prop} {md:Region.Mode} {S:World→Prop} {last:Nat} {oi:Oper} {fuel:Nat} {listed:Array Bool} {a:Act} {w:World} (i d:Nat) (v:Value) (hS:S w)
 (hy:∀V,S V→(execOp a.eval oi).run P V=.ok (.value v) V) (h:bv P md ops Q S last fuel (listed.setIfInBounds i true) { a with tmps:=a.tmps.setIfInBounds d v } w) (hi:ops[i]?=some oi:=by exact rfl)
 (hB:((cQ md ops last&&decide (i≠last)||decide (ops.size≤last))&&Ak md ops listed i d)=true:=by kernel_rfl) (hw:Region.wanted oi (yielded ops a.tmps)=true:=by exact rfl)
 (hQ:∀c a w,Q (.panic c) (a.put oi.dst v) w→Q (.panic c) a w:=by exact fun _ _ _ h=>h):bv P md ops Q S last (fuel+1) listed a w:=tF i d v hi hB hw hQ hy hS h
theorem aR {P:Program} {ops:Array Oper} {Q:Exit→Act→World→Prop} {md:Region.Mode} {S:World→Prop} {last:Nat} {oi:Oper} {fuel:Nat} {listed:Array Bool} {a:Act} {w:World} (i d:Nat) (v:Value) (hS:S w)
 (h:bv P md ops Q S last fuel (listed.setIfInBounds i true) { a with tmps:=a.tmps.setIfInBounds d v } w) (hi:ops[i]?=some oi:=by exact rfl)
 (hB:((cQ md ops last&&decide (i≠last)||decide (ops.size≤last))&&Ak md ops listed i d)=true:=by kernel_rfl) (hw:Region.wanted oi (yielded ops a.tmps)=true:=by exact rfl)
 (hQ:∀c a w,Q (.panic c) (a.put oi.dst v) w→Q (.panic c) a w:=by exact fun _ _ _ h=>h) (hy:∀V,S V→(execOp a.eval oi).run P V=.ok (.value v) V:=by(intro _ _;simp[go_sem,execOp])):bv P md ops Q S last (fuel+1) listed a w:=tF i d v hi hB hw hQ hy hS h
theorem s3 {α:Type}:(∀(l:List α) (i:Nat) (a:α),l.toArray.setIfInBounds i a=(l.set i a).toArray)∧(∀(x:α) (l:List α) (n:Nat) (a:α),(x::l).set (n+1) a=x::l.set n a)∧∀(x:α) (l:List α) (a:α),(x::l).set 0 a=a::l:=⟨sA,sB,sC⟩
theorem ce {w:World} {b i:Nat} {cs:Array Value} {t:TypeId} {v:Value} (h:w.heap[b]?=some (.cells cs t (0,0))) (hv:cs[i]?=some v):w.cell? ⟨b,i,none⟩=some v:=by
 rw[cell_of_row _ _ _ _ _ _ h];exact hv
def Kb:List (Nat×Obj)→World→Prop
 | [],_=>True
 | (b,o)::L,W=>W.heap[b]?=some o∧Kb L W
theorem Kb.next {W W':World} (hb:Below W.heap.size W W'):∀{L:List (Nat×Obj)},Kb L W→Kb L W'
 | [],_=>trivial
 | (_,_)::_,h=>⟨ac hb (lt_of_block h.1) h.1,Kb.next hb h.2⟩
theorem Kb.alloc {W:World} {o:Obj} {L:List (Nat×Obj)} (h:Kb L W):Kb ((W.heap.size,o)::L) (W.alloc o) :=
 ⟨heap_alloc_new _ _,Kb.next (aD) h⟩
theorem Kb.drew {W:World} {L:List (Nat×Obj)} (h:Kb L W):Kb L W.drew:=Kb.next (Below.refl _ W).drew h
theorem Kb.away {W W':World}:∀{L:List (Nat×Obj)},(∀p∈L,W'.heap[p.1]?=W.heap[p.1]?)→Kb L W→Kb L W'
 | [],_,_=>trivial
 | (_,_)::_,h,k=>⟨(h _ (List.mem_cons_self ..)).trans k.1,Kb.away (fun p hp=>h p (List.mem_cons_of_mem _ hp)) k.2⟩
theorem Kb.set {W:World} {g i:Nat} {cs:Array Value} {t:TypeId} {L:List (Nat×Obj)} (h:Kb ((g,.cells cs t (0,0))::L) W) (hL:∀p∈L,p.1≠g) (v:Value):Kb ((g,.cells (cs.setIfInBounds i v) t (0,0))::L) (W.setCell ⟨g,i,none⟩ v) :=
 ⟨Go.heap_setCell_same _ _ _ _ _ _ h.1,Kb.away (fun p hp=>heap_setCell_other _ _ _ _ (hL p hp)) h.2⟩
theorem cf {w:World} {b i:Nat} {cs:Array Value} {t:TypeId} (h:w.heap[b]?=some (.cells cs t (0,0))):w.frozen? ⟨b,i,none⟩=false:=frozen_of_row _ _ _ _ _ h
theorem uk (w:World) (a0:Option Addr) (c0:Nat) (l0:List Int) (a1:Option Addr) (c1:Nat) (l1:List Int) (h0:IntsAt w a0 l0) (h1:IntsAt w a1 l1) (_hl0:l0.length≤9223372036854775807) (hl1:l1.length≤9223372036854775807) :
 Calls prog 174 #[.slice a0 l0.length c0,.slice a1 l1.length c1] w fun e w'=>e=.returned (.bool (decide (l0=l1)))∧Below w.heap.size w w':=by
 have H0:=aa h0;have H1:=aa h1;clear h0 h1
 by_cases hlen:l0.length=l1.length
 ·have hne:((l0.length:Int) != (l1.length:Int))=false:=by simp;omega
  have hle:l0.length≤l1.length:=by omega
  have HLEN:=aa hlen;clear hlen;go_enter func174,ntmps174;go_wp2_with fail
  go_loopw [13] (fun i wr=>∃k:Nat,k≤l0.length∧i=.int .i64 k∧Hid (l0.take k=l1.take k)∧Hid (Below w.heap.size w wr)) (fun i _=>l0.length-(intOf i).toNat)
  case atStart=>exact⟨0,Nat.zero_le _,rfl,aa rfl,aa (Below.refl _ _)⟩
  case round =>
   obtain⟨k,hk,rfl,heq,hb⟩:=hrel
   by_cases hlt:k<l0.length
   ·have hlt1:k<l1.length:=by omega
    obtain⟨b0,o0,rfl,hb0,d0⟩:=H0.out.at hlt;obtain⟨b1,o1,rfl,hb1,d1⟩:=H1.out.at hlt1;have d0':=(hb.out.cell (by exact hb0)).trans d0;have d1':=(hb.out.cell (by exact hb1)).trans d1;obtain⟨x,hx⟩:=ag (l0[k]);obtain⟨y,hy⟩:=ag (l1[k]);rw[hx] at d0';rw[hy] at d1';have HX:=aa hx;have HY:=aa hy
    have k0:(0:Int)≤(k:Int):=by omega
    have k1:(k:Int)<(l0.length:Int):=by omega
    have k2:(k:Int)<(l1.length:Int):=by omega
    clear d0 d1 hx hy
    by_cases hxy:x=y
    ·subst hxy
     go_wp2_with fail
     go_quiet (fail)
     go_wp2_with fail;go_roundw
     case rel=>exact⟨k+1,by omega,by go_num,aa (kC hlt hlt1 heq.out (by rw[HX.out,HY.out])),aa (hb.out.trans (aA _ _))⟩
     case measure=>simp[intOf];omega
    ·have hne2:(x != y)=true:=by simpa using hxy
     have hxx:=aa hxy;clear hxy;go_wp2_with fail
     go_quiet (fail)
     go_wp2_with fail;go_ret;refine⟨?_,hb.out.trans (aA _ _)⟩
     have:¬l0=l1:=fun e=>hxx.out (by rw[←HX.out,←HY.out];subst e;rfl)
     simp[this]
   ·go_wp2_with fail
    go_ret;refine⟨?_,hb.out⟩;have h2:=heq.out;rw[List.take_of_length_le (by omega),List.take_of_length_le (by have:=HLEN.out;omega)] at h2;simp[h2]
 ·have hne:((l0.length:Int) != (l1.length:Int))=true:=by simp;omega
  have hd:decide (l0=l1)=false:=by
   simp only[decide_eq_false_iff_not]
   intro e;exact hlen (by rw[e])
  have HD:=aa hd;clear hlen hd;go_enter func174,ntmps174;go_wp2_with fail;go_ret;exact⟨by rw[HD.out];rfl,Below.refl _ _⟩
theorem vP (w:World) (a0:Option Addr) (c0:Nat) (l0:List Bool) (a1:Option Addr) (c1:Nat) (l1:List Bool) (h0:BoolsAt w a0 l0) (h1:BoolsAt w a1 l1) (_hl0:l0.length≤9223372036854775807) (hl1:l1.length≤9223372036854775807) :
 Calls prog 175 #[.slice a0 l0.length c0,.slice a1 l1.length c1] w fun e w'=>e=.returned (.bool (decide (l0=l1)))∧Below w.heap.size w w':=by
 have H0:=aa h0;have H1:=aa h1;clear h0 h1
 by_cases hlen:l0.length=l1.length
 ·have hne:((l0.length:Int) != (l1.length:Int))=false:=by simp;omega
  have hle:l0.length≤l1.length:=by omega
  have HLEN:=aa hlen;clear hlen;go_enter func175,ntmps175;go_wp2_with fail
  go_loopw [13] (fun i wr=>∃k:Nat,k≤l0.length∧i=.int .i64 k∧Hid (l0.take k=l1.take k)∧Hid (Below w.heap.size w wr)) (fun i _=>l0.length-(intOf i).toNat)
  case atStart=>exact⟨0,Nat.zero_le _,rfl,aa rfl,aa (Below.refl _ _)⟩
  case round =>
   obtain⟨k,hk,rfl,heq,hb⟩:=hrel
   by_cases hlt:k<l0.length
   ·have hlt1:k<l1.length:=by omega
    obtain⟨b0,o0,rfl,hb0,d0⟩:=H0.out.get hlt;obtain⟨b1,o1,rfl,hb1,d1⟩:=H1.out.get hlt1;have d0':=(hb.out.cell (by exact hb0)).trans d0;have d1':=(hb.out.cell (by exact hb1)).trans d1;obtain⟨x,hx⟩:=ag (l0[k]);obtain⟨y,hy⟩:=ag (l1[k]);rw[hx] at d0';rw[hy] at d1';have HX:=aa hx;have HY:=aa hy
    have k0:(0:Int)≤(k:Int):=by omega
    have k1:(k:Int)<(l0.length:Int):=by omega
    have k2:(k:Int)<(l1.length:Int):=by omega
    clear d0 d1 hx hy;cases x
    ·cases y
     ·go_wp2_with fail
      go_quiet (fail)
      go_wp2_with fail;go_roundw
      case rel=>exact⟨k+1,by omega,by go_num,aa (oT hlt hlt1 heq.out (by rw[HX.out,HY.out])),aa (hb.out.trans (aA _ _))⟩
      case measure=>simp[intOf];omega
     ·go_wp2_with fail
      go_quiet (fail)
      go_wp2_with fail;go_ret;refine⟨?_,hb.out.trans (aA _ _)⟩
      have:¬l0=l1:=fun e=>by
       have h1:=HX.out;have h2:=HY.out;subst e;rw[h1] at h2;exact Bool.noConfusion h2
      simp[this]
    ·cases y
     ·go_wp2_with fail
      go_quiet (fail)
      go_wp2_with fail;go_ret;refine⟨?_,hb.out.trans (aA _ _)⟩
      have:¬l0=l1:=fun e=>by
       have h1:=HX.out;have h2:=HY.out;subst e;rw[h1] at h2;exact Bool.noConfusion h2
      simp[this]
     ·go_wp2_with fail
      go_quiet (fail)
      go_wp2_with fail;go_roundw
      case rel=>exact⟨k+1,by omega,by go_num,aa (oT hlt hlt1 heq.out (by rw[HX.out,HY.out])),aa (hb.out.trans (aA _ _))⟩
      case measure=>simp[intOf];omega
   ·go_wp2_with fail
    go_ret;refine⟨?_,hb.out⟩;have h2:=heq.out;rw[List.take_of_length_le (by omega),List.take_of_length_le (by have:=HLEN.out;omega)] at h2;simp[h2]
 ·have hne:((l0.length:Int) != (l1.length:Int))=true:=by simp;omega
  have hd:decide (l0=l1)=false:=by
   simp only[decide_eq_false_iff_not]
   intro e;exact hlen (by rw[e])
  have HD:=aa hd;clear hlen hd;go_enter func175,ntmps175;go_wp2_with fail;go_ret;exact⟨by rw[HD.out];rfl,Below.refl _ _⟩
def em (N:Int) (bs:List Bd) (x:Int):List Int×List Bool×Int :=
 if bc N bs [x]=0 then((List.range N.toNat).map (fun b=>nV (aF N.toNat bs x.toNat b)),(List.range N.toNat).map (fun b=>nB (aF N.toNat bs x.toNat b)),0) else([],[],bc N bs [x])
def yQ (d:List Int×List Bool×Int) (e:Ending) (w':World):Prop :=
 ∃a1 c1 a2 c2,e=.returned (.tuple #[.slice a1 d.1.length c1,.slice a2 d.2.1.length c2,.int .i64 d.2.2])∧IntsAt w' a1 d.1∧BoolsAt w' a2 d.2.1
theorem qK {w:World} {b:Nat} {l:List Int} (h:w.heap[b]?=some (.cells (bt l) 3 (0,0))):IntsAt w (some ⟨b,0,none⟩) l :=
 .inr ⟨b,0,rfl,lt_of_block h,fun i hi=>by rw[cell_of_row _ _ _ _ _ _ h,Nat.zero_add,dE hi,i5 l 0 hi]⟩
theorem qs {w:World} {b:Nat} {l:List Bool} (h:w.heap[b]?=some (.cells (eM l) 4 (0,0))):BoolsAt w (some ⟨b,0,none⟩) l :=
 .inr ⟨b,0,rfl,lt_of_block h,fun i hi=>by rw[cell_of_row _ _ _ _ _ _ h,Nat.zero_add,dN hi];simp[List.getD_eq_getElem?_getD,hi]⟩
theorem iW (w:World) (N:Int) (a:Option Addr) (cap:Nat) (bs:List Bd) (x:Int) (hN:bK N) (hl:bs.length≤9223372036854775807) (h:BoundsAt w a bs) :
 Calls prog 173 #[.agg #[.int .i64 N,.slice a bs.length cap],.int .i64 x] w fun e w'=>yQ (em N bs x) e w'∧Below w.heap.size w w':=by
 have H:=aa h;have HN:=aa hN;clear h hN;have i94:Hid ((Tryz.prog.info? 189).map (·.size)=some 128):=aa (by kernel_rfl);have hB0:Below w.heap.size w ((w.alloc (.cells #[.int .i64 N,.slice a bs.length cap] 61)).alloc (.cells #[.int .i64 x] 3)):=(aD).alloc (by simp) _
 have hx0:((w.alloc (.cells #[.int .i64 N,.slice a bs.length cap] 61)).alloc (.cells #[.int .i64 x] 3)).heap[w.heap.size]?=some (.cells #[.int .i64 N,.slice a bs.length cap] 61 (0,0)) :=
  (Below.heap_alloc _ _ _ (by simp)).trans (heap_alloc_new _ _)
 have hints:=tk (w.alloc (.cells #[.int .i64 N,.slice a bs.length cap] 61)) x;simp only[World.size_alloc] at hints
 have hask:Calls prog 143 #[.agg #[.int .i64 N,.slice a bs.length cap],.slice (some ⟨w.heap.size+1,0,none⟩) 1 1] ((w.alloc (.cells #[.int .i64 N,.slice a bs.length cap] 61)).alloc (.cells #[.int .i64 x] 3)) _ :=
  lI _ N a cap bs (some ⟨w.heap.size+1,0,none⟩) 1 [x] HN.out hl (by simp) ((H.out.alloc (.cells #[.int .i64 N,.slice a bs.length cap] 61)).alloc (.cells #[.int .i64 x] 3)) hints
 have X0:=aa hx0;clear hints hx0
 by_cases he:bc N bs [x]=0
 ·obtain⟨R,x',t,rfl,rfl,hx,ht,HO⟩:=Bc he
  obtain⟨r,hr⟩:=ag (dW R t bs x')
  have hd:em R bs x'=((List.range R).map (fun b=>nV (r.getD b 0)),(List.range R).map (fun b=>nB (r.getD b 0)),0):=by
   unfold em;rw[if_pos he];simp only[Int.toNat_natCast]
   unfold aF;rw[eB ht,hr]
  have hrl:r.length=128:=by rw[←hr];exact(HO.row hx).1
  have hn0:=HO.n0;have hn1:=HO.n1
  have hmk3:=fun W=>run_make_row' (P:=prog) 52 3 (.int .i64 0) 8 underlying52 zl rfl .i64 .i64 R (by omega) (by omega) W
  have hmk4:=fun W=>run_make_row' (P:=prog) 184 4 (.bool false) 1 underlying184 zj rfl .i64 .i64 R (by omega) (by omega) W
  have HD:=aa hd;have HE:=aa he;have HT:=aa ht;have HR:=aa hr;have HRL:=aa hrl;have HA:=aa hask;clear hd he ht hr hrl hask;go_enter func173,ntmps173;go_wp2_with fail;refine HA.out.mono ?_;rintro e w1 ⟨hp,hb1⟩;unfold cB at hp;rw[if_pos HE.out] at hp;obtain⟨bn,t',ht',rfl,hbn,hcell⟩:=hp
  have htt:t'=t:=by have:=HT.out;rw[ht'] at this;exact Option.some.inj this
  subst htt;have B1:=bB hB0 hb1;have hdist:=ki w1 bn R a cap bs t' x' HO hx (H.out.below B1 (Nat.le_refl _)) hcell;rw[HR.out] at hdist;have x1:=ac hb1 (by simp;omega) X0.out;have HDI:=aa hdist;have HB1:=aa B1;have X1:=aa x1;clear hdist hcell ht' hb1 B1 hbn x1;go_wp2_with fail;refine HDI.out.mono ?_;rintro e w2 ⟨rfl,hb2⟩;have x2:=ac hb2 (lt_of_block X1.out) X1.out;have HB2:=bU HB1 hb2
  have hst:(w2.alloc (.cells zeroCells189 189)).heap[w2.heap.size]?=some (.cells (bt (aX 0)) 189 (0,0)):=by rw[xq];exact heap_alloc_new _ _
  have HST:=aa hst
  have hsr:(bt r).size=128:=by rw[aZ];exact HRL.out
  have hsr2:(bt (aX 0)).size=128:=by rw[aZ,aM]
  have X2:=aa x2;have HSR:=aa hsr;have HSR2:=aa hsr2;clear hb2 x2 hst hsr hsr2
  go_wp2_with (first
   | (refine wpList_store_row rfl 189 _ _ rfl _ _ rfl rfl 189 _ HST.out (by rw[HSR.out];exact i94.out) (by rw[HSR.out,HSR2.out]) (fP _) ?_;rw[World.setRow_alloc_new]))
  obtain⟨W3,hW3⟩:∃W3,W3=w2.alloc (.cells (bt r) 189):=⟨_,rfl⟩;rw[←hW3]
  have hb3:Below w2.heap.size w2 W3:=by rw[hW3];exact aD
  have hr3:W3.heap[w2.heap.size]?=some (.cells (bt r) 189 (0,0)):=by rw[hW3];exact heap_alloc_new _ _
  have X3:=aa (ac hb3 (lt_of_block X2.out) X2.out);have HB3:=bU HB2 hb3;have HR3:=aa hr3;have e0:W3.cell? ⟨w.heap.size,0,none⟩=some (.int .i64 (R:Int)):=bu X3.out rfl;have l0:w.heap.size<W3.heap.size:=lt_of_block X3.out;have l2:w2.heap.size<W3.heap.size:=lt_of_block hr3;clear hW3 hb3 hr3;go_wp2_with fail;simp only[Act.put]
  go_cut [10,11] (fun s4 s5 wx=>∃bo bg:Nat,s4=.slice (some ⟨bo,0,none⟩) R R∧s5=.slice (some ⟨bg,0,none⟩) R R∧bo≠bg∧W3.heap.size≤bo∧W3.heap.size≤bg∧Hid (wx.heap[bo]?=some (.cells (bt (List.replicate R 0)) 3 (0,0)))∧Hid (wx.heap[bg]?=some (.cells (eM (List.replicate R false)) 4 (0,0)))∧Hid (Below W3.heap.size W3 wx))
  case first =>
   go_region_held3 (fun w'=>w'.cell? ⟨w.heap.size,0,none⟩=some (.int .i64 (R:Int))) (go_keep) (fail)
   all_goals (go_wp2_with fail;go_meet)
   all_goals first
    | exact⟨W3.heap.size,W3.heap.size+1,rfl,rfl,by omega,by omega,by omega,aa (by rw[←su];exact(Below.heap_alloc _ _ _ (by simp)).trans (heap_alloc_new _ _)),aa (by rw[←lJ];exact af _ _ _ (by simp)),aa ((aD).alloc (by simp) _).drew⟩
    | exact⟨W3.heap.size+1,W3.heap.size,rfl,rfl,by omega,by omega,by omega,aa (by rw[←su];exact af _ _ _ (by simp)),aa (by rw[←lJ];exact(Below.heap_alloc _ _ _ (by simp)).trans (heap_alloc_new _ _)),aa ((aD).alloc (by simp) _).drew⟩
  case rest =>
   obtain⟨bo,bg,rfl,rfl,hne,hbo,hbg,ho,hg,hbl⟩:=hcut;obtain⟨w4,rfl⟩:∃x:World,x=wc:=⟨wc,rfl⟩;have e4:w4.cell? ⟨w.heap.size,0,none⟩=some (.int .i64 (R:Int)):=(hbl.out.cell (by exact l0)).trans e0;have HB4:=bU HB3 hbl.out;have R4:=aa (ac hbl.out l2 HR3.out);have lo:=lt_of_block ho.out;have lg:=lt_of_block hg.out;have lr:=lt_of_block R4.out;have HBS:=aa HB3.out.size;clear hmk3 hmk4 e0;go_wp2_with fail
   go_loopw [34] (fun i wr=>∃k:Nat,k≤R∧i=.int .i64 k∧Hid (wr.heap[bo]?=some (.cells (bt ((List.range k).map (fun b=>nV (r.getD b 0))++List.replicate (R-k) 0)) 3 (0,0)))∧Hid (wr.heap[bg]?=some (.cells (eM ((List.range k).map (fun b=>nB (r.getD b 0))++List.replicate (R-k) false)) 4 (0,0)))∧Hid (∀b,b≠bo→b≠bg→b<w4.heap.size→wr.heap[b]?=w4.heap[b]?)∧Hid (Below w.heap.size w wr))
    (fun i _=>R-(intOf i).toNat)
   case atStart=>exact⟨0,Nat.zero_le _,rfl,by simpa using ho,by simpa using hg,aa (fun _ _ _ _=>rfl),HB4⟩
   case round =>
    obtain⟨k,hk,rfl,h1,h2,h3,h4⟩:=hrel
    by_cases hlt:k<R
    ·have k128:(k:Int)<128:=by omega
     have k128':k<128:=by omega
     have cT:wr.cell? ⟨w2.heap.size,k,none⟩=some (.int .i64 (r.getD k 0)):=by
      rw[World.cell?_of_block (w:=w4) (h3.out w2.heap.size (by omega) (by omega) lr),cell_of_row _ _ _ _ _ _ R4.out,dE (by rw[HRL.out];omega)]
     obtain⟨xo,hxo⟩:=ag (((List.range k).map (fun b=>nV (r.getD b 0))++List.replicate (R-k) 0).getD k 0);obtain⟨xg,hxg⟩:=ag (((List.range k).map (fun b=>nB (r.getD b 0))++List.replicate (R-k) false).getD k false)
     have co:wr.cell? ⟨bo,k,none⟩=some (.int .i64 xo):=by rw[cell_of_row _ _ _ _ _ _ h1.out,dE (by simp;omega),hxo]
     have fo:wr.frozen? ⟨bo,k,none⟩=false:=frozen_of_row _ _ _ _ _ h1.out
     have cg:wr.cell? ⟨bg,k,none⟩=some (.bool xg):=by rw[cell_of_row _ _ _ _ _ _ h2.out,dN (by simp;omega),hxg]
     have fg:wr.frozen? ⟨bg,k,none⟩=false:=frozen_of_row _ _ _ _ _ h2.out
     have hne':¬bg=bo:=fun e=>hne e.symm
     obtain⟨vT,hvT⟩:=ag (r.getD k 0);rw[hvT] at cT;have HVT:=aa hvT;clear hvT hxo hxg;go_wp2_with (go_at_call 190;refine(f9 _ _).mono ?_;rintro e w' ⟨rfl,rfl⟩);go_roundw
     case rel =>
      refine⟨k+1,by omega,by go_num,aa ?_,aa ?_,aa ?_,aa ((h4.out.setCell (by have:=HBS.out;simp;omega) _).setCell (by have:=HBS.out;simp;omega) _)⟩
      ·refine(heap_setCell_other _ _ _ _ hne).trans ((heap_setCell_same _ _ _ _ _ _ h1.out).trans ?_)
       rw[show pA vT=(fun b=>nV (r.getD b 0)) k from by show pA vT=nV (r.getD k 0);rw[HVT.out];rfl,i4,sq _ _ hlt]
      ·refine(heap_setCell_same _ _ _ _ _ _ ((heap_setCell_other _ _ _ _ hne').trans h2.out)).trans ?_
       rw[show ud vT=(fun b=>nB (r.getD b 0)) k from by show ud vT=nB (r.getD k 0);rw[HVT.out];rfl,jg,sq _ _ hlt]
      ·intro b b1 b2 b3
       exact(heap_setCell_other _ _ _ _ b2).trans ((heap_setCell_other _ _ _ _ b1).trans (h3.out b b1 b2 b3))
     case measure=>simp[intOf];omega
    ·obtain rfl:k=R:=by omega
     have g1:Hid (wr.heap[bo]?=some (.cells (bt ((List.range k).map (fun b=>nV (r.getD b 0)))) 3 (0,0))):=by simpa using h1
     have g2:Hid (wr.heap[bg]?=some (.cells (eM ((List.range k).map (fun b=>nB (r.getD b 0)))) 4 (0,0))):=by simpa using h2
     clear h1 h2 e4;go_wp2_with fail;refine bodyPost_ret (v:=.tuple #[.slice (some ⟨bo,0,none⟩) k k,.slice (some ⟨bg,0,none⟩) k k,.int .i64 0]) (by simp[results,results173,go_sem]) rfl ⟨?_,h4.out⟩;rw[HD.out];exact⟨_,_,_,_,by simp;exact⟨rfl,rfl⟩,qK g1.out,qs g2.out⟩
 ·have hd:em N bs x=([],[],bc N bs [x]):=by unfold em;rw[if_neg he]
  have HD:=aa hd;have HE:=aa he;obtain⟨c,hc⟩:=ag (bc N bs [x])
  have hc1:(c==0)=false:=by rw[←hc];simpa using he
  have hc2:(c != 0)=true:=by rw[←hc];simpa using he
  have HC:=aa hc;have HA:=aa hask;clear hd he hc hask;go_enter func173,ntmps173;go_wp2_with fail;refine HA.out.mono ?_;rintro e w1 ⟨hp,hb1⟩;unfold cB at hp;rw[if_neg HE.out,HC.out] at hp;subst hp;go_wp2_with fail;refine bodyPost_ret (v:=.tuple #[.slice none 0 0,.slice none 0 0,.int .i64 c]) (by simp[results,results173,go_sem]) rfl ⟨?_,bB hB0 hb1⟩;rw[HD.out,HC.out];exact⟨none,0,none,0,rfl,.inl rfl,.inl rfl⟩
end Go.Proofs.YtkhemfnlflbniaaGreatDoor
namespace Go.Proofs.YtkhemfnlflbniaaGreatDoor
structure Crs where
 bearing:Int
 needle:Int
 links:Int
 year:Int
 wear:Int
 slack:Int
deriving DecidableEq
def cz (d:Int):Int:=(d.tmod 360+360).tmod 360
theorem nt (d:Int):cz d=d%360:=by
 unfold cz
 have h1:d.tmod 360=if 0≤d then d%360 else -(-d%360):=by
  split
  ·rename_i h;exact Int.tmod_eq_emod_of_nonneg h
  ·rename_i h
   rw[←Int.tmod_eq_emod_of_nonneg (a:=-d) (by omega),Int.neg_tmod,Int.neg_neg]
 rw[h1];rw[Int.tmod_eq_emod_of_nonneg (by split<;>omega)]
 split<;>omega
theorem ft (d:Int):0≤cz d∧cz d≤359:=by rw[nt];omega
def sinT:List Int:=[0,175,349,523,698,872,1045,1219,1392,1564,1736,1908,2079,2250,2419,2588,2756,2924,3090,3256,3420,3584,3746,3907,4067,4226,4384,4540,4695,4848,5000,5150,5299,5446,5592,5736,5878,6018,6157,6293,6428,6561,6691,6820,6947,7071,7193,7314,7431,7547,7660,7771,7880,7986,8090,8192,8290,8387,8480,8572,8660,8746,8829,8910,8988,9063,9135,9205,9272,9336,9397,9455,9511,9563,9613,9659,9703,9744,9781,9816,9848,9877,9903,9925,9945,9962,9976,9986,9994,9998,10000]
def mX (n:Int):Int:=if n≤90 then sinT.getD n.toNat 0 else sinT.getD (180-n).toNat 0
def gJ (d:Int):Int:=if cz d≤180 then mX (cz d) else -mX (cz d-180)
def ju (d:Int):Int:=gJ (cz d+90)
theorem AJ:∀i:Nat,0≤sinT.getD i 0∧sinT.getD i 0≤10000:=by
 intro i
 by_cases h:i<91
 ·have:∀j:Fin 91,0≤sinT.getD j 0∧sinT.getD j 0≤10000:=by decide +kernel
  exact this ⟨i,h⟩
 ·rw[List.getD_eq_getElem?_getD,List.getElem?_eq_none (by show 91≤i;omega)]
  simp
theorem ng (d:Int):-10000≤gJ d∧gJ d≤10000:=by
 have h:∀n,0≤mX n∧mX n≤10000:=fun n=>by unfold mX;split<;>exact AJ _
 unfold gJ;have:=h (cz d);have:=h (cz d-180)
 split<;>omega
theorem m8 (d:Int):-10000≤ju d∧ju d≤10000:=ng _
theorem sM:∀i:Nat,1≤i→i≤90→1≤sinT.getD i 0:=by
 intro i h1 h2
 have:∀j:Fin 91,1≤j.val→1≤sinT.getD j 0:=by decide +kernel
 exact this ⟨i,by omega⟩ h1
theorem sg {d:Int} (h1:0<d) (h2:d<180):1≤gJ d:=by
 have e:cz d=d:=by rw[nt];omega
 unfold gJ mX;rw[e,if_pos (by omega)]
 split
 ·exact sM _ (by omega) (by omega)
 ·exact sM _ (by omega) (by omega)
def oz (n:Int):Nat→Int→Int→Int
 | 0,lo,_=>lo
 | f+1,lo,hi=>if lo<hi then
  (if(lo+(hi-lo+1).tdiv 2)*(lo+(hi-lo+1).tdiv 2)≤n then oz n f (lo+(hi-lo+1).tdiv 2) hi else oz n f lo (lo+(hi-lo+1).tdiv 2-1))
   else lo
def rz (n r:Int):Prop:=0≤r∧(r=0∨r*r≤n)∧n<(r+1)*(r+1)
theorem pn {n r s:Int} (h:rz n r) (k:rz n s):r=s:=by
 obtain⟨h1,h2,h3⟩:=h;obtain⟨k1,k2,k3⟩:=k
 have key:∀{a b:Int},0≤a→(b=0∨b*b≤n)→n<(a+1)*(a+1)→0≤b→b≤a:=by
  intro a b ha hb hn hb0
  rcases hb with rfl|hb
  ·exact ha
  ·apply Classical.byContradiction
   intro q;have:(a+1)*(a+1)≤b*b:=Int.mul_le_mul (by omega) (by omega) (by omega) (by omega);omega
 have a:=key h1 k2 h3 k1;have b:=key k1 h2 k3 h1;omega
theorem lZ {n:Int}:∀(f:Nat) (lo hi:Int),0≤lo→lo≤hi→(hi-lo).toNat≤f→(lo=0∨lo*lo≤n)→n<(hi+1)*(hi+1)→rz n (oz n f lo hi)
 | 0,lo,hi,h0,h1,hf,h2,h3=>by
   obtain rfl:lo=hi:=by omega
   exact⟨h0,h2,h3⟩
 | f+1,lo,hi,h0,h1,hf,h2,h3=>by
   unfold oz
   by_cases hlt:lo<hi
   ·rw[if_pos hlt]
    obtain⟨m,hm⟩:=ag (lo+(hi-lo+1).tdiv 2)
    have hmb:lo<m∧m≤hi:=by rw[Int.tdiv_eq_ediv_of_nonneg (by omega)] at hm;omega
    rw[hm]
    by_cases hq:m*m≤n
    ·rw[if_pos hq]
     exact lZ f m hi (by omega) hmb.2 (by omega) (.inr hq) h3
    ·rw[if_neg hq]
     exact lZ f lo (m-1) h0 (by omega) (by omega) h2 (by rw[show m-1+1=m by omega];omega)
   ·rw[if_neg hlt]
    obtain rfl:lo=hi:=by omega
    exact⟨h0,h2,h3⟩
def fC (n:Int):Int:=oz n 3037000499 0 3037000499
theorem nT {n:Int} (h:n≤9223372030926249000):rz n (fC n):=lZ _ _ _ (by omega) (by omega) (by omega) (.inl rfl) (by omega)
def fG (n:Int):Int:=if fC n*fC n<n then fC n+1 else fC n
def Crs.ok (c:Crs):Bool:=bm c.bearing 0 359&&bm c.needle 0 30&&bm c.links 1 100000&&bm c.year 1 3000&&bm c.wear (-500) 500&&bm c.slack 0 200
theorem Crs.ok_iff {c:Crs}:c.ok=true↔(0≤c.bearing∧c.bearing≤359)∧(0≤c.needle∧c.needle≤30)∧(1≤c.links∧c.links≤100000)∧(1≤c.year∧c.year≤3000)∧(-500≤c.wear∧c.wear≤500)∧0≤c.slack∧c.slack≤200:=by
 unfold Crs.ok bm;simp only[Bool.and_eq_true,decide_eq_true_eq,and_assoc]
def Crs.back (c:Crs):Crs:={ c with bearing:=cz (c.bearing+180) }
theorem Crs.back_ok {c:Crs} (h:c.ok=true):c.back.ok=true:=by
 rw[Crs.ok_iff] at h ⊢;exact⟨ft _,h.2⟩
def Crs.near (c:Crs):Int:=c.links*(10000+c.wear-c.slack)
def Crs.far (c:Crs):Int:=c.links*(10000+c.wear+c.slack)
theorem Crs.len_bd {c:Crs} (h:c.ok=true):(0≤c.near∧c.near≤1070000000)∧0≤c.far∧c.far≤1070000000:=by
 rw[Crs.ok_iff] at h;unfold Crs.near Crs.far;refine⟨⟨Int.mul_nonneg (by omega) (by omega),?_⟩,Int.mul_nonneg (by omega) (by omega),?_⟩
 ·exact Int.le_trans (Int.mul_le_mul (a:=c.links) (c:=100000) (b:=10000+c.wear-c.slack) (d:=10700) (by omega) (by omega) (by omega) (by omega)) (by omega)
 ·exact Int.le_trans (Int.mul_le_mul (a:=c.links) (c:=100000) (b:=10000+c.wear+c.slack) (d:=10700) (by omega) (by omega) (by omega) (by omega)) (by omega)
def jL (year:Int):List Vrn→Option Int→Option Int
 | [],r=>r
 | v::l,r=>jL year l (if v.year≤year then some v.east else r)
def eN (l:List Vrn) (year:Int):Option Int:=if bz l≠0 then none else jL year l none
theorem pY:∀(l:List Vrn) (y:Int),kS y l=true→∀v∈l,(-60≤v.east∧v.east≤60)∧v.year≤3000
 | [],_,_,v,hv=>by cases hv
 | u::l,y,h,v,hv=>by
   unfold kS bm at h;simp only[Bool.and_eq_true,decide_eq_true_eq] at h
   rcases List.mem_cons.1 hv with rfl|hv
   ·omega
   ·exact pY l _ h.2 v hv
theorem oV {year:Int}:∀{l:List Vrn} {r:Option Int} {e:Int},jL year l r=some e→(∃v∈l,v.east=e)∨r=some e
 | [],_,_,h=>.inr h
 | v::l,r,e,h=>by
   unfold jL at h
   rcases oV h with ⟨u,hu,he⟩|q
   ·exact .inl ⟨u,List.mem_cons_of_mem _ hu,he⟩
   ·split at q
    ·exact .inl ⟨v,List.mem_cons_self ..,by cases q;rfl⟩
    ·exact .inr q
theorem Ai {l:List Vrn} {year e:Int} (h:eN l year=some e):-60≤e∧e≤60:=by
 unfold eN at h
 split at h
 ·cases h
 ·rename_i q
  rcases oV h with ⟨v,hv,rfl⟩|q2
  ·have:kS 0 l=true:=by
    unfold bz at q
    split at q
    ·exact absurd (show ¬(2:Int)=0 by decide) (by simp at q)
    ·split at q
     ·assumption
     ·simp at q
   exact(pY l 0 this v hv).1
  ·cases q2
def eH (c:Crs) (east:Int):Int:=cz (c.bearing+east+90)-90
theorem wh (c:Crs) (east:Int):-90≤eH c east∧eH c east≤269:=by
 unfold eH;have:=ft (c.bearing+east+90);omega
def cY (a b:Int):Int:=if a.tmod b<0 then a.tdiv b-1 else a.tdiv b
def gu (a b:Int):Int:=-cY (-a) b
def vQ (c:Crs) (east dx:Int):Option (Int×Int) :=
 let lo:=eH c east-c.needle
 let hi:=eH c east+c.needle
 if hi≤0∨180≤lo then none else
 let most:=cY (c.far*c.far) 100000000-dx*dx
 if most<0 then none else
 let r:=min (fC most) 100000
 let h1:=if 0<lo then min r (cY (dx*ju lo) (gJ lo)) else r
 let l1:=if hi<180 then max (-r) (gu (dx*ju hi) (gJ hi)) else -r
 let least:=fG (gu (c.near*c.near) 100000000-dx*dx)
 let l2:=if hi≤90 then max l1 least else l1
 let h2:=if hi≤90 then h1 else if 90≤lo then min h1 (-least) else h1
 if h2<l2 then none else some (l2,h2)
theorem qw {c:Crs} {east dx a b:Int} (h:vQ c east dx=some (a,b)):a≤b∧-100000≤a∧b≤100000:=by
 unfold vQ at h;simp only at h
 by_cases h1:eH c east+c.needle≤0∨180≤eH c east-c.needle
 ·rw[if_pos h1] at h;cases h
 rw[if_neg h1] at h;obtain⟨most,hmost⟩:=ag (cY (c.far*c.far) 100000000-dx*dx);rw[hmost] at h
 by_cases h2:most<0
 ·rw[if_pos h2] at h;cases h
 rw[if_neg h2] at h;obtain⟨r,hr⟩:=ag (min (fC most) 100000);rw[hr] at h;obtain⟨x,hx⟩:=ag (cY (dx*ju (eH c east-c.needle)) (gJ (eH c east-c.needle)));obtain⟨y,hy⟩:=ag (gu (dx*ju (eH c east+c.needle)) (gJ (eH c east+c.needle)));obtain⟨z,hz⟩:=ag (fG (gu (c.near*c.near) 100000000-dx*dx));rw[hx,hy,hz] at h;obtain⟨h1',e1⟩:∃v,(if 0<eH c east-c.needle then min r x else r)=v:=⟨_,rfl⟩;obtain⟨l1',e2⟩:∃v,(if eH c east+c.needle<180 then max (-r) y else -r)=v:=⟨_,rfl⟩;rw[e1,e2] at h;obtain⟨l2',e3⟩:∃v,(if eH c east+c.needle≤90 then max l1' z else l1')=v:=⟨_,rfl⟩;obtain⟨h2',e4⟩:∃v,(if eH c east+c.needle≤90 then h1' else if 90≤eH c east-c.needle then min h1' (-z) else h1')=v:=⟨_,rfl⟩;rw[e3,e4] at h
 have hrb:r≤100000:=by omega
 have g1:h1'≤r:=by rw[←e1];split<;>omega
 have g2:-r≤l1':=by rw[←e2];split<;>omega
 have g3:l1'≤l2':=by rw[←e3];split<;>omega
 have g4:h2'≤h1':=by rw[←e4];split<;>(try split)<;>omega
 by_cases h3:h2'<l2'
 ·rw[if_pos h3] at h;cases h
 rw[if_neg h3] at h;simp only[Option.some.injEq,Prod.mk.injEq] at h;omega
def gD (c:Crs) (east dx:Int):Option (Int×Int):=if dx<0 then(vQ c.back east (-dx)).map (fun p=>(-p.2,-p.1)) else vQ c east dx
theorem nW {c:Crs} {east dx a b:Int} (h:gD c east dx=some (a,b)):a≤b∧-100000≤a∧b≤100000:=by
 unfold gD at h
 split at h
 ·cases q:vQ c.back east (-dx) with
  | none=>rw[q] at h;cases h
  | some p =>
    rw[q] at h;simp only[Option.map_some,Option.some.injEq,Prod.mk.injEq] at h;have:=qw (a:=p.1) (b:=p.2) q;omega
 ·exact qw h
def lD (l:List Vrn) (c:Crs) (dx:Int):Option (Int×Int)×Int :=
 if bz l≠0 then(none,bz l) else if c.ok=false then(none,1) else match eN l c.year with
  | none=>(none,20)
  | some e=>if dx=0∨bm dx (-100000) 100000=false then(none,1) else(gD c e dx,0)
theorem zJ {l:List Vrn} {c:Crs} {dx a b:Int} (h:(lD l c dx).1=some (a,b)):a≤b∧-100000≤a∧b≤100000∧(lD l c dx).2=0:=by
 unfold lD at h ⊢
 split at h
 ·cases h
 ·rename_i h1
  rw[if_neg h1]
  split at h
  ·cases h
  ·rename_i h2
   rw[if_neg h2]
   split at h
   ·cases h
   ·split at h
    ·cases h
    ·rename_i e h3 h4
     have:=nW h;simp only[if_neg h4];exact⟨this.1,this.2.1,this.2.2,trivial⟩
structure Cll where
 kind:Int
 limit:Int
 other:Int
 fr:Int
 tt:Int
 sz:Int
 er:Int
 crs:Crs
deriving DecidableEq
def crs0:Crs:=⟨0,0,0,0,0,0⟩
def bZ (F:Fld) (i:Int):Bool:=bm i 0 ((F.lms.length:Int)-1)
def aY (F:Fld) (i:Int):Bool:=bm i 0 ((F.sts.length:Int)-1)
def dQ (c:Cll) (low:Int):Bool:=bm c.sz low 100000&&bm c.er 0 100000
def jQ (F:Fld) (c:Cll):Bool:=decide (c=⟨c.kind,c.limit,0,c.fr,0,c.sz,c.er,crs0⟩)&&bZ F c.limit&&aY F c.fr&&dQ c 0
def jN (F:Fld) (c:Cll):Bool:=decide (c=⟨c.kind,c.limit,c.other,c.fr,0,c.sz,c.er,crs0⟩)&&(bZ F c.limit&&bZ F c.other)&&decide (c.limit<c.other)&&aY F c.fr&&dQ c 0
def gB (F:Fld) (c:Cll):Bool:=decide (c=⟨c.kind,c.limit,0,c.fr,c.tt,0,0,c.crs⟩)&&bZ F c.limit&&(aY F c.fr&&aY F c.tt)&&decide (c.fr≠c.tt)&&c.crs.ok
def jJ (F:Fld) (c:Cll):Bool:=decide (c=⟨c.kind,c.limit,c.other,c.fr,c.tt,0,0,crs0⟩)&&(bZ F c.limit&&bZ F c.other)&&decide (c.limit<c.other)&&(aY F c.fr&&aY F c.tt)&&decide (c.fr<c.tt)
def kd (F:Fld) (c:Cll):Bool:=decide (c=⟨c.kind,c.limit,0,c.fr,c.tt,c.sz,c.er,crs0⟩)&&bZ F c.limit&&(aY F c.fr&&aY F c.tt)&&decide (c.fr≠c.tt)&&dQ c (-100000)
def cA (F:Fld) (c:Cll):Bool :=
 if c.kind=1 then jQ F c else if c.kind=2 then jN F c else if c.kind=3 then gB F c else if c.kind=4 then jJ F c else if c.kind=5 then kd F c else false
def eE (F:Fld) (l s:Int):Int:=1+l*(F.sts.length:Int)+s
def oX (F:Fld) (c:Cll):Int:=(F.sts.getD c.tt.toNat js).x-(F.sts.getD c.fr.toNat js).x
def gV (F:Fld) (c:Cll):Option (Int×Int)×Int:=lD F.vrs c.crs (oX F c)
def dP (F:Fld) (c:Cll):Int :=
 if cA F c=false then 1 else if c.kind≠3 then 0 else if eN F.vrs c.crs.year=none then 20 else
 if(gV F c).2≠0 then(gV F c).2 else if(gV F c).1=none then 5 else 0
def eG (p q lo hi r:Int):List Bd:=[⟨p,q,hi,r⟩,⟨q,p,-lo,r⟩]
def li (F:Fld) (c:Cll) (r:Int) (n:Nat):List Bd:=(List.range n).flatMap fun(i:Nat)=>eG (eE F c.limit (c.fr+(i:Int))) (eE F c.other (c.fr+(i:Int))) 0 0 r
def eo (F:Fld) (c:Cll) (r:Int):List Bd :=
 if c.kind=1 then eG 0 (eE F c.limit c.fr) (c.sz-c.er) (c.sz+c.er) r
 else if c.kind=2 then eG (eE F c.limit c.fr) (eE F c.other c.fr) (c.sz-c.er) (c.sz+c.er) r
 else if c.kind=3 then eG (eE F c.limit c.fr) (eE F c.limit c.tt) ((gV F c).1.getD (0,0)).1 ((gV F c).1.getD (0,0)).2 r
 else if c.kind=4 then li F c r (c.tt-c.fr+1).toNat
 else if c.kind=5 then eG (eE F c.limit c.fr) (eE F c.limit c.tt) (c.sz-c.er) (c.sz+c.er) r
 else[]
def lc (F:Fld) (l:Nat):List Bd:=(List.range F.sts.length).map fun(s:Nat)=>(⟨eE F ((l:Int)+1) (s:Int),eE F (l:Int) (s:Int),0,0⟩:Bd)
def fF (F:Fld):List Bd :=
 ((List.range (F.lms.length*F.sts.length)).flatMap fun(p:Nat)=>[(⟨0,(p:Int)+1,100000,0⟩:Bd),⟨(p:Int)+1,0,0,0⟩])++(List.range (F.lms.length-1)).flatMap (lc F)
structure Rcd where
 id:Int
 day:Int
 deed:ByteArray
 year:Int
 rank:Int
 call:Cll
def Rcd.right (r:Rcd):Bool:=bm r.id 1 1000000&&bm r.day 0 100000&&bI r.deed&&bm r.year 1 3000&&bm r.rank 0 1000
def Rcd.bs (F:Fld) (r:Rcd):List Bd:=eo F r.call r.id
def Rcd.err (F:Fld) (r:Rcd):Int:=if dP F r.call≠0 then dP F r.call else if r.call.kind=3∧r.call.crs.year≠r.year then 1 else 0
def fH (F:Fld):List Rcd→Nat→Int→Nat→Int×Int
 | [],_,_,_=>(0,0)
 | r::l,i,last,many =>
   if 300≤i then(i,2) else if r.right=false∨r.id≤last then(i,1) else if r.err F≠0 then(i,r.err F)
   else if 2000<many+(r.bs F).length then(i,2) else fH F l (i+1) r.id (many+(r.bs F).length)
def cm (F:Fld) (l:List Rcd):Int×Int:=if F.check≠0 then(0,F.check) else fH F l 0 0 (fF F).length
def aj (F:Fld) (l:List Rcd):List Bd:=fF F++l.flatMap (Rcd.bs F)
structure cX (F:Fld) (l:List Rcd):Prop where
 fld:F.check=0
 few:l.length≤300
 each:∀r∈l,r.right=true∧r.err F=0
 asc:l.Pairwise fun a b=>a.id<b.id
 bds:(aj F l).length≤2000∨l=[]
theorem mS (F:Fld):∀(l:List Rcd) (i:Nat) (last:Int) (many:Nat),(fH F l i last many).2=0 ↔
 (l=[]∨i+l.length≤300)∧(∀r∈l,r.right=true∧r.err F=0∧last<r.id)∧(l.Pairwise fun a b=>a.id<b.id)∧(l=[]∨many+(l.flatMap (Rcd.bs F)).length≤2000)
 | [],i,last,many=>by simp[fH]
 | r::l,i,last,many=>by
   have ih:=mS F l (i+1) r.id (many+(r.bs F).length);unfold fH
   by_cases h1:300≤i
   ·rw[if_pos h1]
    simp only[List.length_cons,List.cons_ne_nil,false_or]
    constructor
    ·intro h;exact absurd (show _=(0:Int) from h) (by simp)
    ·intro h;omega
   rw[if_neg h1]
   by_cases h2:r.right=false∨r.id≤last
   ·rw[if_pos h2]
    constructor
    ·intro h;exact absurd (show _=(0:Int) from h) (by simp)
    ·intro h
     have:=h.2.1 r (List.mem_cons_self ..)
     rcases h2 with q|q
     ·rw[this.1] at q;cases q
     ·omega
   rw[if_neg h2]
   by_cases h3:r.err F≠0
   ·rw[if_pos h3]
    constructor
    ·intro h;exact absurd h h3
    ·intro h;exact absurd (h.2.1 r (List.mem_cons_self ..)).2.1 h3
   rw[if_neg h3]
   have h2a:r.right=true:=by
    cases q:r.right with
    | true=>rfl
    | false=>exact absurd (.inl q) h2
   have h2b:last<r.id:=by
    apply Classical.byContradiction
    intro q;exact h2 (.inr (by omega))
   have h3a:r.err F=0:=Classical.not_not.1 h3
   by_cases h4:2000<many+(r.bs F).length
   ·rw[if_pos h4]
    constructor
    ·intro h;exact absurd (show _=(0:Int) from h) (by simp)
    ·intro h
     have:=h.2.2.2;simp only[List.cons_ne_nil,false_or,List.flatMap_cons,List.length_append] at this;omega
   rw[if_neg h4,ih];simp only[List.length_cons,List.cons_ne_nil,false_or,List.flatMap_cons,List.length_append,List.pairwise_cons,List.forall_mem_cons]
   constructor
   ·rintro⟨a,b,c,d⟩
    refine⟨?_,⟨⟨h2a,h3a,h2b⟩,fun x hx=>⟨(b x hx).1,(b x hx).2.1,by have:=(b x hx).2.2;omega⟩⟩,⟨fun x hx=>(b x hx).2.2,c⟩,?_⟩
    ·rcases a with rfl|a
     ·simp;omega
     ·omega
    ·rcases d with rfl|d
     ·simp;omega
     ·omega
   ·rintro⟨a,⟨_,b⟩,⟨c,d⟩,e⟩
    exact⟨.inr (by omega),fun x hx=>⟨(b x hx).1,(b x hx).2.1,c x hx⟩,d,.inr (by omega)⟩
theorem gU {r:Rcd} (h:r.right=true):1≤r.id∧r.id≤1000000:=by
 unfold Rcd.right bm at h;simp only[Bool.and_eq_true,decide_eq_true_eq] at h;omega
theorem fM (F:Fld) (l:List Rcd):(cm F l).2=0↔cX F l:=by
 unfold cm
 by_cases h:F.check≠0
 ·rw[if_pos h]
  exact⟨fun q=>absurd q h,fun q=>absurd q.fld h⟩
 ·rw[if_neg h,mS]
  have hl:(aj F l).length=(fF F).length+(l.flatMap (Rcd.bs F)).length:=by unfold aj;rw[List.length_append]
  constructor
  ·rintro⟨a,b,c,d⟩
   exact⟨Classical.not_not.1 h,by rcases a with rfl|a<;>simp_all,fun r hr=>⟨(b r hr).1,(b r hr).2.1⟩,c,by rcases d with d|d;exact .inr d;exact .inl (by omega)⟩
  ·rintro⟨a,b,c,d,e⟩
   refine⟨.inr (by omega),fun r hr=>⟨(c r hr).1,(c r hr).2,by have:=gU (c r hr).1;omega⟩,d,?_⟩
   rcases e with e|e
   ·exact .inr (by omega)
   ·exact .inl e
end Go.Proofs.YtkhemfnlflbniaaGreatDoor
