/- Merged text 6 of the base: X5, PlH, Wn2, Wq2, X6, Fa, Fc, Oa. No conditions beyond those stated. -/
import Derived.Test.YtkhemfnlflbniaaGreatDoorB05
import Derived.Deep.CutBlock
import Derived.Test.YtkhemfnlflbniaaGreatDoorB04
import Derived.Test.YtkhemfnlflbniaaGreatDoorB03
import Derived.Lib.OwnBridge
import Derived.Deep.LoopGhost
import Derived.Test.YtkhemfnlflbniaaGreatDoorB02
import Derived.Maps.AppendAt
set_option maxRecDepth 100000
set_option maxHeartbeats 4000000
namespace Go.Proofs.YtkhemfnlflbniaaGreatDoor
open Go Go.RowKit Go.Shelf Tryz
structure zt (w1 W:World) (bg:Nat) (on:List Bool):Prop where
 on:W.heap[bg]?=some (.cells (eM on) 4 (0,0))
 bl:Below bg w1 W
theorem uI (w:World) (N:Int) (a:Option Addr) (cap:Nat) (bs:List Bd) (hN:bK N) (hl:bs.length≤9223372036854775807) (h:BoundsAt w a bs) (hno:¬(aO N bs=0∧aG N bs=none)) :
 Calls prog 86 #[.agg #[.int .i64 N,.slice a bs.length cap]] w fun e w'=>fj (bS N bs).1 (bS N bs).2.1 (bS N bs).2.2 w.heap.size e w'∧Below w.heap.size w w':=by
 have hB0:Below w.heap.size w (w.alloc (.cells #[.int .i64 N,.slice a bs.length cap] 61)):=aD;have hco:=gm (w.alloc (.cells #[.int .i64 N,.slice a bs.length cap] 61)) N a cap bs hN hl (h.alloc _)
 have hcp:bS N bs=([],false,aO N bs):=by
  unfold bS
  by_cases hc:aO N bs=0
  ·rw[if_neg (by simp[hc]),if_pos,hc]
   cases ho:aG N bs with
   | none=>exact absurd ⟨hc,ho⟩ hno
   | some t=>rfl
  ·rw[if_pos hc]
 by_cases hc:aO N bs=0
 ·have hce:aQ N bs=(true,0):=by
   unfold aQ;rw[if_pos hc]
   cases ho:aG N bs with
   | none=>exact absurd ⟨hc,ho⟩ hno
   | some t=>rfl
  rw[hce] at hco;rw[hc] at hcp;have HCO:=aa hco;have HCP:=aa hcp;clear hco hce hcp hc h hN hno;go_enter func86,ntmps86;go_wp2_with fail;refine HCO.out.mono ?_;rintro e w1 ⟨rfl,hb1⟩;go_wp2_with fail;go_ret3;refine⟨?_,bB hB0 hb1⟩;rw[HCP.out];exact⟨_,rfl,World.ownsRow_nil _ _ _ _⟩
 ·have hce:aQ N bs=(false,aO N bs):=by
   unfold aQ;rw[if_neg hc]
  rw[hce] at hco;obtain⟨c,hcc⟩:=ag (aO N bs);rw[hcc] at hco hcp hc
  have hc2:(c != 0)=true:=by simpa using hc
  have HCO:=aa hco;have HCP:=aa hcp;clear hco hce hcp hc h hN hno hcc;go_enter func86,ntmps86;go_wp2_with fail;refine HCO.out.mono ?_;rintro e w1 ⟨rfl,hb1⟩;go_wp2_with fail;go_ret3;refine⟨?_,bB hB0 hb1⟩;rw[HCP.out];exact⟨_,rfl,World.ownsRow_nil _ _ _ _⟩
theorem kR {bs:List Bd} {ks:List Nat} {gd:Int→Int→Int→Bool}:∀(many:Nat) (at_ sum:Int) (acc r:List Int),bM bs ks gd many at_ sum acc=some r→r.length=acc.length+many
 | 0,_,_,acc,r,h=>by simp only[bM,Option.some.injEq] at h;rw[←h];rfl
 | k+1,at_,sum,acc,r,h=>by
   simp only[bM] at h
   split at h
   ·simp at h
   ·have:=kR k _ _ _ r h
    rw[this,List.length_append,List.length_singleton];omega
theorem py (bs:List Bd) (ks:List Nat) (gd:Int→Int→Int→Bool) (from_:Int) (many:Nat):(cj bs ks gd from_ many).length≤many:=by
 unfold cj
 cases h:bM bs ks gd many from_ 0 [] with
 | none=>simp
 | some r=>have:=kR _ _ _ _ _ h;simp at this;simp[this]
theorem qW {R:Nat} {bs:List Bd} (hc:aO R bs=0) (ho:aG R bs=none) (h:∀i,i<bs.length→cM bs (bN bs R R) i=false):bS R bs=([],false,0):=by
 unfold bS i6;rw[if_neg (by simp[hc]),ho,if_neg (by simp),Int.toNat_natCast,iE h]
theorem sQ {R:Nat} {bs:List Bd} (hc:aO R bs=0) (ho:aG R bs=none) {i:Nat} (hi:i<bs.length) (h:∀k,k<i→cM bs (bN bs R R) k=false) (hp:cM bs (bN bs R R) i=true):bS R bs=((i:Int)::g7 bs (bN bs R R).1 i,true,0):=by
 unfold bS i6;rw[if_neg (by simp[hc]),ho,if_neg (by simp),Int.toNat_natCast,iG hi h hp]
theorem td (w:World) (R:Nat) (a:Option Addr) (cap:Nat) (bs:List Bd) (hc:aO R bs=0) (ho:aG R bs=none) (h:BoundsAt w a bs) :
 Calls prog 86 #[.agg #[.int .i64 (R:Int),.slice a bs.length cap]] w fun e w'=>fj (bS R bs).1 (bS R bs).2.1 (bS R bs).2.2 w.heap.size e w'∧Below w.heap.size w w':=by
 have hB0:Below w.heap.size w (w.alloc (.cells #[.int .i64 (R:Int),.slice a bs.length cap] 61)):=aD;obtain⟨R',e,r0,r1,hlen,hv⟩:=mr hc
 obtain rfl:R=R':=by omega
 have hco:=gm (w.alloc (.cells #[.int .i64 (R:Int),.slice a bs.length cap] 61)) R a cap bs (by unfold bK;omega) (by omega) (h.alloc _)
 have hce:aQ R bs=(false,0):=by unfold aQ;rw[if_pos hc,ho];rfl
 rw[hce] at hco;have H:=aa h;have HV:=aa hv;have HCO:=aa hco;have HC:=aa hc;have HO:=aa ho;clear h hv hco hce hc ho e
 have hmk4:=fun W=>run_make_row' (P:=prog) 184 4 (.bool false) 1 underlying184 zj rfl .i64 .i64 R (by omega) (by omega) W
 have i94:Hid ((Tryz.prog.info? 189).map (·.size)=some 128):=aa (by kernel_rfl);go_enter func86,ntmps86;go_wp2_with fail;refine HCO.out.mono ?_;rintro e w1 ⟨rfl,hb1⟩;have hbx:=ac hb1 (by simp) (heap_alloc_new w (.cells #[.int .i64 (R:Int),.slice a bs.length cap] 61));have e0:w1.cell? ⟨w.heap.size,0,none⟩=some (.int .i64 (R:Int)):=bu hbx rfl;have e1:w1.cell? ⟨w.heap.size,1,none⟩=some (.slice a bs.length cap):=bu hbx rfl;have lbx:=lt_of_block hbx;have B1:=bB hB0 hb1;have HBX:=aa hbx;have HB1:=aa B1;clear hbx hb1 B1 hB0;go_wp2_with fail
 have lbx1:w.heap.size<w1.heap.size+1:=by omega
 obtain⟨W0,hW0⟩:∃W0,W0=w1.alloc (.cells (madeCells #[.bool false] R) 4):=⟨_,rfl⟩;rw[←hW0];have st0:zt w1 W0 w1.heap.size (bN bs R 0).2:=⟨by rw[hW0,heap_alloc_new,lJ];rfl,by rw[hW0];exact aD⟩;have ST0:=aa st0;clear st0 hW0 hmk4 e0 e1
 go_loopw [7,37] (fun m t wr=>∃k:Nat,k≤R∧t=.int .i64 k∧m=.int .i64 ((bN bs R k).1:Int)∧Hid (zt w1 wr w1.heap.size (bN bs R k).2)) (fun _ t _=>R-(intOf t).toNat)
 case atStart=>exact⟨0,Nat.zero_le _,rfl,by simp[bN],ST0⟩
 case round =>
  obtain⟨k,hk,rfl,rfl,hst⟩:=hrel;have bw:Below w.heap.size w wr:=bB HB1.out hst.out.bl;have q1:=(hst.out.bl.block w.heap.size lbx).trans HBX.out;have c0:wr.cell? ⟨w.heap.size,0,none⟩=some (.int .i64 (R:Int)):=bu q1 rfl;have c1:wr.cell? ⟨w.heap.size,1,none⟩=some (.slice a bs.length cap):=bu q1 rfl;have lgb:=lt_of_block hst.out.on;have lbr:=lt_of_block q1;obtain⟨b1,b2,b3⟩:=oC bs R k hk r1
  by_cases hlt:k<R
  ·have hsucc:=jX bs R k
   obtain⟨st,hs⟩:=ag (bN bs R k);rw[hs] at hst b1 b2 b3 hsucc ⊢;obtain⟨mn,on⟩:=st;simp only at hst b1 b2 b3 ⊢;obtain⟨mx,hmx⟩:=ag (min mn R)
   have hmi:min (mn:Int) (R:Int)=(mx:Int):=by omega
   have hw:=lF wr R R a cap bs k mx 152 #[] iy r1 (by omega) (H.out.below bw (Nat.le_refl _)) HV.out hlt (by omega) (jp _ _ _) iq;rw[i9] at hw;have hlen2:=ct bs k mx;have hrm:=ix (N:=(R:Int)) HV.out k mx
   have hck:dU bs R mn k=bk (fun r:List Int=>decide (r.getD k 0<0)) (aK bs k mx):=by unfold dU;rw[hmx]
   have hca:tV bs R (mn,on) k=if dU bs R mn k<0 then(mn,on) else if(dU bs R mn k).toNat<mn then((dU bs R mn k).toNat,(List.replicate R false).set k true) else(mn,on.set k true):=rfl
   rw[hck,←hsucc] at hca;obtain⟨rows,hrows⟩:=ag (aK bs k mx);rw[hrows] at hw hlen2 hrm hca;have HW:=aa hw;have HQ1:=aa q1;have HCA:=aa hca;have HS:=aa hs;have HB3:=aa b3;have HRM:=aa hrm;have HLEN2:=aa hlen2;have HMX:=aa hmx;clear hw q1 hsucc hs b3 hlen2 hrm hca hck hrows hmx;go_upto_block 1 with fail
   go_cut [7] (fun s7 wx=>s7=.int .i64 ((bN bs R (k+1)).1:Int)∧Hid (zt w1 wx w1.heap.size (bN bs R (k+1)).2))
   case first =>
    go_wp2_with fail;refine HW.out.mono ?_;rintro e w2 ⟨g,cp,rfl,hb2,hown⟩
    have hmx1:mx≤R:=by have:=HMX.out;omega
    have hmx2:mx≤mn:=by have:=HMX.out;omega
    obtain⟨hra,hgl⟩:=fT hown HRM.out
    have hgb:wr.heap.size≤g:=by
     rcases hown.2 with ⟨e,_⟩|⟨g',cp',cu,e,hb,hh,_⟩
     ·cases e
     ·cases e;exact hb
    have hon2:=ac hb2 lgb hst.out.on;have st2:zt w1 w2 w1.heap.size on:=⟨hon2,bB hst.out.bl hb2⟩;have hbx2:=ac hb2 lbr HQ1.out;have HRA:=aa hra;have ST2:=aa st2;have HBX2:=aa hbx2;clear hra hown hon2 st2 hbx2 hb2 c0 c1;go_wp2_with fail
    go_loopw [7,48] (fun m t wv=>∃j:Nat,j≤mx+1∧t=.int .i64 j∧m=.int .i64 (mn:Int)∧Hid ((rows.take j).any (fun r:List Int=>decide (r.getD k 0<0))=false)∧Hid (zt w1 wv w1.heap.size on)∧Hid (Below w2.heap.size w2 wv)) (fun _ t _=>mx+1-(intOf t).toNat)
    case atStart=>exact⟨0,by omega,rfl,rfl,aa rfl,ST2,aa (Below.refl _ _)⟩
    case round =>
     obtain⟨j,hj,rfl,rfl,hno,hst3,hb3⟩:=hrel
     by_cases hjl:j<mx+1
     ·have hrow:=HRM.out (rows.getD j []) (by
       rw[List.getD_eq_getElem?_getD,List.getElem?_eq_getElem (by have:=HLEN2.out;omega)];exact List.getElem_mem _)
      have hrg:=kD (HRA.out.below hb3.out hgl) (k:=j) (by have:=HLEN2.out;omega) hrow;have hxx:rows[j]'(by have:=HLEN2.out;omega)=rows.getD j []:=(i5 rows [] (by have:=HLEN2.out;omega)).symm;obtain⟨x,hx⟩:=ag (rows.getD j []);rw[hx] at hrow hrg hxx;obtain⟨v,hv⟩:=ag (x.getD k 0)
      have hst':(wr.alloc (.cells zeroCells189 189)).heap[wr.heap.size]?=some (.cells (bt (aX 0)) 189 (0,0)):=by rw[xq];exact heap_alloc_new _ _
      have HSR:=aa hst';have HG:=aa hrg;have HX:=aa hxx;have HR:=aa hrow;have HV2:=aa hv
      have k0:(0:Int)≤(k:Int):=by omega
      have k1:(k:Int)<128:=by omega
      clear hx hrg hxx hrow hst' hv;have hs1:Hid ((bt (aX 0)).size=(bt x).size):=aa (by rw[aZ,aZ,HR.out,aM]);have hs2:Hid ((Tryz.prog.info? 189).map (·.size)=some (bt x).size):=aa (by rw[aZ,HR.out];exact i94.out)
      go_upto_region 12 with (first
       | (refine wpList_load_mid rfl 189 _ rfl g (j*128) rfl (ay x) _ HG.out underlying189 rfl (by rw[i94.out];simp[ay,HR.out]) ?_)
       | (refine wpList_store_row rfl 189 _ _ rfl _ _ rfl rfl 189 _ HSR.out hs2.out hs1.out (fP _) ?_;rw[World.setRow_alloc_new]))
      obtain⟨X,hX⟩:∃X,X=wr.alloc (Obj.cells (ay x).toArray 189):=⟨_,rfl⟩;rw[←hX]
      have z3:X.cell? ⟨wr.heap.size,k,none⟩=some (.int .i64 v):=by
       rw[hX]
       show(wr.alloc (Obj.cells (bt x) 189)).cell? ⟨wr.heap.size,k,none⟩=some (.int .i64 v)
       rw[cell_of_row _ _ _ _ _ _ (heap_alloc_new wr (Obj.cells (bt x) 189)),dE (by rw[HR.out];omega),HV2.out]
      have stX:zt w1 X w1.heap.size on:=by
       rw[hX];exact⟨(Below.heap_alloc _ _ _ (lt_of_block hst3.out.on)).trans hst3.out.on,hst3.out.bl.alloc hst3.out.bl.size _⟩
      have b3X:Below w2.heap.size w2 X:=by rw[hX];exact hb3.out.alloc hb3.out.size _
      have og:X.cell? ⟨w1.heap.size,k,none⟩=some (.bool (on.getD k false)):=by rw[cell_of_row _ _ _ _ _ _ stX.on,dN (by rw[HB3.out];omega)]
      have ogf:X.frozen? ⟨w1.heap.size,k,none⟩=false:=frozen_of_row _ _ _ _ _ stX.on;have STX:=aa stX;have B3X:=aa b3X;clear hX stX b3X
      by_cases hneg:v<0
      ·have hv2:decide (v≥0)=false:=by simp;omega
       have hix:bk (fun r:List Int=>decide (r.getD k 0<0)) rows=j:=dC (by have:=HLEN2.out;omega) hno.out (by rw[HX.out,HV2.out];simpa using hneg);have hca2:=HCA.out;rw[hix,if_neg (by omega)] at hca2
       by_cases hjm:j<mn
       ·rw[if_pos (by simpa using hjm)] at hca2
        have HCA2:=aa hca2;obtain⟨Y,hclr,y1,y2,y3⟩:=mZ X 0 w1.heap.size R R on STX.out.on HB3.out (by omega)
        have yg:Y.cell? ⟨w1.heap.size,k,none⟩=some (.bool ((List.replicate R false).getD k false)):=by rw[cell_of_row _ _ _ _ _ _ y1,dN (by simpa using hlt)]
        have ygf:Y.frozen? ⟨w1.heap.size,k,none⟩=false:=frozen_of_row _ _ _ _ _ y1;have Y1:=aa y1;have Y3:=aa y3;clear hca2 hix y1 y2 y3 og ogf;go_wp2_with fail;go_meet
        exact⟨by rw[HCA2.out];rfl,aa (by
         rw[HCA2.out]
         exact⟨by rw[heap_setCell_same _ _ _ _ _ _ Y1.out,jg],(STX.out.bl.trans Y3.out).setCell (Nat.le_refl _) _⟩)⟩
       ·rw[if_neg (by simpa using hjm)] at hca2
        have hjm2:¬(j:Int)<(mn:Int):=by omega
        have HCA2:=aa hca2;clear hca2 hix;go_wp2_with fail;go_meet
        exact⟨by rw[HCA2.out],aa (by
         rw[HCA2.out]
         exact⟨by rw[heap_setCell_same _ _ _ _ _ _ STX.out.on,jg],STX.out.bl.setCell (Nat.le_refl _) _⟩)⟩
      ·have hv2:decide (v≥0)=true:=by simp;omega
       go_wp2_with fail;go_roundw
       case rel=>exact⟨j+1,by omega,by go_num,rfl,aa (bR (by have:=HLEN2.out;omega) hno.out (by rw[HX.out,HV2.out];simpa using hneg)),STX,B3X⟩
       case measure=>simp[intOf];omega
     ·have hix:bk (fun r:List Int=>decide (r.getD k 0<0)) rows=-1:=dc (cD (by have:=HLEN2.out;omega) hno.out)
      have hca2:=HCA.out;rw[hix,if_pos (by omega)] at hca2;have HCA2:=aa hca2;clear hca2 hix;go_wp2_with fail;go_meet;exact⟨by rw[HCA2.out],aa (by rw[HCA2.out];exact hst3.out)⟩
   case rest =>
    obtain⟨rfl,hst4⟩:=hcut;obtain⟨w4,rfl⟩:∃x:World,x=wc:=⟨wc,rfl⟩;go_wp2_with fail;go_roundw
    case rel=>exact⟨k+1,by omega,by go_num,rfl,hst4⟩
    case measure=>simp[intOf];omega
  ·obtain rfl:R=k:=by omega
   have hp0:=qW HC.out HO.out
   have hp1:=fun i=>sQ HC.out HO.out (i:=i)
   obtain⟨S,hS⟩:=ag (bN bs R R);rw[hS] at hst b1 b2 b3 hp0 hp1 ⊢;obtain⟨M,on⟩:=S;simp only at hst b1 b2 b3 ⊢;have HP0:=aa hp0;have HP1:=aa hp1;have HB3:=aa b3;clear hS hp0 hp1 b3 q1;go_wp2_with fail
   go_loopw [70] (fun t wv=>∃i:Nat,i≤bs.length∧t=.int .i64 i∧Hid (∀q,q<i→cM bs (M,on) q=false)∧Hid (zt w1 wv w1.heap.size on)) (fun t _=>bs.length-(intOf t).toNat)
   case atStart=>exact⟨0,Nat.zero_le _,rfl,aa (fun q h=>by omega),hst⟩
   case round =>
    clear c0 c1 lgb lbr bw;obtain⟨i,hi,rfl,hno,hst2⟩:=hrel;have bw:Below w.heap.size w wr:=bB HB1.out hst2.out.bl
    by_cases hil:i<bs.length
    ·obtain⟨b,off,rfl,hbl,hcs⟩:=H.out.at hil
     have q1:=(hst2.out.bl.block w.heap.size lbx).trans HBX.out;have hval:=HV.out bs[i] (List.getElem_mem _);have hcs':=hcs.below bw hbl;obtain⟨c0,c1,c2,c3⟩:=hcs';have hgd:bs.getD i cn=bs[i]:=i5 bs cn hil;obtain⟨y,hy⟩:=ag (bs[i]);rw[hy] at c0 c1 c2 c3 hval hgd;obtain⟨ys,yd,ym,yr⟩:=y;obtain⟨v1,v2,v3,v4,v5,v6⟩:=hval;simp only at c0 c1 c2 c3 v1 v2 v3 v4 v5 v6;obtain⟨si,rfl⟩:=Int.eq_ofNat_of_zero_le v1;obtain⟨di,rfl⟩:=Int.eq_ofNat_of_zero_le v3;have HGD:=aa hgd;have Q1:=aa q1;clear hcs hy hgd q1;go_upto_region 22 with fail;obtain⟨X,hX⟩:∃X,X=(wr.alloc (Obj.cells #[.int .i64 (i:Int)] 3)).alloc (Obj.cells #[.int .i64 (si:Int),.int .i64 (di:Int),.int .i64 ym,.int .i64 yr] 65):=⟨_,rfl⟩;rw[←hX]
     have xb:Below wr.heap.size wr X:=by rw[hX];exact(aD).alloc (by simp) _
     have x12:X.heap[wr.heap.size]?=some (.cells #[.int .i64 (i:Int)] 3 (0,0)):=by rw[hX,Below.heap_alloc _ _ _ (by simp),heap_alloc_new]
     have x13:X.heap[wr.heap.size+1]?=some (.cells #[.int .i64 (si:Int),.int .i64 (di:Int),.int .i64 ym,.int .i64 yr] 65 (0,0)):=by rw[hX,af _ _ _ (by simp)]
     have lgb:=lt_of_block hst2.out.on;have lbr:=lt_of_block Q1.out;have xon:=ac xb lgb hst2.out.on;have xbx:=ac xb lbr Q1.out;have stX:zt w1 X w1.heap.size on:=⟨xon,bB hst2.out.bl xb⟩;have bX:Below w.heap.size w X:=bB bw xb;have z0:X.cell? ⟨wr.heap.size+1,0,none⟩=some (.int .i64 (si:Int)):=bu x13 rfl;have z1:X.cell? ⟨wr.heap.size+1,1,none⟩=some (.int .i64 (di:Int)):=bu x13 rfl;have z2:X.cell? ⟨wr.heap.size+1,2,none⟩=some (.int .i64 ym):=bu x13 rfl;have z3:X.cell? ⟨wr.heap.size,0,none⟩=some (.int .i64 (i:Int)):=cell_of_one x12;have e0:X.cell? ⟨w.heap.size,0,none⟩=some (.int .i64 (R:Int)):=bu xbx rfl;have e1:X.cell? ⟨w.heap.size,1,none⟩=some (.slice (some ⟨b,off,none⟩) bs.length cap):=bu xbx rfl;obtain⟨fs,hfs⟩:=ag (on.getD si false);obtain⟨fd,hfd⟩:=ag (on.getD di false)
     have os:X.cell? ⟨w1.heap.size,si,none⟩=some (.bool fs):=by rw[cell_of_row _ _ _ _ _ _ xon,dN (by rw[HB3.out];omega),hfs]
     have od:X.cell? ⟨w1.heap.size,di,none⟩=some (.bool fd):=by rw[cell_of_row _ _ _ _ _ _ xon,dN (by rw[HB3.out];omega),hfd]
     obtain⟨V,hV⟩:=ag (qd bs M i)
     have hhit:cM bs (M,on) i=(fs&&fd&&(decide (V<1125899906842624)&&decide (ym+V<0))):=by
      unfold cM;rw[HGD.out,hV];simp only[Int.toNat_natCast];rw[hfs,hfd]
     have s0:(si:Int)<R:=by omega
     have d0:(di:Int)<R:=by omega
     have sl0:si<R:=by omega
     have dl0:di<R:=by omega
     have HHIT:=aa hhit;have HVV:=aa hV;have STX:=aa stX;have BX:=aa bX;have X12:=aa x12;have X13:=aa x13;have XBX:=aa xbx;have XS:=aa (show X.heap.size=wr.heap.size+2 by rw[hX];simp);clear hX xb x12 x13 xon xbx stX bX hfs hfd hhit hV c0 c1 c2 c3 bw
     have skip:cM bs (M,on) i=false→∀q,q<i+1→cM bs (M,on) q=false:=fun hf q hq=>by
      by_cases e:q=i
      ·rw[e];exact hf
      ·exact hno.out q (by omega)
     have SKIP:=aa skip;clear skip
     cases fs with
     | false =>
       go_wp2_with fail;go_roundw
       case rel=>exact⟨i+1,by omega,by go_num,aa (SKIP.out (by rw[HHIT.out];rfl)),STX⟩
       case measure=>simp[intOf];omega
     | true =>
       cases fd with
       | false =>
         go_wp2_with fail;go_roundw
         case rel=>exact⟨i+1,by omega,by go_num,aa (SKIP.out (by rw[HHIT.out];rfl)),STX⟩
         case measure=>simp[intOf];omega
       | true =>
         obtain⟨m1,hm2⟩:∃m1,M-1=m1:=⟨M-1,rfl⟩
         have hmi:(M:Int)-1=(m1:Int):=by omega
         have hm1R:m1≤R:=by omega
         have hwk:=lF X R R (some ⟨b,off,none⟩) cap bs si m1 153 #[.pointer (some ⟨wr.heap.size,0,none⟩)] (bG i) r1 (by omega) (H.out.below BX.out (Nat.le_refl _)) HV.out sl0 (by omega)
          (fun q hq W hk=>(pP W q i wr.heap.size ((hk.cell (by have:=XS.out;show wr.heap.size<_;omega)).trans z3)).mono fun _ _ ⟨he,hw⟩=>⟨he,hw▸Below.refl _ _⟩)
          (enters_of func153 (by kernel_rfl) rfl)
         have hsub:∀x∈bL bs (aq (bG i) bs.length),x∈bs:=fun x hx=>gR (fun q hq=>(ee.1 hq).1) hx
         have hcr:dT bs M i=aK (bL bs (aq (bG i) bs.length)) si m1:=by unfold dT;rw[HGD.out,hm2];simp
         have hvs:au R (bL bs (aq (bG i) bs.length)):=fun x hx=>HV.out x (hsub x hx)
         have hrm:=ix (N:=(R:Int)) hvs si m1;have hln:=ct (bL bs (aq (bG i) bs.length)) si m1
         have hrbd:∀q p,q≤m1→-1000000000≤((aK (bL bs (aq (bG i) bs.length)) si m1).getD q []).getD p 0∧((aK (bL bs (aq (bG i) bs.length)) si m1).getD q []).getD p 0≤1125899906842624:=by
          intro q p hq;rw[bP _ _ _ hq];exact nR hvs _ _ _ (by omega)
         have hVV:qd bs M i=((dT bs M i).getD m1 []).getD di 0:=by unfold qd;rw[HGD.out,hm2];simp only[Int.toNat_natCast]
         have hrest:g7 bs M i=cj bs (aq (bG i) bs.length) (dt (dT bs M i) ym) (di:Int) m1:=by unfold g7;rw[HGD.out,hm2]
         rw[hcr] at hVV hrest;obtain⟨rows,hrows⟩:=ag (aK (bL bs (aq (bG i) bs.length)) si m1);rw[hrows] at hwk hrm hln hrbd hVV hrest;have hVb:=hrbd m1 di (Nat.le_refl _);have hVe:=HVV.out;rw[hVV] at hVe;have HWK:=aa hwk;have HRM:=aa hrm;have HLN:=aa hln;have HRB:=aa hrbd;have HREST:=aa hrest;have HVE:=aa hVe;rw[hVe] at hVb;obtain⟨Vb1,Vb2⟩:=hVb;clear hwk hsub hcr hvs hrm hln hrbd hVV hrest hrows hVe hm2;go_wp2_with fail;refine HWK.out.mono ?_;rintro e w2 ⟨g,cp,rfl,hb2,hown⟩;obtain⟨hra,hgl⟩:=fT hown HRM.out;have y12:=ac hb2 (lt_of_block X12.out) X12.out;have y13:=ac hb2 (lt_of_block X13.out) X13.out;have ybx:=ac hb2 (lt_of_block XBX.out) XBX.out;have yst:zt w1 w2 w1.heap.size on:=⟨ac hb2 (lt_of_block STX.out.on) STX.out.on,bB STX.out.bl hb2⟩;have yb:=bB BX.out hb2;have HRA:=aa hra;have Y12:=aa y12;have Y13:=aa y13;have YBX:=aa ybx;have YST:=aa yst;have YB:=aa yb;clear hra hown y12 y13 ybx yst yb z0 z1 z2 z3 e0 e1 os od;go_upto_region 25 with fail;obtain⟨Z,hZ⟩:∃Z,Z=w2.alloc (Obj.cells #[.slice (some ⟨g,0,none⟩) (m1+1) cp] 185):=⟨_,rfl⟩;rw[←hZ]
         have zb:Below w2.heap.size w2 Z:=by rw[hZ];exact aD
         have z15:Z.heap[w2.heap.size]?=some (.cells #[.slice (some ⟨g,0,none⟩) (m1+1) cp] 185 (0,0)):=by rw[hZ];exact heap_alloc_new _ _
         have z12:=ac zb (lt_of_block Y12.out) Y12.out;have z13:=ac zb (lt_of_block Y13.out) Y13.out;have zbx:=ac zb (lt_of_block YBX.out) YBX.out;have zst:zt w1 Z w1.heap.size on:=⟨ac zb (lt_of_block YST.out.on) YST.out.on,bB YST.out.bl zb⟩;have zB:=bB YB.out zb;have zra:=HRA.out.below zb hgl;have z0:Z.cell? ⟨w2.heap.size,0,none⟩=some (.slice (some ⟨g,0,none⟩) (m1+1) cp):=cell_of_one z15;have z1:Z.cell? ⟨wr.heap.size+1,1,none⟩=some (.int .i64 (di:Int)):=bu z13 rfl;have z2:Z.cell? ⟨wr.heap.size+1,2,none⟩=some (.int .i64 ym):=bu z13 rfl;have z3:Z.cell? ⟨wr.heap.size,0,none⟩=some (.int .i64 (i:Int)):=cell_of_one z12
         have zg:Z.cell? ⟨g,m1*128+di,none⟩=some (.int .i64 V):=by
          rw[zra m1 di (by rw[HLN.out];omega) (by omega),HVE.out]
         have e0:Z.cell? ⟨w.heap.size,0,none⟩=some (.int .i64 (R:Int)):=bu zbx rfl;have e1:Z.cell? ⟨w.heap.size,1,none⟩=some (.slice (some ⟨b,off,none⟩) bs.length cap):=bu zbx rfl
         have m0:(0:Int)≤(m1:Int):=by omega
         have m2:(m1:Int)<(m1:Int)+1:=by omega
         have d128:(di:Int)<128:=by omega
         have d00:(0:Int)≤(di:Int):=by omega
         have Z12:=aa z12;have Z13:=aa z13;have Z15:=aa z15;have ZST:=aa zst;have ZB:=aa zB;have ZRA:=aa zra;have ZS:=aa (show Z.heap.size=w2.heap.size+1 by rw[hZ];simp)
         have hsz:wr.heap.size+2≤w2.heap.size:=by have:=lt_of_block Y13.out;omega
         clear hZ zb z12 z13 z15 zbx zst zB zra
         go_quiet (fail)
         obtain⟨Y,hY⟩:∃Y,Y=Z.drewN nq:=⟨_,rfl⟩;rw[←hY]
         have yheap:Y.heap=Z.heap:=by rw[hY];rfl
         have yz2:Y.cell? ⟨wr.heap.size+1,2,none⟩=some (.int .i64 ym):=by rw[hY];exact z2
         have yz1:Y.cell? ⟨wr.heap.size+1,1,none⟩=some (.int .i64 (di:Int)):=by rw[hY];exact z1
         have yz3:Y.cell? ⟨wr.heap.size,0,none⟩=some (.int .i64 (i:Int)):=by rw[hY];exact z3
         have yz0:Y.cell? ⟨w2.heap.size,0,none⟩=some (.slice (some ⟨g,0,none⟩) (m1+1) cp):=by rw[hY];exact z0
         have ye0:Y.cell? ⟨w.heap.size,0,none⟩=some (.int .i64 (R:Int)):=by rw[hY];exact e0
         have ye1:Y.cell? ⟨w.heap.size,1,none⟩=some (.slice (some ⟨b,off,none⟩) bs.length cap):=by rw[hY];exact e1
         have ySt:zt w1 Y w1.heap.size on:=⟨by rw[yheap];exact ZST.out.on,by rw[hY];exact ZST.out.bl.trans (aA _ _)⟩
         have yB:Below w.heap.size w Y:=by rw[hY];exact ZB.out.trans (aA _ _)
         have YST2:=aa ySt;have YB2:=aa yB;have YH:=aa yheap;clear hY z0 z1 z2 z3 zg e0 e1 yheap ySt yB
         by_cases hfar:V<1125899906842624
         ·have hw0:IntKind.i64.wrap (ym+V)=ym+V:=IntWalk.i64_in _ (by omega)
          have hg1:decide (V≥1125899906842624)=false:=by simp;omega
          by_cases hneg:ym+V<0
          ·have hg2:decide (ym+V≥0)=false:=by simp;omega
           have hhit2:cM bs (M,on) i=true:=by rw[HHIT.out];simp[hfar,hneg]
           have hp:=HP1.out i hil hno.out hhit2;have HP:=aa hp;clear hp hhit2
           have YS:Y.heap.size=w2.heap.size+1:=by rw[YH.out,ZS.out]
           have hraY:RowsAt Y g rows:=fun q p hq hp=>(World.cell?_of_block (w:=Z) (by rw[YH.out])).trans (ZRA.out q p hq hp)
           have hfo:=kQ Y (R:Int) R (some ⟨b,off,none⟩) cap bs di m1 153 155 #[.pointer (some ⟨wr.heap.size,0,none⟩)] #[.pointer (some ⟨w2.heap.size,0,none⟩),.pointer (some ⟨wr.heap.size+1,0,none⟩)] (bG i) (dt rows ym) r1 (by omega) (H.out.below YB2.out (Nat.le_refl _)) HV.out dl0 (by omega)
            (fun q hq W hk=>(pP W q i wr.heap.size ((hk.cell (by show wr.heap.size<Y.heap.size;omega)).trans yz3)).mono fun _ _ ⟨he,hw⟩=>⟨he,hw▸Below.refl _ _⟩)
            (enters_of func153 (by kernel_rfl) rfl)
            (fun left at_ sum W h1 h2 h3 h4 hk=>wW W g cp (m1+1) rows ym w2.heap.size (wr.heap.size+1) left at_ sum 0 0 0 HLN.out (by omega) (fun q p hq hp=>(hk.cell (by show g<Y.heap.size;omega)).trans (hraY q p hq hp)) (by omega) (by omega) h3 h4 (by omega) (by omega) (HRB.out left at_ (by omega))
             ((hk.cell (by show w2.heap.size<Y.heap.size;omega)).trans yz0) ((hk.cell (by show wr.heap.size+1<Y.heap.size;omega)).trans yz2))
            (enters_of func155 (by kernel_rfl) rfl)
           obtain⟨FL,hFL⟩:=ag (cj bs (aq (bG i) bs.length) (dt rows ym) (di:Int) m1)
           have hFLl:FL.length≤50000:=by
            rw[←hFL];have:=py bs (aq (bG i) bs.length) (dt rows ym) (di:Int) m1;omega
           have hrs:=HREST.out;rw[hFL] at hfo hrs;have HFO:=aa hfo;have HRS:=aa hrs;have HYS:=aa YS
           have wlt:wr.heap.size<Y.heap.size:=by omega
           clear hfo hFL hrs hraY YS;go_wp2_with fail;refine HFO.out.mono ?_;rintro e w6 ⟨vv,rfl,hb6,hown6⟩;obtain⟨o,oc,rfl,hia,_⟩:=fU hown6;have u3:w6.cell? ⟨wr.heap.size,0,none⟩=some (.int .i64 (i:Int)):=(hb6.cell (p:=⟨wr.heap.size,0,none⟩) wlt).trans yz3;have HIA:=aa hia;have B6:=bU YB2 hb6;clear hown6 hia hb6;go_wp2_with fail
           have hcc:Calls prog 156 #[.slice (some ⟨w6.heap.size+1,0,none⟩) 2 2] ((w6.alloc (.cells #[.int .i64 (i:Int)] 3)).alloc (.cells #[.slice (some ⟨w6.heap.size,0,none⟩) 1 1,.slice o FL.length oc] 52)) _ :=
            rZ _ (w6.heap.size+1) 2 (some ⟨w6.heap.size,0,none⟩) 1 [(i:Int)] o oc FL ((tk w6 (i:Int)).alloc _) ((HIA.out.alloc _).alloc _) (by simp) hFLl (af _ _ _ (by simp))
           refine hcc.mono ?_;rintro e w7 ⟨v7,rfl,hown7,hb7⟩;have HO7:=aa hown7;have B7:=aa (((B6.out.alloc B6.out.size (.cells #[.int .i64 (i:Int)] 3)).alloc (by have:=B6.out.size;simp;omega) (.cells #[.slice (some ⟨w6.heap.size,0,none⟩) 1 1,.slice o FL.length oc] 52)).trans (hb7.mono (by have:=B6.out.size;simp;omega)));have hb6s:=B6.out.size;clear hcc hown7 hb7 u3;go_wp2_with fail;go_ret3;refine⟨?_,B7.out⟩;rw[HP.out];simp only;rw[HRS.out];exact⟨_,rfl,bF HO7.out (by simp;omega)⟩
          ·have hg2:decide (ym+V≥0)=true:=by simp;omega
           have hsk:cM bs (M,on) i=false:=by rw[HHIT.out];simp[hneg]
           have HSK:=aa hsk;clear hsk;go_wp2_with fail;go_roundw
           case rel=>exact⟨i+1,by omega,by go_num,aa (SKIP.out HSK.out),YST2⟩
           case measure=>simp[intOf];omega
         ·have hg1:decide (V≥1125899906842624)=true:=by simp;omega
          have hsk:cM bs (M,on) i=false:=by rw[HHIT.out];simp[hfar]
          have HSK:=aa hsk;clear hsk;go_wp2_with fail;go_roundw
          case rel=>exact⟨i+1,by omega,by go_num,aa (SKIP.out HSK.out),YST2⟩
          case measure=>simp[intOf];omega
    ·have hp:=HP0.out (fun q hq=>hno.out q (by omega))
     have HP:=aa hp;clear hp;go_wp2_with fail;go_ret3;refine⟨?_,bw⟩;rw[HP.out];exact⟨_,rfl,World.ownsRow_nil _ _ _ _⟩
theorem uC (w:World) (N:Int) (a:Option Addr) (cap:Nat) (bs:List Bd) (hN:bK N) (hl:bs.length≤9223372036854775807) (h:BoundsAt w a bs) :
 Calls prog 86 #[.agg #[.int .i64 N,.slice a bs.length cap]] w fun e w'=>fj (bS N bs).1 (bS N bs).2.1 (bS N bs).2.2 w.heap.size e w'∧Below w.heap.size w w':=by
 by_cases hc:aO N bs=0∧aG N bs=none
 ·obtain⟨R,rfl,_⟩:=mr hc.1
  exact td w R a cap bs hc.1 hc.2 h
 ·exact uI w N a cap bs hN hl h hc
end Go.Proofs.YtkhemfnlflbniaaGreatDoor
namespace Go.Proofs.YtkhemfnlflbniaaGreatDoor
open Go
theorem yX (l:List Int):(jB l).Pairwise (·≤·):=by
 have h:=List.pairwise_mergeSort (le:=fun x y:Int=>decide (x≤y)) (fun a b c h1 h2=>by simp at *;omega) (fun a b=>by simp;omega) l;exact h.imp (fun h=>by simpa using h)
end Go.Proofs.YtkhemfnlflbniaaGreatDoor
namespace Go.Proofs.YtkhemfnlflbniaaGreatDoor
open Go Go.RowKit Go.Shelf Tryz
def Sp.arr (s:Sp):Array Value:=#[.int .i64 s.low,.int .i64 s.high,.bool s.lowest,.bool s.highest]
theorem mt (w:World) (N:Int) (a:Option Addr) (cap:Nat) (bs:List Bd) (x y:Int) (hN:bK N) (hl:bs.length≤9223372036854775807) (h:BoundsAt w a bs) :
 Calls prog 82 #[.agg #[.int .i64 N,.slice a bs.length cap],.int .i64 x,.int .i64 y] w fun e w'=>e=.returned (.tuple #[.agg (dh N bs x y).1.arr,.int .i64 (dh N bs x y).2])∧Below w.heap.size w w':=by
 have H:=aa h;have HN:=aa hN;clear h hN;have hB0:Below w.heap.size w (((w.alloc (.cells #[.int .i64 N,.slice a bs.length cap] 61)).alloc (.cells #[.int .i64 0,.int .i64 0,.bool false,.bool false] 115)).alloc (.cells #[.int .i64 x,.int .i64 y] 3)):=(((aD).alloc (by simp) _).alloc (by simp;omega) _);have hints:=rL ((w.alloc (.cells #[.int .i64 N,.slice a bs.length cap] 61)).alloc (.cells #[.int .i64 0,.int .i64 0,.bool false,.bool false] 115)) x y;simp only[World.size_alloc] at hints
 have hask:Calls prog 143 #[.agg #[.int .i64 N,.slice a bs.length cap],.slice (some ⟨w.heap.size+1+1,0,none⟩) 2 2] (((w.alloc (.cells #[.int .i64 N,.slice a bs.length cap] 61)).alloc (.cells #[.int .i64 0,.int .i64 0,.bool false,.bool false] 115)).alloc (.cells #[.int .i64 x,.int .i64 y] 3)) _ :=
  lI _ N a cap bs (some ⟨w.heap.size+1+1,0,none⟩) 2 [x,y] HN.out hl (by simp) (((H.out.alloc (.cells #[.int .i64 N,.slice a bs.length cap] 61)).alloc (.cells #[.int .i64 0,.int .i64 0,.bool false,.bool false] 115)).alloc (.cells #[.int .i64 x,.int .i64 y] 3)) hints
 clear hints
 have hz0:(((w.alloc (.cells #[.int .i64 N,.slice a bs.length cap] 61)).alloc (.cells #[.int .i64 0,.int .i64 0,.bool false,.bool false] 115)).alloc (.cells #[.int .i64 x,.int .i64 y] 3)).heap[w.heap.size+1]?=some (.cells #[.int .i64 0,.int .i64 0,.bool false,.bool false] 115 (0,0)) :=
  (Below.heap_alloc _ _ _ (by simp)).trans (af _ _ _ (by simp))
 have HZ0:=aa hz0;clear hz0
 by_cases he:bc N bs [x,y]=0
 ·obtain⟨R,x',y',t,rfl,rfl,rfl,hx,hy,ht,HO⟩:=zI he
  have hd:dh R bs x' y'=(BU (aF R bs x' y') (aF R bs y' x'),0):=by unfold dh;rw[if_pos he];simp
  have hdn:aF R bs x' y'=(dW R t bs x').getD y' 0∧aF R bs y' x'=(dW R t bs y').getD x' 0:=by unfold aF;rw[eB ht];exact⟨rfl,rfl⟩
  have HD:=aa hd;have HDN:=aa hdn;have HE:=aa he;have HT:=aa ht;clear hd hdn he ht;obtain⟨v1,hv1⟩:=ag ((dW R t bs x').getD y' 0);obtain⟨v2,hv2⟩:=ag ((dW R t bs y').getD x' 0);have HV1:=aa hv1;have HV2:=aa hv2;clear hv1 hv2;have HA:=aa hask;clear hask;go_enter func82,ntmps82;go_wp2_with fail;refine HA.out.mono ?_;rintro e w1 ⟨hp,hb1⟩;unfold cB at hp;rw[if_pos HE.out] at hp;obtain⟨bn,t',ht',rfl,hbn,hcell⟩:=hp
  have htt:t'=t:=by have:=HT.out;rw[ht'] at this;exact Option.some.inj this
  subst htt;have B1:=bB hB0 hb1;have hsp:=zQ w1 bn R a cap bs t' x' y' HO hx hy (H.out.below B1 (Nat.le_refl _)) hcell;rw[HV1.out,HV2.out] at hsp;have hz1:=ac hb1 (by simp) HZ0.out;have HSP:=aa hsp;have HB1:=aa B1;have HZ1:=aa hz1;clear hsp hcell ht' hb1 B1 hbn hz1;go_wp2_with fail;refine HSP.out.mono ?_;rintro e w2 ⟨rfl,hb2⟩;unfold np;have hz2:=ac hb2 (lt_of_block HZ1.out) HZ1.out
  have f0:∀i,w2.frozen? ⟨w.heap.size+1,i,none⟩=false:=fun i=>frozen_of_row _ _ _ _ _ hz2
  have e0:w2.cell? ⟨w.heap.size+1,0,none⟩=some (.int .i64 0):=bu hz2 rfl;have e1:w2.cell? ⟨w.heap.size+1,1,none⟩=some (.int .i64 0):=bu hz2 rfl;have e2:w2.cell? ⟨w.heap.size+1,2,none⟩=some (.bool false):=bu hz2 rfl;have e3:w2.cell? ⟨w.heap.size+1,3,none⟩=some (.bool false):=bu hz2 rfl;have HB2:=bU HB1 hb2;clear hz2 hb2;go_wp2_with fail;refine bodyPost_ret (v:=.tuple #[.agg (np v1 v2),.int .i64 0]) (by simp[results,results82,go_sem,np,e0,e1,e2,e3]) rfl ⟨?_,?_⟩
  ·rw[HD.out,HDN.out.1,HDN.out.2,HV1.out,HV2.out];rfl
  ·exact(((HB2.out.setCell (by simp) _).setCell (by simp) _).setCell (by simp) _).setCell (by simp) _
 ·have hd:dh N bs x y=(sp0,bc N bs [x,y]):=by unfold dh;rw[if_neg he]
  have HD:=aa hd;have HE:=aa he;obtain⟨c,hc⟩:=ag (bc N bs [x,y])
  have hc1:(c==0)=false:=by rw[←hc];simpa using he
  have hc2:(c != 0)=true:=by rw[←hc];simpa using he
  have HC:=aa hc;have HA:=aa hask;clear hd he hc hask;go_enter func82,ntmps82;go_wp2_with fail;refine HA.out.mono ?_;rintro e w1 ⟨hp,hb1⟩;unfold cB at hp;rw[if_neg HE.out,HC.out] at hp;subst hp;have hz2:=ac hb1 (by simp) HZ0.out
  have f0:∀i,w1.frozen? ⟨w.heap.size+1,i,none⟩=false:=fun i=>frozen_of_row _ _ _ _ _ hz2
  have e0:w1.cell? ⟨w.heap.size+1,0,none⟩=some (.int .i64 0):=bu hz2 rfl;have e1:w1.cell? ⟨w.heap.size+1,1,none⟩=some (.int .i64 0):=bu hz2 rfl;have e2:w1.cell? ⟨w.heap.size+1,2,none⟩=some (.bool false):=bu hz2 rfl;have e3:w1.cell? ⟨w.heap.size+1,3,none⟩=some (.bool false):=bu hz2 rfl;have HB1:=aa (bB hB0 hb1);clear hz2 hb1;go_wp2_with fail;refine bodyPost_ret (v:=.tuple #[.agg sp0.arr,.int .i64 c]) (by simp[results,results82,go_sem,sp0,Sp.arr,e0,e1,e2,e3]) rfl ⟨?_,?_⟩
  ·rw[HD.out,HC.out]
  ·exact(((HB1.out.setCell (by simp) _).setCell (by simp) _).setCell (by simp) _).setCell (by simp) _
theorem ov (N:Int) (bs:List Bd) (x y:Int):∃l h b c e,dh N bs x y=(⟨l,h,b,c⟩,e):=⟨_,_,_,_,_,rfl⟩
theorem wR (w:World) (N:Int) (a:Option Addr) (cap:Nat) (bs:List Bd) (y:Int) (hN:bK N) (hl:bs.length≤9223372036854775807) (h:BoundsAt w a bs) :
 Calls prog 140 #[.agg #[.int .i64 N,.slice a bs.length cap],.int .i64 y] w fun e w'=>e=.returned (.tuple #[.agg (dh N bs 0 y).1.arr,.int .i64 (dh N bs 0 y).2])∧Below w.heap.size w w':=by
 have hB0:Below w.heap.size w ((w.alloc (.cells #[.int .i64 N,.slice a bs.length cap] 61)).alloc (.cells #[.int .i64 0,.int .i64 0,.bool false,.bool false] 115)):=((aD).alloc (by simp) _);have hbt:=mt ((w.alloc (.cells #[.int .i64 N,.slice a bs.length cap] 61)).alloc (.cells #[.int .i64 0,.int .i64 0,.bool false,.bool false] 115)) N a cap bs 0 y hN hl ((h.alloc _).alloc _);have hz0:((w.alloc (.cells #[.int .i64 N,.slice a bs.length cap] 61)).alloc (.cells #[.int .i64 0,.int .i64 0,.bool false,.bool false] 115)).heap[w.heap.size+1]?=some (.cells #[.int .i64 0,.int .i64 0,.bool false,.bool false] 115 (0,0)):=af _ _ _ (by simp);obtain⟨s1,s2,s3,s4,e,hs⟩:=ov N bs 0 y;have HS:=aa hs;rw[hs] at hbt;have HBT:=aa hbt;have HZ:=aa hz0;clear hs hbt hz0 h hN;go_enter func140,ntmps140;go_wp2_with fail;refine HBT.out.mono ?_;rintro e w2 ⟨rfl,hb2⟩;unfold Sp.arr;have hz2:=ac hb2 (by simp) HZ.out
 have f0:∀i,w2.frozen? ⟨w.heap.size+1,i,none⟩=false:=fun i=>frozen_of_row _ _ _ _ _ hz2
 have e0:w2.cell? ⟨w.heap.size+1,0,none⟩=some (.int .i64 0):=bu hz2 rfl;have e1:w2.cell? ⟨w.heap.size+1,1,none⟩=some (.int .i64 0):=bu hz2 rfl;have e2:w2.cell? ⟨w.heap.size+1,2,none⟩=some (.bool false):=bu hz2 rfl;have e3:w2.cell? ⟨w.heap.size+1,3,none⟩=some (.bool false):=bu hz2 rfl;have HB2:=aa (bB hB0 hb2);clear hz2 hb2;go_wp2_with fail;refine bodyPost_ret (v:=.tuple #[.agg #[.int .i64 s1,.int .i64 s2,.bool s3,.bool s4],.int .i64 e]) (by simp[results,results140,go_sem,e0,e1,e2,e3]) rfl ⟨?_,?_⟩
 ·rw[HS.out];rfl
 ·exact(((HB2.out.setCell (by simp) _).setCell (by simp) _).setCell (by simp) _).setCell (by simp) _
theorem jh {W:World} {base:Nat} {e:TypeId} {size:Nat} {v:Value} {n:Nat} {xs:List Value} (h:W.ownsRow base e size v n xs) {g:Nat} (hg:v.ownBlock=some g):g<W.heap.size∧base≤g∧∃c f,W.heap[g]?=some (.cells c e f):=by
 rcases h.2 with ⟨e1,_⟩|⟨g1,cp',cu,e1,hb,hh,_⟩
 ·rw[e1] at hg;simp[Value.ownBlock] at hg
 ·rw[e1] at hg
  simp only[Value.ownBlock,Option.some.injEq] at hg;subst hg;exact⟨lt_of_block hh,hb,_,_,hh⟩
theorem mK {W:World} {base:Nat} {v:Value} {l:List Int} (h:W.ownsRow base 3 1 v l.length (ay l)):∃o c,v=.slice o l.length c∧IntsAt W o l:=by
 obtain⟨o,c,h1,h2,_⟩:=fU h;exact⟨o,c,h1,h2⟩
theorem yY (w:World) (l:List Int):IntsAt (w.alloc (.cells (ay l).toArray 3)) (some ⟨w.heap.size,0,none⟩) l:=by
 refine .inr ⟨w.heap.size,0,rfl,by simp,fun i hi=>?_⟩;rw[cell_of_row _ _ _ _ _ _ (heap_alloc_new w _),Nat.zero_add];simp[ay,hi]
def RecsAt {α:Type} (k:Nat) (f:α→List Value) (w:World) (a:Option Addr) (xs:List α):Prop :=
 xs=[]∨∃b off,a=some ⟨b,off,none⟩∧b<w.heap.size∧∀i (h:i<xs.length) j,j<k→w.cell? ⟨b,off+i*k+j,none⟩=(f xs[i])[j]?
theorem RecsAt.below {α:Type} {k:Nat} {f:α→List Value} {B:Nat} {w w':World} {a:Option Addr} {xs:List α} (h:RecsAt k f w a xs) (hb:Below B w w') (hB:w.heap.size≤B):RecsAt k f w' a xs:=by
 rcases h with h|⟨b,off,e,hl,hc⟩
 ·exact .inl h
 ·exact .inr ⟨b,off,e,Nat.lt_of_lt_of_le hl hb.size,fun i hi j hj=>(hb.cell (by exact Nat.lt_of_lt_of_le hl hB)).trans (hc i hi j hj)⟩
theorem RecsAt.alloc {α:Type} {k:Nat} {f:α→List Value} {w:World} {a:Option Addr} {xs:List α} (h:RecsAt k f w a xs) (o:Obj):RecsAt k f (w.alloc o) a xs:=h.below ((Below.refl w.heap.size w).alloc (Nat.le_refl _) o) (Nat.le_refl _)
theorem RecsAt.at {α:Type} {k:Nat} {f:α→List Value} {w:World} {a:Option Addr} {xs:List α} (h:RecsAt k f w a xs) {i:Nat} (hi:i<xs.length):∃b off,a=some ⟨b,off,none⟩∧b<w.heap.size∧∀j,j<k→w.cell? ⟨b,off+i*k+j,none⟩=(f xs[i])[j]?:=by
 rcases h with h|⟨b,off,e,hl,hc⟩
 ·subst h;simp at hi
 ·exact⟨b,off,e,hl,hc i hi⟩
def Sta.cells (s:Sta):List Value:=[.string s.name,.int .i64 s.x]
def Par.cells (p:Par):List Value:=[.string p.name,.int .i64 p.south,.int .i64 p.wst,.int .i64 p.est]
def Vrn.cells (v:Vrn):List Value:=[.int .i64 v.year,.int .i64 v.east]
def cO (s:ByteArray):List Value:=[.string s]
def Sta.val (s:Sta):Value:=.agg #[.string s.name,.int .i64 s.x]
def Par.val (p:Par):Value:=.agg #[.string p.name,.int .i64 p.south,.int .i64 p.wst,.int .i64 p.est]
abbrev Be:=RecsAt 2 Sta.cells
abbrev vN:=RecsAt 4 Par.cells
abbrev VrnsAt:=RecsAt 2 Vrn.cells
abbrev StrsAt:=RecsAt 1 cO
theorem gF (n a b:Int) (w:World):Calls prog 137 #[.int .i64 n,.int .i64 a,.int .i64 b] w fun e w'=>e=.returned (.bool (bm n a b))∧w=w':=by
 unfold bm;go_enter func137,ntmps137;go_wp2
 all_goals go_ret
 all_goals refine⟨?_,rfl⟩
 all_goals simp[*]
 omega
theorem eY (n a b:Int) (w:World):Calls prog 255 #[.int .i64 n,.int .i64 a,.int .i64 b] w fun e w'=>e=.returned (.bool (bm n a b))∧w=w':=by
 unfold bm;go_enter func255,ntmps255;go_wp2
 all_goals go_ret
 all_goals refine⟨?_,rfl⟩
 all_goals simp[*]
 omega
theorem gN {n a b:Int} {r:Bool} (h:bm n a b=r) (w:World):Calls prog 137 #[.int .i64 n,.int .i64 a,.int .i64 b] w fun e w'=>e=.returned (.bool r)∧w=w':=h▸gF n a b w
theorem zK (s:ByteArray) (k:Nat) (h:k<s.size):s.data.toList.getD k 0=s[k]:=by
 rw[List.getD_eq_getElem?_getD,List.getElem?_eq_getElem (by simpa using h)];rfl
theorem ua (s:ByteArray) (k:Nat) (h:k<s.size):s.data.toList.take (k+1)=s.data.toList.take k++[s[k]]:=by
 rw[List.take_succ_eq_append_getElem (by simpa using h)];rfl
theorem dM (c:UInt8):dG c=true↔(97≤c.toNat∧c.toNat≤122)∨(48≤c.toNat∧c.toNat≤57)∨c.toNat=45:=by
 unfold dG iU;simp[or_assoc]
theorem pG (c:UInt8):iU c=true↔97≤c.toNat∧c.toNat≤122:=by
 unfold iU;simp
theorem kL {α:Type} {p:α→Bool} {l:List α} {k:Nat} {x:α} (hk:k<l.length) (hx:l[k]=x) (h:p x=false):l.all p=false:=by
 rw[←Bool.not_eq_true,List.all_eq_true];intro hh;have:=hh l[k] (List.getElem_mem hk);rw[hx,h] at this;cases this
theorem uJ (s:ByteArray) (w:World) (hs:s.size≤9223372036854775807) :
 Calls prog 209 #[.string s] w fun e w'=>e=.returned (.bool (bI s))∧w=w':=by
 obtain⟨P,hP⟩:=ag (bI s);rw[hP]
 by_cases h1:bm s.size 1 24=true
 ·have hsz:1≤s.size∧s.size≤24:=by unfold bm at h1;simp at h1;omega
  have hin:=fun W=>gN (n:=s.size) (a:=1) (b:=24) h1 W
  have h0:=zK s 0 (by omega);have HP:Hid ((iU s[0]&&s.data.toList.all dG)=P):=aa (by rw[←hP];unfold bI;rw[h0];simp[hsz]);have HIN:=aa hin;obtain⟨hz1,hz2⟩:=hsz;clear h1 hin hP h0
  by_cases hlow:iU s[0]=true
  ·have hb:97≤s[0].toNat∧s[0].toNat≤122:=by unfold iU at hlow;simpa using hlow
   have d1:decide ((s[0].toNat:Int)<97)=false:=by simp;omega
   have d2:decide ((s[0].toNat:Int)>122)=false:=by simp;omega
   have HL:=aa hlow;clear hlow hb;go_enter func209,ntmps209;go_wp2_with fail;refine(HIN.out _).mono ?_;rintro e w1 ⟨rfl,rfl⟩;go_wp2_with fail
   go_loop [21] (fun i=>∃k:Nat,k≤s.size∧i=.int .i64 k∧Hid ((s.data.toList.take k).all dG=true)) (fun i=>s.size-(intOf i).toNat)
   case atStart=>exact⟨0,Nat.zero_le _,rfl,aa rfl⟩
   case round =>
    obtain⟨k,hk,rfl,HA⟩:=hrel
    by_cases hlt:k<s.size
    ·have HS:=aa (ua s k hlt)
     clear d1 d2
     by_cases g:s[k].toNat=45
     ·have gb:((s[k].toNat:Int) != 45)=false:=by simp;omega
      go_wp2
      all_goals first
       | (go_ret
          have hn:dG s[k]=false:=by rw[←Bool.not_eq_true,dM];omega
          obtain rfl:false=P:=by rw[←HP.out,kL (l:=s.data.toList) (k:=k) (by simpa using hlt) rfl hn,Bool.and_false]
          exact⟨rfl,rfl⟩)
       | (have hn:dG s[k]=true:=by rw[dM];omega
          go_round
          case rel=>exact⟨k+1,by omega,by go_num,aa (by rw[HS.out,List.all_append,HA.out];simp[hn])⟩
          case measure=>simp[intOf];omega)
     ·have gb:((s[k].toNat:Int) != 45)=true:=by simp;omega
      go_wp2
      all_goals first
       | (go_ret
          have hn:dG s[k]=false:=by rw[←Bool.not_eq_true,dM];omega
          obtain rfl:false=P:=by rw[←HP.out,kL (l:=s.data.toList) (k:=k) (by simpa using hlt) rfl hn,Bool.and_false]
          exact⟨rfl,rfl⟩)
       | (have hn:dG s[k]=true:=by rw[dM];omega
          go_round
          case rel=>exact⟨k+1,by omega,by go_num,aa (by rw[HS.out,List.all_append,HA.out];simp[hn])⟩
          case measure=>simp[intOf];omega)
    ·have hall:s.data.toList.all dG=true:=by have:=HA.out;rwa [List.take_of_length_le (by simp;omega)] at this
     obtain rfl:true=P:=by rw[←HP.out,hall,HL.out];rfl
     clear hall;go_wp2_with fail;go_ret;exact⟨rfl,rfl⟩
  ·obtain rfl:false=P:=by rw[←HP.out];simp[hlow]
   have hb:¬(97≤s[0].toNat∧s[0].toNat≤122):=by rw[←pG];exact hlow
   clear hlow HP
   by_cases g:s[0].toNat<97
   ·have d1:decide ((s[0].toNat:Int)<97)=true:=by simp;omega
    clear hb;go_enter func209,ntmps209;go_wp2_with fail;refine(HIN.out _).mono ?_;rintro e w1 ⟨rfl,rfl⟩;go_wp2_with fail;go_ret;exact⟨rfl,rfl⟩
   ·have d1:decide ((s[0].toNat:Int)<97)=false:=by simp;omega
    have d2:decide ((s[0].toNat:Int)>122)=true:=by simp;omega
    clear hb;go_enter func209,ntmps209;go_wp2_with fail;refine(HIN.out _).mono ?_;rintro e w1 ⟨rfl,rfl⟩;go_wp2_with fail;go_ret;exact⟨rfl,rfl⟩
 ·have h1':bm s.size 1 24=false:=by simpa using h1
  have HIN:=aa (fun W=>gN (n:=s.size) (a:=1) (b:=24) h1' W)
  obtain rfl:false=P:=by
   rw[←hP];unfold bI;unfold bm at h1
   simp at h1
   by_cases g:1≤s.size
   ·simp[show ¬s.size≤24 by omega]
   ·simp[show ¬1≤s.size by omega]
  clear h1 h1' hP;go_enter func209,ntmps209;go_wp2_with fail;refine(HIN.out _).mono ?_;rintro e w1 ⟨rfl,rfl⟩;go_wp2_with fail;go_ret;exact⟨rfl,rfl⟩
theorem StrsAt.cell {w:World} {a:Option Addr} {l:List ByteArray} (h:StrsAt w a l) {i:Nat} (hi:i<l.length):∃b off,a=some ⟨b,off,none⟩∧b<w.heap.size∧w.cell? ⟨b,off+i,none⟩=some (.string l[i]):=by
 obtain⟨b,off,e,hb,hc⟩:=RecsAt.at h hi;have:=hc 0 (by omega);rw[Nat.mul_one,Nat.add_zero] at this;exact⟨b,off,e,hb,this⟩
theorem StrsAt.all {w:World} {b off:Nat} {l:List ByteArray} (h:StrsAt w (some ⟨b,off,none⟩) l) (j:Nat) (hj:j<l.length):w.cell? ⟨b,off+j,none⟩=some (.string (l.getD j ByteArray.empty)):=by
 obtain⟨b',off',e,_,hc⟩:=StrsAt.cell h hj;cases e
 rw[hc,List.getD_eq_getElem?_getD,List.getElem?_eq_getElem hj];rfl
theorem pp (l:List ByteArray) (x:ByteArray):Go.Lib.containsS l x=l.any (fun y=>decide (y=x)):=by
 rw[Bool.eq_iff_iff,Go.Lib.containsS_iff,List.any_eq_true]
 constructor
 ·intro h;exact⟨x,h,by simp⟩
 ·rintro⟨y,hy,e⟩;have:y=x:=by simpa using e
  rw[←this];exact hy
theorem rA (l:List ByteArray) (k:Nat):cG l (k+1)=(cG l k||(l.take k).any fun y=>decide (y=l.getD k default)):=by
 unfold cG;rw[List.range_succ,List.any_append];simp
theorem qu {l:List ByteArray} {k n:Nat} (h:k≤n) (hk:cG l k=true):cG l n=true:=by
 unfold cG at *
 rw[List.any_eq_true] at *
 obtain⟨x,hx,e⟩:=hk;exact⟨x,List.mem_range.2 (by have:=List.mem_range.1 hx;omega),e⟩
theorem lH (w:World) (a:Option Addr) (cap:Nat) (l:List ByteArray) (hl:l.length≤cap) (hcap:cap≤9223372036854775807) (h:StrsAt w a l) :
 Calls prog 210 #[.slice a l.length cap] w fun e w'=>e=.returned (.bool (cG l l.length))∧w=w':=by
 have H:=aa h;clear h;go_enter func210,ntmps210;go_wp2_with fail
 go_loop [7] (fun i=>∃k:Nat,k≤l.length∧i=.int .i64 k∧Hid (cG l k=false)) (fun i=>l.length-(intOf i).toNat)
 case atStart=>exact⟨0,Nat.zero_le _,rfl,aa rfl⟩
 case round =>
  obtain⟨k,hk,rfl,HT⟩:=hrel
  by_cases hlt:k<l.length
  ·obtain⟨b,off,rfl,hbl,hc⟩:=StrsAt.cell H.out hlt
   have HCon:=aa (fun(W:World) (e:W=w)=>Tryz.slices_Contains_string b off k cap l l[k] W (by omega) (by omega) (by subst e;exact fun j hj=>StrsAt.all H.out j hj));have HS:=aa (rA l k)
   have hg:l.getD k default=l[k]:=by simp[hlt]
   rw[hg] at HS;rw[pp] at HCon
   have hkc:k≤cap:=by omega
   have hkd:decide (k≤cap)=true:=by simpa using hkc
   obtain⟨x,hx⟩:=ag (l[k]);rw[hx] at hc HS HCon;obtain⟨q,hq⟩:=ag ((l.take k).any (fun y=>decide (y=x)));rw[hq] at HS HCon;clear hx hq hg
   cases q with
   | true =>
     have HF:=aa (qu (l:=l) (k:=k+1) (n:=l.length) (by omega) (by rw[HS.out];simp));go_wp2_with fail;refine(HCon.out _ rfl).mono ?_;rintro e w' ⟨rfl,rfl⟩;go_wp2_with fail;go_ret;exact⟨by rw[HF.out];rfl,rfl⟩
   | false =>
     go_wp2_with fail;refine(HCon.out _ rfl).mono ?_;rintro e w' ⟨rfl,rfl⟩;go_wp2_with fail;go_round
     case rel=>exact⟨k+1,by omega,by go_num,aa (by rw[HS.out,HT.out];rfl)⟩
     case measure=>simp[intOf];omega
  ·obtain rfl:k=l.length:=by omega
   go_wp2_with fail;go_ret;exact⟨by rw[HT.out];rfl,rfl⟩
theorem uH {l:List Vrn} {k:Nat} (hk:k<l.length) (y:Int):kS y (l.drop k)=(bm l[k].year (y+1) 3000&&bm l[k].east (-60) 60&&kS l[k].year (l.drop (k+1))):=by
 rw[List.drop_eq_getElem_cons hk];rfl
theorem gI (w:World) (a:Option Addr) (cap:Nat) (l:List Vrn) (hl:l.length≤9223372036854775807) (h:VrnsAt w a l) :
 Calls prog 205 #[.slice a l.length cap] w fun e w'=>e=.returned (.int .i64 (bz l))∧Below w.heap.size w w':=by
 obtain⟨P,hP⟩:=ag (bz l);rw[hP];unfold bz at hP
 by_cases h40:40<l.length
 ·obtain rfl:(2:Int)=P:=by rw[if_pos h40] at hP;exact hP
  have hd:decide ((l.length:Int)>40)=true:=by simp;omega
  clear hP h;go_enter func205,ntmps205;go_wp2_with fail;go_ret;exact⟨rfl,Below.refl _ _⟩
 ·rw[if_neg h40] at hP
  have hd:decide ((l.length:Int)>40)=false:=by simp;omega
  have HP:=aa hP;have H:=aa h;clear hP h;go_enter func205,ntmps205;go_wp2_with fail
  go_loopw [3,11] (fun y i wr=>∃(k:Nat) (yr:Int),k≤l.length∧i=.int .i64 k∧y=.int .i64 yr∧0≤yr∧yr≤3000∧Hid (kS 0 l=kS yr (l.drop k))∧Below w.heap.size w wr) (fun _ i _=>l.length-(intOf i).toNat)
  case atStart=>exact⟨0,0,Nat.zero_le _,rfl,rfl,by omega,by omega,aa rfl,Below.refl _ _⟩
  case round =>
   obtain⟨k,yr,hk,rfl,rfl,hy0,hy1,HV,hb⟩:=hrel
   by_cases hlt:k<l.length
   ·obtain⟨b,off,rfl,hbl,hc⟩:=RecsAt.at H.out hlt
    have c0:=hc 0 (by omega);have c1:=hc 1 (by omega);rw[←hb.cell hbl,Nat.add_zero] at c0;rw[←hb.cell hbl] at c1;have HS:=aa (uH hlt yr);obtain⟨x,hx⟩:=ag (l[k]);rw[hx] at c0 c1 HS;obtain⟨xy,xe⟩:=x;simp only[Vrn.cells,List.getElem?_cons_zero,List.getElem?_cons_succ] at c0 c1;simp only at HS;clear hx hc
    have hi1:=fun W=>eY xy (yr+1) 3000 W
    have hi2:=fun W=>eY xe (-60) 60 W
    have HYB:Hid (bm xy (yr+1) 3000=true→yr<xy∧xy≤3000):=aa (by unfold bm;simp;omega);obtain⟨q1,hq1⟩:=ag (bm xy (yr+1) 3000);obtain⟨q2,hq2⟩:=ag (bm xe (-60) 60);rw[hq1] at hi1 HS HYB;rw[hq2] at hi2 HS;have HI1:=aa hi1;have HI2:=aa hi2;have B:=aa hb;have l1:=B.out.size;clear hi1 hi2 hq1 hq2 hb
    cases q1 with
    | false =>
      obtain rfl:(1:Int)=P:=by rw[←HP.out,HV.out,HS.out];rfl
      go_wp2_with fail;refine(HI1.out _).mono ?_;rintro e w1 ⟨rfl,rfl⟩;go_wp2_with fail;go_ret;exact⟨rfl,B.out.alloc B.out.size _⟩
    | true =>
      have hyb:=HYB.out rfl
      cases q2 with
      | false =>
        obtain rfl:(1:Int)=P:=by rw[←HP.out,HV.out,HS.out];rfl
        go_wp2_with fail;refine(HI1.out _).mono ?_;rintro e w1 ⟨rfl,rfl⟩;go_wp2_with fail;refine(HI2.out _).mono ?_;rintro e w1 ⟨rfl,rfl⟩;go_wp2_with fail;go_ret;exact⟨rfl,B.out.alloc B.out.size _⟩
      | true =>
        go_wp2_with fail;refine(HI1.out _).mono ?_;rintro e w1 ⟨rfl,rfl⟩;go_wp2_with fail;refine(HI2.out _).mono ?_;rintro e w1 ⟨rfl,rfl⟩;go_wp2_with fail;go_roundw
        case rel=>exact⟨k+1,xy,by omega,by go_num,rfl,by omega,hyb.2,aa (by rw[HV.out,HS.out];rfl),B.out.alloc B.out.size _⟩
        case measure=>simp[intOf];omega
   ·obtain rfl:k=l.length:=by omega
    obtain rfl:(0:Int)=P:=by rw[←HP.out,HV.out,List.drop_length];rfl
    go_wp2_with fail;go_ret;exact⟨rfl,hb⟩
theorem mL {α:Type} {k:Nat} {f:α→List Value} (hf:∀x,(f x).length=k):∀(l:List α) (i:Nat) (h:i<l.length) (j:Nat),j<k→(l.flatMap f)[i*k+j]?=(f l[i])[j]?
 | [],i,h,_,_=>by simp at h
 | x::l,0,h,j,hj=>by
   rw[List.flatMap_cons,Nat.zero_mul,Nat.zero_add,List.getElem?_append_left (by rw[hf];exact hj)];rfl
 | x::l,i+1,h,j,hj=>by
   have:=mL hf l i (by simpa using h) j hj;rw[List.flatMap_cons,List.getElem?_append_right (by rw[hf,Nat.succ_mul];omega),hf,show(i+1)*k+j-k=i*k+j from by rw[Nat.succ_mul];omega,this]
   rfl
theorem ij {w:World} {base:Nat} {tS tE:TypeId} {k bytes:Nat} {z:Value} (hu:Tryz.prog.underlying tS=some (.slice tE)) (hinfo:(Tryz.prog.info? tE).map (fun i=>(i.zero,i.size,i.bytes))=some (some z,k,bytes)) (hz:z.cells.size=k) (hk:0<k) (hby:bytes≤1000)
 {v:Value} {n:Nat} {cs:List Value} (hown:w.ownsRow base tE k v n cs) {b:Nat} {news:List Value} (hn:news.length=k) (h:w.heap[b]?=some (.cells news.toArray tE (0,0))) (h1:∀u∈news,u.oneCell'=true) (hx:n≤100000) (hb:base≤w.heap.size) (ty:TypeId) :
 ∃v' w',(Builtin.append_ #[tS,tS] ty #[v,.slice (some ⟨b,0,none⟩) 1 1]).run prog w=.ok v' w'∧w'.ownsRow base tE k v' (n+1) (cs++news)∧Below base w w'∧(∀q,q<w.heap.size→v.ownBlock≠some q→w'.heap[q]?=w.heap[q]?):=by
 obtain⟨i0,hi,hz0,hz1,hz2⟩:=info_parts hinfo
 have hnews:∀j u,news[j]?=some u→w.cell? ((⟨b,0,none⟩:Addr).add j)=some u:=by
  intro j u hj;rw[show((⟨b,0,none⟩:Addr).add j)=⟨b,0+j,none⟩ from by unfold Addr.add;split<;>simp_all];rw[cell_of_row _ _ _ _ _ _ h,Nat.zero_add];simpa using hj
 have hm:(n+1)*bytes≤100001*1000:=Nat.mul_le_mul (by omega) hby;obtain⟨v',w',hrun,h2,h3,_,h5⟩:=run_append_own_at (P:=prog) w base tS ty tE i0 _ k bytes hu hi hz0 hz1 hz2 hz hk v _ _ hown ⟨b,0,none⟩ 1 1 news (by rw[hn,Nat.one_mul]) hnews h1 (by unfold maxLen;omega) (by omega) hb;refine⟨v',w',hrun,h2,(Below.refl base w).grown h3 hb (fun q e=>?_),fun q hq hne=>h3.block q hq (fun e=>hne e.symm)⟩
 rcases hown.2 with ⟨e1,_⟩|⟨g1,cp',cu,e1,hge,hh,_⟩
 ·rw[e1] at e;simp[Value.ownBlock] at e
 ·rw[e1] at e
  simp only[Value.ownBlock,Option.some.injEq] at e;omega
theorem iO {α:Type} {k:Nat} {f:α→List Value} (hf:∀x,(f x).length=k) {W:World} {base:Nat} {tE:TypeId} {v:Value} {l:List α} (h:W.ownsRow base tE k v l.length (l.flatMap f)) :
 ∃o cap,v=.slice o l.length cap∧RecsAt k f W o l∧l.length≤cap∧cap≤9223372036854775807∧∀q,o=some q→base≤q.block:=by
 rcases h.2 with ⟨e,h0⟩|⟨gb,cp,cur,e,hge,hh,hn,hm,hsz,htk⟩
 ·exact⟨none,0,by rw[e,h0],.inl (List.length_eq_zero_iff.1 h0),by omega,by omega,fun q e=>by cases e⟩
 ·refine⟨_,_,e,.inr ⟨gb,0,rfl,lt_of_block hh,fun i hi j hj=>?_⟩,hn,by unfold maxLen at hm;omega,fun q e=>by cases e;exact hge⟩
  rw[cell_of_row _ _ _ _ _ _ hh,Nat.zero_add]
  have hlt:i*k+j<l.length*k:=by
   have:(i+1)*k≤l.length*k:=Nat.mul_le_mul (by omega) (Nat.le_refl _);rw[Nat.succ_mul] at this;omega
  have h2:(cur.toList.take (l.length*k))[i*k+j]?=(l.flatMap f)[i*k+j]?:=by rw[htk]
  rw[List.getElem?_take_of_lt hlt,mL hf l i hi j hj] at h2;rw[←Array.getElem?_toList,h2]
theorem RecsAt.set {α:Type} {k:Nat} {f:α→List Value} {w:World} {o:Option Addr} {l:List α} (h:RecsAt k f w o l) {p:Addr} (hp:∀q,o=some q→q.block≠p.block) (v:Value):RecsAt k f (w.setCell p v) o l:=by
 rcases h with h|⟨b,off,e,hl,hc⟩
 ·exact .inl h
 ·refine .inr ⟨b,off,e,by simpa using hl,fun i hi j hj=>?_⟩
  have hne:=hp _ e;rw[World.cell?_setCell_other _ _ _ _ (fun e2=>hne (by rw[e2]))];exact hc i hi j hj
theorem AW:(Tryz.prog.info? 9).map (fun i=>(i.zero,i.size,i.bytes))=some (some (.string ⟨#[]⟩),1,16):=by kernel_rfl
end Go.Proofs.YtkhemfnlflbniaaGreatDoor
